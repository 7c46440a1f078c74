/- An NFD counts as its units do, multiplied; no condition. -/
import Derived.Test.YtmnimbnojdndmaaGreatDoorR28
set_option maxRecDepth 100000
set_option maxHeartbeats 6400000
set_option linter.all false
namespace Go.Proofs.YtmnimbnojdndmaaGreatDoor
open Go.RowKit Go.Cd Go.ChangeShapes Go.WideShapes Go.Deep _root_.Go.Proofs.Tryz
def Du (a b c:Int):DataW Unit:=.agg [.lit (.int .u8 a),.lit (.int .u8 b),.lit (.int .i32 c)]
def Yc:DataW Unit:=.agg [Du 0 127 0,Du 192 31 128,Du 224 15 2048,Du 240 7 65536]
def AJ {w:World} {j i:Nat} {v:Array Value} {x:List (DataW Unit)} {p:List MemPlace} {a b c:Int} (t:∀i,w.cell? ⟨0,i,none⟩=v[i]?)
 (h:DataW.trod (λ_=>()) prog w 0 (λ_=>true) false j 226 v.toList=some (.agg x,p)) (E:i<4) (hd:x[i]? = some (Du a b c)) :
 w.cell? ⟨0,i*3,none⟩=some (.int .u8 a)/\w.cell? ⟨0,i*3+1,none⟩=some (.int .u8 b)/\w.cell? ⟨0,i*3+2,none⟩=some (.int .i32 c):=by
 obtain⟨r,d,q,o,e⟩:=Lib.array_elem underlying226 h i E;obtain rfl:d=Du a b c:=Option.some.inj (o.symm.trans hd);have y:prog.cellsOf 225=3:=by kernel_rfl
 rw[y] at e;obtain⟨C,K,I,n,f,z,h0,u,m⟩:=trod_struct3 underlying225 e;rw[y] at z;generalize s:(v.toList.drop (i*3)).take 3=l at *
 match l,z with
 | [c0,c1,c2],_=>
   have h0:DataW.trod (λ_=>()) prog w 0 (λ_=>true) false n 5 [c0]=some C:=h0;have u:DataW.trod (λ_=>()) prog w 0 (λ_=>true) false n 5 [c1]=some K:=u;have m:DataW.trod (λ_=>()) prog w 0 (λ_=>true) false n 21 [c2]=some I:=m;obtain⟨P,B,G,_⟩:=DataW.trod_int underlying5 h0;obtain⟨N,H,F,_⟩:=DataW.trod_int underlying5 u;obtain⟨O,L,J,_⟩:=DataW.trod_int underlying21 m;have f:=congrArg Prod.fst f;rw[G,F,J] at f;simp only[Du,DataW.agg.injEq,List.cons.injEq,DataW.lit.injEq,Lit.int.injEq,true_and,and_true] at f;obtain⟨rfl,rfl,rfl⟩:=f;cases B;cases H;cases L;have g:=λk:Nat=>congrArg (λl:List Value=>l[k]?) s;simp only[List.getElem?_take,List.getElem?_drop] at g;have A:=g 0;have D:=g 1;have M:=g 2;refine⟨?_,?_,?_⟩
   ·rw[t];simpa using A
   ·rw[t];simpa using D
   rw[t];simpa using M
theorem I8 {w:World} (hh:Lib.VarReads prog w "cedilla/utf.heads" Yc):dB w:=by
 obtain ⟨g,t,cs,fuel,p,hg,hty,hv,htr⟩:=hh;obtain rfl:g=0:=Option.some.inj (hg.symm.trans (by kernel_rfl));obtain rfl:t=226:=Option.some.inj (hty.symm.trans (by kernel_rfl));have hc:=fun i=>World.var?_cell hg hv i;have h0:=AJ (i:=0) hc htr (by decide) rfl;have h1:=AJ (i:=1) hc htr (by decide) rfl;have h2:=AJ (i:=2) hc htr (by decide) rfl;have h3:=AJ (i:=3) hc htr (by decide) rfl;exact ⟨h0.1,h0.2.1,h0.2.2,h1.1,h1.2.1,h1.2.2,h2.1,h2.2.1,h2.2.2,h3.1,h3.2.1,h3.2.2⟩
theorem I_ {w:World} (hh:Lib.VarReads prog w "cedilla/utf.heads" Yc) (hd:Lib.VarReads prog w "math/bits.deBruijn64tab" (Lib.tabData .u8 ab6)) (hp:Lib.VarReads prog w "internal/strconv.uint64pow10" (Lib.tabData .u64 Lib.pow10Tab)) (hs:w.ShapedOpen prog):nk w:=⟨MX hd hp hs,I8 hh⟩
end Go.Proofs.YtmnimbnojdndmaaGreatDoor
