/- One machine of an NFD counts as its units do, multiplied; no condition. -/
import Derived.Test.YtmnimbnojdndmaaGreatDoorR21
import Derived.Lib.Join
set_option maxRecDepth 100000
set_option maxHeartbeats 6400000
set_option linter.all false
namespace Go.Proofs.YtmnimbnojdndmaaGreatDoor
open Go.RowKit Go.Cd _root_.Go.Proofs.Tryz
def Tz (n:Nat) (b:n<18446744073709551616):bits .and .u64 (n:Int) 15=((n % 16:Nat):Int):=by
 have a:(BitVec.ofInt 64 15).toNat=2 ^ 4-1:=by decide
 have key:(BitVec.ofInt 64 n &&& BitVec.ofInt 64 15).toNat=((n:Int) % ((2 ^ 64:Nat):Int)).toNat % 2 ^ 4:=by
  rw[BitVec.toNat_and,BitVec.toNat_ofInt,a,Nat.and_two_pow_sub_one_eq_mod]
 show IntKind.u64.wrap ((BitVec.ofInt 64 n &&& BitVec.ofInt 64 15).toNat:Nat)=_;rw[key,IntKind.wrap_u64];omega
def aaD {w:World} (h:w.cell? ⟨9,15,none⟩=some (.int .u8 4)) :
 Calls prog 300 #[.int .u64 16] w λe w'=>e=.returned (.int .i64 4)/\w'=w:=by
 have:bits .and .u64 16 (IntKind.u64.wrap (-16))=16:=by decide
 have:IntKind.u64.wrap (16*285870213051353865) / 288230376151711744=15:=by decide
 go_enter func300,ntmps300;go_wp2;go_ret;exact⟨rfl,rfl⟩
def agN {w:World} (h:w.cell? ⟨9,15,none⟩=some (.int .u8 4)) :
 Calls prog 284 #[.int .u64 16] w λe w'=>e=.returned (.int .i64 4)/\w'=w:=by
 have T:=aa (aaD h);go_enter func284,ntmps284;go_wp2_with fail;refine T.out.mono ?_;rintro e a⟨rfl,rfl⟩;go_wp2;go_ret;exact⟨rfl,rfl⟩
def aaE {w:World}:Calls prog 283 #[.int .i64 16] w λe w'=>e=.returned (.bool true)/\w'=w:=by
 have:bits .and .i64 16 15=0:=by decide
 go_enter func283,ntmps283;go_wp2;go_ret;exact⟨rfl,rfl⟩
def abR:ByteArray:=⟨#[48,49,50,51,52,53,54,55,56,57,97,98,99,100,101,102,103,104,105,106,107,108,109,110,111,112,113,114,115,116,117,118,119,120,121,122]⟩
def aaF:∀d (h:d<16),(abR[d]'(by have:abR.size=36:=rfl;omega)).toNat=(IB d).toNat:=by decide
def aaG (cs:Array Value) (k n:Nat):Prop:=cs.size=65/\∀j (a:j<k),cs[65-k+j]? = some (.int .u8 ((sZ k n)[j]'(by rw[C_];exact a)).toNat)
def aaG.step {a:Array Value} {k n:Nat} (h:aaG a k n) (b:k<60):aaG (a.setIfInBounds (64-k) (.int .u8 (IB (n / 16 ^ k % 16)).toNat)) (k+1) n:=by
 refine⟨by simp[h.1],λj c=>?_⟩;have e:65-(k+1)=64-k:=by omega
 rw[e,Array.getElem?_setIfInBounds];rcases j with _|j
 ·simp[h.1,Gh];omega
 rw[if_neg (by omega)];have:=h.2 j (by omega);rw[show 64-k+(j+1)=65-k+j by omega,this];simp[Gh]
def aaH (l:List UInt8):str (l.map UInt8.toNat)=tx l:=by
 unfold str tx;rw[List.map_map];have:UInt8.ofNat ∘ UInt8.toNat=id:=by funext x;simp
 rw[this,List.map_id]
def Ed {w:World} (R:dL w) (n:Nat) (hn:n<1114112) :
 Calls prog 258 #[.slice none 0 0,.int .u64 n,.int .i64 16,.bool false,.bool false] w λe w'=>∃k v,e=.returned (.tuple #[v,.string (tx (sZ (k+1) n))])/\aaC k n/\Below w.heap.size w w':=by
 have TZ:=aa (λ(W:World) (E:Below w.heap.size w W)=>agN (R.mono E).dbr);have P2:=aa (λW=>aaE (w:=W));clear R;go_enter func258,ntmps258;go_wp2_with fail;obtain⟨Y,b⟩:=ae (w.alloc (.cells zeroCells383 383));have s:=aO b;have U:Is Y w.heap.size zeroCells383 383:=by rw[b];exact Is.new _ _ _
 have F:zeroCells383.size=65:=by kernel_rfl
 rw[<-b];clear b;generalize zeroCells383=cs0 at *;refine(P2.out Y).mono ?_;rintro e A⟨rfl,rfl⟩;go_wp2_with fail;refine(TZ.out _ s).mono ?_;rintro e w3⟨rfl,rfl⟩;go_wp2_with fail;go_loopw [1,13] (λP iv wr=>∃(k:Nat) (g:Array Value),k<=5/\P=.int .u64 (n / 16 ^ k:Nat)/\iv=.int .i64 (65-k:Nat)/\(k=0\/16 ^ k<=n)/\Is wr w.heap.size g 383/\aaG g k n/\Below w.heap.size w wr) (λP _ _=>(intOf P).toNat)
 case atStart=>exact⟨0,cs0,by omega,by simp,rfl,.inl rfl,U,⟨F,by simp⟩,s⟩
 case round=>
  clear U;obtain⟨k,g,ag,rfl,rfl,j,B,X,S⟩:=hrel;obtain⟨u,C⟩:=ae (n / 16 ^ k);obtain⟨m,H⟩:=ae (65-k);rw[<-C,<-H];have ab:u<=n:=by rw[C];exact Nat.div_le_self _ _
  have ah:IntKind.i64.wrap ((m:Int)-1)=((m-1:Nat):Int):=by rw[IntKind.wrap_i64];omega
  have I:=Tz u (by omega);have hd:u % 16<16:=Nat.mod_lt _ (by decide);have fz:=B.frozen (m-1);have l:=aa C;have y:=aa H;have af:m<=65/\60<=m:=by omega
  obtain⟨d,c⟩:=ae (u % 16);rw[<-c] at I hd;have i:=aaF d hd;have G:=aa c;clear C H c;obtain⟨x,T⟩:∃x,g[m-1]? = some x:=⟨g[m-1]'(by rw[X.1];omega),Array.getElem?_eq_getElem _⟩;have ex:=B.at (m-1) T;have D:(d:Int)<36:=by omega
  have ad:((⟨#[48,49,50,51,52,53,54,55,56,57,97,98,99,100,101,102,103,104,105,106,107,108,109,110,111,112,113,114,115,116,117,118,119,120,121,122]⟩:ByteArray)[d]'(by show d<36;omega)).toNat=(IB d).toNat:=i;have vH:=aa (X.step (by omega));clear T i;by_cases r:16<=u
  ·have zc:decide ((16:Int)<=(u:Int))=true:=by simp;omega
   have t:16 ^ (k+1)<=n:=by
    have:=l.out;rw[this,Nat.le_div_iff_mul_le (Nat.pos_of_ne_zero (by simp))] at r;rw[Nat.pow_succ,Nat.mul_comm];exact r
   have K:k+1<=5:=by
    rcases Nat.lt_or_ge k 5 with h|h
    ·exact h
    have:(16:Nat) ^ 6<=16 ^ (k+1):=Nat.pow_le_pow_right (by decide) (by omega);omega
   have HK:=aa t;clear t;go_wp2;have O:64-k=m-1:=by have:=y.out;omega
   have f:=vH.out;rw[O,<-l.out,<-G.out] at f;refine⟨⟨k+1,_,K,?_,?_,.inr HK.out,B.set (m-1) _,f,aj S (Nat.le_refl _)⟩,?_⟩
   ·rw[Nat.pow_succ,<-Nat.div_div_eq_div_mul,<-l.out];rfl
   ·have:=y.out;congr 2;omega
   show((u:Int) / 16).toNat<(u:Int).toNat;omega
  have zc:decide ((16:Int)<=(u:Int))=false:=by simp;omega
  have L:d=u:=by rw[G.out];omega
  have D:(u:Int)<36:=by omega
  subst L;obtain⟨A,a⟩:=ae (wr.setCell ⟨w.heap.size,m-1,none⟩ (.int .u8 (IB d).toNat));have f:=vH.out;have O:64-k=m-1:=by have:=y.out;omega
  rw[O,<-l.out,<-G.out] at f;have Z:Is A w.heap.size (g.setIfInBounds (m-1) (.int .u8 (IB d).toNat)) 383:=by rw[a];exact B.set (m-1) _
  have N:Below w.heap.size w A:=by rw[a];exact aj S (Nat.le_refl _)
  have o:65-(m-1)=k+1:=by have:=y.out;omega
  have z:((sZ (k+1) n).map UInt8.toNat).length=k+1:=by rw[List.length_map,C_]
  have Q:bG A (.slice (some ⟨w.heap.size,m-1,none⟩) (65-(m-1)) (65-(m-1))) (mR ((sZ (k+1) n).map UInt8.toNat)):=by
   refine⟨_,_,by rw[uy,z,o],by rw[uy,z];omega,.inr ⟨w.heap.size,m-1,_,_,_,rfl,Z.at_,λq p=>?_⟩⟩;rw[uy,z] at p;rw[show m-1=65-(k+1) by omega] at f⊢;rw[f.2 q p,yZ _ _ (by rw[z];exact p)];simp
  have V:=A7 Q (by intro q p;obtain⟨x,_,rfl⟩:=List.mem_map.1 p;exact x.toNat_lt);rw[aaH] at V;have J:prog.arrayLen 383=65:=by kernel_rfl
  have ac:∀W,(Instr.sliceAt 383 (.pointer (some ⟨w.heap.size,0,none⟩)) (some (.int .i64 ((m-1:Nat):Int))) none none).run prog W=.ok (.slice (some ⟨w.heap.size,m-1,none⟩) (65-(m-1)) (65-(m-1))) W:=λW=>by
   rw[run_sliceAt_array_l W 383 ⟨w.heap.size,0,none⟩ (by kernel_rfl) .i64 _ (by omega) (by rw[J];omega)]
   go_simp
   omega
  rw[a,o] at V;have M:=aa j;clear Q Z f j;go_wp2
  (try simp only[Exit.inBlock,Exit.then])
  go_ret2;rw[<-a];refine⟨k,⟨_,rfl⟩,⟨?_,M.out⟩,N⟩;have:=l.out;rw[Nat.pow_succ];exact Nat.lt_of_lt_of_le ((Nat.div_lt_iff_lt_mul (Nat.pos_of_ne_zero (by simp))).1 (this▸hd:n / 16 ^ k<16)) (by rw[Nat.mul_comm];exact Nat.le_refl _)
def IC {w:World} (a:dL w) (n:Nat) (f:n<1114112) :
 Calls prog 232 #[.int .i64 n,.int .i64 16] w λe w'=>∃k,e=.returned (.string (tx (sZ (k+1) n)))/\aaC k n/\Below w.heap.size w w':=by
 have F:=aa (Ed a n f);have:decide ((n:Int)<0)=false:=by simp
 have:IntKind.u64.wrap (n:Int)=n:=by rw[IntKind.wrap_u64];omega
 clear a;go_enter func232,ntmps232;go_wp2_with fail;refine F.out.mono ?_;rintro e g⟨k,v,rfl,b,c⟩;have d:=aa b;clear b F;go_wp2
 (try simp only[Exit.inBlock,Exit.then])
 go_ret;exact⟨k,rfl,d.out,c⟩
def Ee {w:World} (a:dL w) (n:Nat) (d:n<1114112) :
 Calls prog 197 #[.int .i64 n,.int .i64 16] w λe w'=>∃k,e=.returned (.string (tx (sZ (k+1) n)))/\aaC k n/\Below w.heap.size w w':=by
 have F:=aa (IC a n d);clear a;go_enter func197,ntmps197;go_wp2_with fail;refine F.out.mono ?_;rintro e f⟨k,rfl,c,b⟩;go_wp2;go_ret;exact⟨k,rfl,c,b⟩
def vw {w:World} (f:dL w) (n:Nat) (g:n<1114112) :
 Calls prog 158 #[.int .i32 n] w λe w'=>e=.returned (.string (tx (aV n)))/\Below w.heap.size w w':=by
 have F:=aa (Ee f n g);have:IntKind.i64.wrap (n:Int)=n:=by rw[IntKind.wrap_i64];omega
 clear f;go_enter func158,ntmps158;go_wp2_with fail;refine F.out.mono ?_;rintro e c⟨k,rfl,m,o⟩;obtain⟨d,s⟩:=W9 m g;have a:=aa (Tryz.strings_ToUpper_ascii (tx (sZ (k+1) n)) c (by rw[aX,C_];omega) (λj b h=>by rw[dM] at h;exact Pq _ _ j b h));rw[dM,aaB] at a;have a:Hid (Calls prog 196 #[.string (tx (sZ (k+1) n))] c λe w'=>e=.returned (.string (tx (jw (k+1) n)))/\Below c.heap.size c w'):=a;obtain⟨j,i⟩:=ae (4-(k+1));rw[<-i] at d;have l:Hid (∀W,Calls prog 198 #[.string ⟨#[48]⟩,.int .i64 j] W λe w'=>e=.returned (.string (tx (Lib.repeatL [48] j)))/\Below W.heap.size W w'):=aa (λW=>Tryz.strings_Repeat ⟨#[48]⟩ j W (by omega) (by show 1*_<=_;omega));have:(tx (jw (k+1) n)).size=k+1:=by rw[aX,qH]
 have:(tx (Lib.repeatL [48] j)).size<=4:=by rw[aX,Lib.repeatL_length];simp;omega
 have:max (4-((k:Int)+1)) 0=(j:Int):=by omega
 have:IntKind.i64.wrap (4-((k:Int)+1))=4-((k:Int)+1):=by rw[IntKind.wrap_i64];omega
 have p:=aa (show tx (Lib.repeatL [48] j)++tx (jw (k+1) n)=tx (aV n) by rw[dA,d]);have q:=aa o;generalize tx (jw (k+1) n)=s1 at *;generalize tx (Lib.repeatL [48] j)=s2 at *;clear d m F i;go_wp2_with fail;refine a.out.mono ?_;rintro e A⟨rfl,r⟩;clear a;go_wp2_with fail;refine(l.out _).mono ?_;rintro e w4⟨rfl,t⟩;clear l;go_wp2;go_ret;exact⟨by rw[p.out];rfl,af q.out (af r t)⟩
end Go.Proofs.YtmnimbnojdndmaaGreatDoor
namespace Go.Proofs.YtmnimbnojdndmaaGreatDoor
open Go.RowKit Go.Cd Go.Shelf
def pW (B b:Nat) (l:List UInt8) (w:World):Prop:=Lib.IsBuilderF 191 5 B b (Lib.byteCells l) w
def pW.below {B b:Nat} {l:List UInt8} {W d:World} (h:pW B b l W) (a:Below W.heap.size W d):pW B b l d:=by
 have key:∀p,Lib.BuilderAtF 191 5 B b p (Lib.byteCells l) W->Lib.BuilderAtF 191 5 B b p (Lib.byteCells l) d:=by
  rintro p⟨i,v,f,c,e⟩;exact⟨i,v,(a.block b (block_lt f)).trans f,c.kept (row:=none) ⟨a.os,a.tape,a.output,a.size,λk g _=>a.block k g⟩ (Classical.em _),e⟩
 exact h.imp (key _) (key _)
def jb {B b:Nat} {l:List UInt8} {w:World} (h:pW B b l w) (s:List UInt8) (g:l.length+s.length<=1000000) (f:B<=w.heap.size) :
 Calls Tryz.prog 110 #[.pointer (some ⟨b,0,none⟩),.string (tx s)] w λe w'=>e=.returned (.tuple #[.int .i64 s.length,.nilIface])/\pW B b (l++s) w'/\Below B w w'/\Lib.OthersKept 5 (some b) w w':=by
 have:=Any.Builder_WriteString_k (ρ:=Tryz.qB) { Tryz.Gz with } Tryz.iU B b (Lib.byteCells l) (tx s) w h (by rw[Lib.byteCells_length,aX];omega) f;refine Calls.mono this ?_;rintro e w'⟨rfl,d,a,c⟩;refine⟨by rw[aX],?_,a,c⟩;have e:Lib.byteCells (l++s)=Lib.byteCells l++Lib.strCells (tx s):=by rw[Lib.byteCells_append];rfl
 unfold pW;rw[e];exact .inr d
def Da {B b:Nat} {l:List UInt8} {w:World} (h:pW B b l w) (h0:l≠[]) :
 Calls Tryz.prog 113 #[.pointer (some ⟨b,0,none⟩)] w λe w'=>e=.returned (.string (tx l))/\Below B w w':=by
 have:=Any.Builder_String_k Tryz.YF Tryz.vP B b l w h h0;exact Calls.mono this λe w' ⟨a,_,c,_⟩=>⟨a,c⟩
end Go.Proofs.YtmnimbnojdndmaaGreatDoor
section
namespace Go.Cd
def xn (c:Nat) (nm e:List UInt8):List UInt8:=aV c++[59,60]++nm++[44,32]++e++[62,59,59,48,59,59,59,59,59,59,59,59,59,59,59,10]
end Go.Cd
namespace Go.Proofs.YtmnimbnojdndmaaGreatDoor
open Go.RowKit Go.Cd Go.Shelf
def zW {w:World} (l:dL w) (c:Nat) (q:c<1114112) (f g:Int) (nm e:List UInt8) (k:nm.length<=100) (d:e.length<=100) :
 Calls Tryz.prog 111 #[.agg #[.int .i32 f,.int .i32 g,.string (tx nm)],.int .i32 c,.string (tx e)] w λn w'=>n=.returned (.string (tx (xn c nm e)))/\Below w.heap.size w w':=by
 have p:=aa (λ(W:World) (E:Below w.heap.size w W)=>vw (l.mono E) c q);obtain⟨j,a⟩:=ae (w.alloc (.cells #[.int .i32 f,.int .i32 g,.string (tx nm)] 198));have b:=aO a;have o:=Is.nw a;have h:tx (aV c)++(⟨#[59,60]⟩:ByteArray)++tx nm++(⟨#[44,32]⟩:ByteArray)++tx e++(⟨#[62,59,59,48,59,59,59,59,59,59,59,59,59,59,59,10]⟩:ByteArray)=tx (xn c nm e):=by
  show tx (aV c)++tx [59,60]++tx nm++tx [44,32]++tx e++tx [62,59,59,48,59,59,59,59,59,59,59,59,59,59,59,10]=_;rw[dA,dA,dA,dA,dA];rfl
 have:(tx (aV c)).size<=6:=by rw[aX];exact(bU c).2
 have:(tx nm).size<=100:=by rw[aX];exact k
 have:(tx e).size<=100:=by rw[aX];exact d
 have:(⟨#[59,60]⟩:ByteArray).size=2:=rfl;have:(⟨#[44,32]⟩:ByteArray).size=2:=rfl;have:(⟨#[62,59,59,48,59,59,59,59,59,59,59,59,59,59,59,10]⟩:ByteArray).size=16:=rfl;have m:=aa h;generalize tx (aV c)=s1 at *;generalize tx nm=s2 at *;generalize tx e=s3 at *;clear h k d;go_enter Tryz.func111,Tryz.ntmps111;go_upto_region 1 with fail;rw[<-a];clear a;have:=o.gd 2 rfl;refine aC (Array.replicate 11 true) 11 0 mixed ?_;refine ay [0,3,4,7] 7 ?_
 iterate 4 (refine aA rfl ?_;go_big_quiet_step (rfl))
 refine az ?_;refine aI 1 ?_;go_wp2_with fail;refine(p.out _ (af b (ag j))).mono ?_;rintro e s⟨rfl,i⟩;go_wp2_with fail;refine aF i ?_;refine ay [2,5,6,8,9,10] 0 ?_
 iterate 6 (refine aA rfl ?_;go_big_quiet_step (first|rfl|(simp only[ByteArray.size_append];omega)))
 refine az ?_;refine aJ [] ?_;refine tail_nil ?_;go_wp2;go_ret;exact⟨by rw[<-m.out];rfl,af (af b (ag j)) i⟩
end Go.Proofs.YtmnimbnojdndmaaGreatDoor
end
namespace Go.Cd
open Go.Proofs.YtmnimbnojdndmaaGreatDoor
def fF:List (Nat×Nat×List UInt8):=[(44032,55203,[72,97,110,103,117,108,32,83,121,108,108,97,98,108,101]),
 (55296,56191,[78,111,110,32,80,114,105,118,97,116,101,32,85,115,101,32,72,105,103,104,32,83,117,114,114,111,103,97,116,101]),
 (57344,63743,[80,114,105,118,97,116,101,32,85,115,101])]
def Gi (s:Nat×Nat×List UInt8):List UInt8:=xn s.1 s.2.2 [70,105,114,115,116]++xn s.2.1 s.2.2 [76,97,115,116]
def Ah:List aG->Nat->List UInt8
 | [],_=>[]
 | r::T,k=>((fF.drop k).takeWhile λs=>decide (s.1<r.code)).flatMap Gi++((eu [88] r++[10])++Ah T (k+((fF.drop k).takeWhile λs=>decide (s.1<r.code)).length))
def W_ {r:aG} {T:List aG} {k:Nat} (a:k<fF.length) (h:fF[k].1<r.code):Ah (r::T) k=Gi fF[k]++Ah (r::T) (k+1):=by
 conv=>lhs;unfold Ah
 conv=>rhs;unfold Ah
 rw[List.drop_eq_getElem_cons a,List.takeWhile_cons_of_pos (by simpa using h),List.flatMap_cons,List.length_cons,List.append_assoc,Nat.add_assoc,Nat.add_comm 1]
def QL {r:aG} {T:List aG} {k:Nat} (h:∀a:k<fF.length,¬fF[k].1<r.code):Ah (r::T) k=(eu [88] r++[10])++Ah T k:=by
 conv=>lhs;unfold Ah
 have e:(fF.drop k).takeWhile (λs=>decide (s.1<r.code))=[]:=by
  by_cases a:k<fF.length
  ·rw[List.drop_eq_getElem_cons a,List.takeWhile_cons_of_neg (by simpa using h a)]
  rw[List.drop_of_length_le (by omega)];rfl
 rw[e];rfl
def abS (s:Nat×Nat×List UInt8):List iE:=[⟨60::s.2.2++zg,⟨s.1,0,[]⟩,60::s.2.2++zg,true⟩,⟨60::s.2.2++Ny,⟨s.2.1,0,[]⟩,[],true⟩]
def Yw:List iE:=xtA.map tL++fF.flatMap abS++xtB.map tL
def aaI:og Yw=fo:=by
 unfold og Yw fo;rw[List.filter_append,List.filter_append,List.map_append,List.map_append];have a:∀T:List aG,((T.map tL).filter λl=>!l.pl).map (·.r)=T:=E_;rw[a,a];have b:((fF.flatMap abS).filter λl=>!l.pl)=[]:=rfl;rw[b];rfl
def IE:Ah fo 0=bA (Yw.map iE.t):=by decide +kernel
def Xa:(bA (Yw.map iE.t)).length<10000:=by decide +kernel
end Go.Cd
section
namespace Go.Cd
def l7 (c:UInt8):∀l:List (List UInt8),Lib.join l [c]=bH c l
 | []=>rfl
 | [p]=>by simp[Lib.join_one,bH]
 | p::q::l=>by
   have a:=l7 c (q::l);rw[Lib.join_cons] at a⊢;show p++Lib.joinTail [c] (q::l)=p++c::bH c (q::l);rw[<-a];simp[Lib.joinTail]
end Go.Cd
namespace Go.Proofs.YtmnimbnojdndmaaGreatDoor
open Go.RowKit Go.Cd Go.Shelf
def Db {w:World} (hG:dL w) (r:aG) (G:Bq r) {m:Value} (hm:bG w m (aM r.map)) :
 Calls Tryz.prog 112 #[.agg #[.int .i32 r.code,.int .i64 r.cls,m]] w λe w'=>e=.returned (.string (tx (eu [88] r)))/\Below w.heap.size w w':=by
 obtain⟨ma,mc,rfl,J,t⟩:=Go.Cd.bG.nN hm rfl;have HX:=aa (λ(W:World) (E:Below w.heap.size w W) (c:Nat) (hc:c<1114112)=>vw (hG.mono E) c hc)
 have IT:=aa (show ∀W,dL W->Calls Tryz.prog 159 #[.int .i64 r.cls] W λe w'=>e=.returned (.string (tx (iP r.cls)))/\Below W.heap.size W w' from λW h=>by
  have:=Tryz.strconv_Itoa r.cls (by omega) (by have:=G.cls;omega) W h.p10;rw[Fa r.cls (by have:=G.cls;omega)] at this
  exact this.mono λe w' h=>⟨h.1,by obtain⟨k,os,rfl⟩:=h.2;exact zo _ _ _⟩)
 obtain⟨n,V⟩:=ae r.map.length;rw[<-V] at J⊢;have ax:n<=2:=by rw[V];exact G.len
 have HN:=aa V;have Jc:=aa t;have HR:=aa G;have HG:=aa hG;have ad:=G.code;clear hm t V G hG;obtain⟨l,d⟩:=ae ((w.alloc (.cells #[.int .i32 r.code,.int .i64 r.cls,.slice ma n mc] 196)).alloc (.cells (Array.replicate 15 (.string ⟨#[]⟩)) 9));have P:Below w.heap.size w l:=by rw[d];exact dH _ _
 have Q:l.heap.size=w.heap.size+2:=by rw[d];simp
 have k1:Is l w.heap.size #[.int .i32 r.code,.int .i64 r.cls,.slice ma n mc] 196:=by rw[d];exact(Is.new _ _ _).mono (ah _)
 have f1:Is l (w.heap.size+1) (Array.replicate 15 (.string ⟨#[]⟩)) 9:=by rw[d];exact Is.new' _ _ _ _ (by simp)
 have am:∀W,(Instr.makeSlice 242 (.int .i64 15) (.int .i64 15)).run Tryz.prog W=.ok (.slice (some ⟨W.heap.size,0,none⟩) 15 15) (W.alloc (.cells (Array.replicate 15 (.string ⟨#[]⟩)) 9)):=λ_=>by kernel_rfl
 go_enter Tryz.func112,Tryz.ntmps112;go_upto_region 2 with fail;rw[<-d];clear d am;have o:=af P (ag l);have k2:=k1.mono (ag l);have f2:=f1.mono (ag l);have g0:=GrB.keeps (B:=w.heap.size+1) (k2.at 0 rfl) (Nat.lt_succ_self _);have g1:=GrB.keeps (B:=w.heap.size+1) (k2.at 1 rfl) (Nat.lt_succ_self _);refine dF (KR.B (w.heap.size+1)) (Array.replicate 15 true) 15 0 mixed ?_;refine bZ [0,1,2,3,4,6,7] 8 ?_
 iterate 7 (refine aA rfl ?_;go_big_quiet_step (rfl))
 refine az ?_;refine bN 5 ?_;clear g0 g1;have al:l.drew.heap.size=w.heap.size+2:=Q;clear k1 f1 Q;generalize l.drew=w2 at *;go_wp2_with fail;refine(HX.out _ o _ ad).mono ?_;rintro e w3⟨rfl,f⟩;go_wp2_with fail;refine jO (f.mono (by omega)) ?_;refine bN 8 ?_;go_wp2_with fail;refine(IT.out _ (HG.out.mono (af o f))).mono ?_;rintro e w4⟨rfl,s⟩;go_wp2_with fail;have au:=f.size;refine jO (s.mono (by omega)) ?_;have K:=af o (af f s);have k4:=k2.mono (af f s);have Z:=f2.mono (af f s);have Y5:w.heap.size+2<=w4.heap.size:=by have:=(af f s).size;omega
 clear k2 f2 f s al o IT P au;have hZ:∀i,i<15->∀W cs,Is W (w.heap.size+1) cs 9->cs.size=15->∃x,W.cell? ⟨w.heap.size+1,i,none⟩=some x:=λi hi W cs h hs=>⟨cs[i],h.at i (Array.getElem?_eq_getElem _)⟩;obtain⟨w5,g⟩:=ae (w4.setCell ⟨w.heap.size+1,0,none⟩ (.string (tx (aV r.code))));obtain⟨w6,q⟩:=ae (w5.setCell ⟨w.heap.size+1,1,none⟩ (.string ⟨#[88]⟩));obtain⟨Y,a⟩:=ae (w6.setCell ⟨w.heap.size+1,3,none⟩ (.string (tx (iP r.cls))));have N:=Z.set 0 (.string (tx (aV r.code)));rw[<-g] at N
 replace g:=aa g
 have O:=N.set 1 (.string ⟨#[88]⟩);rw[<-q] at O
 replace q:=aa q
 have f7:=O.set 3 (.string (tx (iP r.cls)));rw[<-a] at f7
 replace a:=aa a
 refine bZ [9] 5 ?_
 iterate 1 (refine aA rfl ?_;go_big_quiet_step (rfl))
 refine az ?_;refine bN 10 ?_;have C:=Z.at 0 rfl;have A:=Z.frozen 0;go_wp2_with fail;rw[<-g.out];refine jO (by rw[g.out];exact aj (Below.refl _ _) (Nat.le_refl _)) ?_;refine bZ [11] 3 ?_
 iterate 1 (refine aA rfl ?_;go_big_quiet_step (rfl))
 refine az ?_;refine bN 12 ?_;clear C A;have C:=N.at 1 rfl;have A:=N.frozen 1;go_wp2_with fail;rw[<-q.out];refine jO (by rw[q.out];exact aj (Below.refl _ _) (Nat.le_refl _)) ?_;refine bZ [13] 1 ?_
 iterate 1 (refine aA rfl ?_;go_big_quiet_step (rfl))
 refine az ?_;refine bN 14 ?_;clear C A;have C:=O.at 3 rfl;have A:=O.frozen 3;go_wp2_with fail;rw[<-a.out];refine jO (by rw[a.out];exact aj (Below.refl _ _) (Nat.le_refl _)) ?_;refine eU [] ?_;refine tail_nil ?_;have jh:Below w.heap.size w Y:=by rw[a.out,q.out,g.out];exact aj (aj (aj K (Nat.le_succ _)) (Nat.le_succ _)) (Nat.le_succ _)
 have aC:w.heap.size+2<=Y.heap.size:=by rw[a.out,q.out,g.out];simp only[World.size_setCell];exact Y5
 have k7:Is Y w.heap.size #[.int .i32 r.code,.int .i64 r.cls,.slice ma n mc] 196:=by rw[a.out,q.out,g.out];exact((k4.put (by omega) _).put (by omega) _).put (by omega) _
 have F7:=aa f7;clear C A g q a Z N O f7 k4 K Y5;have H:=k7.at 2 rfl;go_wp2_with fail;clear H k7;go_loopw [4,6,23] (λmv _ iv wr=>∃j:Nat,j<=n/\iv=.int .i64 j/\wr.ownsRow (w.heap.size+2) zw 1 mv j (qM ((r.map.take j).map aV))/\Below (w.heap.size+2) Y wr) (λ_ _ iv _=>n-(intOf iv).toNat)
 case atStart=>exact⟨0,Nat.zero_le _,rfl,World.ownsRow_nil _ _ _ _,Below.refl _ _⟩
 case round=>
  obtain⟨j,hj,rfl,D,L⟩:=hrel;have z:Below w.heap.size w wr:=jh.trans (L.mono (by omega));by_cases aF:j<n
  ·have zj:=eG (show j<n by omega);have y:j<r.map.length:=by have:=HN.out;omega
   obtain⟨b,off,rfl,_,hc⟩:=Jc.out j y;have c0:=aB z hc;have H1:=aa (HX.out wr z _ (HR.out.map _ (List.getElem_mem y)));have HT:=aa (show qM ((r.map.take (j+1)).map aV)=qM ((r.map.take j).map aV)++[.string (tx (aV r.map[j]))] by rw[List.take_succ_eq_append_getElem y,List.map_append,zA];rfl);generalize r.map[j]=c at *;have HO:=aa D;have hs:=L.size;clear hc D;go_wp2_with fail;refine H1.out.mono ?_;rintro e X⟨rfl,F⟩;have o8:=aH HO.out F;have aD:=F.size;clear c0 H1;go_wp2_with (refine f_ (W:=X) rfl _ _ 242 rfl (w.heap.size+2) zw _ 16 JS u4 j _ rfl o8 (.string (tx (aV c))) rfl rfl (by omega) (by unfold maxLen;omega) X (Below.refl _ _) (by omega) ?_;intro v9 u o9 b9 _ _;have ap:=aa (show u.ownsRow (w.heap.size+2) zw 1 v9 (j+1) (qM ((r.map.take (j+1)).map aV)) from by rw[HT.out];exact o9);clear o9);go_roundw
   case rel=>exact⟨j+1,by omega,by simp,ap.out,L.trans ((F.mono (by omega)).trans b9)⟩
   case measure=>simp[intOf];omega
  have zj:=gI (show n<=j by omega);obtain rfl:j=n:=by omega
  have ao:r.map.take j=r.map:=List.take_of_length_le (by have:=HN.out;omega);rw[ao] at D;have HO:=aa D;obtain⟨mA,mC,rfl,_,_⟩:=ak D;have f8:=F7.out.low (L) (by omega);have F8:=aa f8;have aE:=Go.Cd.n_ HR.out.len
  have J1:=aa (show Calls Tryz.prog 160 #[.slice mA j mC,.string ⟨#[32]⟩] wr λe w'=>e=.returned (.string (tx (dD r.map)))/\Below wr.heap.size wr w' from by
   rcases Nat.eq_zero_or_pos j with hj0|hj0
   ·subst hj0;have aq:r.map=[]:=List.length_eq_zero_iff.1 HN.out.symm;rw[aq];exact(Tryz.strings_Join_none mA mC ⟨#[32]⟩ wr).mono λe w' h=>⟨h.1,h.2▸Below.refl _ _⟩
   have hs:=(Sl.aU HO.out).any;obtain⟨a',aw,hv,ai,t⟩:=bG.out hs;injection hv with ab I ac;subst ab;subst ac;rw[qN,List.length_map] at I ai;obtain⟨b,off,rfl,an,_⟩:=t 0 (by rw[qN,List.length_map];omega)
   have:=Tryz.strings_Join b off mC (r.map.map λc=>tx (aV c)) ⟨#[32]⟩ wr (λk x hk=>by
    obtain⟨S,ar⟩:=List.getElem?_eq_some_iff.1 hk;rw[List.length_map] at S;obtain⟨b',av,T,_,f⟩:=t k (by rw[qN,List.length_map];exact S);injection T with T;injection T with T s;subst T;subst s;rw[f,<-ar];simp[qM]) an (by rw[List.length_map];omega) (by rw[List.length_map];omega) (by
     rw[List.map_map];have v:(r.map.map ((λx:ByteArray=>x.data.toList) ∘ λc=>tx (aV c)))=r.map.map aV:=List.map_congr_left λc _=>dM _;rw[v];show(Lib.join (r.map.map aV) [32]).length<=_
     rw[l7,<-rV];omega)
   rw[List.map_map] at this;have v:(r.map.map ((λx:ByteArray=>x.data.toList) ∘ λc=>tx (aV c)))=r.map.map aV:=List.map_congr_left λc _=>dM _;rw[v,List.length_map,<-I] at this;have H:(⟨(Lib.join (r.map.map aV) (⟨#[32]⟩:ByteArray).data.toList).toArray⟩:ByteArray)=tx (dD r.map):=by
    show tx (Lib.join (r.map.map aV) [32])=_;rw[l7,<-rV]
   rw[H] at this
   exact this)
  clear D f8;have ay:=L.size;go_wp2_with fail;refine J1.out.mono ?_;rintro e X⟨rfl,F⟩;have f9:=F8.out.mono F;have C:=f9.at 5 rfl;have A:=f9.frozen 5;obtain⟨u,p⟩:=ae (X.setCell ⟨w.heap.size+1,5,none⟩ (.string (tx (dD r.map))));have U:=f9.set 5 (.string (tx (dD r.map)));rw[<-p] at U;have kT:Below w.heap.size w u:=by rw[p];exact aj (z.trans (F.mono (by omega))) (Nat.le_succ _)
  have Dw:∀k (x:ByteArray),((gz [88] r).map tx)[k]? = some x->u.cell? ⟨w.heap.size+1,0+k,none⟩=some (.string x):=λk x t=>by
   have hk:k<15:=(List.getElem?_eq_some_iff.1 t).1;rw[Nat.zero_add,U.cell];have:k=0\/k=1\/k=2\/k=3\/k=4\/k=5\/k=6\/k=7\/k=8\/k=9\/k=10\/k=11\/k=12\/k=13\/k=14:=by omega
   rcases this with rfl|rfl|rfl|rfl|rfl|rfl|rfl|rfl|rfl|rfl|rfl|rfl|rfl|rfl|rfl <;> (cases t;rfl)
  have R:=kU (nm:=[88]) (r:=r) ⟨by simp,by unfold eH;decide⟩ HR.out.cls HR.out.len;have v:((gz [88] r).map tx).map (λx=>x.data.toList)=gz [88] r:=by
   rw[List.map_map];have:(λx:ByteArray=>x.data.toList) ∘ tx=id:=by funext x;exact dM x
   rw[this,List.map_id]
  have M:=Tryz.strings_Join (w.heap.size+1) 0 15 ((gz [88] r).map tx) ⟨#[59]⟩ u Dw U.lt (by simp[gz]) (by simp[gz]) (by
   rw[v];show(Lib.join (gz [88] r) [59]).length<=_;rw[l7]
   exact Nat.le_trans R (by decide))
  rw[v] at M;have H:(⟨(Lib.join (gz [88] r) (⟨#[59]⟩:ByteArray).data.toList).toArray⟩:ByteArray)=tx (eu [88] r):=by
   show tx (Lib.join (gz [88] r) [59])=_;rw[l7];rfl
  rw[H] at M;have M:Hid (Calls Tryz.prog 160 #[.slice (some ⟨w.heap.size+1,0,none⟩) 15 15,.string ⟨#[59]⟩] u λe w'=>e=.returned (.string (tx (eu [88] r)))/\Below u.heap.size u w'):=aa M;have HW:=aa p;clear p U Dw v H R f9;go_wp2_with fail;rw[<-HW.out];refine M.out.mono ?_;rintro e wz⟨rfl,hz⟩;go_wp2;go_ret;exact⟨rfl,af kT hz⟩
end Go.Proofs.YtmnimbnojdndmaaGreatDoor
end
namespace Go.Proofs.YtmnimbnojdndmaaGreatDoor
section
open Go.RowKit Go.Cd Go.Shelf _root_.Go.Proofs.Tryz
section
variable {P : Program} {ops : Array Oper} {Q : Exit -> Act -> World -> Prop} {a : Act} {w w' : World} {rest : List Oper} {o : Oper} {v : Value}
def Dc (c:o.guard=none) (h:(execOp a.eval o).run P w=.ok (.value v) w') (d:wpList P ops Q rest (a.put o.dst v) w'):wpList P ops Q (o::rest) a w:=
 wpList_plain c λK b=>by unfold Oper.wp;rw[h];exact b _ _ d
end
def xq {P:Program} {s:Sem Value} {w w':World} {v:Value} (h:s.run P w=.ok v w'):((do pure (Next.value (<-s))):Sem Next).run P w=.ok (.value v) w':=by
 show(Sem.bind _ _).run P w=_;rw[Sem.run_bind',h];rfl
def pX:Nat->List aG->List (Option Nat×Op×Option (Nat×Bool))
 | _,[]=>[]
 | t,⟨c,k,[]⟩::T=>(some t,.build 196 #[(0,.const (.int .i32 (c:Nat))),(1,.const (.int .i64 (k:Nat)))],none)::pX (t+1) T
 | t,⟨c,k,x::m⟩::T=>(some t,.buildSlice 35 (m.length+1) (((x::m).zipIdx.map λy=>(y.2,.const (.int .i32 (y.1:Nat)))).toArray),none)::
    (some (t+1),.build 196 #[(0,.const (.int .i32 (c:Nat))),(1,.const (.int .i64 (k:Nat))),(2,.tmp t)],none)::pX (t+2) T
def prj (o:Oper):Option Nat×Op×Option (Nat×Bool):=(o.dst,o.op,o.guard)
def l_:Nat->List aG->List (aG×Value)
 | _,[]=>[]
 | n,⟨c,k,[]⟩::T=>(⟨c,k,[]⟩,.slice none 0 0)::l_ n T
 | n,⟨c,k,x::m⟩::T=>(⟨c,k,x::m⟩,.slice (some ⟨n,0,none⟩) (m.length+1) (m.length+1))::l_ (n+1) T
def Ps:Nat->Nat->List aG->Act->Act
 | _,_,[],a=>a
 | t,n,⟨c,k,[]⟩::T,a=>Ps (t+1) n T (a.put (some t) (.agg #[.int .i32 (c:Nat),.int .i64 (k:Nat),.slice none 0 0]))
 | t,n,⟨c,k,x::m⟩::T,a=>Ps (t+2) (n+1) T ((a.put (some t) (.slice (some ⟨n,0,none⟩) (m.length+1) (m.length+1))).put (some (t+1)) (.agg #[.int .i32 (c:Nat),.int .i64 (k:Nat),.slice (some ⟨n,0,none⟩) (m.length+1) (m.length+1)]))
def jG:List aG->World->World
 | [],w=>w
 | ⟨_,_,[]⟩::T,w=>jG T w
 | ⟨_,_,x::m⟩::T,w=>jG T (w.alloc (.cells (aM (x::m)).toArray aN))
def adu (c k:Int) (a:Option Addr) (n m:Nat) (w:World):(Instr.build 196 #[(0,.int .i32 c),(1,.int .i64 k),(2,.slice a n m)]).run prog w=.ok (.agg #[.int .i32 c,.int .i64 k,.slice a n m]) w:=by kernel_rfl
def adv (c k:Int) (w:World):(Instr.build 196 #[(0,.int .i32 c),(1,.int .i64 k)]).run prog w=.ok (.agg #[.int .i32 c,.int .i64 k,.slice none 0 0]) w:=by kernel_rfl
def ak8 (x:Int) (w:World):(Instr.buildSlice 35 1 #[(0,.int .i32 x)]).run prog w=.ok (.slice (some ⟨w.heap.size,0,none⟩) 1 1) (w.alloc (.cells #[.int .i32 x] aN)):=by kernel_rfl
def ak9 (x y:Int) (w:World):(Instr.buildSlice 35 2 #[(0,.int .i32 x),(1,.int .i32 y)]).run prog w=.ok (.slice (some ⟨w.heap.size,0,none⟩) 2 2) (w.alloc (.cells #[.int .i32 x,.int .i32 y] aN)):=by kernel_rfl
def kR:∀(T:List aG) (w:World),Below w.heap.size w (jG T w)
 | [],w=>Below.refl _ _
 | ⟨_,_,[]⟩::T,w=>kR T w
 | ⟨_,_,x::m⟩::T,w=>af (ah _) (kR T _)
def yL:∀(n:Nat) (T:List aG),(l_ n T).map (·.1)=T
 | _,[]=>rfl
 | n,⟨c,k,[]⟩::T=>by simp[l_,yL n T]
 | n,⟨c,k,x::m⟩::T=>by simp[l_,yL (n+1) T]
def Xb (w:World) (a:Array Value) (e:TypeId):Sl e (w.alloc (.cells a e)) (.slice (some ⟨w.heap.size,0,none⟩) a.size a.size) a.toList:=
 ⟨_,a.size,by simp,by simp,.inr ⟨w.heap.size,0,a,(0,0),rfl,heap_alloc_new _ _,λi b=>by
   rw[Nat.zero_add,<-Array.getElem?_toList];exact List.getElem?_eq_getElem b⟩⟩
def De:∀(T:List aG) (w:World),∀q∈l_ w.heap.size T,Sl aN (jG T w) q.2 (aM q.1.map)
 | [],w,q,hq=>by simp[l_] at hq
 | ⟨c,k,[]⟩::T,w,q,hq=>by
   rcases List.mem_cons.1 hq with rfl|hq
   ·exact⟨none,0,rfl,Nat.le_refl _,.inl ⟨rfl,λ_=>rfl⟩⟩
   exact De T w q hq
 | ⟨c,k,x::m⟩::T,w,q,hq=>by
   have h0:(w.alloc (.cells (aM (x::m)).toArray aN)).heap.size=w.heap.size+1:=World.size_alloc _ _;rcases List.mem_cons.1 hq with rfl|hq
   ·have:=Xb w (aM (x::m)).toArray aN;have e:(aM (x::m)).toArray.size=m.length+1:=by simp[aM]
    rw[e] at this;exact this.mono (kR T _)
   exact De T (w.alloc (.cells (aM (x::m)).toArray aN)) q (by rw[h0];exact hq)
def IG {a:Act} {t:Nat} {v:Value} (h:t<a.tmps.size):(a.put (some t) v).eval (.tmp t)=v:=by
 show(a.tmps.setIfInBounds t v).getD t undef=v;simp[Array.getD,h]
def mf {a:Act} {t:Nat} {v:Value}:(a.put (some t) v).tmps.size=a.tmps.size:=by
 show(a.tmps.setIfInBounds t v).size=_;simp
def Df:List aG->Nat
 | []=>0
 | ⟨_,_,[]⟩::T=>Df T+1
 | ⟨_,_,_::_⟩::T=>Df T+2
def yM {ops:Array Oper} {Q:Exit->Act->World->Prop} {rest:List Oper}:∀(T:List aG) (t:Nat) (l:List Oper) (a:Act) (w:World),(∀r∈T,r.map.length<=2)->l.map prj=pX t T->t+Df T<=a.tmps.size->
 wpList prog ops Q rest (Ps t w.heap.size T a) (jG T w)->wpList prog ops Q (l++rest) a w
 | [],t,l,a,w,_,b,_,h=>by
   have:l=[]:=List.map_eq_nil_iff.1 b;subst this;exact h
 | ⟨c,k,[]⟩::T,t,l,a,w,hm,b,hs,h=>by
   rcases l with _|⟨o,l⟩
   ·simp[pX] at b
   simp only[pX,List.map_cons,List.cons.injEq] at b;obtain⟨d,b⟩:=b;simp only[prj,Prod.mk.injEq] at d;obtain⟨q,g,n⟩:=d;simp only[Df] at hs;refine Dc (v:=.agg #[.int .i32 (c:Nat),.int .i64 (k:Nat),.slice none 0 0]) (w':=w) n ?_ ?_
   ·have e:execOp a.eval o=(do pure (.value (<-Instr.build 196 #[(0,.int .i32 (c:Nat)),(1,.int .i64 (k:Nat))]))):=by simp only[execOp,g,List.map_toArray,List.map_cons,List.map_nil,List.zipIdx_cons,List.zipIdx_nil];rfl
    rw[e];exact xq (adv _ _ _)
   rw[q];exact yM T (t+1) l _ w (λr u=>hm r (by simp[u])) b (by rw[mf];omega) h
 | ⟨c,k,x::m⟩::T,t,l,a,w,hm,b,hs,h=>by
   rcases l with _|⟨o,_|⟨o',l⟩⟩
   ·simp[pX] at b
   ·simp[pX] at b
   simp only[pX,List.map_cons,List.cons.injEq] at b;obtain⟨d,f,b⟩:=b;simp only[prj,Prod.mk.injEq] at d f;obtain⟨q,g,n⟩:=d;obtain⟨s,i,p⟩:=f;simp only[Df] at hs;have j:m.length+1<=2:=hm _ List.mem_cons_self;refine Dc (v:=.slice (some ⟨w.heap.size,0,none⟩) (m.length+1) (m.length+1)) (w':=w.alloc (.cells (aM (x::m)).toArray aN)) n ?_ ?_
   ·rcases m with _|⟨y,_|⟨z,m⟩⟩
    ·have e:execOp a.eval o=(do pure (.value (<-Instr.buildSlice 35 1 #[(0,.int .i32 (x:Nat))]))):=by simp only[execOp,g,List.map_toArray,List.map_cons,List.map_nil,List.zipIdx_cons,List.zipIdx_nil];rfl
     rw[e];exact xq (ak8 _ _)
    ·have e:execOp a.eval o=(do pure (.value (<-Instr.buildSlice 35 2 #[(0,.int .i32 (x:Nat)),(1,.int .i32 (y:Nat))]))):=by simp only[execOp,g,List.map_toArray,List.map_cons,List.map_nil,List.zipIdx_cons,List.zipIdx_nil];rfl
     rw[e];exact xq (ak9 _ _ _)
    simp at j
   rw[q];refine Dc (v:=.agg #[.int .i32 (c:Nat),.int .i64 (k:Nat),.slice (some ⟨w.heap.size,0,none⟩) (m.length+1) (m.length+1)]) (w':=w.alloc (.cells (aM (x::m)).toArray aN)) p ?_ ?_
   ·have e:execOp (a.put (some t) (.slice (some ⟨w.heap.size,0,none⟩) (m.length+1) (m.length+1))).eval o'=(do pure (.value (<-Instr.build 196 #[(0,.int .i32 (c:Nat)),(1,.int .i64 (k:Nat)),(2,(a.put (some t) (.slice (some ⟨w.heap.size,0,none⟩) (m.length+1) (m.length+1))).eval (.tmp t))]))):=by simp only[execOp,i,List.map_toArray,List.map_cons,List.map_nil];rfl
    rw[e,IG (by omega)];exact xq (adu _ _ _ _ _ _)
   rw[s];have:=World.size_alloc w (.cells (aM (x::m)).toArray aN);refine yM T (t+2) l _ _ (λr u=>hm r (by simp[u])) b (by rw[mf,mf];omega) ?_;rw[this];exact h
def Pt (L:List (aG×Value)):Array (Nat×Value):=(L.zipIdx.map λx=>(x.2,Value.agg (dY x.1).toArray)).toArray
def Xc (n:Nat) (w:World):(Instr.buildSlice 146 121 (Pt (l_ n fo))).run prog w=.ok (.slice (some ⟨w.heap.size,0,none⟩) 121 121) (w.alloc (.cells ((l_ n fo).flatMap dY).toArray h_)):=by kernel_rfl
def slotL:Nat->List aG->List Nat
 | _,[]=>[]
 | t,⟨_,_,[]⟩::T=>t::slotL (t+1) T
 | t,⟨_,_,_::_⟩::T=>(t+1)::slotL (t+2) T
def Xd:List (Nat×Operand):=(slotL 1 fo).zipIdx.map λx=>(x.2,.tmp x.1)
def TA:Act:=⟨(Array.replicate 215 undef).setIfInBounds 0 (.slice none 0 0),[]⟩
def parts_eval (n:Nat):(Xd.map λx=>(x.1,(Ps 1 n fo TA).eval x.2)).toArray=Pt (l_ n fo):=by kernel_rfl
def yN:∀(T:List aG) (t n:Nat) (a:Act),(Ps t n T a).tmps.size=a.tmps.size/\(Ps t n T a).defers=a.defers
 | [],_,_,_=>⟨rfl,rfl⟩
 | ⟨c,k,[]⟩::T,t,n,a=>by
   have:=yN T (t+1) n (a.put (some t) (.agg #[.int .i32 (c:Nat),.int .i64 (k:Nat),.slice none 0 0]));exact⟨this.1.trans mf,this.2⟩
 | ⟨c,k,x::m⟩::T,t,n,a=>by
   have:=yN T (t+2) (n+1) ((a.put (some t) (.slice (some ⟨n,0,none⟩) (m.length+1) (m.length+1))).put (some (t+1)) (.agg #[.int .i32 (c:Nat),.int .i64 (k:Nat),.slice (some ⟨n,0,none⟩) (m.length+1) (m.length+1)]));exact⟨this.1.trans (mf.trans mf),this.2⟩
def II {ops:Array Oper} {Q:Exit->Act->World->Prop} {w:World} (p:(ops.toList.take 213).map prj=pX 1 fo)
 (c:(ops.toList.drop 213).map prj=[(some 214,.buildSlice 146 121 Xd.toArray,none),(some 0,.assign (.tmp 214),none)])
 (h:∀a,a.defers=[]->a.eval (.tmp 0)=.slice (some ⟨(jG fo w).heap.size,0,none⟩) 121 121->Q .normal a ((jG fo w).alloc (.cells ((l_ w.heap.size fo).flatMap dY).toArray h_))) :
 wpList prog ops Q ops.toList TA w:=by
 rw[<-List.take_append_drop 213 ops.toList];generalize ops.toList.drop 213=l2 at *;refine yM fo 1 _ _ w (by decide) p (by decide) ?_;rcases l2 with _|⟨o,_|⟨o',_|⟨_,_⟩⟩⟩
 ·simp at c
 ·simp at c
 ·simp only[List.map_cons,List.map_nil,List.cons.injEq,and_true] at c;obtain⟨m,d⟩:=c;simp only[prj,Prod.mk.injEq] at m d;obtain⟨q,s,n⟩:=m;obtain⟨i,l,k⟩:=d;have b:=yN fo 1 w.heap.size TA;have g:=parts_eval w.heap.size;have j:TA.tmps.size=215:=by decide
  have h0:TA.defers=[]:=rfl;rw[j,h0] at b;generalize Ps 1 w.heap.size fo TA=A at *;have f:=Xc w.heap.size (jG fo w);generalize Pt (l_ w.heap.size fo)=PX at *;generalize ((l_ w.heap.size fo).flatMap dY).toArray=CX at *;generalize jG fo w=W at *;refine Dc (v:=.slice (some ⟨W.heap.size,0,none⟩) 121 121) n (w':=W.alloc (.cells CX h_)) ?_ ?_
  ·have e:execOp A.eval o=(do pure (.value (<-Instr.buildSlice 146 121 PX))):=by
    simp only[execOp,s,List.map_toArray];rw[<-g]
   rw[e];exact xq f
  rw[q];refine Dc (v:=.slice (some ⟨W.heap.size,0,none⟩) 121 121) k (w':=W.alloc (.cells CX h_)) ?_ ?_
  ·have r:(A.put (some 214) (.slice (some ⟨W.heap.size,0,none⟩) 121 121)).eval (.tmp 214)=_:=IG (by rw[b.1];decide);simp only[execOp,l,r];rfl
  rw[i];exact h _ b.2 (IG (by rw[mf,b.1];decide))
 simp at c
def Pv {w:World} :
 Calls prog 109 #[] w λe w'=>e=.returned (.slice (some ⟨(jG fo w).heap.size,0,none⟩) 121 121)/\w'=(jG fo w).alloc (.cells ((l_ w.heap.size fo).flatMap dY).toArray h_):=by
 go_enter func109,ntmps109;go_upto_region 1 with fail;refine wp_region_list ?_;refine II (by kernel_rfl) (by kernel_rfl) ?_;intro a hd b;go_wp2;refine bodyPost_ret (results_tmp rfl _ _ _) hd ?_;exact⟨congrArg _ b,rfl⟩
end
section
open Go.RowKit Go.Cd Go.Shelf _root_.Go.Proofs.Tryz
def vB:Array Value:=#[.int .i32 44032,.int .i32 55203,.string (tx [72,97,110,103,117,108,32,83,121,108,108,97,98,108,101]),.int .i32 55296,.int .i32 56191,.string (tx [78,111,110,32,80,114,105,118,97,116,101,32,85,115,101,32,72,105,103,104,32,83,117,114,114,111,103,97,116,101]),.int .i32 57344,.int .i32 63743,.string (tx [80,114,105,118,97,116,101,32,85,115,101])]
theorem Xe {w:World}:Calls prog 108 #[] w fun e w'=>e=.returned (.slice (some ⟨w.heap.size,0,none⟩) 3 3)∧w'=w.alloc (.cells vB 198):=by
 go_enter func108,ntmps108;go_wp2;go_ret;exact ⟨rfl,rfl⟩
theorem IJ {w w':World} {b k:Nat} {cs:Array Value} {T:TypeId} (h:Is w k cs T) (ho:Lib.OthersKept 5 (some b) w w') (hk:k≠b) (hT:T≠5):Is w' k cs T:=
 ⟨ho _ _ h.at_ (by simpa using hk) (fun c fz e=>hT (by injection e))⟩
theorem IK {w w':World} {b:Nat} {v:Value} {xs:List Value} {cs:Array Value} {T:TypeId} {e:TypeId} (h:Sl e w v xs) (ho:Lib.OthersKept 5 (some b) w w') (hb:w.heap[b]? = some (.cells cs T (0,0))) (hT:e≠T) (he:e≠5):Sl e w' v xs:=by
 obtain ⟨a,cap,hv,hc,h⟩:=h;refine ⟨a,cap,hv,hc,h.imp id ?_⟩;rintro ⟨b',off,cs',fr,ha,hh,hx⟩;refine ⟨b',off,cs',fr,ha,ho _ _ hh ?_ (fun c fz e1=>he (by injection e1)),hx⟩;intro e1;injection e1 with e1;subst e1;rw [hb] at hh;injection hh with hh;injection hh with _ hh;exact hT hh.symm
structure Xf (w0:World) (L:List (aG×Value)) (sb tb:Nat) (w:World) (out:List UInt8):Prop where
 bui:pW w0.heap.size w0.heap.size out w
 sp:Is w sb vB 198
 tab:Is w tb (L.flatMap dY).toArray h_
 maps:∀q∈L,Sl aN w q.2 (aM q.1.map)
 below:Below w0.heap.size w0 w
section
variable {w0 w w' : World} {L : List (aG × Value)} {sb tb : Nat} {out : List UInt8}
theorem Xf.size (h:Xf w0 L sb tb w out):w0.heap.size<=w.heap.size:=h.below.size
theorem Xf.mono (h:Xf w0 L sb tb w out) (hb:Below w.heap.size w w'):Xf w0 L sb tb w' out:=
 ⟨h.bui.below hb,h.sp.mono hb,h.tab.mono hb,fun q hq=>(h.maps q hq).mono hb,af h.below (hb.mono (Nat.le_refl _))⟩
theorem Xf.write (h:Xf w0 L sb tb w out) (hs:sb≠w0.heap.size) (ht:tb≠w0.heap.size) {s:List UInt8} (hb:pW w0.heap.size w0.heap.size (out++s) w') (hB:Below w0.heap.size w w') (ho:Lib.OthersKept 5 (some w0.heap.size) w w'):Xf w0 L sb tb w' (out++s):=by
 obtain ⟨v,hv⟩:∃v:Array Value,w.heap[w0.heap.size]? = some (.cells v 191 (0,0)):=by
  rcases h.bui with ⟨_,v,hv,_⟩|⟨_,v,hv,_⟩ <;> exact ⟨_,hv⟩
 exact ⟨hb,IJ h.sp ho hs (by decide),IJ h.tab ho ht (by decide),fun q hq=>IK (h.maps q hq) ho hv (by decide) (by decide),h.below.trans hB⟩
end
theorem Dg:∀s∈fF,s.2.2.length<=100:=by decide
theorem aaK:∀k (hk:k<3),vB[k*3]? = some (.int .i32 ((fF[k]'hk).1:Nat))∧vB[k*3+1]? = some (.int .i32 ((fF[k]'hk).2.1:Nat))∧vB[k*3+2]? = some (.string (tx (fF[k]'hk).2.2))∧(fF[k]'hk).1<1114112∧(fF[k]'hk).2.1<1114112∧(fF[k]'hk).2.2.length<=100
 | 0,_=>⟨rfl,rfl,rfl,(by decide:44032<1114112),(by decide:55203<1114112),Dg _ (List.getElem_mem _)⟩
 | 1,_=>⟨rfl,rfl,rfl,(by decide:55296<1114112),(by decide:56191<1114112),Dg _ (List.getElem_mem _)⟩
 | 2,_=>⟨rfl,rfl,rfl,(by decide:57344<1114112),(by decide:63743<1114112),Dg _ (List.getElem_mem _)⟩
def Xg:Value->Nat
 | .slice _ n _=>n
 | _=>0
theorem pW.block {B b:Nat} {l:List UInt8} {w:World} (h:pW B b l w):∃v:Array Value,w.heap[b]? = some (.cells v 191 (0,0)):=by
 rcases h with ⟨_,v,hv,_⟩|⟨_,v,hv,_⟩ <;> exact ⟨_,hv⟩
theorem Mq (c:Nat) (nm e:List UInt8) (h1:nm.length<=100) (h2:e.length<=100):(xn c nm e).length<=300:=by
 have:=(bU c).2;unfold xn;simp only [List.length_append,List.length_cons,List.length_nil];omega
theorem pW.new {w:World}:pW w.heap.size w.heap.size [] (w.alloc (.cells #[.pointer none,.slice none 0 0] 191)):=
 .inl ⟨Nat.le_refl _,.slice none 0 0,heap_alloc_new _ _,World.ownsRowF_of (World.ownsRow_nil _ _ _ _),by simp [Value.ownBlock]⟩
theorem TD {w:World} (hG:dL w) :
 Calls prog 72 #[] w fun e w'=>e=.returned (.string (tx (Ah fo 0)))∧Below w.heap.size w w':=by
 have Qq:=aa (fun (W:World) (E:Below w.heap.size w W)=>hG.mono E);obtain ⟨w1,hw1⟩:=ae (w.alloc (.cells #[.pointer none,.slice none 0 0] 191));have hb1:=aO hw1;have u1:pW w.heap.size w.heap.size [] w1:=by rw [hw1];exact pW.new
 have hz1:w1.heap.size=w.heap.size+1:=by rw [hw1];simp
 have SP:=aa (Xe (w:=w1));have TB:=aa (fun W=>Pv (w:=W));clear hG;go_enter func72,ntmps72;go_wp2_with fail;rw [<-hw1];clear hw1;refine SP.out.mono ?_;rintro e w2 ⟨rfl,hw2⟩;have hb2:=aO hw2;have s2:Is w2 w1.heap.size vB 198:=by rw [hw2];exact Is.new _ _ _
 have hz2:w2.heap.size=w1.heap.size+1:=by rw [hw2];simp
 clear hw2 SP;go_wp2_with fail;refine (TB.out w2).mono ?_;rintro e w3 ⟨rfl,hw3⟩;obtain ⟨L,hL⟩:=ae (l_ w2.heap.size fo);obtain ⟨tb,htb⟩:=ae ((jG fo w2).heap.size);obtain ⟨sb,hsb⟩:=ae (w.heap.size+1);have hLf:L.map (·.1)=fo:=by rw [hL];exact yL _ _
 have hbw:Below w2.heap.size w2 (jG fo w2):=kR _ _;have hb3:Below w2.heap.size w2 w3:=by rw [hw3];exact af hbw (ah _)
 have X3:Xf w L sb tb w3 []:=by
  refine ⟨(u1.below hb2).below hb3,(show Is w2 sb vB 198 by rw [hsb,<-hz1];exact s2).mono hb3,?_,?_,af hb1 (af hb2 hb3)⟩
  ·rw [hw3,<-hL,htb];exact Is.new _ _ _
  ·intro q hq;have:=De fo w2 q (hL▸hq);rw [hw3];exact this.mono (ah _)
 have htw:tb≠w.heap.size:=by have:=hbw.size;omega
 have hsw:sb≠w.heap.size:=by omega
 rw [<-htb,<-hsb];have adw:Hid (∃tot,tot=Ah fo 0∧tot.length<10000):=aa ⟨_,rfl,by rw [IE];exact Xa⟩;clear hw3 hL htb hsb hbw hb1 hb2 hb3 u1 s2 hz1 hz2 TB;go_wp2_with fail;go_loopw [2,4,8] (fun lv _ jv wr=>∃(j k:Nat) (out:List UInt8) (a:Option Addr),j<=121∧jv=.int .i64 j∧k<=3∧lv=.slice a (3-k) (3-k)∧(k<3->a=some ⟨sb,k*3,none⟩)∧Xf w L sb tb wr out∧out++Ah (fo.drop j) k=Ah fo 0) (fun _ _ jv _=>121-(intOf jv).toNat)
 case atStart=>exact ⟨0,0,[],_,by omega,rfl,by omega,rfl,fun _=>rfl,X3,rfl⟩
 case round=>
  clear X3;obtain ⟨j,k,out,a,hj,rfl,hk,rfl,hka,hX,hout⟩:=hrel;by_cases hjn:j<121
  ·have zj:decide ((j:Int)<121)=true:=by simp;omega
   have hjL:j<L.length:=by have:=congrArg List.length hLf;rw [List.length_map] at this;rw [this];exact hjn
   have hjR:j<fo.length:=hjn;have Qr:L[j].1=fo[j]:=by simp [<-hLf]
   have hfl:=vV dY 3 Bu L j hjL;have e0:=hX.tab.at (j*3) (show (L.flatMap dY).toArray[j*3]? = some (.int .i32 (L[j].1.code:Nat)) by have:=hfl 0 (by decide);simpa [dY] using this);have e1:=hX.tab.at (j*3+1) (show (L.flatMap dY).toArray[j*3+1]? = some (.int .i64 (L[j].1.cls:Nat)) by have:=hfl 1 (by decide);simpa [dY] using this);have e2:=hX.tab.at (j*3+2) (show (L.flatMap dY).toArray[j*3+2]? = some L[j].2 by have:=hfl 2 (by decide);simpa [dY] using this);have hms:=hX.maps _ (List.getElem_mem hjL);rw [Qr] at e0 e1 hms;have hd:fo.drop j=fo[j]::fo.drop (j+1):=List.drop_eq_getElem_cons hjR;have lQ:=QJ _ (List.getElem_mem hjR);rw [hd] at hout;generalize fo[j]=r at *;obtain ⟨ma,mc,hmv,_,_⟩:=id hms;rw [hmv] at e2 hms;obtain ⟨ml,kz⟩:=ae ((aM r.map).length);rw [<-kz] at e2 hms;have Uy:=aa hms;clear hfl hd Qr hmv kz hms;have hro:Bq r:=⟨lQ.1.1,lQ.2.1,lQ.2.2.1,fun c hc=>((lQ.2.2.2.2 c hc).2).1⟩;have HRO:=aa hro;obtain ⟨w4,hw4⟩:=ae (wr.alloc (.cells #[.int .i32 (r.code:Nat),.int .i64 (r.cls:Nat),.slice ma ml mc] h_));have hb4:=aO hw4;have p4:=Is.nw hw4;have X4:=hX.mono hb4
   have hrw:wr.heap.size≠w.heap.size:=by have:=hX.bui;have:w.heap.size<wr.heap.size:=by rcases this with ⟨_,v,hv,_⟩|⟨_,v,hv,_⟩ <;> exact block_lt hv
                                         omega
   have agP:=aa (Uy.out.mono hb4);have hcode:=hro.code;clear lQ hro hX Uy;go_wp2_with fail;rw [<-hw4];obtain ⟨rb,hrb⟩:=ae wr.heap.size;rw [<-hrb] at p4 hrw ⊢;clear hw4 e0 e1 e2 hb4 hrb;go_loopw [2] (fun lv w5=>∃(k:Nat) (out:List UInt8) (a:Option Addr),k<=3∧lv=.slice a (3-k) (3-k)∧(k<3->a=some ⟨sb,k*3,none⟩)∧Xf w L sb tb w5 out∧out++Ah (r::fo.drop (j+1)) k=Ah fo 0∧Is w5 rb #[.int .i32 (r.code:Nat),.int .i64 (r.cls:Nat),.slice ma ml mc] h_∧Sl aN w5 (.slice ma ml mc) (aM r.map)) (fun lv _=>Xg lv)
   case atStart=>exact ⟨k,out,a,hk,rfl,hka,X4,hout,p4,agP.out⟩
   case round=>
    clear X4 p4 agP hout hka hk;obtain ⟨k,out,a,hk,rfl,hka,hX,hout,p5,hms⟩:=hrel;have TE:=aa hms;clear hms;have f0:=p5.at 0 rfl;have f1:=p5.at 1 rfl;have f2:=p5.at 2 rfl;by_cases hk3:k<3
    ·obtain rfl:=hka hk3;obtain ⟨s0,s1,s2,q1,q2,q3⟩:=aaK k hk3;have c0:=hX.sp.at _ s0;have c1:=hX.sp.at _ s1;have c2:=hX.sp.at _ s2;have zn:decide ((0:Int)<((3-k:Nat):Int))=true:=by simp;omega
     have hn1:1<=3-k:=by omega
     have hsp:=W_ (r:=r) (T:=fo.drop (j+1)) (k:=k) hk3;have hrow:=QL (r:=r) (T:=fo.drop (j+1)) (k:=k);obtain ⟨sp,adx⟩:=ae (fF[k]);have hrow':¬sp.1<r.code->Ah (r::fo.drop (j+1)) k=(eu [88] r++[10])++Ah (fo.drop (j+1)) k:=fun h=>hrow (fun _=>adx▸h);rw [<-adx] at c0 c1 c2 q1 q2 q3 hsp;clear s0 s1 s2 adx hrow;by_cases hlt:sp.1<r.code
     ·have zc:decide ((sp.1:Int)<(r.code:Int))=true:=by simp;omega
      obtain ⟨n,hn⟩:=ae (3-k);rw [<-hn] at zn hn1 ⊢;have HN:=aa hn;have zn2:decide (0<n)=true:=by simp;omega
      clear hn;go_upto_region 6 with fail;have g0:=Gr.cell (ag wr) c0;have g1:=Gr.cell (ag wr) f0;refine aC (Array.replicate 12 true) 12 0 mixed ?_;refine ay [0,1,2,3,4,5,6,7,8,9,10,11] 0 ?_
      iterate 12 (refine aA rfl ?_;go_big_quiet_step (rfl))
      refine az ?_;refine aJ [] ?_;refine tail_nil ?_;clear g0 g1;have X5:=hX.mono (ag wr);have p6:=p5.mono (ag wr);have Mr:=aa (TE.out.mono (ag wr));have g0:=Gr.cell (ag wr.drew) (aB (ag wr) c0);have g1:=Gr.cell (ag wr.drew) (aB (ag wr) c1);have g2:=Gr.cell (ag wr.drew) (aB (ag wr) c2);clear hX p5 TE c0 c1 c2 f0 f1 f2;generalize wr.drew=w5 at *;go_upto_region 7 with fail;have SL:Hid (∀(W:World),Below w.heap.size w W->Calls prog 111 #[.agg #[.int .i32 (sp.1:Nat),.int .i32 (sp.2.1:Nat),.string (tx sp.2.2)],.int .i32 (sp.1:Nat),.string ⟨#[70,105,114,115,116]⟩] W fun e' w'=>e'=.returned (.string (tx (xn sp.1 sp.2.2 [70,105,114,115,116])))∧Below W.heap.size W w'):=
       aa fun W E=>zW (Qq.out W E) sp.1 q1 _ _ sp.2.2 [70,105,114,115,116] q3 (by decide)
      have SM:Hid (∀(W:World),Below w.heap.size w W->Calls prog 111 #[.agg #[.int .i32 (sp.1:Nat),.int .i32 (sp.2.1:Nat),.string (tx sp.2.2)],.int .i32 (sp.2.1:Nat),.string ⟨#[76,97,115,116]⟩] W fun e' w'=>e'=.returned (.string (tx (xn sp.2.1 sp.2.2 [76,97,115,116])))∧Below W.heap.size W w'):=
       aa fun W E=>zW (Qq.out W E) sp.2.1 q2 _ _ sp.2.2 [76,97,115,116] q3 (by decide)
      have hl1:(tx (xn sp.1 sp.2.2 [70,105,114,115,116])).size<=300:=by rw [aX];exact Mq _ _ _ q3 (by decide)
      have hl2:(tx (xn sp.2.1 sp.2.2 [76,97,115,116])).size<=300:=by rw [aX];exact Mq _ _ _ q3 (by decide)
      have HST:=aa (show tx (xn sp.1 sp.2.2 [70,105,114,115,116])++tx (xn sp.2.1 sp.2.2 [76,97,115,116])=tx (Gi sp) by rw [dA];rfl);generalize tx (xn sp.1 sp.2.2 [70,105,114,115,116])=t1 at *;generalize tx (xn sp.2.1 sp.2.2 [76,97,115,116])=t2 at *;have hlo:out.length+(Gi sp).length<=1000000:=by
       obtain ⟨tot,h1,h2⟩:=adw.out;rw [hsp hlt,<-h1] at hout;have:=congrArg List.length hout;simp only [List.length_append] at this;omega
      refine aC #[true,true,true,true,true,true,true,true,true,true,true,true,true,true,true,true,true,false] 17 1 mixed ?_;refine ay [0,1,2,3,4,5,6,8,9,10,11,12,13,14] 3 ?_
      iterate 14 (refine aA rfl ?_;go_big_quiet_step (rfl))
      refine az ?_;refine aI 7 ?_;clear g0 g1 g2;have X6:=X5.mono (ag w5);have p7:=p6.mono (ag w5);have agQ:=aa (Mr.out.mono (ag w5));clear X5 p6 Mr;generalize w5.drew=w6 at *;go_wp2_with fail;refine (SL.out _ X6.below).mono ?_;rintro e w7 ⟨rfl,h7⟩;go_wp2_with fail;refine aF h7 ?_;refine aI 15 ?_;go_wp2_with fail;refine (SM.out _ (X6.mono h7).below).mono ?_;rintro e w8 ⟨rfl,h8⟩;go_wp2_with fail;refine aF h8 ?_;refine ay [16] 0 ?_
      iterate 1 (refine aA rfl ?_;go_big_quiet_step (rfl))
      refine az ?_;refine aJ [17] ?_;refine uO (os:=[_]) rfl ?_;have X8:=X6.mono (af h7 h8);have p8:=p7.mono (af h7 h8);have agR:=aa (agQ.out.mono (af h7 h8));have WS:=aa (jb X8.bui (Gi sp) hlo X8.size);rw [<-HST.out] at WS;go_wp2_with fail;refine WS.out.mono ?_;rintro e w9 ⟨rfl,kT,o_,TF⟩;obtain ⟨bv,hbv⟩:=X8.bui.block;have X9:=X8.write hsw htw kT o_ TF;have p9:=IJ p8 TF hrw (by decide);have agS:=aa (IK agR.out TF hbv (by decide) (by decide));clear X6 p7 agQ h7 h8 X8 p8 agR kT o_ TF hbv WS SL SM;go_wp2_with fail;refine uP ?_;have Gj:=aa (show (out++Gi sp)++Ah (r::fo.drop (j+1)) (k+1)=Ah fo 0 from by rw [List.append_assoc,<-hsp hlt];exact hout);have hk9:=aa (show 3-(k+1)=n-1 by have:=HN.out;omega);clear hout hsp hrow' hlo;by_cases hn1':n=1
      ·subst hn1';go_wp2;go_roundw
       case rel=>exact ⟨k+1,_,_,by omega,by rw [hk9.out],fun h=>absurd HN.out (by omega),X9,Gj.out,p9,agS.out⟩
       case measure=>simp [Xg]
      ·have hz:¬n-1=0:=by omega
       go_wp2;go_roundw
       case rel=>exact ⟨k+1,_,_,by omega,by rw [hk9.out],fun h=>by rw [Nat.add_mul],X9,Gj.out,p9,agS.out⟩
       case measure=>simp [Xg];omega
     ·have zc:decide ((sp.1:Int)<(r.code:Int))=false:=by simp;omega
      have Dh:=hrow' hlt;obtain ⟨n,hn⟩:=ae (3-k);rw [<-hn] at zn hn1 ⊢;have zn2:decide (0<n)=true:=by simp;omega
      have g0:=Gr.cell (ag wr) c0;have g1:=Gr.cell (ag wr) f0;have HN:=aa hn;clear hn;go_upto_region 6 with fail;refine aC (Array.replicate 12 true) 12 0 mixed ?_;refine ay [0,1,2,3,4,5,6,7,8,9,10,11] 0 ?_
      iterate 12 (refine aA rfl ?_;go_big_quiet_step (rfl))
      refine az ?_;refine aJ [] ?_;refine tail_nil ?_;clear g0 g1 c0 c1 c2 hsp hrow';have X5:=hX.mono (ag wr);have p6:=p5.mono (ag wr);have Mr:=aa (TE.out.mono (ag wr));clear hX p5 TE f0 f1 f2;generalize wr.drew=w5 at *;have RL:=aa (Db (Qq.out _ X5.below) r HRO.out Mr.out.any);have HT:=aa (show tx (eu [88] r)++(⟨#[10]⟩:ByteArray)=tx (eu [88] r++[10]) from dA _ [10]);have hll:=kU (nm:=[88]) (r:=r) ⟨by simp,by unfold eH;decide⟩ HRO.out.cls HRO.out.len;have hl1:(tx (eu [88] r)).size<=100:=by rw [aX];exact hll
      have hl2:(⟨#[10]⟩:ByteArray).size=1:=rfl;generalize tx (eu [88] r)=t1 at *;have hlo:out.length+(eu [88] r++[10]).length<=1000000:=by
       obtain ⟨tot,h1,h2⟩:=adw.out;rw [Dh,<-h1] at hout;have:=congrArg List.length hout;simp only [List.length_append] at this;rw [List.length_append];omega
      have Gj:=aa (show (out++(eu [88] r++[10]))++Ah (fo.drop (j+1)) k=Ah fo 0 from by rw [List.append_assoc,<-Dh];exact hout);have f0:=p6.at 0 rfl;have f1:=p6.at 1 rfl;have f2:=p6.at 2 rfl;clear hout Dh;go_wp2_with fail;refine RL.out.mono ?_;rintro e w7 ⟨rfl,h7⟩;have X7:=X5.mono h7;have WS:=aa (jb X7.bui (eu [88] r++[10]) hlo X7.size);rw [<-HT.out] at WS;clear X5 p6 Mr f0 f1 f2 RL h7;go_wp2_with fail;refine WS.out.mono ?_;rintro e w9 ⟨rfl,kT,o_,TF⟩;have X9:=X7.write hsw htw kT o_ TF;clear WS X7 kT o_ TF;go_wp2;go_roundw
      case rel=>exact ⟨j+1,k,_,_,by omega,by simp,hk,by rw [HN.out],fun _=>rfl,X9,Gj.out⟩
      case measure=>simp [intOf];omega
    ·have hk0:k=3:=by omega
     subst hk0;have Dh:=QL (r:=r) (T:=fo.drop (j+1)) (k:=3) (fun h=>absurd h (by decide));have z33:(3-3:Nat)=0:=rfl;have zz:decide ((0:Int)<((0:Nat):Int))=false:=by decide
     rw [z33];clear hka;go_upto_region 6 with fail;refine aC (Array.replicate 12 true) 12 0 mixed ?_;refine ay [0,1,2,3,4,5,6,7,8,9,10,11] 0 ?_;refine bC ?_
     iterate 12 (refine aZ rfl ?_)
     refine bD ?_
     iterate 12 (go_big_quiet_step (rfl))
     refine az ?_;refine aJ [] ?_;refine tail_nil ?_;have X5:=hX.mono (ag wr);have p6:=p5.mono (ag wr);have Mr:=aa (TE.out.mono (ag wr));clear hX p5 TE f0 f1 f2;generalize wr.drew=w5 at *;have RL:=aa (Db (Qq.out _ X5.below) r HRO.out Mr.out.any);have HT:=aa (show tx (eu [88] r)++(⟨#[10]⟩:ByteArray)=tx (eu [88] r++[10]) from dA _ [10]);have hll:=kU (nm:=[88]) (r:=r) ⟨by simp,by unfold eH;decide⟩ HRO.out.cls HRO.out.len;have hl1:(tx (eu [88] r)).size<=100:=by rw [aX];exact hll
     have hl2:(⟨#[10]⟩:ByteArray).size=1:=rfl;generalize tx (eu [88] r)=t1 at *;have hlo:out.length+(eu [88] r++[10]).length<=1000000:=by
      obtain ⟨tot,h1,h2⟩:=adw.out;rw [Dh,<-h1] at hout;have:=congrArg List.length hout;simp only [List.length_append] at this;rw [List.length_append];omega
     have Gj:=aa (show (out++(eu [88] r++[10]))++Ah (fo.drop (j+1)) 3=Ah fo 0 from by rw [List.append_assoc,<-Dh];exact hout);have f0:=p6.at 0 rfl;have f1:=p6.at 1 rfl;have f2:=p6.at 2 rfl;clear hout Dh;go_wp2_with fail;refine RL.out.mono ?_;rintro e w7 ⟨rfl,h7⟩;have X7:=X5.mono h7;have WS:=aa (jb X7.bui (eu [88] r++[10]) hlo X7.size);rw [<-HT.out] at WS;clear X5 p6 Mr f0 f1 f2 RL h7;go_wp2_with fail;refine WS.out.mono ?_;rintro e w9 ⟨rfl,kT,o_,TF⟩;have X9:=X7.write hsw htw kT o_ TF;clear WS X7 kT o_ TF;go_wp2;go_roundw
     case rel=>exact ⟨j+1,3,_,_,by omega,by simp,by omega,rfl,fun h=>absurd h (by decide),X9,Gj.out⟩
     case measure=>simp [intOf];omega
  ·have zj:decide ((j:Int)<121)=false:=by simp;omega
   obtain rfl:j=121:=by omega
   have hd:fo.drop 121=[]:=List.drop_of_length_le (by decide);rw [hd] at hout;have hout:out=Ah fo 0:=by rw [<-hout];simp [Ah]
   have hne:out≠[]:=by rw [hout,IE];decide +kernel
   have ST:=aa (Da hX.bui hne);have HO:=aa hout;have hbx:=hX.below;clear hout hne hd hX;go_wp2_with fail;refine ST.out.mono ?_;rintro e w9 ⟨rfl,o_⟩;go_wp2;go_ret;exact ⟨by rw [<-HO.out];rfl,hbx.trans o_⟩
end
end Go.Proofs.YtmnimbnojdndmaaGreatDoor
