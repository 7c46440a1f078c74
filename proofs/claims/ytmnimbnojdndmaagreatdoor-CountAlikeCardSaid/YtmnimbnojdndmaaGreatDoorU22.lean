/- Texts that are alike cost, and count, the same; no condition. -/
import Derived.Test.YtmnimbnojdndmaaGreatDoorU21
import Derived.Lib.Join
set_option maxRecDepth 100000
set_option maxHeartbeats 6400000
set_option linter.all false
section
namespace Go.Cd
def l7 (c:UInt8):∀l:List (List UInt8),Lib.join l [c]=bH c l
 | []=>rfl
 | [p]=>by simp[Lib.join_one,bH]
 | p::q::l=>by
   have a:=l7 c (q::l);rw[Lib.join_cons] at a⊢;show p++Lib.joinTail [c] (q::l)=p++c::bH c (q::l);rw[<-a];simp[Lib.joinTail]
end Go.Cd
namespace Go.Proofs.YtmnimbnojdndmaaGreatDoor
open Go.RowKit Go.Cd Go.Shelf
def Db {w:World} (hG:dL w) (r:aG) (H:Bq r) {m:Value} (hm:bG w m (aM r.map)) :
 Calls Tryz.prog 112 #[.agg #[.int .i32 r.code,.int .i64 r.cls,m]] w λe w'=>e=.returned (.string (tx (eu [88] r)))/\Below w.heap.size w w':=by
 obtain⟨ma,mc,rfl,T,s⟩:=Go.Cd.bG.nN hm rfl;have HX:=aa (λ(W:World) (E:Below w.heap.size w W) (c:Nat) (hc:c<1114112)=>vw (hG.mono E) c hc)
 have IT:=aa (show ∀W,dL W->Calls Tryz.prog 159 #[.int .i64 r.cls] W λe w'=>e=.returned (.string (tx (iP r.cls)))/\Below W.heap.size W w' from λW h=>by
  have:=Tryz.strconv_Itoa r.cls (by omega) (by have:=H.cls;omega) W h.p10;rw[Fa r.cls (by have:=H.cls;omega)] at this
  exact this.mono λe w' h=>⟨h.1,by obtain⟨k,os,rfl⟩:=h.2;exact zo _ _ _⟩)
 obtain⟨n,hn⟩:=ae r.map.length;rw[<-hn] at T⊢;have aD:n<=2:=by rw[hn];exact H.len
 have HN:=aa hn;have Jc:=aa s;have HR:=aa H;have HG:=aa hG;have al:=H.code;clear hm s hn H hG;obtain⟨l,d⟩:=ae ((w.alloc (.cells #[.int .i32 r.code,.int .i64 r.cls,.slice ma n mc] 196)).alloc (.cells (Array.replicate 15 (.string ⟨#[]⟩)) 9));have P:Below w.heap.size w l:=by rw[d];exact dH _ _
 have J:l.heap.size=w.heap.size+2:=by rw[d];simp
 have k1:Is l w.heap.size #[.int .i32 r.code,.int .i64 r.cls,.slice ma n mc] 196:=by rw[d];exact(Is.new _ _ _).mono (ah _)
 have f1:Is l (w.heap.size+1) (Array.replicate 15 (.string ⟨#[]⟩)) 9:=by rw[d];exact Is.new' _ _ _ _ (by simp)
 have aq:∀W,(Instr.makeSlice 242 (.int .i64 15) (.int .i64 15)).run Tryz.prog W=.ok (.slice (some ⟨W.heap.size,0,none⟩) 15 15) (W.alloc (.cells (Array.replicate 15 (.string ⟨#[]⟩)) 9)):=λ_=>by kernel_rfl
 go_enter Tryz.func112,Tryz.ntmps112;go_upto_region 2 with fail;rw[<-d];clear d aq;have o:=af P (ag l);have U:=k1.mono (ag l);have f2:=f1.mono (ag l);have g0:=GrB.keeps (B:=w.heap.size+1) (U.at 0 rfl) (sB _);have g1:=GrB.keeps (B:=w.heap.size+1) (U.at 1 rfl) (sB _);refine dF (KR.B (w.heap.size+1)) (Array.replicate 15 true) 15 0 mixed ?_;refine bZ [0,1,2,3,4,6,7] 8 ?_
 iterate 7 (refine aA rfl ?_;go_big_quiet_step (rfl))
 refine az ?_;refine bN 5 ?_;clear g0 g1;have ab:l.drew.heap.size=w.heap.size+2:=J;clear k1 f1 J;generalize l.drew=w2 at *;go_wp2_with fail;refine(HX.out _ o _ al).mono ?_;rintro e w3⟨rfl,f⟩;go_wp2_with fail;refine aaa (f.mono (by omega)) ?_;refine bN 8 ?_;go_wp2_with fail;refine(IT.out _ (HG.out.mono (af o f))).mono ?_;rintro e w4⟨rfl,t⟩;go_wp2_with fail;have ad:=f.size;refine aaa (t.mono (by omega)) ?_;have S:=af o (af f t);have k4:=U.mono (af f t);have Y:=f2.mono (af f t);have Y5:w.heap.size+2<=w4.heap.size:=by have:=(af f t).size;omega
 clear U f2 f t ab o IT P ad;have hZ:∀i,i<15->∀W cs,Is W (w.heap.size+1) cs 9->cs.size=15->∃x,W.cell? ⟨w.heap.size+1,i,none⟩=some x:=λi hi W cs h hs=>⟨cs[i],h.at i (rj _)⟩;obtain⟨w5,g⟩:=ae (w4.setCell ⟨w.heap.size+1,0,none⟩ (.string (tx (aV r.code))));obtain⟨w6,p⟩:=ae (w5.setCell ⟨w.heap.size+1,1,none⟩ (.string ⟨#[88]⟩));obtain⟨X,a⟩:=ae (w6.setCell ⟨w.heap.size+1,3,none⟩ (.string (tx (iP r.cls))));have K:=Y.set 0 (.string (tx (aV r.code)));rw[<-g] at K
 replace g:=aa g
 have I:=K.set 1 (.string ⟨#[88]⟩);rw[<-p] at I
 replace p:=aa p
 have f7:=I.set 3 (.string (tx (iP r.cls)));rw[<-a] at f7
 replace a:=aa a
 refine bZ [9] 5 ?_
 iterate 1 (refine aA rfl ?_;go_big_quiet_step (rfl))
 refine az ?_;refine bN 10 ?_;have A:=Y.at 0 rfl;have C:=Y.frozen 0;go_wp2_with fail;rw[<-g.out];refine aaa (by rw[g.out];exact aj (gO _ _) (gw _)) ?_;refine bZ [11] 3 ?_
 iterate 1 (refine aA rfl ?_;go_big_quiet_step (rfl))
 refine az ?_;refine bN 12 ?_;clear A C;have A:=K.at 1 rfl;have C:=K.frozen 1;go_wp2_with fail;rw[<-p.out];refine aaa (by rw[p.out];exact aj (gO _ _) (gw _)) ?_;refine bZ [13] 1 ?_
 iterate 1 (refine aA rfl ?_;go_big_quiet_step (rfl))
 refine az ?_;refine bN 14 ?_;clear A C;have A:=I.at 3 rfl;have C:=I.frozen 3;go_wp2_with fail;rw[<-a.out];refine aaa (by rw[a.out];exact aj (gO _ _) (gw _)) ?_;refine eU [] ?_;refine tail_nil ?_;have jh:Below w.heap.size w X:=by rw[a.out,p.out,g.out];exact aj (aj (aj S (pj _)) (pj _)) (pj _)
 have aF:w.heap.size+2<=X.heap.size:=by rw[a.out,p.out,g.out];simp only[lO];exact Y5
 have k7:Is X w.heap.size #[.int .i32 r.code,.int .i64 r.cls,.slice ma n mc] 196:=by rw[a.out,p.out,g.out];exact((k4.put (by omega) _).put (by omega) _).put (by omega) _
 have F7:=aa f7;clear A C g p a Y K I f7 k4 S Y5;have F:=k7.at 2 rfl;go_wp2_with fail;clear F k7;go_loopw [4,6,23] (λmv _ iv wr=>∃j:Nat,j<=n/\iv=.int .i64 j/\wr.ownsRow (w.heap.size+2) zw 1 mv j (qM ((r.map.take j).map aV))/\Below (w.heap.size+2) X wr) (λ_ _ iv _=>n-(intOf iv).toNat)
 case atStart=>exact⟨0,gW _,rfl,iu _ _ _ _,gO _ _⟩
 case round=>
  obtain⟨j,hj,rfl,D,R⟩:=hrel;have y:Below w.heap.size w wr:=jh.trans (R.mono (by omega));by_cases ax:j<n
  ·have zj:=eG (show j<n by omega);have v:j<r.map.length:=by have:=HN.out;omega
   obtain⟨b,off,rfl,_,hc⟩:=Jc.out j v;have c0:=aB y hc;have H1:=aa (HX.out wr y _ (HR.out.map _ (gx v)));have HT:=aa (show qM ((r.map.take (j+1)).map aV)=qM ((r.map.take j).map aV)++[.string (tx (aV r.map[j]))] by rw[gE v,js,zA];rfl);generalize r.map[j]=c at *;have HO:=aa D;have hs:=R.size;clear hc D;go_wp2_with fail;refine H1.out.mono ?_;rintro e w8⟨rfl,G⟩;have o8:=aH HO.out G;have ay:=G.size;clear c0 H1;go_wp2_with (refine f_ (W:=w8) rfl _ _ 242 rfl (w.heap.size+2) zw _ 16 JS u4 j _ rfl o8 (.string (tx (aV c))) rfl rfl (by omega) (by unfold maxLen;omega) w8 (gO _ _) (by omega) ?_;intro v9 u o9 b9 _ _;have ai:=aa (show u.ownsRow (w.heap.size+2) zw 1 v9 (j+1) (qM ((r.map.take (j+1)).map aV)) from by rw[HT.out];exact o9);clear o9);go_roundw
   case rel=>exact⟨j+1,by omega,by simp,ai.out,R.trans ((G.mono (by omega)).trans b9)⟩
   case measure=>simp[intOf];omega
  have zj:=gI (show n<=j by omega);obtain rfl:j=n:=by omega
  have am:r.map.take j=r.map:=ie (by have:=HN.out;omega);rw[am] at D;have HO:=aa D;obtain⟨mA,mC,rfl,_,_⟩:=ak D;have f8:=F7.out.low (R) (by omega);have F8:=aa f8;have aC:=Go.Cd.n_ HR.out.len
  have J1:=aa (show Calls Tryz.prog 160 #[.slice mA j mC,.string ⟨#[32]⟩] wr λe w'=>e=.returned (.string (tx (dD r.map)))/\Below wr.heap.size wr w' from by
   rcases pH j with hj0|hj0
   ·subst hj0;have au:r.map=[]:=im.1 HN.out.symm;rw[au];exact(Tryz.strings_Join_none mA mC ⟨#[32]⟩ wr).mono λe w' h=>⟨h.1,h.2▸gO _ _⟩
   have hs:=(Sl.aU HO.out).any;obtain⟨a',av,hv,ap,s⟩:=bG.out hs;injection hv with ao N ac;subst ao;subst ac;rw[qN,ia] at N ap;obtain⟨b,off,rfl,an,_⟩:=s 0 (by rw[qN,ia];omega)
   have:=Tryz.strings_Join b off mC (r.map.map λc=>tx (aV c)) ⟨#[32]⟩ wr (λk x hk=>by
    obtain⟨Q,ar⟩:=ir.1 hk;rw[ia] at Q;obtain⟨b',aw,L,_,f⟩:=s k (by rw[qN,ia];exact Q);injection L with L;injection L with L t;subst L;subst t;rw[f,<-ar];simp[qM]) an (by rw[ia];omega) (by rw[ia];omega) (by
     rw[mB];have z:(r.map.map ((λx:ByteArray=>x.data.toList) ∘ λc=>tx (aV c)))=r.map.map aV:=mw λc _=>dM _;rw[z];show(Lib.join (r.map.map aV) [32]).length<=_
     rw[l7,<-rV];omega)
   rw[mB] at this;have z:(r.map.map ((λx:ByteArray=>x.data.toList) ∘ λc=>tx (aV c)))=r.map.map aV:=mw λc _=>dM _;rw[z,ia,<-N] at this;have F:(⟨(Lib.join (r.map.map aV) (⟨#[32]⟩:ByteArray).data.toList).toArray⟩:ByteArray)=tx (dD r.map):=by
    show tx (Lib.join (r.map.map aV) [32])=_;rw[l7,<-rV]
   rw[F] at this
   exact this)
  clear D f8;have aE:=R.size;go_wp2_with fail;refine J1.out.mono ?_;rintro e w8⟨rfl,G⟩;have V:=F8.out.mono G;have A:=V.at 5 rfl;have C:=V.frozen 5;obtain⟨u,q⟩:=ae (w8.setCell ⟨w.heap.size+1,5,none⟩ (.string (tx (dD r.map))));have Z:=V.set 5 (.string (tx (dD r.map)));rw[<-q] at Z;have kT:Below w.heap.size w u:=by rw[q];exact aj (y.trans (G.mono (by omega))) (pj _)
  have Dw:∀k (x:ByteArray),((gz [88] r).map tx)[k]? = some x->u.cell? ⟨w.heap.size+1,0+k,none⟩=some (.string x):=λk x s=>by
   have hk:k<15:=(ir.1 s).1;rw[kh,Z.cell];have:k=0\/k=1\/k=2\/k=3\/k=4\/k=5\/k=6\/k=7\/k=8\/k=9\/k=10\/k=11\/k=12\/k=13\/k=14:=by omega
   rcases this with rfl|rfl|rfl|rfl|rfl|rfl|rfl|rfl|rfl|rfl|rfl|rfl|rfl|rfl|rfl <;> (cases s;rfl)
  have O:=kU (nm:=[88]) (r:=r) ⟨by simp,by unfold eH;decide⟩ HR.out.cls HR.out.len;have z:((gz [88] r).map tx).map (λx=>x.data.toList)=gz [88] r:=by
   rw[mB];have:(λx:ByteArray=>x.data.toList) ∘ tx=id:=by funext x;exact dM x
   rw[this,tj]
  have M:=Tryz.strings_Join (w.heap.size+1) 0 15 ((gz [88] r).map tx) ⟨#[59]⟩ u Dw Z.lt (by simp[gz]) (by simp[gz]) (by
   rw[z];show(Lib.join (gz [88] r) [59]).length<=_;rw[l7]
   exact gS O (by decide))
  rw[z] at M;have F:(⟨(Lib.join (gz [88] r) (⟨#[59]⟩:ByteArray).data.toList).toArray⟩:ByteArray)=tx (eu [88] r):=by
   show tx (Lib.join (gz [88] r) [59])=_;rw[l7];rfl
  rw[F] at M;have M:Hid (Calls Tryz.prog 160 #[.slice (some ⟨w.heap.size+1,0,none⟩) 15 15,.string ⟨#[59]⟩] u λe w'=>e=.returned (.string (tx (eu [88] r)))/\Below u.heap.size u w'):=aa M;have HW:=aa q;clear q Z Dw z F O V;go_wp2_with fail;rw[<-HW.out];refine M.out.mono ?_;rintro e wz⟨rfl,hz⟩;go_wp2;go_ret;exact⟨rfl,af kT hz⟩
end Go.Proofs.YtmnimbnojdndmaaGreatDoor
end
namespace Go.Proofs.YtmnimbnojdndmaaGreatDoor
section
open Go.RowKit Go.Cd Go.Shelf _root_.Go.Proofs.Tryz
section
variable {P : Program} {ops : Array Oper} {Q : Exit -> Act -> World -> Prop} {a : Act} {w w' : World} {rest : List Oper} {o : Oper} {v : Value}
def Dc (b:o.guard=none) (h:(execOp a.eval o).run P w=.ok (.value v) w') (c:wpList P ops Q rest (a.put o.dst v) w'):wpList P ops Q (o::rest) a w:=
 wpList_plain b λK d=>by unfold Oper.wp;rw[h];exact d _ _ c
end
def xq {P:Program} {s:Sem Value} {w w':World} {v:Value} (h:s.run P w=.ok v w'):((do pure (Next.value (<-s))):Sem Next).run P w=.ok (.value v) w':=by
 show(Sem.bind _ _).run P w=_;rw[tG,h];rfl
def pX:Nat->List aG->List (Option Nat×Op×Option (Nat×Bool))
 | _,[]=>[]
 | t,⟨c,k,[]⟩::T=>(some t,.build 196 #[(0,.const (.int .i32 (c:Nat))),(1,.const (.int .i64 (k:Nat)))],none)::pX (t+1) T
 | t,⟨c,k,x::m⟩::T=>(some t,.buildSlice 35 (m.length+1) (((x::m).zipIdx.map λy=>(y.2,.const (.int .i32 (y.1:Nat)))).toArray),none)::
    (some (t+1),.build 196 #[(0,.const (.int .i32 (c:Nat))),(1,.const (.int .i64 (k:Nat))),(2,.tmp t)],none)::pX (t+2) T
def prj (o:Oper):Option Nat×Op×Option (Nat×Bool):=(o.dst,o.op,o.guard)
def l_:Nat->List aG->List (aG×Value)
 | _,[]=>[]
 | n,⟨c,k,[]⟩::T=>(⟨c,k,[]⟩,.slice none 0 0)::l_ n T
 | n,⟨c,k,x::m⟩::T=>(⟨c,k,x::m⟩,.slice (some ⟨n,0,none⟩) (m.length+1) (m.length+1))::l_ (n+1) T
def Ps:Nat->Nat->List aG->Act->Act
 | _,_,[],a=>a
 | t,n,⟨c,k,[]⟩::T,a=>Ps (t+1) n T (a.put (some t) (.agg #[.int .i32 (c:Nat),.int .i64 (k:Nat),.slice none 0 0]))
 | t,n,⟨c,k,x::m⟩::T,a=>Ps (t+2) (n+1) T ((a.put (some t) (.slice (some ⟨n,0,none⟩) (m.length+1) (m.length+1))).put (some (t+1)) (.agg #[.int .i32 (c:Nat),.int .i64 (k:Nat),.slice (some ⟨n,0,none⟩) (m.length+1) (m.length+1)]))
def jG:List aG->World->World
 | [],w=>w
 | ⟨_,_,[]⟩::T,w=>jG T w
 | ⟨_,_,x::m⟩::T,w=>jG T (w.alloc (.cells (aM (x::m)).toArray aN))
def adu (c k:Int) (a:Option Addr) (n m:Nat) (w:World):(Instr.build 196 #[(0,.int .i32 c),(1,.int .i64 k),(2,.slice a n m)]).run prog w=.ok (.agg #[.int .i32 c,.int .i64 k,.slice a n m]) w:=by kernel_rfl
def adv (c k:Int) (w:World):(Instr.build 196 #[(0,.int .i32 c),(1,.int .i64 k)]).run prog w=.ok (.agg #[.int .i32 c,.int .i64 k,.slice none 0 0]) w:=by kernel_rfl
def ak8 (x:Int) (w:World):(Instr.buildSlice 35 1 #[(0,.int .i32 x)]).run prog w=.ok (.slice (some ⟨w.heap.size,0,none⟩) 1 1) (w.alloc (.cells #[.int .i32 x] aN)):=by kernel_rfl
def ak9 (x y:Int) (w:World):(Instr.buildSlice 35 2 #[(0,.int .i32 x),(1,.int .i32 y)]).run prog w=.ok (.slice (some ⟨w.heap.size,0,none⟩) 2 2) (w.alloc (.cells #[.int .i32 x,.int .i32 y] aN)):=by kernel_rfl
def kR:∀(T:List aG) (w:World),Below w.heap.size w (jG T w)
 | [],w=>gO _ _
 | ⟨_,_,[]⟩::T,w=>kR T w
 | ⟨_,_,x::m⟩::T,w=>af (ah _) (kR T _)
def yL:∀(n:Nat) (T:List aG),(l_ n T).map (·.1)=T
 | _,[]=>rfl
 | n,⟨c,k,[]⟩::T=>by simp[l_,yL n T]
 | n,⟨c,k,x::m⟩::T=>by simp[l_,yL (n+1) T]
def Xb (w:World) (cs:Array Value) (e:TypeId):Sl e (w.alloc (.cells cs e)) (.slice (some ⟨w.heap.size,0,none⟩) cs.size cs.size) cs.toList:=
 ⟨_,cs.size,by simp,by simp,.inr ⟨w.heap.size,0,cs,(0,0),rfl,heap_alloc_new _ _,λi a=>by
   rw[kh,<-mm];exact gA a⟩⟩
def De:∀(T:List aG) (w:World),∀q∈l_ w.heap.size T,Sl aN (jG T w) q.2 (aM q.1.map)
 | [],w,q,hq=>by simp[l_] at hq
 | ⟨c,k,[]⟩::T,w,q,hq=>by
   rcases jf.1 hq with rfl|hq
   ·exact⟨none,0,rfl,gw _,.inl ⟨rfl,λ_=>rfl⟩⟩
   exact De T w q hq
 | ⟨c,k,x::m⟩::T,w,q,hq=>by
   have h0:(w.alloc (.cells (aM (x::m)).toArray aN)).heap.size=w.heap.size+1:=ns _ _;rcases jf.1 hq with rfl|hq
   ·have:=Xb w (aM (x::m)).toArray aN;have e:(aM (x::m)).toArray.size=m.length+1:=by simp[aM]
    rw[e] at this;exact this.mono (kR T _)
   exact De T (w.alloc (.cells (aM (x::m)).toArray aN)) q (by rw[h0];exact hq)
def IG {a:Act} {t:Nat} {v:Value} (h:t<a.tmps.size):(a.put (some t) v).eval (.tmp t)=v:=by
 show(a.tmps.setIfInBounds t v).getD t undef=v;simp[Array.getD,h]
def mf {a:Act} {t:Nat} {v:Value}:(a.put (some t) v).tmps.size=a.tmps.size:=by
 show(a.tmps.setIfInBounds t v).size=_;simp
def Df:List aG->Nat
 | []=>0
 | ⟨_,_,[]⟩::T=>Df T+1
 | ⟨_,_,_::_⟩::T=>Df T+2
def yM {ops:Array Oper} {Q:Exit->Act->World->Prop} {rest:List Oper}:∀(T:List aG) (t:Nat) (l:List Oper) (a:Act) (w:World),(∀r∈T,r.map.length<=2)->l.map prj=pX t T->t+Df T<=a.tmps.size->
 wpList prog ops Q rest (Ps t w.heap.size T a) (jG T w)->wpList prog ops Q (l++rest) a w
 | [],t,l,a,w,_,b,_,h=>by
   have:l=[]:=List.map_eq_nil_iff.1 b;subst this;exact h
 | ⟨c,k,[]⟩::T,t,l,a,w,hm,b,hs,h=>by
   rcases l with _|⟨o,l⟩
   ·simp[pX] at b
   simp only[pX,kt,pf] at b;obtain⟨d,b⟩:=b;simp only[prj,Prod.mk.injEq] at d;obtain⟨p,g,s⟩:=d;simp only[Df] at hs;refine Dc (v:=.agg #[.int .i32 (c:Nat),.int .i64 (k:Nat),.slice none 0 0]) (w':=w) s ?_ ?_
   ·have e:execOp a.eval o=(do pure (.value (<-Instr.build 196 #[(0,.int .i32 (c:Nat)),(1,.int .i64 (k:Nat))]))):=by simp only[execOp,g,tE,kt,sR,zF,AF];rfl
    rw[e];exact xq (adv _ _ _)
   rw[p];exact yM T (t+1) l _ w (λr q=>hm r (by simp[q])) b (by rw[mf];omega) h
 | ⟨c,k,x::m⟩::T,t,l,a,w,hm,b,hs,h=>by
   rcases l with _|⟨o,_|⟨o',l⟩⟩
   ·simp[pX] at b
   ·simp[pX] at b
   simp only[pX,kt,pf] at b;obtain⟨d,f,b⟩:=b;simp only[prj,Prod.mk.injEq] at d f;obtain⟨p,g,s⟩:=d;obtain⟨j,n,u⟩:=f;simp only[Df] at hs;have i:m.length+1<=2:=hm _ n7;refine Dc (v:=.slice (some ⟨w.heap.size,0,none⟩) (m.length+1) (m.length+1)) (w':=w.alloc (.cells (aM (x::m)).toArray aN)) s ?_ ?_
   ·rcases m with _|⟨y,_|⟨z,m⟩⟩
    ·have e:execOp a.eval o=(do pure (.value (<-Instr.buildSlice 35 1 #[(0,.int .i32 (x:Nat))]))):=by simp only[execOp,g,tE,kt,sR,zF,AF];rfl
     rw[e];exact xq (ak8 _ _)
    ·have e:execOp a.eval o=(do pure (.value (<-Instr.buildSlice 35 2 #[(0,.int .i32 (x:Nat)),(1,.int .i32 (y:Nat))]))):=by simp only[execOp,g,tE,kt,sR,zF,AF];rfl
     rw[e];exact xq (ak9 _ _ _)
    simp at i
   rw[p];refine Dc (v:=.agg #[.int .i32 (c:Nat),.int .i64 (k:Nat),.slice (some ⟨w.heap.size,0,none⟩) (m.length+1) (m.length+1)]) (w':=w.alloc (.cells (aM (x::m)).toArray aN)) u ?_ ?_
   ·have e:execOp (a.put (some t) (.slice (some ⟨w.heap.size,0,none⟩) (m.length+1) (m.length+1))).eval o'=(do pure (.value (<-Instr.build 196 #[(0,.int .i32 (c:Nat)),(1,.int .i64 (k:Nat)),(2,(a.put (some t) (.slice (some ⟨w.heap.size,0,none⟩) (m.length+1) (m.length+1))).eval (.tmp t))]))):=by simp only[execOp,n,tE,kt,sR];rfl
    rw[e,IG (by omega)];exact xq (adu _ _ _ _ _ _)
   rw[j];have:=ns w (.cells (aM (x::m)).toArray aN);refine yM T (t+2) l _ _ (λr q=>hm r (by simp[q])) b (by rw[mf,mf];omega) ?_;rw[this];exact h
def Pt (L:List (aG×Value)):Array (Nat×Value):=(L.zipIdx.map λx=>(x.2,Value.agg (dY x.1).toArray)).toArray
def Xc (n:Nat) (w:World):(Instr.buildSlice 146 121 (Pt (l_ n fo))).run prog w=.ok (.slice (some ⟨w.heap.size,0,none⟩) 121 121) (w.alloc (.cells ((l_ n fo).flatMap dY).toArray h_)):=by kernel_rfl
def slotL:Nat->List aG->List Nat
 | _,[]=>[]
 | t,⟨_,_,[]⟩::T=>t::slotL (t+1) T
 | t,⟨_,_,_::_⟩::T=>(t+1)::slotL (t+2) T
def Xd:List (Nat×Operand):=(slotL 1 fo).zipIdx.map λx=>(x.2,.tmp x.1)
def TA:Act:=⟨(Array.replicate 215 undef).setIfInBounds 0 (.slice none 0 0),[]⟩
def parts_eval (n:Nat):(Xd.map λx=>(x.1,(Ps 1 n fo TA).eval x.2)).toArray=Pt (l_ n fo):=by kernel_rfl
def yN:∀(T:List aG) (t n:Nat) (a:Act),(Ps t n T a).tmps.size=a.tmps.size/\(Ps t n T a).defers=a.defers
 | [],_,_,_=>⟨rfl,rfl⟩
 | ⟨c,k,[]⟩::T,t,n,a=>by
   have:=yN T (t+1) n (a.put (some t) (.agg #[.int .i32 (c:Nat),.int .i64 (k:Nat),.slice none 0 0]));exact⟨this.1.trans mf,this.2⟩
 | ⟨c,k,x::m⟩::T,t,n,a=>by
   have:=yN T (t+2) (n+1) ((a.put (some t) (.slice (some ⟨n,0,none⟩) (m.length+1) (m.length+1))).put (some (t+1)) (.agg #[.int .i32 (c:Nat),.int .i64 (k:Nat),.slice (some ⟨n,0,none⟩) (m.length+1) (m.length+1)]));exact⟨this.1.trans (mf.trans mf),this.2⟩
def II {ops:Array Oper} {Q:Exit->Act->World->Prop} {w:World} (s:(ops.toList.take 213).map prj=pX 1 fo)
 (c:(ops.toList.drop 213).map prj=[(some 214,.buildSlice 146 121 Xd.toArray,none),(some 0,.assign (.tmp 214),none)])
 (h:∀a,a.defers=[]->a.eval (.tmp 0)=.slice (some ⟨(jG fo w).heap.size,0,none⟩) 121 121->Q .normal a ((jG fo w).alloc (.cells ((l_ w.heap.size fo).flatMap dY).toArray h_))) :
 wpList prog ops Q ops.toList TA w:=by
 rw[<-ke 213 ops.toList];generalize ops.toList.drop 213=l2 at *;refine yM fo 1 _ _ w (by decide) s (by decide) ?_;rcases l2 with _|⟨o,_|⟨o',_|⟨_,_⟩⟩⟩
 ·simp at c
 ·simp at c
 ·simp only[kt,sR,pf,and_true] at c;obtain⟨m,d⟩:=c;simp only[prj,Prod.mk.injEq] at m d;obtain⟨r,n,q⟩:=m;obtain⟨j,f,g⟩:=d;have b:=yN fo 1 w.heap.size TA;have k:=parts_eval w.heap.size;have i:TA.tmps.size=215:=by decide
  have h0:TA.defers=[]:=rfl;rw[i,h0] at b;generalize Ps 1 w.heap.size fo TA=A at *;have l:=Xc w.heap.size (jG fo w);generalize Pt (l_ w.heap.size fo)=PX at *;generalize ((l_ w.heap.size fo).flatMap dY).toArray=CX at *;generalize jG fo w=W at *;refine Dc (v:=.slice (some ⟨W.heap.size,0,none⟩) 121 121) q (w':=W.alloc (.cells CX h_)) ?_ ?_
  ·have e:execOp A.eval o=(do pure (.value (<-Instr.buildSlice 146 121 PX))):=by
    simp only[execOp,n,tE];rw[<-k]
   rw[e];exact xq l
  rw[r];refine Dc (v:=.slice (some ⟨W.heap.size,0,none⟩) 121 121) g (w':=W.alloc (.cells CX h_)) ?_ ?_
  ·have p:(A.put (some 214) (.slice (some ⟨W.heap.size,0,none⟩) 121 121)).eval (.tmp 214)=_:=IG (by rw[b.1];decide);simp only[execOp,f,p];rfl
  rw[j];exact h _ b.2 (IG (by rw[mf,b.1];decide))
 simp at c
def Pv {w:World} :
 Calls prog 109 #[] w λe w'=>e=.returned (.slice (some ⟨(jG fo w).heap.size,0,none⟩) 121 121)/\w'=(jG fo w).alloc (.cells ((l_ w.heap.size fo).flatMap dY).toArray h_):=by
 go_enter func109,ntmps109;go_upto_region 1 with fail;refine wp_region_list ?_;refine II (by kernel_rfl) (by kernel_rfl) ?_;intro a hd b;go_wp2;refine bodyPost_ret (results_tmp rfl _ _ _) hd ?_;exact⟨congrArg _ b,rfl⟩
end
section
open Go.RowKit Go.Cd Go.Shelf _root_.Go.Proofs.Tryz
def vB:Array Value:=#[.int .i32 44032,.int .i32 55203,.string (tx [72,97,110,103,117,108,32,83,121,108,108,97,98,108,101]),.int .i32 55296,.int .i32 56191,.string (tx [78,111,110,32,80,114,105,118,97,116,101,32,85,115,101,32,72,105,103,104,32,83,117,114,114,111,103,97,116,101]),.int .i32 57344,.int .i32 63743,.string (tx [80,114,105,118,97,116,101,32,85,115,101])]
theorem Xe {w:World}:Calls prog 108 #[] w fun e w'=>e=.returned (.slice (some ⟨w.heap.size,0,none⟩) 3 3)∧w'=w.alloc (.cells vB 198):=by
 go_enter func108,ntmps108;go_wp2;go_ret;exact ⟨rfl,rfl⟩
theorem IJ {w w':World} {b k:Nat} {cs:Array Value} {T:TypeId} (h:Is w k cs T) (ho:Lib.OthersKept 5 (some b) w w') (hk:k≠b) (hT:T≠5):Is w' k cs T:=
 ⟨ho _ _ h.at_ (by simpa using hk) (fun c fz e=>hT (by injection e))⟩
theorem IK {w w':World} {b:Nat} {v:Value} {xs:List Value} {cs:Array Value} {T:TypeId} {e:TypeId} (h:Sl e w v xs) (ho:Lib.OthersKept 5 (some b) w w') (hb:w.heap[b]? = some (.cells cs T (0,0))) (hT:e≠T) (he:e≠5):Sl e w' v xs:=by
 obtain ⟨a,cap,hv,hc,h⟩:=h;refine ⟨a,cap,hv,hc,h.imp id ?_⟩;rintro ⟨b',off,cs',fr,ha,hh,hx⟩;refine ⟨b',off,cs',fr,ha,ho _ _ hh ?_ (fun c fz e1=>he (by injection e1)),hx⟩;intro e1;injection e1 with e1;subst e1;rw [hb] at hh;injection hh with hh;injection hh with _ hh;exact hT hh.symm
structure Xf (w0:World) (L:List (aG×Value)) (sb tb:Nat) (w:World) (out:List UInt8):Prop where
 bui:pW w0.heap.size w0.heap.size out w
 sp:Is w sb vB 198
 tab:Is w tb (L.flatMap dY).toArray h_
 maps:∀q∈L,Sl aN w q.2 (aM q.1.map)
 below:Below w0.heap.size w0 w
section
variable {w0 w w' : World} {L : List (aG × Value)} {sb tb : Nat} {out : List UInt8}
theorem Xf.size (h:Xf w0 L sb tb w out):w0.heap.size<=w.heap.size:=h.below.size
theorem Xf.mono (h:Xf w0 L sb tb w out) (hb:Below w.heap.size w w'):Xf w0 L sb tb w' out:=
 ⟨h.bui.below hb,h.sp.mono hb,h.tab.mono hb,fun q hq=>(h.maps q hq).mono hb,af h.below (hb.mono (gw _))⟩
theorem Xf.write (h:Xf w0 L sb tb w out) (hs:sb≠w0.heap.size) (ht:tb≠w0.heap.size) {s:List UInt8} (hb:pW w0.heap.size w0.heap.size (out++s) w') (hB:Below w0.heap.size w w') (ho:Lib.OthersKept 5 (some w0.heap.size) w w'):Xf w0 L sb tb w' (out++s):=by
 obtain ⟨v,hv⟩:∃v:Array Value,w.heap[w0.heap.size]? = some (.cells v 191 (0,0)):=by
  rcases h.bui with ⟨_,v,hv,_⟩|⟨_,v,hv,_⟩ <;> exact ⟨_,hv⟩
 exact ⟨hb,IJ h.sp ho hs (by decide),IJ h.tab ho ht (by decide),fun q hq=>IK (h.maps q hq) ho hv (by decide) (by decide),h.below.trans hB⟩
end
theorem Dg:∀s∈fF,s.2.2.length<=100:=by decide
theorem aaK:∀k (hk:k<3),vB[k*3]? = some (.int .i32 ((fF[k]'hk).1:Nat))∧vB[k*3+1]? = some (.int .i32 ((fF[k]'hk).2.1:Nat))∧vB[k*3+2]? = some (.string (tx (fF[k]'hk).2.2))∧(fF[k]'hk).1<1114112∧(fF[k]'hk).2.1<1114112∧(fF[k]'hk).2.2.length<=100
 | 0,_=>⟨rfl,rfl,rfl,(by decide:44032<1114112),(by decide:55203<1114112),Dg _ (gx _)⟩
 | 1,_=>⟨rfl,rfl,rfl,(by decide:55296<1114112),(by decide:56191<1114112),Dg _ (gx _)⟩
 | 2,_=>⟨rfl,rfl,rfl,(by decide:57344<1114112),(by decide:63743<1114112),Dg _ (gx _)⟩
def Xg:Value->Nat
 | .slice _ n _=>n
 | _=>0
theorem pW.block {B b:Nat} {l:List UInt8} {w:World} (h:pW B b l w):∃v:Array Value,w.heap[b]? = some (.cells v 191 (0,0)):=by
 rcases h with ⟨_,v,hv,_⟩|⟨_,v,hv,_⟩ <;> exact ⟨_,hv⟩
theorem Mq (c:Nat) (nm e:List UInt8) (h1:nm.length<=100) (h2:e.length<=100):(abh c nm e).length<=300:=by
 have:=(bU c).2;unfold abh;simp only [d',hU,ki];omega
theorem pW.new {w:World}:pW w.heap.size w.heap.size [] (w.alloc (.cells #[.pointer none,.slice none 0 0] 191)):=
 .inl ⟨gw _,.slice none 0 0,heap_alloc_new _ _,World.ownsRowF_of (iu _ _ _ _),by simp [Value.ownBlock]⟩
theorem TD {w:World} (hG:dL w) :
 Calls prog 72 #[] w fun e w'=>e=.returned (.string (tx (Ah fo 0)))∧Below w.heap.size w w':=by
 have Qq:=aa (fun (W:World) (E:Below w.heap.size w W)=>hG.mono E);obtain ⟨w1,hw1⟩:=ae (w.alloc (.cells #[.pointer none,.slice none 0 0] 191));have hb1:=aO hw1;have u1:pW w.heap.size w.heap.size [] w1:=by rw [hw1];exact pW.new
 have hz1:w1.heap.size=w.heap.size+1:=by rw [hw1];simp
 have SP:=aa (Xe (w:=w1));have TB:=aa (fun W=>Pv (w:=W));clear hG;go_enter func72,ntmps72;go_wp2_with fail;rw [<-hw1];clear hw1;refine SP.out.mono ?_;rintro e w2 ⟨rfl,hw2⟩;have hb2:=aO hw2;have s2:Is w2 w1.heap.size vB 198:=by rw [hw2];exact Is.new _ _ _
 have hz2:w2.heap.size=w1.heap.size+1:=by rw [hw2];simp
 clear hw2 SP;go_wp2_with fail;refine (TB.out w2).mono ?_;rintro e w3 ⟨rfl,hw3⟩;obtain ⟨L,hL⟩:=ae (l_ w2.heap.size fo);obtain ⟨tb,htb⟩:=ae ((jG fo w2).heap.size);obtain ⟨sb,hsb⟩:=ae (w.heap.size+1);have hLf:L.map (·.1)=fo:=by rw [hL];exact yL _ _
 have hbw:Below w2.heap.size w2 (jG fo w2):=kR _ _;have hb3:Below w2.heap.size w2 w3:=by rw [hw3];exact af hbw (ah _)
 have X3:Xf w L sb tb w3 []:=by
  refine ⟨(u1.below hb2).below hb3,(show Is w2 sb vB 198 by rw [hsb,<-hz1];exact s2).mono hb3,?_,?_,af hb1 (af hb2 hb3)⟩
  ·rw [hw3,<-hL,htb];exact Is.new _ _ _
  ·intro q hq;have:=De fo w2 q (hL▸hq);rw [hw3];exact this.mono (ah _)
 have htw:tb≠w.heap.size:=by have:=hbw.size;omega
 have hsw:sb≠w.heap.size:=by omega
 rw [<-htb,<-hsb];have adw:Hid (∃tot,tot=Ah fo 0∧tot.length<10000):=aa ⟨_,rfl,by rw [IE];exact Xa⟩;clear hw3 hL htb hsb hbw hb1 hb2 hb3 u1 s2 hz1 hz2 TB;go_wp2_with fail;go_loopw [2,4,8] (fun lv _ jv wr=>∃(j k:Nat) (out:List UInt8) (a:Option Addr),j<=121∧jv=.int .i64 j∧k<=3∧lv=.slice a (3-k) (3-k)∧(k<3->a=some ⟨sb,k*3,none⟩)∧Xf w L sb tb wr out∧out++Ah (fo.drop j) k=Ah fo 0) (fun _ _ jv _=>121-(intOf jv).toNat)
 case atStart=>exact ⟨0,0,[],_,by omega,rfl,by omega,rfl,fun _=>rfl,X3,rfl⟩
 case round=>
  clear X3;obtain ⟨j,k,out,a,hj,rfl,hk,rfl,hka,hX,hout⟩:=hrel;by_cases hjn:j<121
  ·have zj:decide ((j:Int)<121)=true:=by simp;omega
   have hjL:j<L.length:=by have:=congrArg List.length hLf;rw [ia] at this;rw [this];exact hjn
   have hjR:j<fo.length:=hjn;have Qr:L[j].1=fo[j]:=by simp [<-hLf]
   have hfl:=vV dY 3 Bu L j hjL;have e0:=hX.tab.at (j*3) (show (L.flatMap dY).toArray[j*3]? = some (.int .i32 (L[j].1.code:Nat)) by have:=hfl 0 (by decide);simpa [dY] using this);have e1:=hX.tab.at (j*3+1) (show (L.flatMap dY).toArray[j*3+1]? = some (.int .i64 (L[j].1.cls:Nat)) by have:=hfl 1 (by decide);simpa [dY] using this);have e2:=hX.tab.at (j*3+2) (show (L.flatMap dY).toArray[j*3+2]? = some L[j].2 by have:=hfl 2 (by decide);simpa [dY] using this);have hms:=hX.maps _ (gx hjL);rw [Qr] at e0 e1 hms;have hd:fo.drop j=fo[j]::fo.drop (j+1):=iz hjR;have lQ:=QJ _ (gx hjR);rw [hd] at hout;generalize fo[j]=r at *;obtain ⟨ma,mc,hmv,_,_⟩:=id hms;rw [hmv] at e2 hms;obtain ⟨ml,kz⟩:=ae ((aM r.map).length);rw [<-kz] at e2 hms;have Uy:=aa hms;clear hfl hd Qr hmv kz hms;have hro:Bq r:=⟨lQ.1.1,lQ.2.1,lQ.2.2.1,fun c hc=>((lQ.2.2.2.2 c hc).2).1⟩;have HRO:=aa hro;obtain ⟨w4,hw4⟩:=ae (wr.alloc (.cells #[.int .i32 (r.code:Nat),.int .i64 (r.cls:Nat),.slice ma ml mc] h_));have hb4:=aO hw4;have p4:=Is.nw hw4;have X4:=hX.mono hb4
   have hrw:wr.heap.size≠w.heap.size:=by have:=hX.bui;have:w.heap.size<wr.heap.size:=by rcases this with ⟨_,v,hv,_⟩|⟨_,v,hv,_⟩ <;> exact block_lt hv
                                         omega
   have agP:=aa (Uy.out.mono hb4);have hcode:=hro.code;clear lQ hro hX Uy;go_wp2_with fail;rw [<-hw4];obtain ⟨rb,hrb⟩:=ae wr.heap.size;rw [<-hrb] at p4 hrw ⊢;clear hw4 e0 e1 e2 hb4 hrb;go_loopw [2] (fun lv w5=>∃(k:Nat) (out:List UInt8) (a:Option Addr),k<=3∧lv=.slice a (3-k) (3-k)∧(k<3->a=some ⟨sb,k*3,none⟩)∧Xf w L sb tb w5 out∧out++Ah (r::fo.drop (j+1)) k=Ah fo 0∧Is w5 rb #[.int .i32 (r.code:Nat),.int .i64 (r.cls:Nat),.slice ma ml mc] h_∧Sl aN w5 (.slice ma ml mc) (aM r.map)) (fun lv _=>Xg lv)
   case atStart=>exact ⟨k,out,a,hk,rfl,hka,X4,hout,p4,agP.out⟩
   case round=>
    clear X4 p4 agP hout hka hk;obtain ⟨k,out,a,hk,rfl,hka,hX,hout,p5,hms⟩:=hrel;have TE:=aa hms;clear hms;have f0:=p5.at 0 rfl;have f1:=p5.at 1 rfl;have f2:=p5.at 2 rfl;by_cases hk3:k<3
    ·obtain rfl:=hka hk3;obtain ⟨s0,s1,s2,q1,q2,q3⟩:=aaK k hk3;have c0:=hX.sp.at _ s0;have c1:=hX.sp.at _ s1;have c2:=hX.sp.at _ s2;have zn:decide ((0:Int)<((3-k:Nat):Int))=true:=by simp;omega
     have hn1:1<=3-k:=by omega
     have hsp:=W_ (r:=r) (T:=fo.drop (j+1)) (k:=k) hk3;have hrow:=QL (r:=r) (T:=fo.drop (j+1)) (k:=k);obtain ⟨sp,adx⟩:=ae (fF[k]);have hrow':¬sp.1<r.code->Ah (r::fo.drop (j+1)) k=(eu [88] r++[10])++Ah (fo.drop (j+1)) k:=fun h=>hrow (fun _=>adx▸h);rw [<-adx] at c0 c1 c2 q1 q2 q3 hsp;clear s0 s1 s2 adx hrow;by_cases hlt:sp.1<r.code
     ·have zc:decide ((sp.1:Int)<(r.code:Int))=true:=by simp;omega
      obtain ⟨n,hn⟩:=ae (3-k);rw [<-hn] at zn hn1 ⊢;have HN:=aa hn;have zn2:decide (0<n)=true:=by simp;omega
      clear hn;go_upto_region 6 with fail;have g0:=Gr.cell (ag wr) c0;have g1:=Gr.cell (ag wr) f0;refine aC (Array.replicate 12 true) 12 0 mixed ?_;refine ay [0,1,2,3,4,5,6,7,8,9,10,11] 0 ?_
      iterate 12 (refine aA rfl ?_;go_big_quiet_step (rfl))
      refine az ?_;refine aJ [] ?_;refine tail_nil ?_;clear g0 g1;have X5:=hX.mono (ag wr);have p6:=p5.mono (ag wr);have Mr:=aa (TE.out.mono (ag wr));have g0:=Gr.cell (ag wr.drew) (aB (ag wr) c0);have g1:=Gr.cell (ag wr.drew) (aB (ag wr) c1);have g2:=Gr.cell (ag wr.drew) (aB (ag wr) c2);clear hX p5 TE c0 c1 c2 f0 f1 f2;generalize wr.drew=w5 at *;go_upto_region 7 with fail;have SL:Hid (∀(W:World),Below w.heap.size w W->Calls prog 111 #[.agg #[.int .i32 (sp.1:Nat),.int .i32 (sp.2.1:Nat),.string (tx sp.2.2)],.int .i32 (sp.1:Nat),.string ⟨#[70,105,114,115,116]⟩] W fun e' w'=>e'=.returned (.string (tx (abh sp.1 sp.2.2 [70,105,114,115,116])))∧Below W.heap.size W w'):=
       aa fun W E=>zW (Qq.out W E) sp.1 q1 _ _ sp.2.2 [70,105,114,115,116] q3 (by decide)
      have SM:Hid (∀(W:World),Below w.heap.size w W->Calls prog 111 #[.agg #[.int .i32 (sp.1:Nat),.int .i32 (sp.2.1:Nat),.string (tx sp.2.2)],.int .i32 (sp.2.1:Nat),.string ⟨#[76,97,115,116]⟩] W fun e' w'=>e'=.returned (.string (tx (abh sp.2.1 sp.2.2 [76,97,115,116])))∧Below W.heap.size W w'):=
       aa fun W E=>zW (Qq.out W E) sp.2.1 q2 _ _ sp.2.2 [76,97,115,116] q3 (by decide)
      have hl1:(tx (abh sp.1 sp.2.2 [70,105,114,115,116])).size<=300:=by rw [aX];exact Mq _ _ _ q3 (by decide)
      have hl2:(tx (abh sp.2.1 sp.2.2 [76,97,115,116])).size<=300:=by rw [aX];exact Mq _ _ _ q3 (by decide)
      have HST:=aa (show tx (abh sp.1 sp.2.2 [70,105,114,115,116])++tx (abh sp.2.1 sp.2.2 [76,97,115,116])=tx (Gi sp) by rw [dA];rfl);generalize tx (abh sp.1 sp.2.2 [70,105,114,115,116])=t1 at *;generalize tx (abh sp.2.1 sp.2.2 [76,97,115,116])=t2 at *;have hlo:out.length+(Gi sp).length<=1000000:=by
       obtain ⟨tot,h1,h2⟩:=adw.out;rw [hsp hlt,<-h1] at hout;have:=congrArg List.length hout;simp only [d'] at this;omega
      refine aC #[true,true,true,true,true,true,true,true,true,true,true,true,true,true,true,true,true,false] 17 1 mixed ?_;refine ay [0,1,2,3,4,5,6,8,9,10,11,12,13,14] 3 ?_
      iterate 14 (refine aA rfl ?_;go_big_quiet_step (rfl))
      refine az ?_;refine aI 7 ?_;clear g0 g1 g2;have X6:=X5.mono (ag w5);have p7:=p6.mono (ag w5);have agQ:=aa (Mr.out.mono (ag w5));clear X5 p6 Mr;generalize w5.drew=w6 at *;go_wp2_with fail;refine (SL.out _ X6.below).mono ?_;rintro e w7 ⟨rfl,h7⟩;go_wp2_with fail;refine aF h7 ?_;refine aI 15 ?_;go_wp2_with fail;refine (SM.out _ (X6.mono h7).below).mono ?_;rintro e w8 ⟨rfl,h8⟩;go_wp2_with fail;refine aF h8 ?_;refine ay [16] 0 ?_
      iterate 1 (refine aA rfl ?_;go_big_quiet_step (rfl))
      refine az ?_;refine aJ [17] ?_;refine uO (os:=[_]) rfl ?_;have X8:=X6.mono (af h7 h8);have p8:=p7.mono (af h7 h8);have agR:=aa (agQ.out.mono (af h7 h8));have WS:=aa (jb X8.bui (Gi sp) hlo X8.size);rw [<-HST.out] at WS;go_wp2_with fail;refine WS.out.mono ?_;rintro e w9 ⟨rfl,kT,o_,TF⟩;obtain ⟨bv,hbv⟩:=X8.bui.block;have X9:=X8.write hsw htw kT o_ TF;have p9:=IJ p8 TF hrw (by decide);have agS:=aa (IK agR.out TF hbv (by decide) (by decide));clear X6 p7 agQ h7 h8 X8 p8 agR kT o_ TF hbv WS SL SM;go_wp2_with fail;refine uP ?_;have Gj:=aa (show (out++Gi sp)++Ah (r::fo.drop (j+1)) (k+1)=Ah fo 0 from by rw [kc,<-hsp hlt];exact hout);have hk9:=aa (show 3-(k+1)=n-1 by have:=HN.out;omega);clear hout hsp hrow' hlo;by_cases hn1':n=1
      ·subst hn1';go_wp2;go_roundw
       case rel=>exact ⟨k+1,_,_,by omega,by rw [hk9.out],fun h=>absurd HN.out (by omega),X9,Gj.out,p9,agS.out⟩
       case measure=>simp [Xg]
      ·have hz:¬n-1=0:=by omega
       go_wp2;go_roundw
       case rel=>exact ⟨k+1,_,_,by omega,by rw [hk9.out],fun h=>by rw [l3],X9,Gj.out,p9,agS.out⟩
       case measure=>simp [Xg];omega
     ·have zc:decide ((sp.1:Int)<(r.code:Int))=false:=by simp;omega
      have Dh:=hrow' hlt;obtain ⟨n,hn⟩:=ae (3-k);rw [<-hn] at zn hn1 ⊢;have zn2:decide (0<n)=true:=by simp;omega
      have g0:=Gr.cell (ag wr) c0;have g1:=Gr.cell (ag wr) f0;have HN:=aa hn;clear hn;go_upto_region 6 with fail;refine aC (Array.replicate 12 true) 12 0 mixed ?_;refine ay [0,1,2,3,4,5,6,7,8,9,10,11] 0 ?_
      iterate 12 (refine aA rfl ?_;go_big_quiet_step (rfl))
      refine az ?_;refine aJ [] ?_;refine tail_nil ?_;clear g0 g1 c0 c1 c2 hsp hrow';have X5:=hX.mono (ag wr);have p6:=p5.mono (ag wr);have Mr:=aa (TE.out.mono (ag wr));clear hX p5 TE f0 f1 f2;generalize wr.drew=w5 at *;have RL:=aa (Db (Qq.out _ X5.below) r HRO.out Mr.out.any);have HT:=aa (show tx (eu [88] r)++(⟨#[10]⟩:ByteArray)=tx (eu [88] r++[10]) from dA _ [10]);have hll:=kU (nm:=[88]) (r:=r) ⟨by simp,by unfold eH;decide⟩ HRO.out.cls HRO.out.len;have hl1:(tx (eu [88] r)).size<=100:=by rw [aX];exact hll
      have hl2:(⟨#[10]⟩:ByteArray).size=1:=rfl;generalize tx (eu [88] r)=t1 at *;have hlo:out.length+(eu [88] r++[10]).length<=1000000:=by
       obtain ⟨tot,h1,h2⟩:=adw.out;rw [Dh,<-h1] at hout;have:=congrArg List.length hout;simp only [d'] at this;rw [d'];omega
      have Gj:=aa (show (out++(eu [88] r++[10]))++Ah (fo.drop (j+1)) k=Ah fo 0 from by rw [kc,<-Dh];exact hout);have f0:=p6.at 0 rfl;have f1:=p6.at 1 rfl;have f2:=p6.at 2 rfl;clear hout Dh;go_wp2_with fail;refine RL.out.mono ?_;rintro e w7 ⟨rfl,h7⟩;have X7:=X5.mono h7;have WS:=aa (jb X7.bui (eu [88] r++[10]) hlo X7.size);rw [<-HT.out] at WS;clear X5 p6 Mr f0 f1 f2 RL h7;go_wp2_with fail;refine WS.out.mono ?_;rintro e w9 ⟨rfl,kT,o_,TF⟩;have X9:=X7.write hsw htw kT o_ TF;clear WS X7 kT o_ TF;go_wp2;go_roundw
      case rel=>exact ⟨j+1,k,_,_,by omega,by simp,hk,by rw [HN.out],fun _=>rfl,X9,Gj.out⟩
      case measure=>simp [intOf];omega
    ·have hk0:k=3:=by omega
     subst hk0;have Dh:=QL (r:=r) (T:=fo.drop (j+1)) (k:=3) (fun h=>absurd h (by decide));have z33:(3-3:Nat)=0:=rfl;have zz:decide ((0:Int)<((0:Nat):Int))=false:=by decide
     rw [z33];clear hka;go_upto_region 6 with fail;refine aC (Array.replicate 12 true) 12 0 mixed ?_;refine ay [0,1,2,3,4,5,6,7,8,9,10,11] 0 ?_;refine bC ?_
     iterate 12 (refine aZ rfl ?_)
     refine bD ?_
     iterate 12 (go_big_quiet_step (rfl))
     refine az ?_;refine aJ [] ?_;refine tail_nil ?_;have X5:=hX.mono (ag wr);have p6:=p5.mono (ag wr);have Mr:=aa (TE.out.mono (ag wr));clear hX p5 TE f0 f1 f2;generalize wr.drew=w5 at *;have RL:=aa (Db (Qq.out _ X5.below) r HRO.out Mr.out.any);have HT:=aa (show tx (eu [88] r)++(⟨#[10]⟩:ByteArray)=tx (eu [88] r++[10]) from dA _ [10]);have hll:=kU (nm:=[88]) (r:=r) ⟨by simp,by unfold eH;decide⟩ HRO.out.cls HRO.out.len;have hl1:(tx (eu [88] r)).size<=100:=by rw [aX];exact hll
     have hl2:(⟨#[10]⟩:ByteArray).size=1:=rfl;generalize tx (eu [88] r)=t1 at *;have hlo:out.length+(eu [88] r++[10]).length<=1000000:=by
      obtain ⟨tot,h1,h2⟩:=adw.out;rw [Dh,<-h1] at hout;have:=congrArg List.length hout;simp only [d'] at this;rw [d'];omega
     have Gj:=aa (show (out++(eu [88] r++[10]))++Ah (fo.drop (j+1)) 3=Ah fo 0 from by rw [kc,<-Dh];exact hout);have f0:=p6.at 0 rfl;have f1:=p6.at 1 rfl;have f2:=p6.at 2 rfl;clear hout Dh;go_wp2_with fail;refine RL.out.mono ?_;rintro e w7 ⟨rfl,h7⟩;have X7:=X5.mono h7;have WS:=aa (jb X7.bui (eu [88] r++[10]) hlo X7.size);rw [<-HT.out] at WS;clear X5 p6 Mr f0 f1 f2 RL h7;go_wp2_with fail;refine WS.out.mono ?_;rintro e w9 ⟨rfl,kT,o_,TF⟩;have X9:=X7.write hsw htw kT o_ TF;clear WS X7 kT o_ TF;go_wp2;go_roundw
     case rel=>exact ⟨j+1,3,_,_,by omega,by simp,by omega,rfl,fun h=>absurd h (by decide),X9,Gj.out⟩
     case measure=>simp [intOf];omega
  ·have zj:decide ((j:Int)<121)=false:=by simp;omega
   obtain rfl:j=121:=by omega
   have hd:fo.drop 121=[]:=rS (by decide);rw [hd] at hout;have hout:out=Ah fo 0:=by rw [<-hout];simp [Ah]
   have hne:out≠[]:=by rw [hout,IE];decide +kernel
   have ST:=aa (Da hX.bui hne);have HO:=aa hout;have hbx:=hX.below;clear hout hne hd hX;go_wp2_with fail;refine ST.out.mono ?_;rintro e w9 ⟨rfl,o_⟩;go_wp2;go_ret;exact ⟨by rw [<-HO.out];rfl,hbx.trans o_⟩
end
open Go.RowKit Go.Cd Go.Shelf _root_.Go.Proofs.Tryz
abbrev Pw:TypeId:=325
def aaL:mV prog 322 Pw (.agg #[.int .i32 0,.int .i32 0]) 2 8:=⟨rfl,underlying322,info_parts (by kernel_rfl)⟩
def IL (p:Nat×Nat):List Value:=[.int .i32 (p.1:Nat),.int .i32 (p.2:Nat)]
def xu (p:Nat×Nat):List Nat:=[p.1,p.2+1]
def Ms (p:Nat×Nat):(xu p).length=2:=rfl
def Mt (p:Nat×Nat):(IL p).length=2:=rfl
def Mv {w:World} {v:Value} (R:List (Nat×Nat)) (N:bG w v (aM (R.flatMap xu))) (hl:R.length<1000) (J:∀p∈R,p.1<1114112/\p.2<1114112) :
 Calls prog 201 #[.agg #[v]] w λe w'=>∃r,e=.returned r/\w'.ownsRow w.heap.size Pw 2 r R.length (R.flatMap IL)/\Below w.heap.size w w':=by
 obtain⟨a,cap,rfl,_,P⟩:=Go.Cd.bG.nN N rfl;have g:=vW xu 2 Ms R;have L:=aa P;have HR:=aa J;obtain⟨n,C⟩:=ae ((R.flatMap xu).length);rw[<-C] at g⊢;obtain⟨D,d⟩:=ae (w.alloc (.cells #[.slice a n cap] 148));have B:=aO d;have S:=Is.nw d;have ac:D.heap.size=w.heap.size+1:=by rw[d];simp
 have O:=aa C;have z:=aa g;have rW:n<2000:=by omega
 clear P J N C g;go_enter func201,ntmps201;go_wp2_with fail;rw[<-d];clear d;go_loopw [3,4] (λY E wr=>∃j:Nat,j<=R.length/\E=.int .i64 (j*2:Nat)/\wr.ownsRow (w.heap.size+1) Pw 2 Y j ((R.take j).flatMap IL)/\Below (w.heap.size+1) D wr) (λ_ E _=>n-(intOf E).toNat)
 case atStart=>exact⟨0,gW _,rfl,iu _ _ _ _,gO _ _⟩
 case round=>
  obtain⟨j,hj,rfl,y,A⟩:=hrel;have T:=S.low A (sB _);have e0:wr.cell? ⟨w.heap.size,0,none⟩=some (.slice a n cap):=T.at 0 rfl;have f:Below w.heap.size w wr:=B.trans (A.mono (pj _));obtain⟨i,s⟩:=ae (j*2);rw[<-s];by_cases h:j<R.length
  ·have zj:decide (i<n)=true:=by have:=z.out;simp;omega
   have ad:i+1<n:=by have:=z.out;omega
   have k:i<(R.flatMap xu).length:=by have:=O.out;omega
   have c:i+1<(R.flatMap xu).length:=by have:=O.out;omega
   obtain⟨b,off,rfl,_,q⟩:=L.out i k;obtain⟨b',K,l,_,u⟩:=L.out (i+1) c;injection l with l;injection l with t x;subst t;subst x;have m:=vV xu 2 Ms R j h;have Q:(R.flatMap xu)[i]=R[j].1:=by
    have:=m 0 (by decide);rw[sE,<-s,gA k] at this;exact mL this
   have H:(R.flatMap xu)[i+1]=R[j].2+1:=by
    have:=m 1 (by decide);rw[<-s,gA c] at this;exact mL this
   rw[Q] at q;rw[H] at u;have hp:=HR.out _ (gx h);have M:=aa (show(R.take (j+1)).flatMap IL=(R.take j).flatMap IL++IL R[j] by rw[gE h,jj];simp);obtain⟨p,o⟩:=ae (R[j]);rw[<-o] at q u hp M;have q:=aB f q;have u:=aB f u;have z1:IntKind.i32.wrap (((p.2+1:Nat):Int)-1)=(p.2:Nat):=by rw[xf];omega
   have z2:IntKind.i64.wrap ((i:Int)+1)=((i+1:Nat):Int):=by rw[pw];omega
   have HI:=aa s;have HO:=aa y;clear Q H m k c o s y;go_upto_region 5 with fail;have g0:=Gr.cell (ag wr) e0;have X:=Gr.cell (ag wr) q;have g2:=Gr.cell (ag wr) u;refine aC #[true,true,true,true,true,true,true,true,true,true,true,true,true,true,true,false,false] 15 2 mixed ?_;refine ay [0,1,2,3,4,5,6,7,8,9,10,11,12,13] 1 ?_
   iterate 14 (refine aA rfl ?_;go_big_quiet_step (rfl))
   refine az ?_;refine aI 14 ?_;clear g0 X g2;have ab:=ag wr;go_wp2_with fail;refine aF (ah _) ?_;refine aJ [15,16] ?_;refine uO (os:=[_,_]) rfl ?_;have V:=A.size;refine Bt (W:=wr.drew) rfl _ _ 322 rfl (w.heap.size+1) Pw _ 2 8 aaL (by decide) (by decide) u3 j _ rfl (aH HO.out (ag wr)) #[.int .i32 (p.1:Nat),.int .i32 (p.2:Nat)] rfl rfl (by simp[Value.oneCell']) (by omega) (by show w.heap.size+1<=wr.heap.size;omega) ?_;intro Z I G o_ _;have F:=aa (show I.ownsRow (w.heap.size+1) Pw 2 Z (j+1) ((R.take (j+1)).flatMap IL) from by rw[M.out];exact G);clear G;have U:Below (w.heap.size+1) D I:=A.trans ((((ag wr).mono (by omega)).trans ((ah _).mono (by show w.heap.size+1<=wr.heap.size;omega))).trans o_);have z3:IntKind.i64.wrap ((i:Int)+2)=((i+2:Nat):Int):=by rw[pw];omega
   go_wp2_with fail;refine uP ?_;go_wp2;go_roundw
   case rel=>exact⟨j+1,by omega,by have:=HI.out;congr 1;omega,F.out,U⟩
   case measure=>simp[intOf];omega
  have zj:decide ((i:Int)<(n:Int))=false:=by have:=z.out;simp;omega
  have af:¬i<n:=by have:=z.out;omega
  obtain rfl:j=R.length:=by omega
  rw[kO] at y;go_wp2;go_ret;exact⟨_,rfl,aT y (pj _),f⟩
def vC (p:Nat×Nat):List Nat:=List.range' p.1 (p.2+1-p.1)
def Ef {w:World} {v:Value} (R:List (Nat×Nat)) (K:bG w v (aM (R.flatMap xu))) (J:R.length<1000) (I:∀p∈R,p.1<1114112/\p.2<1114112/\p.1<=p.2) :
 Calls prog 161 #[.agg #[v]] w λe w'=>∃r,e=.returned r/\w'.ownsRow w.heap.size aN 1 r (R.flatMap vC).length (aM (R.flatMap vC))/\Below w.heap.size w w':=by
 obtain⟨a,cap,rfl,_,_⟩:=Go.Cd.bG.nN K rfl;obtain⟨n,hn⟩:=ae ((R.flatMap xu).length);rw[<-hn] at K⊢;obtain⟨w1,h⟩:=ae (w.alloc (.cells #[.slice a n cap] 148));have s:=aO h;have k1:=Is.nw h;have V:w1.heap.size=w.heap.size+1:=by rw[h];simp
 have RA:=aa (Mv R (K.mono s) J (λp z=>⟨(I p z).1,(I p z).2.1⟩));have HR:=aa I;have e0:w1.cell? ⟨w.heap.size,0,none⟩=some (.slice a n cap):=k1.at 0 rfl;clear K I hn k1;go_enter func161,ntmps161;go_wp2_with fail;rw[<-h];clear h;refine RA.out.mono ?_;rintro e b⟨r,rfl,Q,C⟩;have d:=af s C;obtain⟨ra,rc,rfl,_,_⟩:=ak Q;have U:=aa Q;clear RA e0 Q C V s;go_wp2_with fail;go_loopw [3,10] (λY X wr=>∃j:Nat,j<=R.length/\X=.int .i64 j/\wr.ownsRow b.heap.size aN 1 Y ((R.take j).flatMap vC).length (aM ((R.take j).flatMap vC))/\Below b.heap.size b wr/\((R.take j).flatMap vC).length<=1200000*j) (λ_ X _=>R.length-(intOf X).toNat)
 case atStart=>exact⟨0,gW _,rfl,iu _ _ _ _,gO _ _,by simp⟩
 case round=>
  obtain⟨j,hj,rfl,i,o,D⟩:=hrel;by_cases t:j<R.length
  ·have zj:decide ((j:Int)<(R.length:Int))=true:=by simp;omega
   obtain⟨g,rfl⟩:∃g,ra=some ⟨g,0,none⟩:=by
    rcases U.out.2 with⟨L,h2⟩|⟨g,_,_,L,_⟩
    ·have h2:R.length=0:=h2;omega
    injection L with L;exact⟨g,L⟩
   have x:=vV IL 2 Mt R j t;have P:=vW IL 2 Mt R;have T:=aB o ((U.out.cellAt (j*2) (by omega)).trans ((x 0 (by decide)).trans rfl));have Z:=aB o ((U.out.cellAt (j*2+1) (by omega)).trans ((x 1 (by decide)).trans rfl));have z:=HR.out _ (gx t);have A:=aa (show(R.take (j+1)).flatMap vC=(R.take j).flatMap vC++vC R[j] by rw[gE t,jj];simp);obtain⟨p,E⟩:=ae (R[j]);rw[<-E] at T Z z A;obtain⟨S,hS⟩:=ae ((R.take j).flatMap vC);rw[<-hS] at i D A;obtain⟨m,H⟩:=ae (p.2+1-p.1);have G:vC p=List.range' p.1 m:=by rw[H];rfl
   rw[G] at A;obtain⟨f,hf⟩:=ae p.1;obtain⟨l,J⟩:=ae p.2;rw[<-hf] at A H z T;rw[<-J] at H z Z;obtain⟨w4,k⟩:=ae (wr.alloc (.cells #[.int .i32 (f:Nat),.int .i32 (l:Nat)] Pw));have u:=aO k;have M:=Is.nw k;have o4:=aH i u;have lN:Below b.heap.size b w4:=af o u;have O:=aa H;have:m<=1200000:=by omega
   have:S.length+1200000<=1200000*(j+1):=by omega
   have f0:=M.at 0 rfl;clear i x P hS G H hf J E;go_wp2_with fail;rw[<-k];obtain⟨rb,F⟩:=ae wr.heap.size;rw[<-F] at M⊢;clear k T Z u F f0;go_loopw [3,6] (λY N wr=>∃q c:Nat,q<=m/\c=f+q/\N=.int .i32 c/\wr.ownsRow b.heap.size aN 1 Y (S.length+q) (aM (S++List.range' f q))/\Below b.heap.size b wr/\Is wr rb #[.int .i32 (f:Nat),.int .i32 (l:Nat)] Pw) (λ_ N _=>f+m-(intOf N).toNat)
   case atStart=>exact⟨0,f,gW _,rfl,rfl,by simpa using o4,lN,M⟩
   case round=>
    clear o4 lN M;obtain⟨q,c,hq,hc,rfl,i,o,pr⟩:=hrel;have:=pr.at 1 rfl;have B:=aa hc;clear hc;by_cases ac:q<m
    ·have W:c<=l:=by have:=O.out;have:=B.out;omega
     have zc:decide ((c:Int)<=(l:Int))=true:=by simp;omega
     have:IntKind.i32.wrap ((c:Int)+1)=((c+1:Nat):Int):=by rw[xf];have:=O.out;have:=B.out;omega
     have HS:=aa (show aM (S++List.range' f (q+1))=aM (S++List.range' f q)++[.int .i32 (c:Nat)] by
      rw[List.range'_concat,<-kc,B.out];simp[aM])
     have Yi:=aa i;have hs:=o.size;clear i
     go_wp2_with (
      refine f_ rfl _ _ 35 rfl b.heap.size aN _ 4 bW u3 (S.length+q) _ rfl Yi.out (.int .i32 (c:Nat)) rfl rfl (by omega) (by unfold maxLen;omega) wr (gO _ _) hs ?_;intro v1 w9 o9 o_ oA Dw;have y:=aa (show w9.ownsRow b.heap.size aN 1 v1 (S.length+(q+1)) (aM (S++List.range' f (q+1))) from by rw[HS.out];exact o9);have p9:=(pr.mono (ah _)).grown Dw ((pr.mono (ah _)).other oA (by decide))
      clear o9 Dw oA)
     go_roundw
     case rel=>exact⟨q+1,c+1,by omega,by have:=B.out;omega,by simp,y.out,o.trans o_,p9⟩
     case measure=>have:=B.out;simp[intOf];omega
    have W:¬c<=l:=by have:=O.out;have:=B.out;omega
    have zc:decide ((c:Int)<=(l:Int))=false:=by simp;omega
    obtain rfl:q=m:=by omega
    have y:=aa (show wr.ownsRow b.heap.size aN 1 u3 ((R.take (j+1)).flatMap vC).length (aM ((R.take (j+1)).flatMap vC)) from by rw[A.out,d',List.length_range'];exact i);have HL:=aa (show((R.take (j+1)).flatMap vC).length<=1200000*(j+1) from by rw[A.out,d',List.length_range'];omega);clear i;go_wp2;go_roundw
    case rel=>exact⟨j+1,by omega,by simp,y.out,o,HL.out⟩
    case measure=>simp[intOf];omega
  have zj:decide ((j:Int)<(R.length:Int))=false:=by simp;omega
  obtain rfl:j=R.length:=by omega
  rw[kO] at i;go_wp2;go_ret;exact⟨_,rfl,aT i d.size,d.trans (o.mono d.size)⟩
end Go.Proofs.YtmnimbnojdndmaaGreatDoor
section
namespace Go.Cd
def Xh:gu Gf=Gf:=by
 have h:=lq Gf;have c:Gf.Pairwise (· < ·):=by decide
 have d:(gu Gf).Nodup:=h.1.imp (λh=>xi h);have e:Gf.Nodup:=c.imp (λh=>xi h);exact List.Perm.eq_of_pairwise (λa b _ _ f g=>by omega) h.1 c ((List.perm_ext_iff_of_nodup d e).2 h.2)
def Xi:List (Nat×Nat):=[(2392,2393),(10972,10972),(64285,64285),(64287,64287),(119134,119134)]
end Go.Cd
namespace Go.Proofs.YtmnimbnojdndmaaGreatDoor
open Go.RowKit Go.Cd Go.Shelf
def TG:lC (gu Gf)=Xi.flatMap xu:=by rw[Xh];decide
def TH:Xi.flatMap vC=Gf:=by decide
def Mw {w:World} (hG:dL w) {v:Value} (R:List (Nat×Nat)) (k:bG w v (aM (R.flatMap xu))) (hl:R.length<100) (hR:∀p∈R,p.1<1114112/\p.2<1114112/\p.1<=p.2) (X:List Nat) (hX:R.flatMap vC=X) (C:∀c∈X,c<1114112) (Yk:0<X.length/\X.length<1000) :
 Calls Tryz.prog 114 #[.agg #[v]] w λe w'=>e=.returned (.string (tx (bA (X.map aV))))/\Below w.heap.size w w':=by
 have Qq:=aa (λ(W:World) (E:Below w.heap.size w W)=>hG.mono E);obtain⟨a,cap,rfl,_,_⟩:=Go.Cd.bG.nN k rfl;obtain⟨n,hn⟩:=ae ((R.flatMap xu).length);rw[<-hn] at k⊢;obtain⟨z,f⟩:=ae (w.alloc (.cells #[.slice a n cap] 148));have i:=aO f;have k1:=Is.nw f;have m:z.heap.size=w.heap.size+1:=by rw[f];simp
 obtain⟨w2,d⟩:=ae (z.alloc (.cells #[.pointer none,.slice none 0 0] 191));have g:=aO d;have u2:pW z.heap.size z.heap.size [] w2:=by rw[d];exact pW.new
 have k2:=k1.mono g;have e0:w2.cell? ⟨w.heap.size,0,none⟩=some (.slice a n cap):=k2.at 0 rfl;have Q:=aa (Ef R ((k.mono i).mono g) (by omega) hR);rw[hX] at Q;have NP:=af i g;rw[f] at d;rw[m] at u2;clear k hn hG hR k1 k2 i g f m hX;go_enter Tryz.func114,Tryz.ntmps114;go_wp2_with fail;rw[<-d];clear d;refine Q.out.mono ?_;rintro e w3⟨r,rfl,Z,h⟩;have u3:=u2.below h;have T:=aa (Sl.aU Z);obtain⟨ra,rc,rfl,_,_⟩:=ak Z;have u:=af NP h;have x:w.heap.size+1<=w3.heap.size:=by obtain⟨_,k⟩:=u3.block;have:=block_lt k;omega
 obtain⟨N,A⟩:=ae X.length;rw[<-A] at T⊢;have B:=aa A;have ah:0<N/\N<1000:=by rw[A];exact Yk
 clear Q e0 Z h u2 A;go_wp2_with fail;go_loopw [5,9] (λ_ O wr=>∃j:Nat,j<=N/\O=.int .i64 j/\pW (w.heap.size+1) (w.heap.size+1) (bA ((X.take j).map aV)) wr/\Sl aN wr (.slice ra N rc) (aM X)/\Below w.heap.size w wr/\w.heap.size+1<=wr.heap.size/\(bA ((X.take j).map aV)).length<=7*j) (λ_ O _=>N-(intOf O).toNat)
 case atStart=>exact⟨0,gW _,rfl,u3,T.out,u,x,by simp[bA]⟩
 case round=>
  clear u3 T u x;obtain⟨j,hj,rfl,s,L,S,hz,q⟩:=hrel;by_cases ac:j<N
  ·have zj:=eG (show j<N by omega);have H:j<X.length:=by have:=B.out;omega
   obtain⟨a',ab,Y,_,hx⟩:=Go.Cd.bG.nN L.any B.out;injection Y with I _ D;subst I;obtain⟨b,off,rfl,_,c0⟩:=hx j H;have hc:=C _ (gx H)
   have HT:=aa (show bA ((X.take (j+1)).map aV)=bA ((X.take j).map aV)++(aV X[j]++[10]) by
    rw[gE H,js];simp[bA])
   generalize X[j]=c at *;have H1:=aa (vw (Qq.out wr S) c hc);have J:=(bU c).2;have ad:(tx (aV c)).size<=6:=by rw[aX];exact J
   have ag:(⟨#[10]⟩:ByteArray).size=1:=rfl;have V:=aa (show tx (aV c)++(⟨#[10]⟩:ByteArray)=tx (aV c++[10]) from dA _ [10]);generalize tx (aV c)=t1 at *;clear hx D hc;go_wp2_with fail;refine H1.out.mono ?_;rintro e w7⟨rfl,t⟩;have G:=s.below t;have S7:=aa (L.mono t);have B7:=af S t;have z7:=gS hz t.size;have P:=aa (jb G (aV c++[10]) (by rw[d',q_];omega) z7);rw[<-V.out] at P;clear s L c0 H1 t;go_wp2_with fail;refine P.out.mono ?_;rintro e w9⟨rfl,kT,y,TF⟩;obtain⟨bv,o⟩:=G.block;have S9:=aa (IK S7.out TF o (by decide) (by decide));have U:=aa (show pW (w.heap.size+1) (w.heap.size+1) (bA ((X.take (j+1)).map aV)) w9 from by rw[HT.out];exact kT);have M:=aa (show(bA ((X.take (j+1)).map aV)).length<=7*(j+1) from by rw[HT.out,d',d',q_];omega);have K:=B7.trans (y.mono (pj _));have F:=gS z7 y.size;clear kT TF o G S7 P q;go_wp2;go_roundw
   case rel=>exact⟨j+1,by omega,by simp,U.out,S9.out,K,F,M.out⟩
   case measure=>simp[intOf];omega
  have zj:=gI (show N<=j by omega);obtain rfl:j=N:=by omega
  have ht:X.take j=X:=ie (by have:=B.out;omega);rw[ht] at s;have l:bA (X.map aV)≠[]:=by
   have:=B.out;cases X with
   | nil=>simp at this;omega
   | cons c X=>simp[bA]
  have ST:=aa (Da s l);clear s l ht;go_wp2_with fail;refine ST.out.mono ?_;rintro e w9⟨rfl,y⟩;go_wp2;go_ret;exact⟨rfl,S.trans (y.mono (pj _))⟩
def TI {w:World} (j:dL w) :
 Calls Tryz.prog 73 #[] w λe w'=>e=.returned (.string (tx (eP Gf)))/\Below w.heap.size w w':=by
 obtain⟨l,a⟩:=ae (w.alloc (.cells #[.int .i32 2392,.int .i32 2393,.int .i32 10972,.int .i32 64285,.int .i32 64287,.int .i32 119134] 21));have c:=aO a;have i:Sl aN l (.slice (some ⟨w.heap.size,0,none⟩) 6 6) (aM Gf):=by rw[a];exact Xb w #[.int .i32 2392,.int .i32 2393,.int .i32 10972,.int .i32 64285,.int .i32 64287,.int .i32 119134] aN
 have h:=aa (uD Gf i ⟨_,6,6,rfl,.inr ⟨_,_,rfl⟩⟩ (by decide) (by decide));rw[TG] at h;have k:eP Gf=bA (Gf.map aV):=by
  have:dW [] Gf=Gf:=by decide
  unfold eP;rw[this]
 rw[k];have n:=aa (λ(W:World) (E:Below w.heap.size w W)=>j.mono E);clear j i k;go_enter Tryz.func73,Tryz.ntmps73;go_wp2_with fail;rw[<-a];clear a;refine h.out.mono ?_;rintro e m⟨r,rfl,f,d⟩;have b:=af c d;have o:=aa (Mw (n.out m b) Xi (Sl.aU f).any (by decide) (by decide) Gf TH (by decide) (by decide));obtain⟨q,p,rfl,_,_⟩:=ak f;clear h f;go_wp2_with fail;refine o.out.mono ?_;rintro e s⟨rfl,g⟩;go_wp2;go_ret;exact⟨rfl,af b g⟩
end Go.Proofs.YtmnimbnojdndmaaGreatDoor
end
