/- Texts that are alike cost, and count, the same; no condition. -/
import Derived.Test.YtmnimbnojdndmaaGreatDoorU24
import Derived.Handy
set_option maxRecDepth 100000
set_option maxHeartbeats 6400000
set_option linter.all false
namespace Go.Proofs.YtmnimbnojdndmaaGreatDoor
open Go.RowKit Go.Cd _root_.Go.Proofs.Tryz
def Ak {w:World} {v:Value} {T:List aG} {X:List Nat} (h:jq w v T X) (c:Nat) (hc:c<1114112) (K:T.length<1000000) (hX:X.length<1000000) :
 Calls prog 164 #[v,.int .i64 c] w λe w'=>(∃p:Bool,e=.returned (.bool p)/\(p=true↔Prim T X c))/\Below w.heap.size w w':=by
 have HT:=aa h;obtain⟨r,x,rfl,⟨a,cap,rfl,_⟩,q⟩:=h;obtain⟨ax,cx,rfl,_,_⟩:=Go.Cd.bG.out q;obtain⟨nt,ab⟩:∃n,n=T.length:=⟨_,rfl⟩;obtain⟨nx,M⟩:∃n,n=(ints X).length:=⟨_,rfl⟩;rw[<-ab,<-M] at HT⊢;rw[<-M] at q;have ZT:=aa q;have hb:=ah (w:=w) (.cells #[.slice a nt cap,.slice ax nx cx] 25);have d0:(w.alloc (.cells #[.slice a nt cap,.slice ax nx cx] 25)).cell? ⟨w.heap.size,0,none⟩=some (.slice a nt cap):=by unfold World.cell?;rw[heap_alloc_new];rfl
 have d1:(w.alloc (.cells #[.slice a nt cap,.slice ax nx cx] 25)).cell? ⟨w.heap.size,1,none⟩=some (.slice ax nx cx):=by unfold World.cell?;rw[heap_alloc_new];rfl
 obtain⟨W0,hW⟩:=ae (w.alloc (.cells #[.slice a nt cap,.slice ax nx cx] 25));rw[<-hW] at hb d0 d1;have S:=aa (tH (w:=W0) c hc);have N:=λ(W:World) (E:Below w.heap.size w W) (y:Nat)=>aa (tK (HT.out.mono E) y K);have MP:=λ(W:World) (E:Below w.heap.size w W)=>aa (y9 (HT.out.mono E) c hc K);have IN:=λ(W:World) (E:Below w.heap.size w W)=>aa (PW (ZT.out.mono E) hX c);clear q ab M;by_cases D:4<=hk c
 ·have hp:0<(hparts c).length:=jz.2 (λh=>by have:=iC.1 h;omega);have A:=aa (show Prim T X c from .inl D);generalize hparts c=P at *;clear D N MP IN;go_enter func164,ntmps164;go_wp2_with fail;rw[<-hW];clear hW;refine S.out.mono ?_;rintro e w1⟨r1,rfl,V,J⟩;have B:=af hb J;obtain⟨n1,Y⟩:∃n,n=P.length:=⟨_,rfl⟩;obtain⟨a1,c1,rfl,_,_⟩:=bG.nO (Sl.aU V).any Y;have:0<n1:=by omega
  clear S V Y hp;go_wp2;go_ret;exact⟨⟨true,rfl,λ_=>A.out,λ_=>rfl⟩,B⟩
 rw[iC.2 (by omega)] at S;go_enter func164,ntmps164;go_wp2_with fail;rw[<-hW];clear hW;refine S.out.mono ?_;rintro e w1⟨r1,rfl,V,J⟩;have B:=af hb J;obtain⟨a1,c1,rfl,_,_⟩:=bG.nO (n:=0) (Sl.aU V).any rfl;have G:=aB J d0;have L:=aB J d1;have M1:=MP _ B;clear S V MP;go_wp2_with fail;refine M1.out.mono ?_;rintro e w2⟨r2,rfl,s2,q⟩;have j:=af B q;have G:=aB q G;have L:=aB q L;obtain⟨m,I⟩:=ae (mapOf T c);rw[<-I] at s2;obtain⟨nm,i⟩:∃n,n=m.length:=⟨_,rfl⟩;obtain⟨a2,c2,rfl,_,s⟩:=bG.nO s2 i;have R:=ag w2;have g0:=Gr.cell R G;have g1:=Gr.cell R L;have Z:=af j R;clear M1 s2;by_cases C:nm=2
 ·subst C;obtain⟨H,b0,ad⟩:∃H b0,m=[H,b0]:=by
   match m,i with
   | [H,b0],_=>exact⟨H,b0,rfl⟩
  subst ad;obtain⟨b2,f2,rfl,_,g⟩:=s 0 (by simp);have g:w2.cell? ⟨b2,f2,none⟩=some (.int .i64 H):=by simpa using g
  have g2:=Gr.cell R g;have K0:=N _ Z c;obtain⟨k0,l⟩:∃k,k=ai T c:=⟨_,rfl⟩;obtain⟨k1,o⟩:∃k,k=ai T H:=⟨_,rfl⟩;have K1:=λ(W:World) (E:Below w.heap.size w W)=>N W E H;rw[<-l] at K0;simp only[<-o] at K1;by_cases F:k0=0
  ·by_cases O:k1=0
   ·have A:=aa (show Prim T X c↔c∉X by
     constructor
     ·rintro (h|⟨a,b,h,_,_,u⟩)
      ·exact absurd h D
      exact u
     intro h;exact .inr ⟨H,b0,I.symm,by rw[<-l,F],by rw[<-o,O],h⟩)
    subst F;subst O;clear s i I N D l o;go_wp2_with fail;refine aC (Array.replicate 25 true) 25 0 mixed ?_;refine ay [0,1,2,3,4,5] 19 ?_;refine bC ?_
    iterate 6 (refine aZ rfl ?_)
    refine bD ?_
    iterate 6 (go_big_quiet_step (rfl))
    refine az ?_;refine aI 6 ?_;go_wp2_with fail;refine K0.out.mono ?_;rintro e w3⟨rfl,u⟩;go_wp2_with fail;refine aF u ?_;have d:=af R u;have U:=af j d;have g0:=Gr.cell d G;have g1:=Gr.cell d L;have g2:=Gr.cell d g;refine ay [7,8,9,10,11,12,13] 11 ?_;refine bC ?_
    iterate 7 (refine aZ rfl ?_)
    refine bD ?_
    iterate 7 (go_big_quiet_step (rfl))
    refine az ?_;have Q:=K1 _ U;refine aI 14 ?_;go_wp2_with fail;refine Q.out.mono ?_;rintro e w4⟨rfl,t⟩;go_wp2_with fail;refine aF t ?_;have f:=af d t;have lN:=af j f;have g0:=Gr.cell f G;have g1:=Gr.cell f L;have g2:=Gr.cell f g;refine ay [15,16,17,18,19,20] 4 ?_;refine bC ?_
    iterate 6 (refine aZ rfl ?_)
    refine bD ?_
    iterate 6 (go_big_quiet_step (rfl))
    refine az ?_;have I1:=IN _ lN;refine aI 21 ?_;go_wp2_with fail;refine I1.out.mono ?_;rintro e w5⟨rfl,h5⟩;go_wp2_with fail;refine aF h5 ?_;have ac:=af f h5;have jP:=af j ac;refine ay [22,23,24] 0 ?_;refine bC ?_
    iterate 3 (refine aZ rfl ?_)
    refine bD ?_
    iterate 3 (go_big_quiet_step (rfl))
    refine az ?_;refine aJ [] ?_;refine tail_nil ?_;go_wp2;go_ret;exact⟨⟨_,rfl,by rw[A.out];simp⟩,jP⟩
   have A:=aa (show ¬Prim T X c by
    rintro (h|⟨a,b,h,_,q,_⟩)
    ·exact absurd h D
    rw[<-I] at h;cases h;rw[<-o] at q;exact O q)
   have:((k1:Int)==0)=false:=by simp;omega
   subst F;clear s i I N IN D l o;go_wp2_with fail;refine aC (Array.replicate 25 true) 25 0 mixed ?_;refine ay [0,1,2,3,4,5] 19 ?_;refine bC ?_
   iterate 6 (refine aZ rfl ?_)
   refine bD ?_
   iterate 6 (go_big_quiet_step (rfl))
   refine az ?_;refine aI 6 ?_;go_wp2_with fail;refine K0.out.mono ?_;rintro e w3⟨rfl,u⟩;go_wp2_with fail;refine aF u ?_;have d:=af R u;have U:=af j d;have g0:=Gr.cell d G;have g1:=Gr.cell d L;have g2:=Gr.cell d g;refine ay [7,8,9,10,11,12,13] 11 ?_;refine bC ?_
   iterate 7 (refine aZ rfl ?_)
   refine bD ?_
   iterate 7 (go_big_quiet_step (rfl))
   refine az ?_;have Q:=K1 _ U;refine aI 14 ?_;go_wp2_with fail;refine Q.out.mono ?_;rintro e w4⟨rfl,t⟩;go_wp2_with fail;refine aF t ?_;have f:=af d t;have lN:=af j f;have g0:=Gr.cell f G;have g1:=Gr.cell f L;have g2:=Gr.cell f g;refine ay [15,16,17,18,19,20] 4 ?_;refine bC ?_
   iterate 6 (refine aZ rfl ?_)
   refine bD ?_
   iterate 6 (go_big_quiet_step (rfl))
   refine az ?_;refine aI 21 ?_;go_wp2_with fail;refine aF (gO _ _) ?_;refine ay [22,23,24] 0 ?_;refine bC ?_
   iterate 3 (refine aZ rfl ?_)
   refine bD ?_
   iterate 3 (go_big_quiet_step (rfl))
   refine az ?_;refine aJ [] ?_;refine tail_nil ?_;go_wp2;go_ret;exact⟨⟨false,rfl,λh=>(by cases h),λh=>absurd h A.out⟩,lN⟩
  have A:=aa (show ¬Prim T X c by
   rintro (h|⟨a,b,h,J,_,_⟩)
   ·exact absurd h D
   rw[<-l] at J;exact F J)
  have:((k0:Int)==0)=false:=by simp;omega
  clear s i I N IN D l o K1;go_wp2_with fail;refine aC (Array.replicate 25 true) 25 0 mixed ?_;refine ay [0,1,2,3,4,5] 19 ?_;refine bC ?_
  iterate 6 (refine aZ rfl ?_)
  refine bD ?_
  iterate 6 (go_big_quiet_step (rfl))
  refine az ?_;refine aI 6 ?_;go_wp2_with fail;refine K0.out.mono ?_;rintro e w3⟨rfl,u⟩;go_wp2_with fail;refine aF u ?_;have d:=af R u;have U:=af j d;have g0:=Gr.cell d G;have g1:=Gr.cell d L;have g2:=Gr.cell d g;refine ay [7,8,9,10,11,12,13] 11 ?_;refine bC ?_
  iterate 7 (refine aZ rfl ?_)
  refine bD ?_
  iterate 7 (go_big_quiet_step (rfl))
  refine az ?_;refine aI 14 ?_;go_wp2_with fail;refine aF (gO _ _) ?_;refine ay [15,16,17,18,19,20] 4 ?_;refine bC ?_
  iterate 6 (refine aZ rfl ?_)
  refine bD ?_
  iterate 6 (go_big_quiet_step (rfl))
  refine az ?_;refine aI 21 ?_;go_wp2_with fail;refine aF (gO _ _) ?_;refine ay [22,23,24] 0 ?_;refine bC ?_
  iterate 3 (refine aZ rfl ?_)
  refine bD ?_
  iterate 3 (go_big_quiet_step (rfl))
  refine az ?_;refine aJ [] ?_;refine tail_nil ?_;go_wp2;go_ret;exact⟨⟨false,rfl,λh=>(by cases h),λh=>absurd h A.out⟩,U⟩
 have A:=aa (show ¬Prim T X c by
  rintro (h|⟨a,b,h,_⟩)
  ·omega
  rw[<-I] at h;rw[i,h] at C;exact C rfl)
 have:((nm:Int)==2)=false:=by simp;omega
 clear s i I C N IN D;go_wp2_with fail;refine aC (Array.replicate 25 true) 25 0 mixed ?_;refine ay [0,1,2,3,4,5] 19 ?_;refine bC ?_
 iterate 6 (refine aZ rfl ?_)
 refine bD ?_
 iterate 6 (go_big_quiet_step (rfl))
 refine az ?_;refine aI 6 ?_;go_wp2_with fail;refine aF (gO _ _) ?_;refine ay [7,8,9,10,11,12,13] 11 ?_;refine bC ?_
 iterate 7 (refine aZ rfl ?_)
 refine bD ?_
 iterate 7 (go_big_quiet_step (rfl))
 refine az ?_;refine aI 14 ?_;go_wp2_with fail;refine aF (gO _ _) ?_;refine ay [15,16,17,18,19,20] 4 ?_;refine bC ?_
 iterate 6 (refine aZ rfl ?_)
 refine bD ?_
 iterate 6 (go_big_quiet_step (rfl))
 refine az ?_;refine aI 21 ?_;go_wp2_with fail;refine aF (gO _ _) ?_;refine ay [22,23,24] 0 ?_;refine bC ?_
 iterate 3 (refine aZ rfl ?_)
 refine bD ?_
 iterate 3 (go_big_quiet_step (rfl))
 refine az ?_;refine aJ [] ?_;refine tail_nil ?_;go_wp2;go_ret;exact⟨⟨false,rfl,λh=>(by cases h),λh=>absurd h A.out⟩,Z⟩
def IW {w:World} (c:Nat) (g:c<1114112) :
 Calls prog 163 #[.int .i64 c] w λe w'=>e=.returned (.int .i64 (hk c))/\w'=w:=by
 obtain⟨k,a⟩:=ae (hk c);have b:=aa a;rw[<-a];clear a;have M:∀i:Nat,c=44032+i->((c:Int)-44032).tmod 28=((i % 28:Nat):Int):=by
  intro i d;rw[show(c:Int)-44032=(i:Int) by omega,pB (by omega)];omega
 go_each [4352<=c,c<=4370,4449<=c,c<=4469,4520<=c,c<=4546,c<44032,55203<c]=>(
  first
  | (have E:k=1:=b.out.trans (by unfold hk;rw[if_pos (by omega)])
     subst E;clear M;go_enter func163,ntmps163;go_wp2;go_ret;exact⟨rfl,rfl⟩)
  | (have E:k=2:=b.out.trans (by unfold hk;rw[if_neg (by omega),if_pos (by omega)])
     subst E;clear M;go_enter func163,ntmps163;go_wp2;go_ret;exact⟨rfl,rfl⟩)
  | (have E:k=3:=b.out.trans (by unfold hk;rw[if_neg (by omega),if_neg (by omega),if_pos (by omega)])
     subst E;clear M;go_enter func163,ntmps163;go_wp2;go_ret;exact⟨rfl,rfl⟩)
  | (have E:k=0:=b.out.trans (by unfold hk;rw[if_neg (by omega),if_neg (by omega),if_neg (by omega),if_pos (by omega)])
     subst E;clear M;go_enter func163,ntmps163;go_wp2;go_ret;exact⟨rfl,rfl⟩)
  | (obtain⟨i,d⟩:∃i,c=44032+i:=⟨c-44032,by omega⟩
     have M:=M i d;subst d;by_cases f:i % 28=0
     ·have E:k=4:=b.out.trans (by unfold hk;rw[if_neg (by omega),if_neg (by omega),if_neg (by omega),if_neg (by omega),if_pos (by omega)]);subst E;rw[f] at M;go_enter func163,ntmps163;go_wp2;go_ret;exact⟨rfl,rfl⟩
     have E:k=5:=b.out.trans (by unfold hk;rw[if_neg (by omega),if_neg (by omega),if_neg (by omega),if_neg (by omega),if_neg (by omega)]);subst E;have:¬(((44032+i:Nat):Int)-44032).tmod 28=0:=by rw[M];omega
     clear M
     go_enter func163,ntmps163;go_wp2;go_ret;exact⟨rfl,rfl⟩))
def twice (T:List aG) (X:List Nat) (r q:aG):Prop:=Prim T X r.code∧Prim T X q.code∧q.map.length=2∧q.map=r.map
theorem aa2 {T:List aG} {X:List Nat} (h:∀i (d:i<T.length) k (b:k<T.length),k<i->¬twice T X T[i] T[k]) :
 ∀r∈T,∀q∈T,r.map.length=2->r.map=q.map->Prim T X r.code->Prim T X q.code->r=q:=by
 intro r j q g e c f a;obtain⟨i,d,rfl⟩:=rH j;obtain⟨k,b,rfl⟩:=rH g;rcases pZ i k with hik|rfl|hik
 ·exact absurd ⟨a,f,e,c⟩ (h k b i d hik)
 ·rfl
 ·exact absurd ⟨f,a,c▸e,c.symm⟩ (h i d k b hik)
theorem QO {l:List Nat} {n:Nat} (c:n=l.length) (h:n=2):∃a b,l=[a,b]:=by
 subst h
 match l,c with
 | [a,b],_=>exact⟨a,b,rfl⟩
theorem Ei {w:World} {v:Value} {T:List aG} {X:List Nat} (h:jq w v T X) (a_:T.length<1000000) (hX:X.length<1000000)
 (hT:∀r∈T,aP r.code∧r.cls<255∧r.map.length<=2∧∀x∈r.map,aP x) :
 Calls prog 120 #[v] w fun e w'=>∃s,e=.returned (.string s)∧(s=⟨#[]⟩->aY T X)∧Below w.heap.size w w':=by
 have HT:=aa h;obtain⟨r,x,rfl,⟨a,cap,rfl,a4,l⟩,h2⟩:=h;have HX:=aa l;obtain⟨ax,cx,rfl,_,_⟩:=Go.Cd.bG.out h2;obtain⟨n,hn⟩:=ae T.length;obtain⟨nx,a5⟩:∃n,n=(ints X).length:=⟨_,rfl⟩;rw[<-hn] at a_ a4;rw[<-hn,<-a5] at HT⊢;have HN:=aa hn;have SS:=aa hT;have hb:=ah (w:=w) (.cells #[.slice a n cap,.slice ax nx cx] 25);have d0:(w.alloc (.cells #[.slice a n cap,.slice ax nx cx] 25)).cell? ⟨w.heap.size,0,none⟩=some (.slice a n cap):=by unfold World.cell?;rw[heap_alloc_new];rfl
 have d1:(w.alloc (.cells #[.slice a n cap,.slice ax nx cx] 25)).cell? ⟨w.heap.size,1,none⟩=some (.slice ax nx cx):=by unfold World.cell?;rw[heap_alloc_new];rfl
 obtain⟨W0,hW⟩:=ae (w.alloc (.cells #[.slice a n cap,.slice ax nx cx] 25));rw[<-hW] at hb d0 d1;have IS:=fun (W:World) (y:Nat) (C:y<1114112)=>aa (EH (w:=W) y (by omega));have KI:=fun (W:World) (y:Nat) (C:y<1114112)=>aa (IW (w:=W) y C);have FU:=fun (W:World) (E:Below w.heap.size w W) (y:Nat) (C:y<1114112)=>aa (wD (HT.out.mono E) y C (fun r c x l=>((hT r c).2.2.2 x l).1) (fun r c=>gS (hT r c).2.2.1 (by decide)) (by omega));have PR:=fun (W:World) (E:Below w.heap.size w W) (y:Nat) (C:y<1114112)=>aa (Ak (HT.out.mono E) y C (by omega) hX);clear h2 a5 l hn hT;go_enter func120,ntmps120;go_wp2_with fail;rw[<-hW];clear hW;go_loopw [3,21] (fun lv iv wr=>∃(j:Nat) (t:Int),j<=n∧iv=.int .i64 j∧lv=.int .i64 t∧-1<=t∧t<1114112∧(∀r∈T.take j,(r.code:Int)<=t)∧rising (T.take j)∧(∀r∈T.take j,hk r.code=0∧∀x∈r.map,hk x=0)∧Below W0.heap.size W0 wr) (fun _ iv _=>n-(intOf iv).toNat)
 case atStart=>exact⟨0,-1,gW _,rfl,rfl,by decide,by decide,by simp,trivial,by simp,gO _ _⟩
 case round=>
  obtain⟨j,t,hj,rfl,rfl,bv,bj,aN,aj,ad,hE⟩:=hrel;have fT:=af hb hE;by_cases au:j<n
  ·have g:j<T.length:=by have:=HN.out;omega
   obtain⟨b,off,m,rfl,aK,J,I,M,H⟩:=HX.out j g;have J:=aB fT J;have I:=aB fT I;have M:=aB fT M;have H:=H.mono fT;obtain⟨aV,bM,bn,a2⟩:=SS.out _ (gx g);have HS:=aa (show T.take (j+1)=T.take j++[T[j]] from gE g);have Q_:=aa aN;have ar:=aa aj;have ak:=aa ad;generalize T[j]=q at *;obtain⟨nm,d⟩:=ae q.map.length;obtain⟨Z,cm,rfl,bE,Y⟩:=bG.nO H d;have Uc:=aa Y;have bh:=aa a2;have sN:=aa d;have HM:=aa H;have R:=aV.1;have I1:=fun W=>IS W q.code R;simp only[decide_eq_true aV] at I1;have TJ:nm<=2:=by omega
   clear aN aj ad a2 Y H bn d aV FU PR;go_wp2_with fail;refine(I1 _).out.mono ?_;rintro e w1⟨rfl,rfl⟩;by_cases bl:(q.code:Int)<=t
   ·go_wp2;go_ret;exact⟨_,rfl,fun h=>by (first|cases h|simp at h),hb.trans ((af hE (ah _)).mono hb.size)⟩
   ·have O:((wr.alloc (.cells #[.int .i64 q.code,.int .i64 q.cls,.slice Z nm cm] 78)).alloc (.cells #[.int .i64 q.code] bB)).ownsRow (wr.heap.size+1) bB 1 (.slice (some ⟨wr.heap.size+1,0,none⟩) 1 1) 1 [.int .i64 q.code]:=by
     have:=mU (wr.alloc (.cells #[.int .i64 q.code,.int .i64 q.cls,.slice Z nm cm] 78)) #[.int .i64 q.code] bB 1 rfl (by decide);simpa only[ns] using this
    have S2:=aa (fun (W:World) (E:Below wr.heap.size wr W)=>HM.out.mono E);have O:=aa O;have bd:=aa (show ∀(w1:World) (v1:Value) (n1:Nat),w1.ownsRow (wr.heap.size+1) bB 1 v1 n1 ([Value.int .i64 q.code]++ints q.map)->bG w1 v1 (ints (q.code::q.map)) from fun w1 v1 n1 o=>(Sl.aU o).any);have aS:=aa (show nm+1=(q.code::q.map).length by rw[hU,sN.out]);go_wp2_with (at_builtin;refine bR rfl _ _ 23 rfl (wr.heap.size+1) bB _ 8 jN _ 1 _ rfl O.out _ (ints q.map) rfl (S2.out _ (dH _ _)) (kJ _) (by rw[ek,<-sN.out];unfold maxLen;omega) (by rw[ek,<-sN.out];omega) (by simp only[ns];omega) ?_;intro v1 w1 o1 aO;obtain⟨a1,Ao,rfl,_,a3⟩:=bG.nO (bd.out _ _ _ o1) aS.out);have aT:Below wr.heap.size wr w1:=(dH _ _).grown aO (dH _ _).size (fun k hk=>by have:=(O.out.lt k hk).1;omega);have f2:w1.cell? ⟨wr.heap.size,2,none⟩=some (.slice Z nm cm):=
     aO.cell (aB (ah _) (by unfold World.cell?;rw[heap_alloc_new];rfl)) (fun e=>by have:=(O.out.lt _ e.symm).1;simp only at this;omega)
    have mH:=aa a3
    have HQ:=aa (show ∀x∈q.code::q.map,x<1114112 from fun x l=>by
     rcases jf.1 l with rfl|l
     ·exact R
     ·exact(bh.out x l).1)
    clear o1 aO a3 J I M I1 bd;generalize hL:q.code::q.map=L at *;have HL:=aa hL;clear hL;obtain⟨wo,S⟩:∃w',w'=wr:=⟨_,rfl⟩;subst S;go_wp2_with fail;go_loopw [60] (fun kv w2=>∃k:Nat,k<=nm+1∧kv=.int .i64 k∧(∀x∈L.take k,hk x=0)∧w2=w1) (fun kv _=>nm+1-(intOf kv).toNat)
    case atStart=>exact⟨0,gW _,rfl,by simp,(by first|rfl|trivial)⟩
    case round=>
     obtain⟨k,a0,rfl,aq,rfl⟩:=hrel;obtain⟨w1,S⟩:∃w',w'=wr:=⟨_,rfl⟩;subst S;by_cases bs:k<nm+1
     ·have u:k<L.length:=by have:=aS.out;omega
      obtain⟨b1,f1,rfl,_,hz⟩:=mH.out k u;have K1:=fun W=>KI W _ (HQ.out _ (gx u));have Zr:=aa (show L.take (k+1)=L.take k++[L[k]] from gE u);have aw:=aa aq;generalize L[k]=y at *;clear aq;by_cases bc:hk y=0
      ·rw[bc] at K1;go_wp2_with fail;refine(K1 _).out.mono ?_;rintro e w2⟨rfl,rfl⟩;go_wp2;go_roundw
       case rel=>exact⟨k+1,by omega,rfl,fun x l=>by
        rw[Zr.out,gR,gC] at l;rcases l with l|rfl
        ·exact aw.out x l
        ·exact bc,(by first|rfl|trivial)⟩
       case measure=>simp[intOf];omega
      ·go_wp2_with fail;refine(K1 _).out.mono ?_;rintro e w2⟨rfl,rfl⟩;generalize hk y=kk at *;go_wp2;go_ret;exact⟨_,rfl,fun h=>by (first|cases h|simp at h),hb.trans ((af hE aT).mono hb.size)⟩
     ·have bg:k=nm+1:=by omega
      rw[ie (by have:=aS.out;omega)] at aq;have aw:=aa aq;clear aq mH HQ a0 bg;have aR:=Uc.out;go_wp2_with fail;go_loopw [71] (fun kv w2=>∃k:Nat,k<=nm∧kv=.int .i64 k∧w2=w1) (fun kv _=>nm-(intOf kv).toNat)
      case atStart=>exact⟨0,gW _,rfl,(by first|rfl|trivial)⟩
      case round=>
       obtain⟨k,a0,rfl,rfl⟩:=hrel;obtain⟨w1,S⟩:∃w',w'=wr:=⟨_,rfl⟩;subst S;by_cases bs:k<nm
       ·have u:k<q.map.length:=by have:=sN.out;omega
        obtain⟨U,P,rfl,_,hz⟩:=aR k u;have hz:=aB aT hz;have aQ:=bh.out _ (gx u);have I2:=fun W=>IS W _ aQ.1;simp only[decide_eq_true aQ] at I2;clear aQ aR;generalize q.map[k]=y at *;go_wp2_with fail;refine(I2 _).out.mono ?_;rintro e w2⟨rfl,rfl⟩;go_wp2;go_roundw
        case rel=>exact⟨k+1,by omega,rfl,(by first|rfl|trivial)⟩
        case measure=>simp[intOf];omega
       ·clear aR;go_wp2;go_roundw
        case rel=>
         refine⟨j+1,q.code,by omega,rfl,rfl,by omega,by omega,?_,?_,?_,af hE aT⟩
         ·intro r c;rw[HS.out,gR,gC] at c;rcases c with c|rfl
          ·have:=Q_.out r c;omega
          ·exact Int.le_refl _
         ·rw[HS.out,DF];refine⟨ar.out,⟨by simp,trivial⟩,fun r c q' bu=>?_⟩;rw[gC.1 bu];have:=Q_.out r c;omega
         ·intro r c;rw[HS.out,gR,gC] at c;rcases c with c|rfl
          ·exact ak.out r c
          ·refine⟨aw.out _ (by rw[<-HL.out];simp),fun x l=>aw.out _ (by rw[<-HL.out];simp[l])⟩
        case measure=>simp[intOf];omega
  ·obtain rfl:n=j:=by omega
   rw[ie (by rw[HN.out];exact gw _)] at aj ad;have ar:=aa aj;have ak:=aa ad;have K:=aB hE d0;have V:=aB hE d1;clear aN aj ad bv bj au hj KI IS;obtain⟨w3,S⟩:∃w',w'=wr:=⟨_,rfl⟩;subst S;go_wp2_with fail;go_loopw [83] (fun iv w4=>∃j:Nat,j<=n∧iv=.int .i64 j∧(∀r∈T.take j,fQ T r.code)∧Below w3.heap.size w3 w4) (fun iv _=>n-(intOf iv).toNat)
   case atStart=>exact⟨0,gW _,rfl,by simp,gO _ _⟩
   case round=>
    obtain⟨j,hj,rfl,an,lN⟩:=hrel;obtain⟨w4,S⟩:∃w',w'=wr:=⟨_,rfl⟩;subst S;have MJ:=af fT lN;by_cases au:j<n
    ·have g:j<T.length:=by have:=HN.out;omega
     obtain⟨b,off,m,rfl,aK,J,I,M,H⟩:=HX.out j g;have J:=aB MJ J;have I:=aB MJ I;have M:=aB MJ M;have g0:=aB lN K;have g1:=aB lN V;obtain⟨nm,d⟩:=ae (T[j].map.length);obtain⟨Z,cm,rfl,_,_⟩:=bG.nO H d;clear H d;have R:=(SS.out _ (gx g)).1.1;have HS:=aa (show T.take (j+1)=T.take j++[T[j]] from gE g);have Yp:=aa an;generalize T[j]=q at *;have F1:=fun (W:World) (E:Below w4.heap.size w4 W)=>FU W (MJ.trans (E.mono MJ.size)) q.code R;have bN:(w4.alloc (.cells #[.int .i64 q.code,.int .i64 q.cls,.slice Z nm cm] 78)).cell? ⟨w.heap.size,0,none⟩=some (.slice (some ⟨b,off,none⟩) n cap):=aB (ah _) g0;have bO:(w4.alloc (.cells #[.int .i64 q.code,.int .i64 q.cls,.slice Z nm cm] 78)).cell? ⟨w.heap.size,1,none⟩=some (.slice ax nx cx):=aB (ah _) g1;clear an FU PR K V aK g0 g1;by_cases hf:fQ T q.code
     ·simp only[decide_eq_true hf] at F1;go_wp2_with fail;refine(F1 _ (ah _)).out.mono ?_;rintro e w5⟨r5,rfl,_,h5⟩;go_wp2;go_roundw
      case rel=>exact⟨j+1,by omega,rfl,fun r c=>by
       rw[HS.out,gR,gC] at c;rcases c with c|rfl
       ·exact Yp.out r c
       ·exact hf,af lN (af (ah _) h5)⟩
      case measure=>simp[intOf];omega
     ·simp only[decide_eq_false hf] at F1;go_wp2_with fail;refine(F1 _ (ah _)).out.mono ?_;rintro e w5⟨r5,rfl,_,h5⟩;go_wp2;go_ret;exact⟨_,rfl,fun h=>by (first|cases h|simp at h),MJ.trans ((af (ah _) h5).mono MJ.size)⟩
    ·obtain rfl:n=j:=by omega
     rw[ie (by rw[HN.out];exact gw _)] at an;have Yp:=aa an;have K:=aB lN K;have V:=aB lN V;clear an au hj FU;have bf:=aa (show ∀r∈T,Prim T X r.code->r.map.length=2 from fun r c hp=>Bb ar.out c (by have:=(ak.out r c).1;omega) hp)
     have HV:=aa (show(∀i (hi:i<T.length) k (hk:k<T.length),k<i->¬twice T X T[i] T[k])->aY T X from fun h=>
      ⟨fun r c=>⟨(SS.out r c).1,(SS.out r c).2.1,(SS.out r c).2.2.1,(ak.out r c).1,fun x l=>⟨(ak.out r c).2 x l,(SS.out r c).2.2.2 x l⟩⟩,ar.out,Yp.out,aa2 h⟩)
     go_wp2_with fail;go_loopw [100] (fun iv w5=>∃j:Nat,j<=n∧iv=.int .i64 j∧(∀i (hi:i<T.length) k (hk:k<T.length),i<j->k<i->¬twice T X T[i] T[k])∧Below w4.heap.size w4 w5) (fun iv _=>n-(intOf iv).toNat)
     case atStart=>exact⟨0,gW _,rfl,fun i _ k _ h=>by omega,gO _ _⟩
     case round=>
      obtain⟨j,hj,rfl,B,jP⟩:=hrel;obtain⟨w5,S⟩:∃w',w'=wr:=⟨_,rfl⟩;subst S;have XQ:=af MJ jP;by_cases au:j<n
      ·have g:j<T.length:=by have:=HN.out;omega
       obtain⟨b,off,m,rfl,aK,J,I,M,H⟩:=HX.out j g;have J:=aB XQ J;have I:=aB XQ I;have M:=aB XQ M;have K:=aB jP K;have V:=aB jP V;have R:=(SS.out _ (gx g)).1.1;have a9:=gx g;have HJ:=aa (show ∀i (hi:i<T.length),i=j->T[i]=T[j] from fun i hi h=>by subst h;rfl);have Ur:=aa B;have HM:=aa (bf.out _ a9);generalize T[j]=q at *;obtain⟨nm,d⟩:=ae q.map.length;obtain⟨Z,cm,rfl,_,Y⟩:=bG.nO H d
       have Uc:=aa (show nm=2->∃N Q,q.map=[N,Q]∧∃U P,Z=some ⟨U,P,none⟩∧w.cell? ⟨U,P,none⟩=some (.int .i64 N)∧w.cell? ⟨U,P+1,none⟩=some (.int .i64 Q) from fun h2=>by
        obtain⟨N,Q,C⟩:=QO d h2;obtain⟨U,P,rfl,_,z0⟩:=Y 0 (by omega);obtain⟨bx,bk,ai,_,z1⟩:=Y 1 (by omega);cases ai;simp only[C] at z0 z1
        exact⟨N,Q,C,U,P,rfl,by simpa using z0,by simpa using z1⟩)
       have sN:=aa d;have bI:j<=cap:=by omega
       obtain⟨W5,Ud⟩:=ae (w5.alloc (.cells #[.int .i64 q.code,.int .i64 q.cls,.slice Z nm cm] 78));have h5:Below w5.heap.size w5 W5:=by subst Ud;exact ah _
       have bt:(w5.alloc (.cells #[.int .i64 q.code,.int .i64 q.cls,.slice Z nm cm] 78)).cell? ⟨w.heap.size,0,none⟩=some (.slice (some ⟨b,off,none⟩) n cap):=aB (ah _) K;have q0:W5.cell? ⟨w5.heap.size,0,none⟩=some (.int .i64 q.code):=by subst Ud;unfold World.cell?;rw[heap_alloc_new];rfl
       have q2:W5.cell? ⟨w5.heap.size,2,none⟩=some (.slice Z nm cm):=by subst Ud;unfold World.cell?;rw[heap_alloc_new];rfl
       have K:=aB h5 K;have V:=aB h5 V;have a6:=af XQ h5;clear B H d Y a9 aK;go_wp2_with fail;rw[<-Ud];clear Ud bt;go_loopw [110] (fun kv w6=>∃k:Nat,k<=j∧kv=.int .i64 k∧(∀F (D:F<T.length),F<k->¬twice T X q T[F])∧Below W5.heap.size W5 w6) (fun kv _=>j-(intOf kv).toNat)
       case atStart=>exact⟨0,gW _,rfl,fun F _ h=>by omega,gO _ _⟩
       case round=>
        clear J I M;obtain⟨k,a0,rfl,B,ji⟩:=hrel;obtain⟨w6,S⟩:∃w',w'=wr:=⟨_,rfl⟩;subst S;have aL:=af a6 ji;by_cases bL:k<j
        ·have u:k<T.length:=by have:=HN.out;omega
         obtain⟨b',bz,m',ai,_,J,I,M,H⟩:=HX.out k u;cases ai;have J:=aB aL J;have I:=aB aL I;have M:=aB aL M;have bw:=(SS.out _ (gx u)).1.1;have aH:=aa B;have HK:=aa (show ∀i (hi:i<T.length),i=k->T[i]=T[k] from fun i hi h=>by subst h;rfl);generalize T[k]=p at *;obtain⟨np,Ux⟩:∃nm,nm=p.map.length:=⟨_,rfl⟩;obtain⟨ap,cp,rfl,_,aW⟩:=bG.nO H Ux
         have ao:=aa (show np=2->∃N Q,p.map=[N,Q]∧∃U P,ap=some ⟨U,P,none⟩∧w.cell? ⟨U,P,none⟩=some (.int .i64 N)∧w.cell? ⟨U,P+1,none⟩=some (.int .i64 Q) from fun h2=>by
          obtain⟨N,Q,C⟩:=QO Ux h2;obtain⟨U,P,rfl,_,z0⟩:=aW 0 (by omega);obtain⟨bx,bk,ai,_,z1⟩:=aW 1 (by omega);cases ai;simp only[C] at z0 z1
          exact⟨N,Q,C,U,P,rfl,by simpa using z0,by simpa using z1⟩)
         have Yj:=aa Ux;obtain⟨W6,ac⟩:=ae (w6.alloc (.cells #[.int .i64 p.code,.int .i64 p.cls,.slice ap np cp] 78));have h6:Below w6.heap.size w6 W6:=by subst ac;exact ah _
         have p0:W6.cell? ⟨w6.heap.size,0,none⟩=some (.int .i64 p.code):=by subst ac;unfold World.cell?;rw[heap_alloc_new];rfl
         have p2:W6.cell? ⟨w6.heap.size,2,none⟩=some (.slice ap np cp):=by subst ac;unfold World.cell?;rw[heap_alloc_new];rfl
         have Ej:=af ji h6;have K:=aB Ej K;have V:=aB Ej V;have q0:=aB Ej q0;have q2:=aB Ej q2;have XR:=af a6 Ej
         have al:=aa (show ∀z,(z=true->twice T X q p)->(z=false->¬twice T X q p)->z=false->∀F (D:F<T.length),F<k+1->¬twice T X q T[F] from fun z _ h0 hz F D bg=>by
          by_cases h:F=k
          ·rw[HK.out F D h];exact h0 hz
          ·exact aH.out F D (by omega))
         clear B H Ux aW aH HK;go_wp2_with fail;rw[<-ac];clear ac;have hq:=ag W6;have g0:=Gr.cell hq K;have g1:=Gr.cell hq V;have aD:=Gr.cell hq q0;have av:=Gr.cell hq q2;have aA:=Gr.cell hq p0;have aE:=Gr.cell hq p2;have P1:=PR _ (XR.trans (hq.mono XR.size)) q.code R;have P2:=fun (W:World) (E:Below W6.heap.size W6 W)=>PR W (XR.trans (E.mono XR.size)) p.code bw;clear PR J I M;refine aC (Array.replicate 38 true) 38 0 mixed ?_;refine ay [0,1,2] 35 ?_;refine bC ?_
         iterate 3 (refine aZ rfl ?_)
         refine bD ?_
         iterate 3 (go_big_quiet_step (rfl))
         refine az ?_;refine aI 3 ?_;go_wp2_with fail;refine P1.out.mono ?_;rintro e w7⟨⟨p1,rfl,G⟩,h7⟩;go_wp2_with fail;refine aF h7 ?_;have A:=af hq h7;clear g0 g1 aD av aA aE P1;have g0:=Gr.cell A K;have g1:=Gr.cell A V;have aD:=Gr.cell A q0;have av:=Gr.cell A q2;have aA:=Gr.cell A p0;have aE:=Gr.cell A p2;cases p1 with
         | false=>
           have vI:=aa (show ¬twice T X q p from fun h=>by have:=G.2 h.1;cases this);clear P2 G ao Uc HM;refine ay [4,5,6,7] 30 ?_;refine bC ?_
           iterate 4 (refine aZ rfl ?_)
           refine bD ?_
           iterate 4 (go_big_quiet_step (rfl))
           refine az ?_;refine aI 8 ?_;go_wp2_with fail;refine aF (gO _ _) ?_;refine ay [9,10,11,12,13,14,15,16,17,18,19,20,21,22,23,24,25,26,27,28,29,30,31,32,33,34,35,36,37] 0 ?_;refine bC ?_
           iterate 29 (refine aZ rfl ?_)
           refine bD ?_
           iterate 29 (go_big_quiet_step (rfl))
           refine az ?_;refine aJ [] ?_;refine tail_nil ?_;go_wp2;go_roundw
           case rel=>exact⟨k+1,by omega,rfl,al.out false (fun h=>by cases h) (fun _=>vI.out) rfl,af Ej A⟩
           case measure=>simp[intOf];omega
         | true=>
           have P2:=P2 _ A;refine ay [4,5,6,7] 30 ?_;refine bC ?_
           iterate 4 (refine aZ rfl ?_)
           refine bD ?_
           iterate 4 (go_big_quiet_step (rfl))
           refine az ?_;refine aI 8 ?_;go_wp2_with fail;refine P2.out.mono ?_;rintro e w8⟨⟨bq,rfl,ab⟩,h8⟩;go_wp2_with fail;refine aF h8 ?_;have f:=af A h8;clear g0 g1 aD av aA aE P2;have g0:=Gr.cell f K;have g1:=Gr.cell f V;have aD:=Gr.cell f q0;have av:=Gr.cell f q2;have aA:=Gr.cell f p0;have aE:=Gr.cell f p2;cases bq with
           | false=>
             have vI:=aa (show ¬twice T X q p from fun h=>by have:=ab.2 h.2.1;cases this);clear G ab ao Uc HM;refine ay [9,10,11,12,13,14,15,16,17,18,19,20,21,22,23,24,25,26,27,28,29,30,31,32,33,34,35,36,37] 0 ?_;refine bC ?_
             iterate 29 (refine aZ rfl ?_)
             refine bD ?_
             iterate 29 (go_big_quiet_step (rfl))
             refine az ?_;refine aJ [] ?_;refine tail_nil ?_;go_wp2;go_roundw
             case rel=>exact⟨k+1,by omega,rfl,al.out false (fun h=>by cases h) (fun _=>vI.out) rfl,af Ej f⟩
             case measure=>simp[intOf];omega
           | true=>
             have TJ:nm=2:=sN.out.trans (HM.out (G.1 (by trivial)));by_cases aM:np=2
             ·obtain⟨N,Q,C,U,P,rfl,ba,be⟩:=Uc.out TJ;obtain⟨x0,x1,l,bp,fp,rfl,a8,bb⟩:=ao.out aM;have kL:=af XR f;have bK:=Gr.cell kL ba;have bA:=Gr.cell kL be;have bJ:=Gr.cell kL a8;have bH:=Gr.cell kL bb
              have Yl:=aa (show twice T X q p↔x0=N∧x1=Q from by
               unfold twice;rw[l,C];constructor
               ·rintro⟨_,_,_,h⟩;cases h;exact⟨rfl,rfl⟩
               ·rintro⟨rfl,rfl⟩;exact⟨G.1 (by trivial),ab.1 (by trivial),rfl,rfl⟩)
              subst TJ;subst aM;clear G ab ao Uc HM l C ba be a8 bb;by_cases a7:x0=N
              ·subst a7;by_cases bi:x1=Q
               ·subst bi;refine ay [9,10,11,12,13,14,15,16,17,18,19,20,21,22,23,24,25,26,27,28,29,30,31,32,33,34,35,36,37] 0 ?_;refine bC ?_
                iterate 29 (refine aZ rfl ?_)
                refine bD ?_
                iterate 29 (go_big_quiet_step (rfl))
                refine az ?_;refine aJ [] ?_;refine tail_nil ?_;go_wp2;go_ret;exact⟨_,rfl,fun h=>by (first|cases h|simp at h),kL⟩
               ·have z:((x1:Int)==(Q:Int))=false:=by simp;omega
                have vI:=aa (show ¬twice T X q p from fun h=>bi (Yl.out.1 h).2);clear Yl;refine ay [9,10,11,12,13,14,15,16,17,18,19,20,21,22,23,24,25,26,27,28,29,30,31,32,33,34,35,36,37] 0 ?_;refine bC ?_
                iterate 29 (refine aZ rfl ?_)
                refine bD ?_
                iterate 29 (go_big_quiet_step (rfl))
                refine az ?_;refine aJ [] ?_;refine tail_nil ?_;go_wp2;go_roundw
                case rel=>exact⟨k+1,by omega,rfl,al.out false (fun h=>by cases h) (fun _=>vI.out) rfl,af Ej f⟩
                case measure=>simp[intOf];omega
              ·have z:((x0:Int)==(N:Int))=false:=by simp;omega
               have vI:=aa (show ¬twice T X q p from fun h=>a7 (Yl.out.1 h).1);clear Yl;refine ay [9,10,11,12,13,14,15,16,17,18,19,20,21,22,23,24,25,26,27,28,29,30,31,32,33,34,35,36,37] 0 ?_;refine bC ?_
               iterate 29 (refine aZ rfl ?_)
               refine bD ?_
               iterate 29 (go_big_quiet_step (rfl))
               refine az ?_;refine aJ [] ?_;refine tail_nil ?_;go_wp2;go_roundw
               case rel=>exact⟨k+1,by omega,rfl,al.out false (fun h=>by cases h) (fun _=>vI.out) rfl,af Ej f⟩
               case measure=>simp[intOf];omega
             ·have z:((np:Int)==2)=false:=by simp;omega
              have vI:=aa (show ¬twice T X q p from fun h=>aM (Yj.out.trans h.2.2.1));clear G ab ao Uc HM;refine ay [9,10,11,12,13,14,15,16,17,18,19,20,21,22,23,24,25,26,27,28,29,30,31,32,33,34,35,36,37] 0 ?_;refine bC ?_
              iterate 29 (refine aZ rfl ?_)
              refine bD ?_
              iterate 29 (go_big_quiet_step (rfl))
              refine az ?_;refine aJ [] ?_;refine tail_nil ?_;go_wp2;go_roundw
              case rel=>exact⟨k+1,by omega,rfl,al.out false (fun h=>by cases h) (fun _=>vI.out) rfl,af Ej f⟩
              case measure=>simp[intOf];omega
        ·obtain rfl:j=k:=by omega
         have aH:=aa B;clear B;go_wp2;go_roundw
         case rel=>
          refine⟨j+1,by omega,rfl,fun i hi F D bF aX=>?_,af jP (af h5 ji)⟩;by_cases bo:i=j
          ·rw[HJ.out i hi bo];exact aH.out F D (by omega)
          ·exact Ur.out i hi F D (by omega) aX
         case measure=>simp[intOf];omega
      ·obtain rfl:n=j:=by omega
       have br:=aa (HV.out (fun i hi k hk aX=>B i hi k hk (by have:=HN.out;omega) aX));clear B HV PR bf;go_wp2;go_ret;exact⟨_,rfl,fun _=>br.out,XQ⟩
end Go.Proofs.YtmnimbnojdndmaaGreatDoor
namespace Go.Proofs.YtmnimbnojdndmaaGreatDoor
open Go.RowKit Go.Cd
variable {w w':World} {B n s0 O j k:Nat} {v r x:Value} {row:Option Nat} {L:List (gX×Value)} {Y:List Nat} {d a N:List (aG×Value)}
structure Dx (s0 O:Nat) (r x:Value) (L:List (gX×Value)) (Y:List Nat) (j:Nat) (ov:Value) (Lo:List (aG×Value)) (w:World):Prop where
 rows:w.ownsRow (s0+2) eY 3 r L.length (L.flatMap mh)
 maps:∀p∈L.drop j,w.ownsRow (s0+2) bB 1 p.2 p.1.map.length (bO p.1.map)
 xs:w.ownsRow (s0+2) bB 1 x Y.length (ints Y)
 U3:w.ownsRow (O+1) eY 3 ov Lo.length (Lo.flatMap fG)
 Ue:∀p∈Lo,w.ownsRow (s0+2) bB 1 p.2 p.1.map.length (ints p.1.map)
 res:Is w (s0+1) #[.slice none 0 0,.slice none 0 0] jd
 out:Is w O #[ov,x] jd
structure RtC (O:Nat) (r x:Value) (L:List (gX×Value)) (j:Nat) (Lo:List (aG×Value)):Prop where
 rO:∀k,r.ownBlock=some k->k<O
 xO:∀k,x.ownBlock=some k->k<O
 mO:∀p∈L,∀k,p.2.ownBlock=some k->k<O
 oO:∀p∈Lo,∀k,p.2.ownBlock=some k->k<O
 ra:∀p∈L,jW r p.2
 xa:∀p∈L,jW x p.2
 la:L.Pairwise λp q=>jW p.2 q.2
 oa:∀p∈Lo,∀q∈L.drop j,jW p.2 q.2
def xC {s:Nat} {e:TypeId} {a:List Value} (d:w.ownsRow B e s v n a) (b:w.grownBy w' row) (g:∀k,row=some k->v.ownBlock≠some k):w'.ownsRow B e s v n a:=by
 refine d.kept b ?_;cases f:v.ownBlock with
 | none=>exact .inl rfl
 | some k=>exact .inr λc=>g k c.symm f
def Dx.keep {f:Value} (h:Dx s0 O r x L Y j f d w) (a:w.grownBy w' row)
 (b:∀k,row=some k->r.ownBlock≠some k/\x.ownBlock≠some k/\f.ownBlock≠some k/\(∀p∈L.drop j,p.2.ownBlock≠some k)/\(∀p∈d,p.2.ownBlock≠some k)/\k≠s0+1/\k≠O):Dx s0 O r x L Y j f d w':=
 ⟨xC h.rows a λk e=>(b k e).1,λp c=>xC (h.maps p c) a λk e=>(b k e).2.2.2.1 p c,xC h.xs a λk e=>(b k e).2.1,xC h.U3 a λk e=>(b k e).2.2.1,
   λp c=>xC (h.Ue p c) a λk e=>(b k e).2.2.2.2.1 p c,h.res.grown a λe=>(b _ e).2.2.2.2.2.1 rfl,h.out.grown a λe=>(b _ e).2.2.2.2.2.2 rfl⟩
def Dx.ext {d:Value} {c:List (aG×Value)} (h:Dx s0 O r x L Y j d c w) (a:Below w.heap.size w w'):Dx s0 O r x L Y j d c w':=
 ⟨aH h.rows a,λp b=>aH (h.maps p b) a,aH h.xs a,aH h.U3 a,λp b=>aH (h.Ue p b) a,h.res.mono a,h.out.mono a⟩
def Dx.next {b:Value} (h:Dx s0 O r x L Y j b a w):Dx s0 O r x L Y (j+1) b a w:=
 ⟨h.rows,λp c=>h.maps p (by rw[<-AN] at c;exact lz c),h.xs,h.U3,h.Ue,h.res,h.out⟩
def RtC.next (h:RtC O r x L j a):RtC O r x L (j+1) a:=
 ⟨h.rO,h.xO,h.mO,h.oO,h.ra,h.xa,h.la,λp c q b=>h.oa p c q (by rw[<-AN] at b;exact lz b)⟩
def Dx.adW {m:Value} {l:List (aG×Value)} {g:Nat} (h:Dx s0 O r x L Y (j+1) m l w) (c:RtC O r x L j l) (d:j<L.length) (a:L[j].2.ownBlock=some g)
 (o:s0+2<=g) (n:w.grownBy w' (some g)):Dx s0 O r x L Y (j+1) m l w':=by
 have i:=gx d;refine h.keep n λk e=>?_;cases e;have:=c.mO _ i g a;refine⟨λe=>c.ra _ i g e a,λe=>c.xa _ i g e a,λe=>by have:=(h.U3.lt g e).1;omega,λp f e=>?_,λp f e=>?_,by omega,by omega⟩
 ·have hd:L.drop j=L[j]::L.drop (j+1):=iz d;have b:=List.Pairwise.sublist (List.drop_sublist j L) c.la;rw[hd,mz] at b;exact b.1 p f g a e
 exact c.oa p f L[j] (by rw[iz d];exact n7 ..) g e a
def IY (x:Int):Nat:=lG (x % 2097152).toNat
def vE (m:List Int) (k:Nat):List Int:=(m.take k).map (λx=>((IY x:Nat):Int))++m.drop k
def Uf (m:List Int):vE m 0=m:=by simp[vE]
def ML (m:List Int) (k:Nat):(vE m k).length=m.length:=by simp[vE];omega
def aa4 {m:List Int} (a:k<m.length):(vE m k)[k]? = some m[k]:=by
 unfold vE;rw[j7 (by simp;omega),ia,iS,qk (nu a),m_,iz a];rfl
def XT {m:List Int} (a:k<m.length):(vE m k).set k ((IY m[k]:Nat):Int)=vE m (k+1):=by
 unfold vE;rw[k_ _ _ (by simp;omega),ia,iS,qk (nu a),m_,iz a,rN,gE a,js,yk,kc];rfl
def XU (m:List Int):bO (vE m m.length)=ints (m.map IY):=by
 unfold vE;rw[kO,qT,lE];simp[bO,ints]
def IZ (x:Int):aP (IY x):=rT
def XV {e:TypeId} {g cap:Nat} {c:List Value} (h:w.ownsRow B e 1 (.slice (some ⟨g,0,none⟩) n cap) n c) (r:k<=n):w.ownsRow B e 1 (.slice (some ⟨g,0,none⟩) k cap) k (c.take k):=by
 obtain⟨p,a⟩:=h;rcases a with⟨a,_⟩|⟨o,d,b,a,l,i,q,f,m,j⟩
 ·cases a
 cases a;refine⟨by rw[iS];omega,.inr ⟨g,cap,b,rfl,l,i,by omega,f,m,?_⟩⟩;rw[<-j,AK];congr 1;omega
def y8.QQ (h:w.ownsRow B eY 3 v N.length (N.flatMap fG)) (e:∀p∈N,w.ownsRow n bB 1 p.2 p.1.map.length (ints p.1.map)):y8 w v (N.map Prod.fst):=by
 obtain⟨a,cap,rfl,m,_⟩:=ak h;refine⟨a,cap,by rw[ia],by rw[ia];exact m,λi o=>?_⟩;have b:i<N.length:=by simpa using o
 obtain⟨g,d,k,_,j,_,c⟩:=dC (f:=fG) (λ_=>rfl) rfl h b;cases k;have h0:=(c 0 (by omega)).1;have l:=(c 1 (by omega)).1;have q:=(c 2 (by omega)).1;refine⟨g,0,N[i].2,rfl,j,?_,?_,?_,?_⟩
 ·rw[nf,kh];exact h0
 ·rw[nf,kh];exact l
 ·rw[kh];exact q
 rw[nf];exact(Sl.aU (e _ (gx b))).any
def jq.QQ {a b:Nat} (h:w.ownsRow B eY 3 v N.length (N.flatMap fG)) (d:∀p∈N,w.ownsRow a bB 1 p.2 p.1.map.length (ints p.1.map)) (c:w.ownsRow b bB 1 x Y.length (ints Y)) :
 jq w (.agg #[v,x]) (N.map Prod.fst) Y:=⟨v,x,rfl,y8.QQ h d,(Sl.aU c).any⟩
def Dx.turn {m nv:Value} (h:Dx s0 O r x L Y j m d w) (b:RtC O r x L j d) (q:s0+1<O)
 (f:w.ownsRow (O+1) eY 3 nv N.length (N.flatMap fG)) (i:∀p∈N,w.ownsRow (s0+2) bB 1 p.2 p.1.map.length (ints p.1.map)) (l:∀p∈N,∀k,p.2.ownBlock=some k->k<O) :
 Dx s0 O r x L Y j nv N ((w.setCell ⟨O,0,none⟩ nv).setCell ⟨O,1,none⟩ x):=by
 have P:∀{B n s:Nat} {e:TypeId} {v:Value} {c:List Value},w.ownsRow B e s v n c->v.ownBlock≠some O->((w.setCell ⟨O,0,none⟩ nv).setCell ⟨O,1,none⟩ x).ownsRow B e s v n c:=λo g=>bn (bn o g _ _) g _ _
 refine⟨P h.rows λe=>by have:=b.rO O e;omega,λp a=>P (h.maps p a) λe=>by have:=b.mO p (lz a) O e;omega,P h.xs λe=>by have:=b.xO O e;omega,
  P f (aQ f (by omega)),λp a=>P (i p a) λe=>by have:=l p a O e;omega,(h.res.put (by omega) _).put (by omega) _,(h.out.set 0 nv).set 1 x⟩
end Go.Proofs.YtmnimbnojdndmaaGreatDoor
