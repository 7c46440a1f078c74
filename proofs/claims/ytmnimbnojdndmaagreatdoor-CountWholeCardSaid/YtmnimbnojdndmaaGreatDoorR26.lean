/- One machine of an NFD counts as its units do, multiplied; no condition. -/
import Derived.Test.YtmnimbnojdndmaaGreatDoorR25
import Derived.Handy
set_option maxRecDepth 100000
set_option maxHeartbeats 6400000
set_option linter.all false
namespace Go.Proofs.YtmnimbnojdndmaaGreatDoor
open Go.RowKit Go.Cd _root_.Go.Proofs.Tryz
def Ak {w:World} {v:Value} {T:List aG} {X:List Nat} (h:jq w v T X) (c:Nat) (hc:c<1114112) (I:T.length<1000000) (hX:X.length<1000000) :
 Calls prog 164 #[v,.int .i64 c] w λe w'=>(∃p:Bool,e=.returned (.bool p)/\(p=true↔Prim T X c))/\Below w.heap.size w w':=by
 have HT:=aa h;obtain⟨r,x,rfl,⟨a,cap,rfl,_⟩,s⟩:=h;obtain⟨U,cx,rfl,_,_⟩:=Go.Cd.bG.out s;obtain⟨Y,ad⟩:∃n,n=T.length:=⟨_,rfl⟩;obtain⟨V,R⟩:∃n,n=(ints X).length:=⟨_,rfl⟩;rw[<-ad,<-R] at HT⊢;rw[<-R] at s;have ZT:=aa s;have hb:=ah (w:=w) (.cells #[.slice a Y cap,.slice U V cx] 25);have d0:(w.alloc (.cells #[.slice a Y cap,.slice U V cx] 25)).cell? ⟨w.heap.size,0,none⟩=some (.slice a Y cap):=by unfold World.cell?;rw[heap_alloc_new];rfl
 have d1:(w.alloc (.cells #[.slice a Y cap,.slice U V cx] 25)).cell? ⟨w.heap.size,1,none⟩=some (.slice U V cx):=by unfold World.cell?;rw[heap_alloc_new];rfl
 obtain⟨W0,Z⟩:=ae (w.alloc (.cells #[.slice a Y cap,.slice U V cx] 25));rw[<-Z] at hb d0 d1;have PA:=aa (tH (w:=W0) c hc);have O:=λ(W:World) (E:Below w.heap.size w W) (y:Nat)=>aa (tK (HT.out.mono E) y I);have MP:=λ(W:World) (E:Below w.heap.size w W)=>aa (y9 (HT.out.mono E) c hc I);have IN:=λ(W:World) (E:Below w.heap.size w W)=>aa (PW (ZT.out.mono E) hX c);clear s ad R;by_cases B:4<=hk c
 ·have hp:0<(hparts c).length:=List.length_pos_iff.2 (λh=>by have:=iC.1 h;omega);have D:=aa (show Prim T X c from .inl B);generalize hparts c=P at *;clear B O MP IN;go_enter func164,ntmps164;go_wp2_with fail;rw[<-Z];clear Z;refine PA.out.mono ?_;rintro e w1⟨r1,rfl,o1,L⟩;have C:=af hb L;obtain⟨n1,ac⟩:∃n,n=P.length:=⟨_,rfl⟩;obtain⟨a1,c1,rfl,_,_⟩:=bG.nO (Sl.aU o1).any ac;have:0<n1:=by omega
  clear PA o1 ac hp;go_wp2;go_ret;exact⟨⟨true,rfl,λ_=>D.out,λ_=>rfl⟩,C⟩
 rw[iC.2 (by omega)] at PA;go_enter func164,ntmps164;go_wp2_with fail;rw[<-Z];clear Z;refine PA.out.mono ?_;rintro e w1⟨r1,rfl,o1,L⟩;have C:=af hb L;obtain⟨a1,c1,rfl,_,_⟩:=bG.nO (n:=0) (Sl.aU o1).any rfl;have H:=aB L d0;have G:=aB L d1;have M1:=MP _ C;clear PA o1 MP;go_wp2_with fail;refine M1.out.mono ?_;rintro e w2⟨r2,rfl,s2,s⟩;have i:=af C s;have H:=aB s H;have G:=aB s G;obtain⟨m,J⟩:=ae (mapOf T c);rw[<-J] at s2;obtain⟨nm,j⟩:∃n,n=m.length:=⟨_,rfl⟩;obtain⟨a2,c2,rfl,_,t⟩:=bG.nO s2 j;have Q:=ag w2;have S:=Gr.cell Q H;have g1:=Gr.cell Q G;have ab:=af i Q;clear M1 s2;by_cases F:nm=2
 ·subst F;obtain⟨K,b0,aj⟩:∃K b0,m=[K,b0]:=by
   match m,j with
   | [K,b0],_=>exact⟨K,b0,rfl⟩
  subst aj;obtain⟨b2,f2,rfl,_,g⟩:=t 0 (by simp);have g:w2.cell? ⟨b2,f2,none⟩=some (.int .i64 K):=by simpa using g
  have g2:=Gr.cell Q g;have K0:=O _ ab c;obtain⟨k0,l⟩:∃k,k=ai T c:=⟨_,rfl⟩;obtain⟨k1,o⟩:∃k,k=ai T K:=⟨_,rfl⟩;have K1:=λ(W:World) (E:Below w.heap.size w W)=>O W E K;rw[<-l] at K0;simp only[<-o] at K1;by_cases A:k0=0
  ·by_cases M:k1=0
   ·have D:=aa (show Prim T X c↔c∉X by
     constructor
     ·rintro (h|⟨a,b,h,_,_,u⟩)
      ·exact absurd h B
      exact u
     intro h;exact .inr ⟨K,b0,J.symm,by rw[<-l,A],by rw[<-o,M],h⟩)
    subst A;subst M;clear t j J O B l o;go_wp2_with fail;refine aC (Array.replicate 25 true) 25 0 mixed ?_;refine ay [0,1,2,3,4,5] 19 ?_;refine bC ?_
    iterate 6 (refine aZ rfl ?_)
    refine bD ?_
    iterate 6 (go_big_quiet_step (rfl))
    refine az ?_;refine aI 6 ?_;go_wp2_with fail;refine K0.out.mono ?_;rintro e w3⟨rfl,u⟩;go_wp2_with fail;refine aF u ?_;have d:=af Q u;have lH:=af i d;have S:=Gr.cell d H;have g1:=Gr.cell d G;have g2:=Gr.cell d g;refine ay [7,8,9,10,11,12,13] 11 ?_;refine bC ?_
    iterate 7 (refine aZ rfl ?_)
    refine bD ?_
    iterate 7 (go_big_quiet_step (rfl))
    refine az ?_;have N:=K1 _ lH;refine aI 14 ?_;go_wp2_with fail;refine N.out.mono ?_;rintro e w4⟨rfl,q⟩;go_wp2_with fail;refine aF q ?_;have f:=af d q;have lN:=af i f;have S:=Gr.cell f H;have g1:=Gr.cell f G;have g2:=Gr.cell f g;refine ay [15,16,17,18,19,20] 4 ?_;refine bC ?_
    iterate 6 (refine aZ rfl ?_)
    refine bD ?_
    iterate 6 (go_big_quiet_step (rfl))
    refine az ?_;have I1:=IN _ lN;refine aI 21 ?_;go_wp2_with fail;refine I1.out.mono ?_;rintro e w5⟨rfl,h5⟩;go_wp2_with fail;refine aF h5 ?_;have ak:=af f h5;have jP:=af i ak;refine ay [22,23,24] 0 ?_;refine bC ?_
    iterate 3 (refine aZ rfl ?_)
    refine bD ?_
    iterate 3 (go_big_quiet_step (rfl))
    refine az ?_;refine aJ [] ?_;refine tail_nil ?_;go_wp2;go_ret;exact⟨⟨_,rfl,by rw[D.out];simp⟩,jP⟩
   have D:=aa (show ¬Prim T X c by
    rintro (h|⟨a,b,h,_,s,_⟩)
    ·exact absurd h B
    rw[<-J] at h;cases h;rw[<-o] at s;exact M s)
   have:((k1:Int)==0)=false:=by simp;omega
   subst A;clear t j J O IN B l o;go_wp2_with fail;refine aC (Array.replicate 25 true) 25 0 mixed ?_;refine ay [0,1,2,3,4,5] 19 ?_;refine bC ?_
   iterate 6 (refine aZ rfl ?_)
   refine bD ?_
   iterate 6 (go_big_quiet_step (rfl))
   refine az ?_;refine aI 6 ?_;go_wp2_with fail;refine K0.out.mono ?_;rintro e w3⟨rfl,u⟩;go_wp2_with fail;refine aF u ?_;have d:=af Q u;have lH:=af i d;have S:=Gr.cell d H;have g1:=Gr.cell d G;have g2:=Gr.cell d g;refine ay [7,8,9,10,11,12,13] 11 ?_;refine bC ?_
   iterate 7 (refine aZ rfl ?_)
   refine bD ?_
   iterate 7 (go_big_quiet_step (rfl))
   refine az ?_;have N:=K1 _ lH;refine aI 14 ?_;go_wp2_with fail;refine N.out.mono ?_;rintro e w4⟨rfl,q⟩;go_wp2_with fail;refine aF q ?_;have f:=af d q;have lN:=af i f;have S:=Gr.cell f H;have g1:=Gr.cell f G;have g2:=Gr.cell f g;refine ay [15,16,17,18,19,20] 4 ?_;refine bC ?_
   iterate 6 (refine aZ rfl ?_)
   refine bD ?_
   iterate 6 (go_big_quiet_step (rfl))
   refine az ?_;refine aI 21 ?_;go_wp2_with fail;refine aF (Below.refl _ _) ?_;refine ay [22,23,24] 0 ?_;refine bC ?_
   iterate 3 (refine aZ rfl ?_)
   refine bD ?_
   iterate 3 (go_big_quiet_step (rfl))
   refine az ?_;refine aJ [] ?_;refine tail_nil ?_;go_wp2;go_ret;exact⟨⟨false,rfl,λh=>(by cases h),λh=>absurd h D.out⟩,lN⟩
  have D:=aa (show ¬Prim T X c by
   rintro (h|⟨a,b,h,L,_,_⟩)
   ·exact absurd h B
   rw[<-l] at L;exact A L)
  have:((k0:Int)==0)=false:=by simp;omega
  clear t j J O IN B l o K1;go_wp2_with fail;refine aC (Array.replicate 25 true) 25 0 mixed ?_;refine ay [0,1,2,3,4,5] 19 ?_;refine bC ?_
  iterate 6 (refine aZ rfl ?_)
  refine bD ?_
  iterate 6 (go_big_quiet_step (rfl))
  refine az ?_;refine aI 6 ?_;go_wp2_with fail;refine K0.out.mono ?_;rintro e w3⟨rfl,u⟩;go_wp2_with fail;refine aF u ?_;have d:=af Q u;have lH:=af i d;have S:=Gr.cell d H;have g1:=Gr.cell d G;have g2:=Gr.cell d g;refine ay [7,8,9,10,11,12,13] 11 ?_;refine bC ?_
  iterate 7 (refine aZ rfl ?_)
  refine bD ?_
  iterate 7 (go_big_quiet_step (rfl))
  refine az ?_;refine aI 14 ?_;go_wp2_with fail;refine aF (Below.refl _ _) ?_;refine ay [15,16,17,18,19,20] 4 ?_;refine bC ?_
  iterate 6 (refine aZ rfl ?_)
  refine bD ?_
  iterate 6 (go_big_quiet_step (rfl))
  refine az ?_;refine aI 21 ?_;go_wp2_with fail;refine aF (Below.refl _ _) ?_;refine ay [22,23,24] 0 ?_;refine bC ?_
  iterate 3 (refine aZ rfl ?_)
  refine bD ?_
  iterate 3 (go_big_quiet_step (rfl))
  refine az ?_;refine aJ [] ?_;refine tail_nil ?_;go_wp2;go_ret;exact⟨⟨false,rfl,λh=>(by cases h),λh=>absurd h D.out⟩,lH⟩
 have D:=aa (show ¬Prim T X c by
  rintro (h|⟨a,b,h,_⟩)
  ·omega
  rw[<-J] at h;rw[j,h] at F;exact F rfl)
 have:((nm:Int)==2)=false:=by simp;omega
 clear t j J F O IN B;go_wp2_with fail;refine aC (Array.replicate 25 true) 25 0 mixed ?_;refine ay [0,1,2,3,4,5] 19 ?_;refine bC ?_
 iterate 6 (refine aZ rfl ?_)
 refine bD ?_
 iterate 6 (go_big_quiet_step (rfl))
 refine az ?_;refine aI 6 ?_;go_wp2_with fail;refine aF (Below.refl _ _) ?_;refine ay [7,8,9,10,11,12,13] 11 ?_;refine bC ?_
 iterate 7 (refine aZ rfl ?_)
 refine bD ?_
 iterate 7 (go_big_quiet_step (rfl))
 refine az ?_;refine aI 14 ?_;go_wp2_with fail;refine aF (Below.refl _ _) ?_;refine ay [15,16,17,18,19,20] 4 ?_;refine bC ?_
 iterate 6 (refine aZ rfl ?_)
 refine bD ?_
 iterate 6 (go_big_quiet_step (rfl))
 refine az ?_;refine aI 21 ?_;go_wp2_with fail;refine aF (Below.refl _ _) ?_;refine ay [22,23,24] 0 ?_;refine bC ?_
 iterate 3 (refine aZ rfl ?_)
 refine bD ?_
 iterate 3 (go_big_quiet_step (rfl))
 refine az ?_;refine aJ [] ?_;refine tail_nil ?_;go_wp2;go_ret;exact⟨⟨false,rfl,λh=>(by cases h),λh=>absurd h D.out⟩,ab⟩
def IW {w:World} (c:Nat) (g:c<1114112) :
 Calls prog 163 #[.int .i64 c] w λe w'=>e=.returned (.int .i64 (hk c))/\w'=w:=by
 obtain⟨k,a⟩:=ae (hk c);have b:=aa a;rw[<-a];clear a;have M:∀i:Nat,c=44032+i->((c:Int)-44032).tmod 28=((i % 28:Nat):Int):=by
  intro i d;rw[show(c:Int)-44032=(i:Int) by omega,Int.tmod_eq_emod_of_nonneg (by omega)];omega
 go_each [4352<=c,c<=4370,4449<=c,c<=4469,4520<=c,c<=4546,c<44032,55203<c]=>(
  first
  | (have E:k=1:=b.out.trans (by unfold hk;rw[if_pos (by omega)])
     subst E;clear M;go_enter func163,ntmps163;go_wp2;go_ret;exact⟨rfl,rfl⟩)
  | (have E:k=2:=b.out.trans (by unfold hk;rw[if_neg (by omega),if_pos (by omega)])
     subst E;clear M;go_enter func163,ntmps163;go_wp2;go_ret;exact⟨rfl,rfl⟩)
  | (have E:k=3:=b.out.trans (by unfold hk;rw[if_neg (by omega),if_neg (by omega),if_pos (by omega)])
     subst E;clear M;go_enter func163,ntmps163;go_wp2;go_ret;exact⟨rfl,rfl⟩)
  | (have E:k=0:=b.out.trans (by unfold hk;rw[if_neg (by omega),if_neg (by omega),if_neg (by omega),if_pos (by omega)])
     subst E;clear M;go_enter func163,ntmps163;go_wp2;go_ret;exact⟨rfl,rfl⟩)
  | (obtain⟨i,d⟩:∃i,c=44032+i:=⟨c-44032,by omega⟩
     have M:=M i d;subst d;by_cases f:i % 28=0
     ·have E:k=4:=b.out.trans (by unfold hk;rw[if_neg (by omega),if_neg (by omega),if_neg (by omega),if_neg (by omega),if_pos (by omega)]);subst E;rw[f] at M;go_enter func163,ntmps163;go_wp2;go_ret;exact⟨rfl,rfl⟩
     have E:k=5:=b.out.trans (by unfold hk;rw[if_neg (by omega),if_neg (by omega),if_neg (by omega),if_neg (by omega),if_neg (by omega)]);subst E;have:¬(((44032+i:Nat):Int)-44032).tmod 28=0:=by rw[M];omega
     clear M
     go_enter func163,ntmps163;go_wp2;go_ret;exact⟨rfl,rfl⟩))
def twice (T:List aG) (X:List Nat) (r q:aG):Prop:=Prim T X r.code/\Prim T X q.code/\q.map.length=2/\q.map=r.map
theorem aa2 {T:List aG} {X:List Nat} (h:∀i (c:i<T.length) k (b:k<T.length),k<i->¬twice T X T[i] T[k]) :
 ∀r∈T,∀q∈T,r.map.length=2->r.map=q.map->Prim T X r.code->Prim T X q.code->r=q:=by
 intro r j q g f d e a;obtain⟨i,c,rfl⟩:=List.getElem_of_mem j;obtain⟨k,b,rfl⟩:=List.getElem_of_mem g;rcases Nat.lt_trichotomy i k with hik|rfl|hik
 ·exact absurd ⟨a,e,f,d⟩ (h k b i c hik)
 ·rfl
 exact absurd ⟨e,a,d▸f,d.symm⟩ (h i c k b hik)
theorem QO {l:List Nat} {n:Nat} (c:n=l.length) (h:n=2):∃a b,l=[a,b]:=by
 subst h
 match l,c with
 | [a,b],_=>exact⟨a,b,rfl⟩
theorem Ei {w:World} {v:Value} {T:List aG} {X:List Nat} (h:jq w v T X) (ba:T.length<1000000) (hX:X.length<1000000)
 (hT:∀r∈T,aP r.code/\r.cls<255/\r.map.length<=2/\∀x∈r.map,aP x) :
 Calls prog 120 #[v] w λe w'=>∃s,e=.returned (.string s)/\(s=⟨#[]⟩->aY T X)/\Below w.heap.size w w':=by
 have HT:=aa h;obtain⟨r,x,rfl,⟨a,cap,rfl,bd,l⟩,h2⟩:=h;have HX:=aa l;obtain⟨ax,cx,rfl,_,_⟩:=Go.Cd.bG.out h2;obtain⟨n,hn⟩:=ae T.length;obtain⟨nx,a2⟩:∃n,n=(ints X).length:=⟨_,rfl⟩;rw[<-hn] at ba bd;rw[<-hn,<-a2] at HT⊢;have HN:=aa hn;have SS:=aa hT;have hb:=ah (w:=w) (.cells #[.slice a n cap,.slice ax nx cx] 25);have d0:(w.alloc (.cells #[.slice a n cap,.slice ax nx cx] 25)).cell? ⟨w.heap.size,0,none⟩=some (.slice a n cap):=by unfold World.cell?;rw[heap_alloc_new];rfl
 have d1:(w.alloc (.cells #[.slice a n cap,.slice ax nx cx] 25)).cell? ⟨w.heap.size,1,none⟩=some (.slice ax nx cx):=by unfold World.cell?;rw[heap_alloc_new];rfl
 obtain⟨W0,hW⟩:=ae (w.alloc (.cells #[.slice a n cap,.slice ax nx cx] 25));rw[<-hW] at hb d0 d1;have IS:=λ(W:World) (y:Nat) (D:y<1114112)=>aa (EH (w:=W) y (by omega));have KI:=λ(W:World) (y:Nat) (D:y<1114112)=>aa (IW (w:=W) y D);have FU:=λ(W:World) (E:Below w.heap.size w W) (y:Nat) (D:y<1114112)=>aa (wD (HT.out.mono E) y D (λr c x l=>((hT r c).2.2.2 x l).1) (λr c=>Nat.le_trans (hT r c).2.2.1 (by decide)) (by omega));have PR:=λ(W:World) (E:Below w.heap.size w W) (y:Nat) (D:y<1114112)=>aa (Ak (HT.out.mono E) y D (by omega) hX);clear h2 a2 l hn hT;go_enter func120,ntmps120;go_wp2_with fail;rw[<-hW];clear hW;go_loopw [3,21] (λlv iv wr=>∃(j:Nat) (t:Int),j<=n/\iv=.int .i64 j/\lv=.int .i64 t/\-1<=t/\t<1114112/\(∀r∈T.take j,(r.code:Int)<=t)/\rising (T.take j)/\(∀r∈T.take j,hk r.code=0/\∀x∈r.map,hk x=0)/\Below W0.heap.size W0 wr) (λ_ iv _=>n-(intOf iv).toNat)
 case atStart=>exact⟨0,-1,Nat.zero_le _,rfl,rfl,by decide,by decide,by simp,trivial,by simp,Below.refl _ _⟩
 case round=>
  obtain⟨j,t,hj,rfl,rfl,bj,br,aS,ad,aj,hE⟩:=hrel;have fT:=af hb hE;by_cases aw:j<n
  ·have d:j<T.length:=by have:=HN.out;omega
   obtain⟨b,off,m,rfl,av,M,J,I,K⟩:=HX.out j d;have M:=aB fT M;have J:=aB fT J;have I:=aB fT I;have K:=K.mono fT;obtain⟨aV,bL,bu,bc⟩:=SS.out _ (List.getElem_mem d);have HS:=aa (show T.take (j+1)=T.take j++[T[j]] from List.take_succ_eq_append_getElem d);have Q_:=aa aS;have aK:=aa ad;have ac:=aa aj;generalize T[j]=q at *;obtain⟨nm,f⟩:=ae q.map.length;obtain⟨am,cm,rfl,bH,U⟩:=bG.nO K f;have Uc:=aa U;have a9:=aa bc;have sN:=aa f;have HM:=aa K;have Y:=aV.1;have I1:=λW=>IS W q.code Y;simp only[decide_eq_true aV] at I1;have TJ:nm<=2:=by omega
   clear aS ad aj bc U K bu f aV FU PR;go_wp2_with fail;refine(I1 _).out.mono ?_;rintro e Z⟨rfl,rfl⟩;by_cases bk:(q.code:Int)<=t
   ·go_wp2;go_ret;exact⟨_,rfl,λh=>by (first|cases h|simp at h),hb.trans ((af hE (ah _)).mono hb.size)⟩
   have O:((wr.alloc (.cells #[.int .i64 q.code,.int .i64 q.cls,.slice am nm cm] 78)).alloc (.cells #[.int .i64 q.code] bB)).ownsRow (wr.heap.size+1) bB 1 (.slice (some ⟨wr.heap.size+1,0,none⟩) 1 1) 1 [.int .i64 q.code]:=by
    have:=mU (wr.alloc (.cells #[.int .i64 q.code,.int .i64 q.cls,.slice am nm cm] 78)) #[.int .i64 q.code] bB 1 rfl (by decide);simpa only[World.size_alloc] using this
   have S2:=aa (λ(W:World) (E:Below wr.heap.size wr W)=>HM.out.mono E);have O:=aa O;have a5:=aa (show ∀(Z:World) (v1:Value) (n1:Nat),Z.ownsRow (wr.heap.size+1) bB 1 v1 n1 ([Value.int .i64 q.code]++ints q.map)->bG Z v1 (ints (q.code::q.map)) from λZ v1 n1 o=>(Sl.aU o).any);have aX:=aa (show nm+1=(q.code::q.map).length by rw[List.length_cons,sN.out]);go_wp2_with (at_builtin;refine bR rfl _ _ 23 rfl (wr.heap.size+1) bB _ 8 jN _ 1 _ rfl O.out _ (ints q.map) rfl (S2.out _ (dH _ _)) (kJ _) (by rw[ek,<-sN.out];unfold maxLen;omega) (by rw[ek,<-sN.out];omega) (by simp only[World.size_alloc];omega) ?_;intro v1 Z o1 a0;obtain⟨a1,Ao,rfl,_,a4⟩:=bG.nO (a5.out _ _ _ o1) aX.out);have aT:Below wr.heap.size wr Z:=(dH _ _).grown a0 (dH _ _).size (λk hk=>by have:=(O.out.lt k hk).1;omega);have f2:Z.cell? ⟨wr.heap.size,2,none⟩=some (.slice am nm cm):=
    a0.cell (aB (ah _) (by unfold World.cell?;rw[heap_alloc_new];rfl)) (λe=>by have:=(O.out.lt _ e.symm).1;simp only at this;omega)
   have mH:=aa a4
   have HQ:=aa (show ∀x∈q.code::q.map,x<1114112 from λx l=>by
    rcases List.mem_cons.1 l with rfl|l
    ·exact Y
    exact(a9.out x l).1)
   clear o1 a0 a4 M J I I1 a5;generalize hL:q.code::q.map=L at *;have HL:=aa hL;clear hL;obtain⟨wo,R⟩:∃w',w'=wr:=⟨_,rfl⟩;subst R;go_wp2_with fail;go_loopw [60] (λkv w2=>∃k:Nat,k<=nm+1/\kv=.int .i64 k/\(∀x∈L.take k,hk x=0)/\w2=Z) (λkv _=>nm+1-(intOf kv).toNat)
   case atStart=>exact⟨0,Nat.zero_le _,rfl,by simp,(by first|rfl|trivial)⟩
   case round=>
    obtain⟨k,aM,rfl,ab,rfl⟩:=hrel;obtain⟨Z,R⟩:∃w',w'=wr:=⟨_,rfl⟩;subst R;by_cases bx:k<nm+1
    ·have B:k<L.length:=by have:=aX.out;omega
     obtain⟨b1,f1,rfl,_,hz⟩:=mH.out k B;have K1:=λW=>KI W _ (HQ.out _ (List.getElem_mem B));have Zr:=aa (show L.take (k+1)=L.take k++[L[k]] from List.take_succ_eq_append_getElem B);have aA:=aa ab;generalize L[k]=y at *;clear ab;by_cases bf:hk y=0
     ·rw[bf] at K1;go_wp2_with fail;refine(K1 _).out.mono ?_;rintro e w2⟨rfl,rfl⟩;go_wp2;go_roundw
      case rel=>exact⟨k+1,by omega,rfl,λx l=>by
       rw[Zr.out,List.mem_append,List.mem_singleton] at l;rcases l with l|rfl
       ·exact aA.out x l
       exact bf,(by first|rfl|trivial)⟩
      case measure=>simp[intOf];omega
     go_wp2_with fail;refine(K1 _).out.mono ?_;rintro e w2⟨rfl,rfl⟩;generalize hk y=kk at *;go_wp2;go_ret;exact⟨_,rfl,λh=>by (first|cases h|simp at h),hb.trans ((af hE aT).mono hb.size)⟩
    have bg:k=nm+1:=by omega
    rw[List.take_of_length_le (by have:=aX.out;omega)] at ab;have aA:=aa ab;clear ab mH HQ aM bg;have aO:=Uc.out;go_wp2_with fail;go_loopw [71] (λkv w2=>∃k:Nat,k<=nm/\kv=.int .i64 k/\w2=Z) (λkv _=>nm-(intOf kv).toNat)
    case atStart=>exact⟨0,Nat.zero_le _,rfl,(by first|rfl|trivial)⟩
    case round=>
     obtain⟨k,aM,rfl,rfl⟩:=hrel;obtain⟨Z,R⟩:∃w',w'=wr:=⟨_,rfl⟩;subst R;by_cases bx:k<nm
     ·have B:k<q.map.length:=by have:=sN.out;omega
      obtain⟨N,Q,rfl,_,hz⟩:=aO k B;have hz:=aB aT hz;have aW:=a9.out _ (List.getElem_mem B);have I2:=λW=>IS W _ aW.1;simp only[decide_eq_true aW] at I2;clear aW aO;generalize q.map[k]=y at *;go_wp2_with fail;refine(I2 _).out.mono ?_;rintro e w2⟨rfl,rfl⟩;go_wp2;go_roundw
      case rel=>exact⟨k+1,by omega,rfl,(by first|rfl|trivial)⟩
      case measure=>simp[intOf];omega
     clear aO;go_wp2;go_roundw
     case rel=>
      refine⟨j+1,q.code,by omega,rfl,rfl,by omega,by omega,?_,?_,?_,af hE aT⟩
      ·intro r c;rw[HS.out,List.mem_append,List.mem_singleton] at c;rcases c with c|rfl
       ·have:=Q_.out r c;omega
       exact Int.le_refl _
      ·rw[HS.out,DF];refine⟨aK.out,⟨by simp,trivial⟩,λr c q' bl=>?_⟩;rw[List.mem_singleton.1 bl];have:=Q_.out r c;omega
      intro r c;rw[HS.out,List.mem_append,List.mem_singleton] at c;rcases c with c|rfl
      ·exact ac.out r c
      refine⟨aA.out _ (by rw[<-HL.out];simp),λx l=>aA.out _ (by rw[<-HL.out];simp[l])⟩
     case measure=>simp[intOf];omega
  obtain rfl:n=j:=by omega
  rw[List.take_of_length_le (by rw[HN.out];exact Nat.le_refl _)] at ad aj;have aK:=aa ad;have ac:=aa aj;have H:=aB hE d0;have V:=aB hE d1;clear aS ad aj bj br aw hj KI IS;obtain⟨w3,R⟩:∃w',w'=wr:=⟨_,rfl⟩;subst R;go_wp2_with fail;go_loopw [83] (λiv w4=>∃j:Nat,j<=n/\iv=.int .i64 j/\(∀r∈T.take j,fQ T r.code)/\Below w3.heap.size w3 w4) (λiv _=>n-(intOf iv).toNat)
  case atStart=>exact⟨0,Nat.zero_le _,rfl,by simp,Below.refl _ _⟩
  case round=>
   obtain⟨j,hj,rfl,ao,lN⟩:=hrel;obtain⟨w4,R⟩:∃w',w'=wr:=⟨_,rfl⟩;subst R;have MJ:=af fT lN;by_cases aw:j<n
   ·have d:j<T.length:=by have:=HN.out;omega
    obtain⟨b,off,m,rfl,av,M,J,I,K⟩:=HX.out j d;have M:=aB MJ M;have J:=aB MJ J;have I:=aB MJ I;have g0:=aB lN H;have g1:=aB lN V;obtain⟨nm,f⟩:=ae (T[j].map.length);obtain⟨am,cm,rfl,_,_⟩:=bG.nO K f;clear K f;have Y:=(SS.out _ (List.getElem_mem d)).1.1;have HS:=aa (show T.take (j+1)=T.take j++[T[j]] from List.take_succ_eq_append_getElem d);have Yp:=aa ao;generalize T[j]=q at *;have F1:=λ(W:World) (E:Below w4.heap.size w4 W)=>FU W (MJ.trans (E.mono MJ.size)) q.code Y;have bN:(w4.alloc (.cells #[.int .i64 q.code,.int .i64 q.cls,.slice am nm cm] 78)).cell? ⟨w.heap.size,0,none⟩=some (.slice (some ⟨b,off,none⟩) n cap):=aB (ah _) g0;have bJ:(w4.alloc (.cells #[.int .i64 q.code,.int .i64 q.cls,.slice am nm cm] 78)).cell? ⟨w.heap.size,1,none⟩=some (.slice ax nx cx):=aB (ah _) g1;clear ao FU PR H V av g0 g1;by_cases hf:fQ T q.code
    ·simp only[decide_eq_true hf] at F1;go_wp2_with fail;refine(F1 _ (ah _)).out.mono ?_;rintro e w5⟨r5,rfl,_,h5⟩;go_wp2;go_roundw
     case rel=>exact⟨j+1,by omega,rfl,λr c=>by
      rw[HS.out,List.mem_append,List.mem_singleton] at c;rcases c with c|rfl
      ·exact Yp.out r c
      exact hf,af lN (af (ah _) h5)⟩
     case measure=>simp[intOf];omega
    simp only[decide_eq_false hf] at F1;go_wp2_with fail;refine(F1 _ (ah _)).out.mono ?_;rintro e w5⟨r5,rfl,_,h5⟩;go_wp2;go_ret;exact⟨_,rfl,λh=>by (first|cases h|simp at h),MJ.trans ((af (ah _) h5).mono MJ.size)⟩
   obtain rfl:n=j:=by omega
   rw[List.take_of_length_le (by rw[HN.out];exact Nat.le_refl _)] at ao;have Yp:=aa ao;have H:=aB lN H;have V:=aB lN V;clear ao aw hj FU;have a3:=aa (show ∀r∈T,Prim T X r.code->r.map.length=2 from λr c hp=>Bb aK.out c (by have:=(ac.out r c).1;omega) hp)
   have HV:=aa (show(∀i (hi:i<T.length) k (hk:k<T.length),k<i->¬twice T X T[i] T[k])->aY T X from λh=>
    ⟨λr c=>⟨(SS.out r c).1,(SS.out r c).2.1,(SS.out r c).2.2.1,(ac.out r c).1,λx l=>⟨(ac.out r c).2 x l,(SS.out r c).2.2.2 x l⟩⟩,aK.out,Yp.out,aa2 h⟩)
   go_wp2_with fail;go_loopw [100] (λiv w5=>∃j:Nat,j<=n/\iv=.int .i64 j/\(∀i (hi:i<T.length) k (hk:k<T.length),i<j->k<i->¬twice T X T[i] T[k])/\Below w4.heap.size w4 w5) (λiv _=>n-(intOf iv).toNat)
   case atStart=>exact⟨0,Nat.zero_le _,rfl,λi _ k _ h=>by omega,Below.refl _ _⟩
   case round=>
    obtain⟨j,hj,rfl,u,jP⟩:=hrel;obtain⟨w5,R⟩:∃w',w'=wr:=⟨_,rfl⟩;subst R;have XQ:=af MJ jP;by_cases aw:j<n
    ·have d:j<T.length:=by have:=HN.out;omega
     obtain⟨b,off,m,rfl,av,M,J,I,K⟩:=HX.out j d;have M:=aB XQ M;have J:=aB XQ J;have I:=aB XQ I;have H:=aB jP H;have V:=aB jP V;have Y:=(SS.out _ (List.getElem_mem d)).1.1;have be:=List.getElem_mem d;have HJ:=aa (show ∀i (hi:i<T.length),i=j->T[i]=T[j] from λi hi h=>by subst h;rfl);have Ur:=aa u;have HM:=aa (a3.out _ be);generalize T[j]=q at *;obtain⟨nm,f⟩:=ae q.map.length;obtain⟨am,cm,rfl,_,U⟩:=bG.nO K f
     have Uc:=aa (show nm=2->∃P S,q.map=[P,S]/\∃N Q,am=some ⟨N,Q,none⟩/\w.cell? ⟨N,Q,none⟩=some (.int .i64 P)/\w.cell? ⟨N,Q+1,none⟩=some (.int .i64 S) from λh2=>by
      obtain⟨P,S,D⟩:=QO f h2;obtain⟨N,Q,rfl,_,z0⟩:=U 0 (by omega);obtain⟨bt,bw,an,_,z1⟩:=U 1 (by omega);cases an;simp only[D] at z0 z1
      exact⟨P,S,D,N,Q,rfl,by simpa using z0,by simpa using z1⟩)
     have sN:=aa f;have bE:j<=cap:=by omega
     obtain⟨W5,Ud⟩:=ae (w5.alloc (.cells #[.int .i64 q.code,.int .i64 q.cls,.slice am nm cm] 78));have h5:Below w5.heap.size w5 W5:=by subst Ud;exact ah _
     have bv:(w5.alloc (.cells #[.int .i64 q.code,.int .i64 q.cls,.slice am nm cm] 78)).cell? ⟨w.heap.size,0,none⟩=some (.slice (some ⟨b,off,none⟩) n cap):=aB (ah _) H;have q0:W5.cell? ⟨w5.heap.size,0,none⟩=some (.int .i64 q.code):=by subst Ud;unfold World.cell?;rw[heap_alloc_new];rfl
     have q2:W5.cell? ⟨w5.heap.size,2,none⟩=some (.slice am nm cm):=by subst Ud;unfold World.cell?;rw[heap_alloc_new];rfl
     have H:=aB h5 H;have V:=aB h5 V;have bb:=af XQ h5;clear u K f U be av;go_wp2_with fail;rw[<-Ud];clear Ud bv;go_loopw [110] (λkv w6=>∃k:Nat,k<=j/\kv=.int .i64 k/\(∀C (F:C<T.length),C<k->¬twice T X q T[C])/\Below W5.heap.size W5 w6) (λkv _=>j-(intOf kv).toNat)
     case atStart=>exact⟨0,Nat.zero_le _,rfl,λC _ h=>by omega,Below.refl _ _⟩
     case round=>
      clear M J I;obtain⟨k,aM,rfl,u,ji⟩:=hrel;obtain⟨w6,R⟩:∃w',w'=wr:=⟨_,rfl⟩;subst R;have aN:=af bb ji;by_cases bI:k<j
      ·have B:k<T.length:=by have:=HN.out;omega
       obtain⟨b',bz,m',an,_,M,J,I,K⟩:=HX.out k B;cases an;have M:=aB aN M;have J:=aB aN J;have I:=aB aN I;have bq:=(SS.out _ (List.getElem_mem B)).1.1;have ar:=aa u;have HK:=aa (show ∀i (hi:i<T.length),i=k->T[i]=T[k] from λi hi h=>by subst h;rfl);generalize T[k]=p at *;obtain⟨np,Ux⟩:∃nm,nm=p.map.length:=⟨_,rfl⟩;obtain⟨ap,cp,rfl,_,aR⟩:=bG.nO K Ux
       have ak:=aa (show np=2->∃P S,p.map=[P,S]/\∃N Q,ap=some ⟨N,Q,none⟩/\w.cell? ⟨N,Q,none⟩=some (.int .i64 P)/\w.cell? ⟨N,Q+1,none⟩=some (.int .i64 S) from λh2=>by
        obtain⟨P,S,D⟩:=QO Ux h2;obtain⟨N,Q,rfl,_,z0⟩:=aR 0 (by omega);obtain⟨bt,bw,an,_,z1⟩:=aR 1 (by omega);cases an;simp only[D] at z0 z1
        exact⟨P,S,D,N,Q,rfl,by simpa using z0,by simpa using z1⟩)
       have Yj:=aa Ux;obtain⟨W6,aq⟩:=ae (w6.alloc (.cells #[.int .i64 p.code,.int .i64 p.cls,.slice ap np cp] 78));have h6:Below w6.heap.size w6 W6:=by subst aq;exact ah _
       have p0:W6.cell? ⟨w6.heap.size,0,none⟩=some (.int .i64 p.code):=by subst aq;unfold World.cell?;rw[heap_alloc_new];rfl
       have p2:W6.cell? ⟨w6.heap.size,2,none⟩=some (.slice ap np cp):=by subst aq;unfold World.cell?;rw[heap_alloc_new];rfl
       have Ej:=af ji h6;have H:=aB Ej H;have V:=aB Ej V;have q0:=aB Ej q0;have q2:=aB Ej q2;have XR:=af bb Ej
       have al:=aa (show ∀z,(z=true->twice T X q p)->(z=false->¬twice T X q p)->z=false->∀C (F:C<T.length),C<k+1->¬twice T X q T[C] from λz _ h0 hz C F bg=>by
        by_cases h:C=k
        ·rw[HK.out C F h];exact h0 hz
        exact ar.out C F (by omega))
       clear u K Ux aR ar HK;go_wp2_with fail;rw[<-aq];clear aq;have hq:=ag W6;have g0:=Gr.cell hq H;have g1:=Gr.cell hq V;have aE:=Gr.cell hq q0;have aD:=Gr.cell hq q2;have au:=Gr.cell hq p0;have aH:=Gr.cell hq p2;have P1:=PR _ (XR.trans (hq.mono XR.size)) q.code Y;have P2:=λ(W:World) (E:Below W6.heap.size W6 W)=>PR W (XR.trans (E.mono XR.size)) p.code bq;clear PR M J I;refine aC (Array.replicate 38 true) 38 0 mixed ?_;refine ay [0,1,2] 35 ?_;refine bC ?_
       iterate 3 (refine aZ rfl ?_)
       refine bD ?_
       iterate 3 (go_big_quiet_step (rfl))
       refine az ?_;refine aI 3 ?_;go_wp2_with fail;refine P1.out.mono ?_;rintro e w7⟨⟨p1,rfl,G⟩,h7⟩;go_wp2_with fail;refine aF h7 ?_;have A:=af hq h7;clear g0 g1 aE aD au aH P1;have g0:=Gr.cell A H;have g1:=Gr.cell A V;have aE:=Gr.cell A q0;have aD:=Gr.cell A q2;have au:=Gr.cell A p0;have aH:=Gr.cell A p2;cases p1 with
       | false=>
         have vI:=aa (show ¬twice T X q p from λh=>by have:=G.2 h.1;cases this);clear P2 G ak Uc HM;refine ay [4,5,6,7] 30 ?_;refine bC ?_
         iterate 4 (refine aZ rfl ?_)
         refine bD ?_
         iterate 4 (go_big_quiet_step (rfl))
         refine az ?_;refine aI 8 ?_;go_wp2_with fail;refine aF (Below.refl _ _) ?_;refine ay [9,10,11,12,13,14,15,16,17,18,19,20,21,22,23,24,25,26,27,28,29,30,31,32,33,34,35,36,37] 0 ?_;refine bC ?_
         iterate 29 (refine aZ rfl ?_)
         refine bD ?_
         iterate 29 (go_big_quiet_step (rfl))
         refine az ?_;refine aJ [] ?_;refine tail_nil ?_;go_wp2;go_roundw
         case rel=>exact⟨k+1,by omega,rfl,al.out false (λh=>by cases h) (λ_=>vI.out) rfl,af Ej A⟩
         case measure=>simp[intOf];omega
       | true=>
         have P2:=P2 _ A;refine ay [4,5,6,7] 30 ?_;refine bC ?_
         iterate 4 (refine aZ rfl ?_)
         refine bD ?_
         iterate 4 (go_big_quiet_step (rfl))
         refine az ?_;refine aI 8 ?_;go_wp2_with fail;refine P2.out.mono ?_;rintro e w8⟨⟨bs,rfl,ai⟩,h8⟩;go_wp2_with fail;refine aF h8 ?_;have g:=af A h8;clear g0 g1 aE aD au aH P2;have g0:=Gr.cell g H;have g1:=Gr.cell g V;have aE:=Gr.cell g q0;have aD:=Gr.cell g q2;have au:=Gr.cell g p0;have aH:=Gr.cell g p2;cases bs with
         | false=>
           have vI:=aa (show ¬twice T X q p from λh=>by have:=ai.2 h.2.1;cases this);clear G ai ak Uc HM;refine ay [9,10,11,12,13,14,15,16,17,18,19,20,21,22,23,24,25,26,27,28,29,30,31,32,33,34,35,36,37] 0 ?_;refine bC ?_
           iterate 29 (refine aZ rfl ?_)
           refine bD ?_
           iterate 29 (go_big_quiet_step (rfl))
           refine az ?_;refine aJ [] ?_;refine tail_nil ?_;go_wp2;go_roundw
           case rel=>exact⟨k+1,by omega,rfl,al.out false (λh=>by cases h) (λ_=>vI.out) rfl,af Ej g⟩
           case measure=>simp[intOf];omega
         | true=>
           have TJ:nm=2:=sN.out.trans (HM.out (G.1 (by trivial)));by_cases aL:np=2
           ·obtain⟨P,S,D,N,Q,rfl,bh,a7⟩:=Uc.out TJ;obtain⟨x0,x1,l,bp,fp,rfl,a8,a_⟩:=ak.out aL;have kL:=af XR g;have bK:=Gr.cell kL bh;have bF:=Gr.cell kL a7;have bO:=Gr.cell kL a8;have bM:=Gr.cell kL a_
            have Yl:=aa (show twice T X q p↔x0=P/\x1=S from by
             unfold twice;rw[l,D];constructor
             ·rintro⟨_,_,_,h⟩;cases h;exact⟨rfl,rfl⟩
             rintro⟨rfl,rfl⟩;exact⟨G.1 (by trivial),ai.1 (by trivial),rfl,rfl⟩)
            subst TJ;subst aL;clear G ai ak Uc HM l D bh a7 a8 a_;by_cases bi:x0=P
            ·subst bi;by_cases a6:x1=S
             ·subst a6;refine ay [9,10,11,12,13,14,15,16,17,18,19,20,21,22,23,24,25,26,27,28,29,30,31,32,33,34,35,36,37] 0 ?_;refine bC ?_
              iterate 29 (refine aZ rfl ?_)
              refine bD ?_
              iterate 29 (go_big_quiet_step (rfl))
              refine az ?_;refine aJ [] ?_;refine tail_nil ?_;go_wp2;go_ret;exact⟨_,rfl,λh=>by (first|cases h|simp at h),kL⟩
             have z:((x1:Int)==(S:Int))=false:=by simp;omega
             have vI:=aa (show ¬twice T X q p from λh=>a6 (Yl.out.1 h).2);clear Yl;refine ay [9,10,11,12,13,14,15,16,17,18,19,20,21,22,23,24,25,26,27,28,29,30,31,32,33,34,35,36,37] 0 ?_;refine bC ?_
             iterate 29 (refine aZ rfl ?_)
             refine bD ?_
             iterate 29 (go_big_quiet_step (rfl))
             refine az ?_;refine aJ [] ?_;refine tail_nil ?_;go_wp2;go_roundw
             case rel=>exact⟨k+1,by omega,rfl,al.out false (λh=>by cases h) (λ_=>vI.out) rfl,af Ej g⟩
             case measure=>simp[intOf];omega
            have z:((x0:Int)==(P:Int))=false:=by simp;omega
            have vI:=aa (show ¬twice T X q p from λh=>bi (Yl.out.1 h).1);clear Yl;refine ay [9,10,11,12,13,14,15,16,17,18,19,20,21,22,23,24,25,26,27,28,29,30,31,32,33,34,35,36,37] 0 ?_;refine bC ?_
            iterate 29 (refine aZ rfl ?_)
            refine bD ?_
            iterate 29 (go_big_quiet_step (rfl))
            refine az ?_;refine aJ [] ?_;refine tail_nil ?_;go_wp2;go_roundw
            case rel=>exact⟨k+1,by omega,rfl,al.out false (λh=>by cases h) (λ_=>vI.out) rfl,af Ej g⟩
            case measure=>simp[intOf];omega
           have z:((np:Int)==2)=false:=by simp;omega
           have vI:=aa (show ¬twice T X q p from λh=>aL (Yj.out.trans h.2.2.1));clear G ai ak Uc HM;refine ay [9,10,11,12,13,14,15,16,17,18,19,20,21,22,23,24,25,26,27,28,29,30,31,32,33,34,35,36,37] 0 ?_;refine bC ?_
           iterate 29 (refine aZ rfl ?_)
           refine bD ?_
           iterate 29 (go_big_quiet_step (rfl))
           refine az ?_;refine aJ [] ?_;refine tail_nil ?_;go_wp2;go_roundw
           case rel=>exact⟨k+1,by omega,rfl,al.out false (λh=>by cases h) (λ_=>vI.out) rfl,af Ej g⟩
           case measure=>simp[intOf];omega
      obtain rfl:j=k:=by omega
      have ar:=aa u;clear u;go_wp2;go_roundw
      case rel=>
       refine⟨j+1,by omega,rfl,λi hi C F bA aQ=>?_,af jP (af h5 ji)⟩;by_cases bn:i=j
       ·rw[HJ.out i hi bn];exact ar.out C F (by omega)
       exact Ur.out i hi C F (by omega) aQ
      case measure=>simp[intOf];omega
    obtain rfl:n=j:=by omega
    have bo:=aa (HV.out (λi hi k hk aQ=>u i hi k hk (by have:=HN.out;omega) aQ));clear u HV PR a3;go_wp2;go_ret;exact⟨_,rfl,λ_=>bo.out,XQ⟩
end Go.Proofs.YtmnimbnojdndmaaGreatDoor
namespace Go.Proofs.YtmnimbnojdndmaaGreatDoor
open Go.RowKit Go.Cd
variable {w w':World} {B s0 O j k:Nat} {v r x:Value} {row:Option Nat} {L:List (gX×Value)} {Y:List Nat} {f c a N:List (aG×Value)}
structure Dx (s0 O:Nat) (r x:Value) (L:List (gX×Value)) (Y:List Nat) (j:Nat) (ov:Value) (Lo:List (aG×Value)) (w:World):Prop where
 rows:w.ownsRow (s0+2) eY 3 r L.length (L.flatMap mh)
 maps:∀p∈L.drop j,w.ownsRow (s0+2) bB 1 p.2 p.1.map.length (bO p.1.map)
 xs:w.ownsRow (s0+2) bB 1 x Y.length (ints Y)
 MK:w.ownsRow (O+1) eY 3 ov Lo.length (Lo.flatMap fG)
 Ue:∀p∈Lo,w.ownsRow (s0+2) bB 1 p.2 p.1.map.length (ints p.1.map)
 res:Is w (s0+1) #[.slice none 0 0,.slice none 0 0] jd
 out:Is w O #[ov,x] jd
structure RtC (O:Nat) (r x:Value) (L:List (gX×Value)) (j:Nat) (Lo:List (aG×Value)):Prop where
 rO:∀k,r.ownBlock=some k->k<O
 xO:∀k,x.ownBlock=some k->k<O
 mO:∀p∈L,∀k,p.2.ownBlock=some k->k<O
 oO:∀p∈Lo,∀k,p.2.ownBlock=some k->k<O
 ra:∀p∈L,za r p.2
 xa:∀p∈L,za x p.2
 la:L.Pairwise λp q=>za p.2 q.2
 oa:∀p∈Lo,∀q∈L.drop j,za p.2 q.2
def xC {n s:Nat} {e:TypeId} {a:List Value} (g:w.ownsRow B e s v n a) (b:w.grownBy w' row) (f:∀k,row=some k->v.ownBlock≠some k):w'.ownsRow B e s v n a:=by
 refine g.kept b ?_;cases d:v.ownBlock with
 | none=>exact .inl rfl
 | some k=>exact .inr λc=>f k c.symm d
def Dx.keep {d:Value} (h:Dx s0 O r x L Y j d f w) (a:w.grownBy w' row)
 (b:∀k,row=some k->r.ownBlock≠some k/\x.ownBlock≠some k/\d.ownBlock≠some k/\(∀p∈L.drop j,p.2.ownBlock≠some k)/\(∀p∈f,p.2.ownBlock≠some k)/\k≠s0+1/\k≠O):Dx s0 O r x L Y j d f w':=
 ⟨xC h.rows a λk e=>(b k e).1,λp c=>xC (h.maps p c) a λk e=>(b k e).2.2.2.1 p c,xC h.xs a λk e=>(b k e).2.1,xC h.MK a λk e=>(b k e).2.2.1,
   λp c=>xC (h.Ue p c) a λk e=>(b k e).2.2.2.2.1 p c,h.res.grown a λe=>(b _ e).2.2.2.2.2.1 rfl,h.out.grown a λe=>(b _ e).2.2.2.2.2.2 rfl⟩
def Dx.ext {d:Value} (h:Dx s0 O r x L Y j d c w) (a:Below w.heap.size w w'):Dx s0 O r x L Y j d c w':=
 ⟨aH h.rows a,λp b=>aH (h.maps p b) a,aH h.xs a,aH h.MK a,λp b=>aH (h.Ue p b) a,h.res.mono a,h.out.mono a⟩
def Dx.next {b:Value} (h:Dx s0 O r x L Y j b a w):Dx s0 O r x L Y (j+1) b a w:=
 ⟨h.rows,λp c=>h.maps p (by rw[<-List.drop_drop] at c;exact List.mem_of_mem_drop c),h.xs,h.MK,h.Ue,h.res,h.out⟩
def RtC.next (h:RtC O r x L j a):RtC O r x L (j+1) a:=
 ⟨h.rO,h.xO,h.mO,h.oO,h.ra,h.xa,h.la,λp c q b=>h.oa p c q (by rw[<-List.drop_drop] at b;exact List.mem_of_mem_drop b)⟩
def Dx.adW {m:Value} {g:Nat} (h:Dx s0 O r x L Y (j+1) m f w) (c:RtC O r x L j f) (i:j<L.length) (a:L[j].2.ownBlock=some g)
 (q:s0+2<=g) (n:w.grownBy w' (some g)):Dx s0 O r x L Y (j+1) m f w':=by
 have d:=List.getElem_mem i;refine h.keep n λk e=>?_;cases e;have:=c.mO _ d g a;refine⟨λe=>c.ra _ d g e a,λe=>c.xa _ d g e a,λe=>by have:=(h.MK.lt g e).1;omega,λp l e=>?_,λp l e=>?_,by omega,by omega⟩
 ·have hd:L.drop j=L[j]::L.drop (j+1):=List.drop_eq_getElem_cons i;have b:=List.Pairwise.sublist (List.drop_sublist j L) c.la;rw[hd,List.pairwise_cons] at b;exact b.1 p l g a e
 exact c.oa p l L[j] (by rw[List.drop_eq_getElem_cons i];exact List.mem_cons_self ..) g e a
def IY (x:Int):Nat:=lG (x % 2097152).toNat
def vE (m:List Int) (k:Nat):List Int:=(m.take k).map (λx=>((IY x:Nat):Int))++m.drop k
def Uf (m:List Int):vE m 0=m:=by simp[vE]
def ML (m:List Int) (k:Nat):(vE m k).length=m.length:=by simp[vE];omega
def aa4 {m:List Int} (a:k<m.length):(vE m k)[k]? = some m[k]:=by
 unfold vE;rw[List.getElem?_append_right (by simp;omega),List.length_map,List.length_take,Nat.min_eq_left (Nat.le_of_lt a),Nat.sub_self,List.drop_eq_getElem_cons a];rfl
def XT {m:List Int} (a:k<m.length):(vE m k).set k ((IY m[k]:Nat):Int)=vE m (k+1):=by
 unfold vE;rw[List.set_append_right _ _ (by simp;omega),List.length_map,List.length_take,Nat.min_eq_left (Nat.le_of_lt a),Nat.sub_self,List.drop_eq_getElem_cons a,List.set_cons_zero,List.take_succ_eq_append_getElem a,List.map_append,List.map_singleton,List.append_assoc];rfl
def XU (m:List Int):bO (vE m m.length)=ints (m.map IY):=by
 unfold vE;rw[List.take_length,List.drop_length,List.append_nil];simp[bO,ints]
def IZ (x:Int):aP (IY x):=rT
def XV {n:Nat} {e:TypeId} {g cap:Nat} {d:List Value} (h:w.ownsRow B e 1 (.slice (some ⟨g,0,none⟩) n cap) n d) (p:k<=n):w.ownsRow B e 1 (.slice (some ⟨g,0,none⟩) k cap) k (d.take k):=by
 obtain⟨q,a⟩:=h;rcases a with⟨a,_⟩|⟨o,c,b,a,m,l,r,f,j,i⟩
 ·cases a
 cases a;refine⟨by rw[List.length_take];omega,.inr ⟨g,cap,b,rfl,m,l,by omega,f,j,?_⟩⟩;rw[<-i,List.take_take];congr 1;omega
def y8.QQ {o:Nat} (h:w.ownsRow B eY 3 v N.length (N.flatMap fG)) (k:∀p∈N,w.ownsRow o bB 1 p.2 p.1.map.length (ints p.1.map)):y8 w v (N.map Prod.fst):=by
 obtain⟨a,cap,rfl,q,_⟩:=ak h;refine⟨a,cap,by rw[List.length_map],by rw[List.length_map];exact q,λi l=>?_⟩;have b:i<N.length:=by simpa using l
 obtain⟨g,d,m,_,j,_,c⟩:=dC (f:=fG) (λ_=>rfl) rfl h b;cases m;have h0:=(c 0 (by omega)).1;have n:=(c 1 (by omega)).1;have e:=(c 2 (by omega)).1;refine⟨g,0,N[i].2,rfl,j,?_,?_,?_,?_⟩
 ·rw[List.getElem_map,Nat.zero_add];exact h0
 ·rw[List.getElem_map,Nat.zero_add];exact n
 ·rw[Nat.zero_add];exact e
 rw[List.getElem_map];exact(Sl.aU (k _ (List.getElem_mem b))).any
def jq.QQ {b d:Nat} (h:w.ownsRow B eY 3 v N.length (N.flatMap fG)) (c:∀p∈N,w.ownsRow b bB 1 p.2 p.1.map.length (ints p.1.map)) (a:w.ownsRow d bB 1 x Y.length (ints Y)) :
 jq w (.agg #[v,x]) (N.map Prod.fst) Y:=⟨v,x,rfl,y8.QQ h c,(Sl.aU a).any⟩
def Dx.turn {l nv:Value} (h:Dx s0 O r x L Y j l c w) (b:RtC O r x L j c) (q:s0+1<O)
 (f:w.ownsRow (O+1) eY 3 nv N.length (N.flatMap fG)) (i:∀p∈N,w.ownsRow (s0+2) bB 1 p.2 p.1.map.length (ints p.1.map)) (m:∀p∈N,∀k,p.2.ownBlock=some k->k<O) :
 Dx s0 O r x L Y j nv N ((w.setCell ⟨O,0,none⟩ nv).setCell ⟨O,1,none⟩ x):=by
 have P:∀{B n s:Nat} {e:TypeId} {v:Value} {g:List Value},w.ownsRow B e s v n g->v.ownBlock≠some O->((w.setCell ⟨O,0,none⟩ nv).setCell ⟨O,1,none⟩ x).ownsRow B e s v n g:=λo d=>bn (bn o d _ _) d _ _
 refine⟨P h.rows λe=>by have:=b.rO O e;omega,λp a=>P (h.maps p a) λe=>by have:=b.mO p (List.mem_of_mem_drop a) O e;omega,P h.xs λe=>by have:=b.xO O e;omega,
  P f (aQ f (by omega)),λp a=>P (i p a) λe=>by have:=m p a O e;omega,(h.res.put (by omega) _).put (by omega) _,(h.out.set 0 nv).set 1 x⟩
end Go.Proofs.YtmnimbnojdndmaaGreatDoor
