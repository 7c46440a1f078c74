/- TraceParts and TraceWalks: a machine takes a character as those of its full decomposition, one by one; texts that are alike go through it, and of others none; no condition. -/
import Derived.Test.YtjidohgiigjifaaGreatDoorR21
import Derived.Handy
set_option maxRecDepth 100000
set_option maxHeartbeats 6400000
namespace Go.Proofs.YtjidohgiigjifaaGreatDoor
open Go.RowKit Go.Cd
theorem Dr {c:List Nat} {i:Nat} (hi:i<c.length) {x:Nat}:x∈c.take (i+1)↔x∈c.take i∨x=c[i]:=by
 rw [List.take_succ_eq_append_getElem hi,List.mem_append,List.mem_singleton]
theorem JD {w:World} {v:Value} {l:List Nat} (h:bD w v (ints l)) (hmax:l.length<1000000) (t:Nat) :
 Calls Tryz.prog 177 #[v,.int .i64 t] w fun e w'=>e=.returned (.bool (decide (t∈l)))∧Below w.heap.size w w':=by
 obtain ⟨n,hn⟩:=af l.length;obtain ⟨a,cap,rfl,_,hx⟩:=bD.kS h hn;have HX:=ae hx;have HN:=ae hn;have G6:n<1000000:=by omega
 clear h hx hn;go_enter Tryz.func177,Tryz.ntmps177;go_wp2_with fail;go_loopw [9] (fun i wr=>∃j:Nat,j≤n∧i=.int .i64 j∧t∉l.take j∧wr=w) (fun i _=>n-(intOf i).toNat)
 case atStart=>exact ⟨0,Nat.zero_le _,rfl,by simp,rfl⟩
 case round=>
  obtain ⟨j,hj,rfl,hm,rfl⟩:=hrel;by_cases hjn:j<n
  ·have hjl:j<l.length:=by have:=HN.out;omega
   obtain ⟨b,off,rfl,_,hc⟩:=HX.out j hjl;have HM:=ae hm;have HT:=ae (Dr (c:=l) hjl (x:=t));have HE:=ae (List.getElem_mem hjl);generalize l[j]=s at *;clear hm;by_cases hst:s=t
   ·subst hst;have HR:=ae (decide_eq_true HE.out);have z:((s:Int)==s)=true:=by simp
    go_wp2;go_ret;exact ⟨dh HR.out.symm,Below.refl _ _⟩
   ·have z:((s:Int)==t)=false:=by simp;omega
    go_wp2;go_roundw
    case rel=>exact ⟨j+1,by omega,rfl,fun h=>(HT.out.1 h).elim HM.out (fun e=>hst e.symm),trivial⟩
    case measure=>simp [intOf];omega
  ·obtain rfl:j=n:=by omega
   have HR:=ae (decide_eq_false (fun h=>hm (by rw [HN.out,List.take_length];exact h)):decide (t∈l)=false);go_wp2;go_ret;exact ⟨dh HR.out.symm,Below.refl _ _⟩
theorem wD {w:World} {v:Value} {T:List aF} {X:List Nat} (h:iw w v T X) (c:Nat) (hc:c<1114112) (hmax:T.length<1000000) (hX:X.length<1000000) :
 Calls Tryz.prog 142 #[v,.int .i64 c] w fun e w'=>(∃p:Bool,e=.returned (.bool p)∧(p=true↔Prim T X c))∧Below w.heap.size w w':=by
 have HT:=ae h;obtain ⟨r,x,rfl,⟨a,cap,rfl,_⟩,h2⟩:=h;obtain ⟨ax,cx,rfl,_,_⟩:=Go.Cd.bD.out h2;obtain ⟨nt,hnt⟩:∃n,n=T.length:=⟨_,rfl⟩;obtain ⟨nx,hnx⟩:∃n,n=(ints X).length:=⟨_,rfl⟩;rw [←hnt,←hnx] at HT ⊢;rw [←hnx] at h2;have Tw:=ae h2;have hb:=ai (w:=w) (.cells #[.slice a nt cap,.slice ax nx cx] 25);have d0:(w.alloc (.cells #[.slice a nt cap,.slice ax nx cx] 25)).cell? ⟨w.heap.size,0,none⟩=some (.slice a nt cap):=by unfold World.cell?;rw [heap_alloc_new];rfl
 have d1:(w.alloc (.cells #[.slice a nt cap,.slice ax nx cx] 25)).cell? ⟨w.heap.size,1,none⟩=some (.slice ax nx cx):=by unfold World.cell?;rw [heap_alloc_new];rfl
 obtain ⟨W0,hW⟩:=af (w.alloc (.cells #[.slice a nt cap,.slice ax nx cx] 25));rw [←hW] at hb d0 d1;have PA:=ae (pE (w:=W0) c hc);have CL:=fun (W:World) (E:Below w.heap.size w W) (y:Nat)=>ae (kR (HT.out.mono E) y hmax);have MP:=fun (W:World) (E:Below w.heap.size w W)=>ae (uR (HT.out.mono E) c hc hmax);have IN:=fun (W:World) (E:Below w.heap.size w W)=>ae (JD (Tw.out.mono E) hX c);clear h2 hnt hnx;by_cases h4:4≤hk c
 ·have hp:0<(hparts c).length:=List.length_pos_iff.2 (fun h=>by have:=fV.1 h;omega);have KF:=ae (show Prim T X c from .inl h4);generalize hparts c=P at *;clear h4 CL MP IN;go_enter Tryz.func142,Tryz.ntmps142;go_wp2_with fail;rw [←hW];clear hW;refine PA.out.mono ?_;rintro e w1 ⟨r1,rfl,o1,h1⟩;have hE1:=hb.trans (h1.mono hb.size);obtain ⟨n1,hn1⟩:∃n,n=P.length:=⟨_,rfl⟩;obtain ⟨a1,c1,rfl,_,_⟩:=bD.kS (Sl.aT o1).any hn1;have hp1:0<n1:=by omega
  clear PA o1 hn1 hp;go_wp2;go_ret;exact ⟨⟨true,rfl,fun _=>KF.out,fun _=>rfl⟩,hE1⟩
 ·rw [fV.2 (by omega)] at PA;go_enter Tryz.func142,Tryz.ntmps142;go_wp2_with fail;rw [←hW];clear hW;refine PA.out.mono ?_;rintro e w1 ⟨r1,rfl,o1,h1⟩;have hE1:=hb.trans (h1.mono hb.size);obtain ⟨a1,c1,rfl,_,_⟩:=bD.kS (n:=0) (Sl.aT o1).any rfl;have e0:=aA h1 d0;have e1:=aA h1 d1;have M1:=MP _ hE1;clear PA o1 MP;go_wp2_with fail;refine M1.out.mono ?_;rintro e w2 ⟨r2,rfl,s2,h2⟩;have hE2:=hE1.trans (h2.mono hE1.size);have e0:=aA h2 e0;have e1:=aA h2 e1;obtain ⟨m,hm⟩:=af (mapOf T c);rw [←hm] at s2;obtain ⟨nm,hnm⟩:∃n,n=m.length:=⟨_,rfl⟩;obtain ⟨a2,c2,rfl,_,hx2⟩:=bD.kS s2 hnm;have hq:=ah w2;have g0:=Gr.cell hq e0;have g1:=Gr.cell hq e1;have hEq:=hE2.trans (hq.mono hE2.size);clear M1 s2;by_cases hm2:nm=2
  ·subst hm2;obtain ⟨a0,b0,hab⟩:∃a0 b0,m=[a0,b0]:=by
    match m,hnm with
    | [a0,b0],_=>exact ⟨a0,b0,rfl⟩
   subst hab;obtain ⟨b2,f2,rfl,_,hz2⟩:=hx2 0 (by simp);have hz2:w2.cell? ⟨b2,f2,none⟩=some (.int .i64 a0):=by simpa using hz2
   have g2:=Gr.cell hq hz2;have K0:=CL _ hEq c;obtain ⟨k0,hk0⟩:∃k,k=aB T c:=⟨_,rfl⟩;obtain ⟨k1,hk1⟩:∃k,k=aB T a0:=⟨_,rfl⟩;have K1:=fun (W:World) (E:Below w.heap.size w W)=>CL W E a0;rw [←hk0] at K0;simp only [←hk1] at K1;by_cases hc0:k0=0
   ·by_cases hc1:k1=0
    ·have KF:=ae (show Prim T X c↔c∉X by
      constructor
      ·rintro (h|⟨a,b,h,_,_,h3⟩)
       ·exact absurd h h4
       ·exact h3
      ·intro h;exact .inr ⟨a0,b0,hm.symm,by rw [←hk0,hc0],by rw [←hk1,hc1],h⟩)
     subst hc0;subst hc1;clear hx2 hnm hm CL h4 hk0 hk1;go_wp2_with fail;refine aD (Array.replicate 25 true) 25 0 mixed (by rfl) ?_;refine ay [0,1,2,3,4,5] 19 rfl (by kernel_rfl) ?_;refine aZ ?_
     iterate 6 (refine aO rfl ?_)
     refine a_ ?_
     iterate 6 (go_big_quiet_step (rfl))
     refine ak ?_;refine aL 6 (by kernel_rfl) rfl ?_;go_wp2_with fail;refine K0.out.mono ?_;rintro e w3 ⟨rfl,h3⟩;go_wp2_with fail;refine aH h3 ?_;have hq3:=ag hq h3;have j_:=hE2.trans (hq3.mono hE2.size);have g0:=Gr.cell hq3 e0;have g1:=Gr.cell hq3 e1;have g2:=Gr.cell hq3 hz2;refine ay [7,8,9,10,11,12,13] 11 rfl (by kernel_rfl) ?_;refine aZ ?_
     iterate 7 (refine aO rfl ?_)
     refine a_ ?_
     iterate 7 (go_big_quiet_step (rfl))
     refine ak ?_;have K1':=K1 _ j_;refine aL 14 (by kernel_rfl) rfl ?_;go_wp2_with fail;refine K1'.out.mono ?_;rintro e w4 ⟨rfl,h4'⟩;go_wp2_with fail;refine aH h4' ?_;have hq4:=ag hq3 h4';have kW:=hE2.trans (hq4.mono hE2.size);have g0:=Gr.cell hq4 e0;have g1:=Gr.cell hq4 e1;have g2:=Gr.cell hq4 hz2;refine ay [15,16,17,18,19,20] 4 rfl (by kernel_rfl) ?_;refine aZ ?_
     iterate 6 (refine aO rfl ?_)
     refine a_ ?_
     iterate 6 (go_big_quiet_step (rfl))
     refine ak ?_;have I1:=IN _ kW;refine aL 21 (by kernel_rfl) rfl ?_;go_wp2_with fail;refine I1.out.mono ?_;rintro e w5 ⟨rfl,h5⟩;go_wp2_with fail;refine aH h5 ?_;have hq5:=ag hq4 h5;have kV:=hE2.trans (hq5.mono hE2.size);refine ay [22,23,24] 0 rfl (by kernel_rfl) ?_;refine aZ ?_
     iterate 3 (refine aO rfl ?_)
     refine a_ ?_
     iterate 3 (go_big_quiet_step (rfl))
     refine ak ?_;refine aI [] (by kernel_rfl) ?_;refine tail_nil ?_;go_wp2;go_ret;exact ⟨⟨_,rfl,by rw [KF.out];simp⟩,kV⟩
    ·have KF:=ae (show ¬Prim T X c by
      rintro (h|⟨a,b,h,_,h2,_⟩)
      ·exact absurd h h4
      ·rw [←hm] at h;cases h;rw [←hk1] at h2;exact hc1 h2)
     have z1:((k1:Int)==0)=false:=by simp;omega
     subst hc0;clear hx2 hnm hm CL IN h4 hk0 hk1;go_wp2_with fail;refine aD (Array.replicate 25 true) 25 0 mixed (by rfl) ?_;refine ay [0,1,2,3,4,5] 19 rfl (by kernel_rfl) ?_;refine aZ ?_
     iterate 6 (refine aO rfl ?_)
     refine a_ ?_
     iterate 6 (go_big_quiet_step (rfl))
     refine ak ?_;refine aL 6 (by kernel_rfl) rfl ?_;go_wp2_with fail;refine K0.out.mono ?_;rintro e w3 ⟨rfl,h3⟩;go_wp2_with fail;refine aH h3 ?_;have hq3:=ag hq h3;have j_:=hE2.trans (hq3.mono hE2.size);have g0:=Gr.cell hq3 e0;have g1:=Gr.cell hq3 e1;have g2:=Gr.cell hq3 hz2;refine ay [7,8,9,10,11,12,13] 11 rfl (by kernel_rfl) ?_;refine aZ ?_
     iterate 7 (refine aO rfl ?_)
     refine a_ ?_
     iterate 7 (go_big_quiet_step (rfl))
     refine ak ?_;have K1':=K1 _ j_;refine aL 14 (by kernel_rfl) rfl ?_;go_wp2_with fail;refine K1'.out.mono ?_;rintro e w4 ⟨rfl,h4'⟩;go_wp2_with fail;refine aH h4' ?_;have hq4:=ag hq3 h4';have kW:=hE2.trans (hq4.mono hE2.size);have g0:=Gr.cell hq4 e0;have g1:=Gr.cell hq4 e1;have g2:=Gr.cell hq4 hz2;refine ay [15,16,17,18,19,20] 4 rfl (by kernel_rfl) ?_;refine aZ ?_
     iterate 6 (refine aO rfl ?_)
     refine a_ ?_
     iterate 6 (go_big_quiet_step (rfl))
     refine ak ?_;refine aL 21 (by kernel_rfl) rfl ?_;go_wp2_with fail;refine aH (Below.refl _ _) ?_;refine ay [22,23,24] 0 rfl (by kernel_rfl) ?_;refine aZ ?_
     iterate 3 (refine aO rfl ?_)
     refine a_ ?_
     iterate 3 (go_big_quiet_step (rfl))
     refine ak ?_;refine aI [] (by kernel_rfl) ?_;refine tail_nil ?_;go_wp2;go_ret;exact ⟨⟨false,rfl,fun h=>(by cases h),fun h=>absurd h KF.out⟩,kW⟩
   ·have KF:=ae (show ¬Prim T X c by
     rintro (h|⟨a,b,h,h1,_,_⟩)
     ·exact absurd h h4
     ·rw [←hk0] at h1;exact hc0 h1)
    have z0:((k0:Int)==0)=false:=by simp;omega
    clear hx2 hnm hm CL IN h4 hk0 hk1 K1;go_wp2_with fail;refine aD (Array.replicate 25 true) 25 0 mixed (by rfl) ?_;refine ay [0,1,2,3,4,5] 19 rfl (by kernel_rfl) ?_;refine aZ ?_
    iterate 6 (refine aO rfl ?_)
    refine a_ ?_
    iterate 6 (go_big_quiet_step (rfl))
    refine ak ?_;refine aL 6 (by kernel_rfl) rfl ?_;go_wp2_with fail;refine K0.out.mono ?_;rintro e w3 ⟨rfl,h3⟩;go_wp2_with fail;refine aH h3 ?_;have hq3:=ag hq h3;have j_:=hE2.trans (hq3.mono hE2.size);have g0:=Gr.cell hq3 e0;have g1:=Gr.cell hq3 e1;have g2:=Gr.cell hq3 hz2;refine ay [7,8,9,10,11,12,13] 11 rfl (by kernel_rfl) ?_;refine aZ ?_
    iterate 7 (refine aO rfl ?_)
    refine a_ ?_
    iterate 7 (go_big_quiet_step (rfl))
    refine ak ?_;refine aL 14 (by kernel_rfl) rfl ?_;go_wp2_with fail;refine aH (Below.refl _ _) ?_;refine ay [15,16,17,18,19,20] 4 rfl (by kernel_rfl) ?_;refine aZ ?_
    iterate 6 (refine aO rfl ?_)
    refine a_ ?_
    iterate 6 (go_big_quiet_step (rfl))
    refine ak ?_;refine aL 21 (by kernel_rfl) rfl ?_;go_wp2_with fail;refine aH (Below.refl _ _) ?_;refine ay [22,23,24] 0 rfl (by kernel_rfl) ?_;refine aZ ?_
    iterate 3 (refine aO rfl ?_)
    refine a_ ?_
    iterate 3 (go_big_quiet_step (rfl))
    refine ak ?_;refine aI [] (by kernel_rfl) ?_;refine tail_nil ?_;go_wp2;go_ret;exact ⟨⟨false,rfl,fun h=>(by cases h),fun h=>absurd h KF.out⟩,j_⟩
  ·have KF:=ae (show ¬Prim T X c by
    rintro (h|⟨a,b,h,_⟩)
    ·omega
    ·rw [←hm] at h;rw [hnm,h] at hm2;exact hm2 rfl)
   have z:((nm:Int)==2)=false:=by simp;omega
   clear hx2 hnm hm hm2 CL IN h4;go_wp2_with fail;refine aD (Array.replicate 25 true) 25 0 mixed (by rfl) ?_;refine ay [0,1,2,3,4,5] 19 rfl (by kernel_rfl) ?_;refine aZ ?_
   iterate 6 (refine aO rfl ?_)
   refine a_ ?_
   iterate 6 (go_big_quiet_step (rfl))
   refine ak ?_;refine aL 6 (by kernel_rfl) rfl ?_;go_wp2_with fail;refine aH (Below.refl _ _) ?_;refine ay [7,8,9,10,11,12,13] 11 rfl (by kernel_rfl) ?_;refine aZ ?_
   iterate 7 (refine aO rfl ?_)
   refine a_ ?_
   iterate 7 (go_big_quiet_step (rfl))
   refine ak ?_;refine aL 14 (by kernel_rfl) rfl ?_;go_wp2_with fail;refine aH (Below.refl _ _) ?_;refine ay [15,16,17,18,19,20] 4 rfl (by kernel_rfl) ?_;refine aZ ?_
   iterate 6 (refine aO rfl ?_)
   refine a_ ?_
   iterate 6 (go_big_quiet_step (rfl))
   refine ak ?_;refine aL 21 (by kernel_rfl) rfl ?_;go_wp2_with fail;refine aH (Below.refl _ _) ?_;refine ay [22,23,24] 0 rfl (by kernel_rfl) ?_;refine aZ ?_
   iterate 3 (refine aO rfl ?_)
   refine a_ ?_
   iterate 3 (go_big_quiet_step (rfl))
   refine ak ?_;refine aI [] (by kernel_rfl) ?_;refine tail_nil ?_;go_wp2;go_ret;exact ⟨⟨false,rfl,fun h=>(by cases h),fun h=>absurd h KF.out⟩,hEq⟩
theorem Dt {w:World} (c:Nat) (hc:c<1114112) :
 Calls Tryz.prog 141 #[.int .i64 c] w fun e w'=>e=.returned (.int .i64 (hk c))∧w'=w:=by
 obtain ⟨k,hk0⟩:=af (hk c);have HK:=ae hk0;rw [←hk0];clear hk0;have M:∀i:Nat,c=44032+i→((c:Int)-44032).tmod 28=((i % 28:Nat):Int):=by
  intro i hi;rw [show (c:Int)-44032=(i:Int) by omega,Int.tmod_eq_emod_of_nonneg (by omega)];omega
 go_each [4352≤c,c≤4370,4449≤c,c≤4469,4520≤c,c≤4546,c<44032,55203<c]=>(
  first
  | (have E:k=1:=HK.out.trans (by unfold hk;rw [if_pos (by omega)])
     subst E;clear M;go_enter Tryz.func141,Tryz.ntmps141;go_wp2;go_ret;exact ⟨rfl,rfl⟩)
  | (have E:k=2:=HK.out.trans (by unfold hk;rw [if_neg (by omega),if_pos (by omega)])
     subst E;clear M;go_enter Tryz.func141,Tryz.ntmps141;go_wp2;go_ret;exact ⟨rfl,rfl⟩)
  | (have E:k=3:=HK.out.trans (by unfold hk;rw [if_neg (by omega),if_neg (by omega),if_pos (by omega)])
     subst E;clear M;go_enter Tryz.func141,Tryz.ntmps141;go_wp2;go_ret;exact ⟨rfl,rfl⟩)
  | (have E:k=0:=HK.out.trans (by unfold hk;rw [if_neg (by omega),if_neg (by omega),if_neg (by omega),if_pos (by omega)])
     subst E;clear M;go_enter Tryz.func141,Tryz.ntmps141;go_wp2;go_ret;exact ⟨rfl,rfl⟩)
  | (obtain ⟨i,hi⟩:∃i,c=44032+i:=⟨c-44032,by omega⟩
     have M:=M i hi;subst hi;by_cases h4:i % 28=0
     ·have E:k=4:=HK.out.trans (by unfold hk;rw [if_neg (by omega),if_neg (by omega),if_neg (by omega),if_neg (by omega),if_pos (by omega)]);subst E;rw [h4] at M;go_enter Tryz.func141,Tryz.ntmps141;go_wp2;go_ret;exact ⟨rfl,rfl⟩
     ·have E:k=5:=HK.out.trans (by unfold hk;rw [if_neg (by omega),if_neg (by omega),if_neg (by omega),if_neg (by omega),if_neg (by omega)]);subst E;have z:¬(((44032+i:Nat):Int)-44032).tmod 28=0:=by rw [M];omega
      clear M
      go_enter Tryz.func141,Tryz.ntmps141;go_wp2;go_ret;exact ⟨rfl,rfl⟩))
def twice (T:List aF) (X:List Nat) (r q:aF):Prop:=Prim T X r.code∧Prim T X q.code∧q.map.length=2∧q.map=r.map
theorem ab5 {T:List aF} {X:List Nat} (h:∀i (hi:i<T.length) k (hk:k<T.length),k<i→¬twice T X T[i] T[k]) :
 ∀r∈T,∀q∈T,r.map.length=2→r.map=q.map→Prim T X r.code→Prim T X q.code→r=q:=by
 intro r hr q hq h2 he hp hp';obtain ⟨i,hi,rfl⟩:=List.getElem_of_mem hr;obtain ⟨k,hk,rfl⟩:=List.getElem_of_mem hq;rcases Nat.lt_trichotomy i k with hik|rfl|hik
 ·exact absurd ⟨hp',hp,h2,he⟩ (h k hk i hi hik)
 ·rfl
 ·exact absurd ⟨hp,hp',he▸h2,he.symm⟩ (h i hi k hk hik)
theorem Kq {l:List Nat} {n:Nat} (hn:n=l.length) (h:n=2):∃a b,l=[a,b]:=by
 subst h
 match l,hn with
 | [a,b],_=>exact ⟨a,b,rfl⟩
theorem z_ {w:World} {v:Value} {T:List aF} {X:List Nat} (h:iw w v T X) (hmax:T.length<1000000) (hX:X.length<1000000)
 (hT:∀r∈T,aX r.code∧r.cls<255∧r.map.length≤2∧∀x∈r.map,aX x) :
 Calls Tryz.prog 103 #[v] w fun e w'=>∃s,e=.returned (.string s)∧(s=⟨#[]⟩→bE T X)∧Below w.heap.size w w':=by
 have HT:=ae h;obtain ⟨r,x,rfl,⟨a,cap,rfl,hcap,hx⟩,h2⟩:=h;have HX:=ae hx;obtain ⟨ax,cx,rfl,_,_⟩:=Go.Cd.bD.out h2;obtain ⟨n,hn⟩:=af T.length;obtain ⟨nx,hnx⟩:∃n,n=(ints X).length:=⟨_,rfl⟩;rw [←hn] at hmax hcap;rw [←hn,←hnx] at HT ⊢;have HN:=ae hn;have Mq:=ae hT;have hb:=ai (w:=w) (.cells #[.slice a n cap,.slice ax nx cx] 25);have d0:(w.alloc (.cells #[.slice a n cap,.slice ax nx cx] 25)).cell? ⟨w.heap.size,0,none⟩=some (.slice a n cap):=by unfold World.cell?;rw [heap_alloc_new];rfl
 have d1:(w.alloc (.cells #[.slice a n cap,.slice ax nx cx] 25)).cell? ⟨w.heap.size,1,none⟩=some (.slice ax nx cx):=by unfold World.cell?;rw [heap_alloc_new];rfl
 obtain ⟨W0,hW⟩:=af (w.alloc (.cells #[.slice a n cap,.slice ax nx cx] 25));rw [←hW] at hb d0 d1;have IS:=fun (W:World) (y:Nat) (hy:y<1114112)=>ae (Aq (w:=W) y (by omega));have KI:=fun (W:World) (y:Nat) (hy:y<1114112)=>ae (Dt (w:=W) y hy);have FU:=fun (W:World) (E:Below w.heap.size w W) (y:Nat) (hy:y<1114112)=>ae (rR (HT.out.mono E) y hy (fun r hr x hx=>((hT r hr).2.2.2 x hx).1) (fun r hr=>Nat.le_trans (hT r hr).2.2.1 (by decide)) (by omega));have PR:=fun (W:World) (E:Below w.heap.size w W) (y:Nat) (hy:y<1114112)=>ae (wD (HT.out.mono E) y hy (by omega) hX);clear h2 hnx hx hn hT;go_enter Tryz.func103,Tryz.ntmps103;go_wp2_with fail;rw [←hW];clear hW;go_loopw [3,21] (fun lv iv wr=>∃(j:Nat) (last:Int),j≤n∧iv=.int .i64 j∧lv=.int .i64 last∧-1≤last∧last<1114112∧(∀r∈T.take j,(r.code:Int)≤last)∧rising (T.take j)∧(∀r∈T.take j,hk r.code=0∧∀x∈r.map,hk x=0)∧Below W0.heap.size W0 wr) (fun _ iv _=>n-(intOf iv).toNat)
 case atStart=>exact ⟨0,-1,Nat.zero_le _,rfl,rfl,by decide,by decide,by simp,trivial,by simp,Below.refl _ _⟩
 case round=>
  obtain ⟨j,last,hj,rfl,rfl,hl1,hl2,hle,hri,hka,hE⟩:=hrel;have dC:=hb.trans (hE.mono hb.size);by_cases hjn:j<n
  ·have hjl:j<T.length:=by have:=HN.out;omega
   obtain ⟨b,off,m,rfl,hbs,c0,c1,c2,hm⟩:=HX.out j hjl;have c0:=aA dC c0;have c1:=aA dC c1;have c2:=aA dC c2;have hm:=hm.mono dC;obtain ⟨hfc,hfk,hfm,hfx⟩:=Mq.out _ (List.getElem_mem hjl);have HS:=ae (show T.take (j+1)=T.take j++[T[j]] from List.take_succ_eq_append_getElem hjl);have Uk:=ae hle;have HRI:=ae hri;have UQ:=ae hka;generalize T[j]=q at *;obtain ⟨nm,hnm⟩:=af q.map.length;obtain ⟨am,cm,rfl,hcm,hxm⟩:=bD.kS hm hnm;have MC:=ae hxm;have HFX:=ae hfx;have qh:=ae hnm;have HM:=ae hm;have QS:=hfc.1;have I1:=fun W=>IS W q.code QS;simp only [decide_eq_true hfc] at I1;have LM:nm≤2:=by omega
   clear hle hri hka hfx hxm hm hfm hnm hfc FU PR;go_wp2_with fail;refine (I1 _).out.mono ?_;rintro e w1 ⟨rfl,rfl⟩;by_cases hlast:(q.code:Int)≤last
   ·go_wp2;go_ret;exact ⟨_,rfl,fun h=>by (first|cases h|simp at h),hb.trans ((ag hE (ai _)).mono hb.size)⟩
   ·have O:((wr.alloc (.cells #[.int .i64 q.code,.int .i64 q.cls,.slice am nm cm] 68)).alloc (.cells #[.int .i64 q.code] aU)).ownsRow (wr.heap.size+1) aU 1 (.slice (some ⟨wr.heap.size+1,0,none⟩) 1 1) 1 [.int .i64 q.code]:=by
     have:=kD (wr.alloc (.cells #[.int .i64 q.code,.int .i64 q.cls,.slice am nm cm] 68)) #[.int .i64 q.code] aU 1 rfl (by decide);simpa only [World.size_alloc] using this
    have S2:=ae (fun (W:World) (E:Below wr.heap.size wr W)=>HM.out.mono E);have O:=ae O;have S1C:=ae (show ∀(w1:World) (v1:Value) (n1:Nat),w1.ownsRow (wr.heap.size+1) aU 1 v1 n1 ([Value.int .i64 q.code]++ints q.map)→bD w1 v1 (ints (q.code::q.map)) from fun w1 v1 n1 o=>(Sl.aT o).any);have Vr:=ae (show nm+1=(q.code::q.map).length by rw [List.length_cons,qh.out]);go_wp2_with (at_builtin;refine bG rfl _ _ 23 rfl (wr.heap.size+1) aU _ 8 gL _ 1 _ rfl O.out _ (ints q.map) rfl (S2.out _ (dF _ _)) (gM _) (by rw [dw,←qh.out];unfold maxLen;omega) (by rw [dw,←qh.out];omega) (by simp only [World.size_alloc];omega) ?_;intro v1 w1 o1 hg1;obtain ⟨a1,wI,rfl,_,hx1⟩:=bD.kS (S1C.out _ _ _ o1) Vr.out);have hE1:Below wr.heap.size wr w1:=(dF _ _).grown hg1 (dF _ _).size (fun k hk=>by have:=(O.out.lt k hk).1;omega);have f2:w1.cell? ⟨wr.heap.size,2,none⟩=some (.slice am nm cm):=
     hg1.cell (aA (ai _) (by unfold World.cell?;rw [heap_alloc_new];rfl)) (fun e=>by have:=(O.out.lt _ e.symm).1;simp only at this;omega)
    have Bo:=ae hx1
    have HQ:=ae (show ∀x∈q.code::q.map,x<1114112 from fun x hx=>by
     rcases List.mem_cons.1 hx with rfl|hx
     ·exact QS
     ·exact (HFX.out x hx).1)
    clear o1 hg1 hx1 c0 c1 c2 I1 S1C;generalize hL:q.code::q.map=L at *;have HL:=ae hL;clear hL;obtain ⟨wo,jf⟩:∃w',w'=wr:=⟨_,rfl⟩;subst jf;go_wp2_with fail;go_loopw [60] (fun kv w2=>∃k:Nat,k≤nm+1∧kv=.int .i64 k∧(∀x∈L.take k,hk x=0)∧w2=w1) (fun kv _=>nm+1-(intOf kv).toNat)
    case atStart=>exact ⟨0,Nat.zero_le _,rfl,by simp,(by first|rfl|trivial)⟩
    case round=>
     obtain ⟨k,hk1,rfl,hks,rfl⟩:=hrel;obtain ⟨w1,jf⟩:∃w',w'=wr:=⟨_,rfl⟩;subst jf;by_cases hkn:k<nm+1
     ·have hkl:k<L.length:=by have:=Vr.out;omega
      obtain ⟨b1,f1,rfl,_,hz⟩:=Bo.out k hkl;have K1:=fun W=>KI W _ (HQ.out _ (List.getElem_mem hkl));have HS1:=ae (show L.take (k+1)=L.take k++[L[k]] from List.take_succ_eq_append_getElem hkl);have HKS:=ae hks;generalize L[k]=y at *;clear hks;by_cases hy0:hk y=0
      ·rw [hy0] at K1;go_wp2_with fail;refine (K1 _).out.mono ?_;rintro e w2 ⟨rfl,rfl⟩;go_wp2;go_roundw
       case rel=>exact ⟨k+1,by omega,rfl,fun x hx=>by
        rw [HS1.out,List.mem_append,List.mem_singleton] at hx;rcases hx with hx|rfl
        ·exact HKS.out x hx
        ·exact hy0,(by first|rfl|trivial)⟩
       case measure=>simp [intOf];omega
      ·go_wp2_with fail;refine (K1 _).out.mono ?_;rintro e w2 ⟨rfl,rfl⟩;generalize hk y=kk at *;go_wp2;go_ret;exact ⟨_,rfl,fun h=>by (first|cases h|simp at h),hb.trans ((ag hE hE1).mono hb.size)⟩
     ·have hkk:k=nm+1:=by omega
      rw [List.take_of_length_le (by have:=Vr.out;omega)] at hks;have HKS:=ae hks;clear hks Bo HQ hk1 hkk;have Wu:=MC.out;go_wp2_with fail;go_loopw [71] (fun kv w2=>∃k:Nat,k≤nm∧kv=.int .i64 k∧w2=w1) (fun kv _=>nm-(intOf kv).toNat)
      case atStart=>exact ⟨0,Nat.zero_le _,rfl,(by first|rfl|trivial)⟩
      case round=>
       obtain ⟨k,hk1,rfl,rfl⟩:=hrel;obtain ⟨w1,jf⟩:∃w',w'=wr:=⟨_,rfl⟩;subst jf;by_cases hkn:k<nm
       ·have hkl:k<q.map.length:=by have:=qh.out;omega
        obtain ⟨bm,fm,rfl,_,hz⟩:=Wu k hkl;have hz:=aA hE1 hz;have hc1:=HFX.out _ (List.getElem_mem hkl);have I2:=fun W=>IS W _ hc1.1;simp only [decide_eq_true hc1] at I2;clear hc1 Wu;generalize q.map[k]=y at *;go_wp2_with fail;refine (I2 _).out.mono ?_;rintro e w2 ⟨rfl,rfl⟩;go_wp2;go_roundw
        case rel=>exact ⟨k+1,by omega,rfl,(by first|rfl|trivial)⟩
        case measure=>simp [intOf];omega
       ·clear Wu;go_wp2;go_roundw
        case rel=>
         refine ⟨j+1,q.code,by omega,rfl,rfl,by omega,by omega,?_,?_,?_,ag hE hE1⟩
         ·intro r hr;rw [HS.out,List.mem_append,List.mem_singleton] at hr;rcases hr with hr|rfl
          ·have:=Uk.out r hr;omega
          ·exact Int.le_refl _
         ·rw [HS.out,zo];refine ⟨HRI.out,⟨by simp,trivial⟩,fun r hr q' hq'=>?_⟩;rw [List.mem_singleton.1 hq'];have:=Uk.out r hr;omega
         ·intro r hr;rw [HS.out,List.mem_append,List.mem_singleton] at hr;rcases hr with hr|rfl
          ·exact UQ.out r hr
          ·refine ⟨HKS.out _ (by rw [←HL.out];simp),fun x hx=>HKS.out _ (by rw [←HL.out];simp [hx])⟩
        case measure=>simp [intOf];omega
  ·obtain rfl:n=j:=by omega
   rw [List.take_of_length_le (by rw [HN.out];exact Nat.le_refl _)] at hri hka;have HRI:=ae hri;have UQ:=ae hka;have e0:=aA hE d0;have e1:=aA hE d1;clear hle hri hka hl1 hl2 hjn hj KI IS;obtain ⟨w3,jf⟩:∃w',w'=wr:=⟨_,rfl⟩;subst jf;go_wp2_with fail;go_loopw [83] (fun iv w4=>∃j:Nat,j≤n∧iv=.int .i64 j∧(∀r∈T.take j,eO T r.code)∧Below w3.heap.size w3 w4) (fun iv _=>n-(intOf iv).toNat)
   case atStart=>exact ⟨0,Nat.zero_le _,rfl,by simp,Below.refl _ _⟩
   case round=>
    obtain ⟨j,hj,rfl,hok,kW⟩:=hrel;obtain ⟨w4,jf⟩:∃w',w'=wr:=⟨_,rfl⟩;subst jf;have Du:=dC.trans (kW.mono dC.size);by_cases hjn:j<n
    ·have hjl:j<T.length:=by have:=HN.out;omega
     obtain ⟨b,off,m,rfl,hbs,c0,c1,c2,hm⟩:=HX.out j hjl;have c0:=aA Du c0;have c1:=aA Du c1;have c2:=aA Du c2;have g0:=aA kW e0;have g1:=aA kW e1;obtain ⟨nm,hnm⟩:=af (T[j].map.length);obtain ⟨am,cm,rfl,_,_⟩:=bD.kS hm hnm;clear hm hnm;have QS:=(Mq.out _ (List.getElem_mem hjl)).1.1;have HS:=ae (show T.take (j+1)=T.take j++[T[j]] from List.take_succ_eq_append_getElem hjl);have ZV:=ae hok;generalize T[j]=q at *;have F1:=fun (W:World) (E:Below w4.heap.size w4 W)=>FU W (Du.trans (E.mono Du.size)) q.code QS;have gg0:(w4.alloc (.cells #[.int .i64 q.code,.int .i64 q.cls,.slice am nm cm] 68)).cell? ⟨w.heap.size,0,none⟩=some (.slice (some ⟨b,off,none⟩) n cap):=aA (ai _) g0;have gg1:(w4.alloc (.cells #[.int .i64 q.code,.int .i64 q.cls,.slice am nm cm] 68)).cell? ⟨w.heap.size,1,none⟩=some (.slice ax nx cx):=aA (ai _) g1;clear hok FU PR e0 e1 hbs g0 g1;by_cases hf:eO T q.code
     ·simp only [decide_eq_true hf] at F1;go_wp2_with fail;refine (F1 _ (ai _)).out.mono ?_;rintro e w5 ⟨r5,rfl,_,h5⟩;go_wp2;go_roundw
      case rel=>exact ⟨j+1,by omega,rfl,fun r hr=>by
       rw [HS.out,List.mem_append,List.mem_singleton] at hr;rcases hr with hr|rfl
       ·exact ZV.out r hr
       ·exact hf,ag kW (ag (ai _) h5)⟩
      case measure=>simp [intOf];omega
     ·simp only [decide_eq_false hf] at F1;go_wp2_with fail;refine (F1 _ (ai _)).out.mono ?_;rintro e w5 ⟨r5,rfl,_,h5⟩;go_wp2;go_ret;exact ⟨_,rfl,fun h=>by (first|cases h|simp at h),Du.trans ((ag (ai _) h5).mono Du.size)⟩
    ·obtain rfl:n=j:=by omega
     rw [List.take_of_length_le (by rw [HN.out];exact Nat.le_refl _)] at hok;have ZV:=ae hok;have e0:=aA kW e0;have e1:=aA kW e1;clear hok hjn hj FU;have HPF:=ae (show ∀r∈T,Prim T X r.code→r.map.length=2 from fun r hr hp=>wQ HRI.out hr (by have:=(UQ.out r hr).1;omega) hp)
     have HV:=ae (show (∀i (hi:i<T.length) k (hk:k<T.length),k<i→¬twice T X T[i] T[k])→bE T X from fun h=>
      ⟨fun r hr=>⟨(Mq.out r hr).1,(Mq.out r hr).2.1,(Mq.out r hr).2.2.1,(UQ.out r hr).1,fun x hx=>⟨(UQ.out r hr).2 x hx,(Mq.out r hr).2.2.2 x hx⟩⟩,HRI.out,ZV.out,ab5 h⟩)
     go_wp2_with fail;go_loopw [100] (fun iv w5=>∃j:Nat,j≤n∧iv=.int .i64 j∧(∀i (hi:i<T.length) k (hk:k<T.length),i<j→k<i→¬twice T X T[i] T[k])∧Below w4.heap.size w4 w5) (fun iv _=>n-(intOf iv).toNat)
     case atStart=>exact ⟨0,Nat.zero_le _,rfl,fun i _ k _ h=>by omega,Below.refl _ _⟩
     case round=>
      obtain ⟨j,hj,rfl,hno,kV⟩:=hrel;obtain ⟨w5,jf⟩:∃w',w'=wr:=⟨_,rfl⟩;subst jf;have ME:=Du.trans (kV.mono Du.size);by_cases hjn:j<n
      ·have hjl:j<T.length:=by have:=HN.out;omega
       obtain ⟨b,off,m,rfl,hbs,c0,c1,c2,hm⟩:=HX.out j hjl;have c0:=aA ME c0;have c1:=aA ME c1;have c2:=aA ME c2;have e0:=aA kV e0;have e1:=aA kV e1;have QS:=(Mq.out _ (List.getElem_mem hjl)).1.1;have hmj:=List.getElem_mem hjl;have HJ:=ae (show ∀i (hi:i<T.length),i=j→T[i]=T[j] from fun i hi h=>by subst h;rfl);have M0:=ae hno;have HM:=ae (HPF.out _ hmj);generalize T[j]=q at *;obtain ⟨nm,hnm⟩:=af q.map.length;obtain ⟨am,cm,rfl,_,hxm⟩:=bD.kS hm hnm
       have MC:=ae (show nm=2→∃y0 y1,q.map=[y0,y1]∧∃bm fm,am=some ⟨bm,fm,none⟩∧w.cell? ⟨bm,fm,none⟩=some (.int .i64 y0)∧w.cell? ⟨bm,fm+1,none⟩=some (.int .i64 y1) from fun h2=>by
        obtain ⟨y0,y1,hy⟩:=Kq hnm h2;obtain ⟨bm,fm,rfl,_,z0⟩:=hxm 0 (by omega);obtain ⟨bm',fm',hab,_,z1⟩:=hxm 1 (by omega);cases hab;simp only [hy] at z0 z1
        exact ⟨y0,y1,hy,bm,fm,rfl,by simpa using z0,by simpa using z1⟩)
       have qh:=ae hnm;have hjc:j≤cap:=by omega
       obtain ⟨W5,MF⟩:=af (w5.alloc (.cells #[.int .i64 q.code,.int .i64 q.cls,.slice am nm cm] 68));have h5:Below w5.heap.size w5 W5:=by subst MF;exact ai _
       have ee0:(w5.alloc (.cells #[.int .i64 q.code,.int .i64 q.cls,.slice am nm cm] 68)).cell? ⟨w.heap.size,0,none⟩=some (.slice (some ⟨b,off,none⟩) n cap):=aA (ai _) e0;have q0:W5.cell? ⟨w5.heap.size,0,none⟩=some (.int .i64 q.code):=by subst MF;unfold World.cell?;rw [heap_alloc_new];rfl
       have q2:W5.cell? ⟨w5.heap.size,2,none⟩=some (.slice am nm cm):=by subst MF;unfold World.cell?;rw [heap_alloc_new];rfl
       have e0:=aA h5 e0;have e1:=aA h5 e1;have XG:=ME.trans (h5.mono ME.size);clear hno hm hnm hxm hmj hbs;go_wp2_with fail;rw [←MF];clear MF ee0;go_loopw [110] (fun kv w6=>∃k:Nat,k≤j∧kv=.int .i64 k∧(∀k' (hk':k'<T.length),k'<k→¬twice T X q T[k'])∧Below W5.heap.size W5 w6) (fun kv _=>j-(intOf kv).toNat)
       case atStart=>exact ⟨0,Nat.zero_le _,rfl,fun k' _ h=>by omega,Below.refl _ _⟩
       case round=>
        clear c0 c1 c2;obtain ⟨k,hk1,rfl,hno,DD⟩:=hrel;obtain ⟨w6,jf⟩:∃w',w'=wr:=⟨_,rfl⟩;subst jf;have Wv:=XG.trans (DD.mono XG.size);by_cases hkj:k<j
        ·have hkl:k<T.length:=by have:=HN.out;omega
         obtain ⟨b',off',m',hab,_,c0,c1,c2,hm⟩:=HX.out k hkl;cases hab;have c0:=aA Wv c0;have c1:=aA Wv c1;have c2:=aA Wv c2;have hp9:=(Mq.out _ (List.getElem_mem hkl)).1.1;have HNK:=ae hno;have HK:=ae (show ∀i (hi:i<T.length),i=k→T[i]=T[k] from fun i hi h=>by subst h;rfl);generalize T[k]=p at *;obtain ⟨np,Nb⟩:∃nm,nm=p.map.length:=⟨_,rfl⟩;obtain ⟨ap,cp,rfl,_,hxp⟩:=bD.kS hm Nb
         have HXP:=ae (show np=2→∃y0 y1,p.map=[y0,y1]∧∃bm fm,ap=some ⟨bm,fm,none⟩∧w.cell? ⟨bm,fm,none⟩=some (.int .i64 y0)∧w.cell? ⟨bm,fm+1,none⟩=some (.int .i64 y1) from fun h2=>by
          obtain ⟨y0,y1,hy⟩:=Kq Nb h2;obtain ⟨bm,fm,rfl,_,z0⟩:=hxp 0 (by omega);obtain ⟨bm',fm',hab,_,z1⟩:=hxp 1 (by omega);cases hab;simp only [hy] at z0 z1
          exact ⟨y0,y1,hy,bm,fm,rfl,by simpa using z0,by simpa using z1⟩)
         have QC:=ae Nb;obtain ⟨W6,hW6⟩:=af (w6.alloc (.cells #[.int .i64 p.code,.int .i64 p.cls,.slice ap np cp] 68));have h6:Below w6.heap.size w6 W6:=by subst hW6;exact ai _
         have p0:W6.cell? ⟨w6.heap.size,0,none⟩=some (.int .i64 p.code):=by subst hW6;unfold World.cell?;rw [heap_alloc_new];rfl
         have p2:W6.cell? ⟨w6.heap.size,2,none⟩=some (.slice ap np cp):=by subst hW6;unfold World.cell?;rw [heap_alloc_new];rfl
         have Aa:=ag DD h6;have e0:=aA Aa e0;have e1:=aA Aa e1;have q0:=aA Aa q0;have q2:=aA Aa q2;have MG:=XG.trans (Aa.mono XG.size)
         have Xd:=ae (show ∀z,(z=true→twice T X q p)→(z=false→¬twice T X q p)→z=false→∀k' (hk':k'<T.length),k'<k+1→¬twice T X q T[k'] from fun z _ h0 hz k' hk' hkk=>by
          by_cases h:k'=k
          ·rw [HK.out k' hk' h];exact h0 hz
          ·exact HNK.out k' hk' (by omega))
         clear hno hm Nb hxp HNK HK;go_wp2_with fail;rw [←hW6];clear hW6;have hq:=ah W6;have g0:=Gr.cell hq e0;have g1:=Gr.cell hq e1;have gq0:=Gr.cell hq q0;have gq2:=Gr.cell hq q2;have gp0:=Gr.cell hq p0;have gp2:=Gr.cell hq p2;have P1:=PR _ (MG.trans (hq.mono MG.size)) q.code QS;have P2:=fun (W:World) (E:Below W6.heap.size W6 W)=>PR W (MG.trans (E.mono MG.size)) p.code hp9;clear PR c0 c1 c2;refine aD (Array.replicate 38 true) 38 0 mixed (by rfl) ?_;refine ay [0,1,2] 35 rfl (by kernel_rfl) ?_;refine aZ ?_
         iterate 3 (refine aO rfl ?_)
         refine a_ ?_
         iterate 3 (go_big_quiet_step (rfl))
         refine ak ?_;refine aL 3 (by kernel_rfl) rfl ?_;go_wp2_with fail;refine P1.out.mono ?_;rintro e w7 ⟨⟨p1,rfl,hp1⟩,h7⟩;go_wp2_with fail;refine aH h7 ?_;have TV:=ag hq h7;clear g0 g1 gq0 gq2 gp0 gp2 P1;have g0:=Gr.cell TV e0;have g1:=Gr.cell TV e1;have gq0:=Gr.cell TV q0;have gq2:=Gr.cell TV q2;have gp0:=Gr.cell TV p0;have gp2:=Gr.cell TV p2;cases p1 with
         | false=>
           have qR:=ae (show ¬twice T X q p from fun h=>by have:=hp1.2 h.1;cases this);clear P2 hp1 HXP MC HM;refine ay [4,5,6,7] 30 rfl (by kernel_rfl) ?_;refine aZ ?_
           iterate 4 (refine aO rfl ?_)
           refine a_ ?_
           iterate 4 (go_big_quiet_step (rfl))
           refine ak ?_;refine aL 8 (by kernel_rfl) rfl ?_;go_wp2_with fail;refine aH (Below.refl _ _) ?_;refine ay [9,10,11,12,13,14,15,16,17,18,19,20,21,22,23,24,25,26,27,28,29,30,31,32,33,34,35,36,37] 0 rfl (by kernel_rfl) ?_;refine aZ ?_
           iterate 29 (refine aO rfl ?_)
           refine a_ ?_
           iterate 29 (go_big_quiet_step (rfl))
           refine ak ?_;refine aI [] (by kernel_rfl) ?_;refine tail_nil ?_;go_wp2;go_roundw
           case rel=>exact ⟨k+1,by omega,rfl,Xd.out false (fun h=>by cases h) (fun _=>qR.out) rfl,ag Aa TV⟩
           case measure=>simp [intOf];omega
         | true=>
           have P2:=P2 _ TV;refine ay [4,5,6,7] 30 rfl (by kernel_rfl) ?_;refine aZ ?_
           iterate 4 (refine aO rfl ?_)
           refine a_ ?_
           iterate 4 (go_big_quiet_step (rfl))
           refine ak ?_;refine aL 8 (by kernel_rfl) rfl ?_;go_wp2_with fail;refine P2.out.mono ?_;rintro e w8 ⟨⟨p2',rfl,hp2⟩,h8⟩;go_wp2_with fail;refine aH h8 ?_;have hq8:=ag TV h8;clear g0 g1 gq0 gq2 gp0 gp2 P2;have g0:=Gr.cell hq8 e0;have g1:=Gr.cell hq8 e1;have gq0:=Gr.cell hq8 q0;have gq2:=Gr.cell hq8 q2;have gp0:=Gr.cell hq8 p0;have gp2:=Gr.cell hq8 p2;cases p2' with
           | false=>
             have qR:=ae (show ¬twice T X q p from fun h=>by have:=hp2.2 h.2.1;cases this);clear hp1 hp2 HXP MC HM;refine ay [9,10,11,12,13,14,15,16,17,18,19,20,21,22,23,24,25,26,27,28,29,30,31,32,33,34,35,36,37] 0 rfl (by kernel_rfl) ?_;refine aZ ?_
             iterate 29 (refine aO rfl ?_)
             refine a_ ?_
             iterate 29 (go_big_quiet_step (rfl))
             refine ak ?_;refine aI [] (by kernel_rfl) ?_;refine tail_nil ?_;go_wp2;go_roundw
             case rel=>exact ⟨k+1,by omega,rfl,Xd.out false (fun h=>by cases h) (fun _=>qR.out) rfl,ag Aa hq8⟩
             case measure=>simp [intOf];omega
           | true=>
             have LM:nm=2:=qh.out.trans (HM.out (hp1.1 (by trivial)));by_cases Ww:np=2
             ·obtain ⟨y0,y1,hy,bm,fm,rfl,zy0,zy1⟩:=MC.out LM;obtain ⟨x0,x1,hx,bp,fp,rfl,zx0,zx1⟩:=HXP.out Ww;have vk:=MG.trans (hq8.mono MG.size);have gy0:=Gr.cell vk zy0;have gy1:=Gr.cell vk zy1;have Xu:=Gr.cell vk zx0;have Xv:=Gr.cell vk zx1
              have QO:=ae (show twice T X q p↔x0=y0∧x1=y1 from by
               unfold twice;rw [hx,hy];constructor
               ·rintro ⟨_,_,_,h⟩;cases h;exact ⟨rfl,rfl⟩
               ·rintro ⟨rfl,rfl⟩;exact ⟨hp1.1 (by trivial),hp2.1 (by trivial),rfl,rfl⟩)
              subst LM;subst Ww;clear hp1 hp2 HXP MC HM hx hy zy0 zy1 zx0 zx1;by_cases aad:x0=y0
              ·subst aad;by_cases aae:x1=y1
               ·subst aae;refine ay [9,10,11,12,13,14,15,16,17,18,19,20,21,22,23,24,25,26,27,28,29,30,31,32,33,34,35,36,37] 0 rfl (by kernel_rfl) ?_;refine aZ ?_
                iterate 29 (refine aO rfl ?_)
                refine a_ ?_
                iterate 29 (go_big_quiet_step (rfl))
                refine ak ?_;refine aI [] (by kernel_rfl) ?_;refine tail_nil ?_;go_wp2;go_ret;exact ⟨_,rfl,fun h=>by (first|cases h|simp at h),vk⟩
               ·have z:((x1:Int)==(y1:Int))=false:=by simp;omega
                have qR:=ae (show ¬twice T X q p from fun h=>aae (QO.out.1 h).2);clear QO;refine ay [9,10,11,12,13,14,15,16,17,18,19,20,21,22,23,24,25,26,27,28,29,30,31,32,33,34,35,36,37] 0 rfl (by kernel_rfl) ?_;refine aZ ?_
                iterate 29 (refine aO rfl ?_)
                refine a_ ?_
                iterate 29 (go_big_quiet_step (rfl))
                refine ak ?_;refine aI [] (by kernel_rfl) ?_;refine tail_nil ?_;go_wp2;go_roundw
                case rel=>exact ⟨k+1,by omega,rfl,Xd.out false (fun h=>by cases h) (fun _=>qR.out) rfl,ag Aa hq8⟩
                case measure=>simp [intOf];omega
              ·have z:((x0:Int)==(y0:Int))=false:=by simp;omega
               have qR:=ae (show ¬twice T X q p from fun h=>aad (QO.out.1 h).1);clear QO;refine ay [9,10,11,12,13,14,15,16,17,18,19,20,21,22,23,24,25,26,27,28,29,30,31,32,33,34,35,36,37] 0 rfl (by kernel_rfl) ?_;refine aZ ?_
               iterate 29 (refine aO rfl ?_)
               refine a_ ?_
               iterate 29 (go_big_quiet_step (rfl))
               refine ak ?_;refine aI [] (by kernel_rfl) ?_;refine tail_nil ?_;go_wp2;go_roundw
               case rel=>exact ⟨k+1,by omega,rfl,Xd.out false (fun h=>by cases h) (fun _=>qR.out) rfl,ag Aa hq8⟩
               case measure=>simp [intOf];omega
             ·have z:((np:Int)==2)=false:=by simp;omega
              have qR:=ae (show ¬twice T X q p from fun h=>Ww (QC.out.trans h.2.2.1));clear hp1 hp2 HXP MC HM;refine ay [9,10,11,12,13,14,15,16,17,18,19,20,21,22,23,24,25,26,27,28,29,30,31,32,33,34,35,36,37] 0 rfl (by kernel_rfl) ?_;refine aZ ?_
              iterate 29 (refine aO rfl ?_)
              refine a_ ?_
              iterate 29 (go_big_quiet_step (rfl))
              refine ak ?_;refine aI [] (by kernel_rfl) ?_;refine tail_nil ?_;go_wp2;go_roundw
              case rel=>exact ⟨k+1,by omega,rfl,Xd.out false (fun h=>by cases h) (fun _=>qR.out) rfl,ag Aa hq8⟩
              case measure=>simp [intOf];omega
        ·obtain rfl:j=k:=by omega
         have HNK:=ae hno;clear hno;go_wp2;go_roundw
         case rel=>
          refine ⟨j+1,by omega,rfl,fun i hi k' hk' hij hki=>?_,ag kV (ag h5 DD)⟩;by_cases hik:i=j
          ·rw [HJ.out i hi hik];exact HNK.out k' hk' (by omega)
          ·exact M0.out i hi k' hk' (by omega) hki
         case measure=>simp [intOf];omega
      ·obtain rfl:n=j:=by omega
       have HVV:=ae (HV.out (fun i hi k hk hki=>hno i hi k hk (by have:=HN.out;omega) hki));clear hno HV PR HPF;go_wp2;go_ret;exact ⟨_,rfl,fun _=>HVV.out,ME⟩
structure ze (s0 O:Nat) (r x:Value) (L:List (fM×Value)) (Y:List Nat) (j:Nat) (ov:Value) (Lo:List (aF×Value)) (w:World):Prop where
 rows:w.ownsRow (s0+2) d_ 3 r L.length (L.flatMap j4)
 maps:∀p∈L.drop j,w.ownsRow (s0+2) aU 1 p.2 p.1.map.length (bH p.1.map)
 xs:w.ownsRow (s0+2) aU 1 x Y.length (ints Y)
 GI:w.ownsRow (O+1) d_ 3 ov Lo.length (Lo.flatMap eF)
 MH:∀p∈Lo,w.ownsRow (s0+2) aU 1 p.2 p.1.map.length (ints p.1.map)
 res:Is w (s0+1) #[.slice none 0 0,.slice none 0 0] gX
 out:Is w O #[ov,x] gX
structure UR (O:Nat) (r x:Value) (L:List (fM×Value)) (j:Nat) (Lo:List (aF×Value)):Prop where
 rO:∀k,r.ownBlock=some k→k<O
 xO:∀k,x.ownBlock=some k→k<O
 mO:∀p∈L,∀k,p.2.ownBlock=some k→k<O
 oO:∀p∈Lo,∀k,p.2.ownBlock=some k→k<O
 ra:∀p∈L,uS r p.2
 xa:∀p∈L,uS x p.2
 la:L.Pairwise fun p q=>uS p.2 q.2
 oa:∀p∈Lo,∀q∈L.drop j,uS p.2 q.2
theorem sS {w w':World} {B n s:Nat} {e:TypeId} {v:Value} {xs:List Value} {row:Option Nat} (ho:w.ownsRow B e s v n xs) (hg:w.grownBy w' row) (hr:∀k,row=some k→v.ownBlock≠some k):w'.ownsRow B e s v n xs:=by
 refine ho.kept hg ?_;cases hk:v.ownBlock with
 | none=>exact .inl rfl
 | some k=>exact .inr fun e1=>hr k e1.symm hk
theorem ze.keep {s0 O j:Nat} {r x ov:Value} {L:List (fM×Value)} {Y:List Nat} {Lo:List (aF×Value)} {w w':World} {row:Option Nat} (h:ze s0 O r x L Y j ov Lo w) (hg:w.grownBy w' row)
 (hr:∀k,row=some k→r.ownBlock≠some k∧x.ownBlock≠some k∧ov.ownBlock≠some k∧(∀p∈L.drop j,p.2.ownBlock≠some k)∧(∀p∈Lo,p.2.ownBlock≠some k)∧k≠s0+1∧k≠O):ze s0 O r x L Y j ov Lo w':=
 ⟨sS h.rows hg fun k e=>(hr k e).1,fun p hp=>sS (h.maps p hp) hg fun k e=>(hr k e).2.2.2.1 p hp,sS h.xs hg fun k e=>(hr k e).2.1,sS h.GI hg fun k e=>(hr k e).2.2.1,
   fun p hp=>sS (h.MH p hp) hg fun k e=>(hr k e).2.2.2.2.1 p hp,h.res.grown hg fun e=>(hr _ e).2.2.2.2.2.1 rfl,h.out.grown hg fun e=>(hr _ e).2.2.2.2.2.2 rfl⟩
theorem ze.ext {s0 O j:Nat} {r x ov:Value} {L:List (fM×Value)} {Y:List Nat} {Lo:List (aF×Value)} {w w':World} (h:ze s0 O r x L Y j ov Lo w) (hb:Below w.heap.size w w'):ze s0 O r x L Y j ov Lo w':=
 ⟨aG h.rows hb,fun p hp=>aG (h.maps p hp) hb,aG h.xs hb,aG h.GI hb,fun p hp=>aG (h.MH p hp) hb,h.res.mono hb,h.out.mono hb⟩
theorem ze.next {s0 O j:Nat} {r x ov:Value} {L:List (fM×Value)} {Y:List Nat} {Lo:List (aF×Value)} {w:World} (h:ze s0 O r x L Y j ov Lo w):ze s0 O r x L Y (j+1) ov Lo w:=
 ⟨h.rows,fun p hp=>h.maps p (by rw [←List.drop_drop] at hp;exact List.mem_of_mem_drop hp),h.xs,h.GI,h.MH,h.res,h.out⟩
theorem UR.next {O j:Nat} {r x:Value} {L:List (fM×Value)} {Lo:List (aF×Value)} (h:UR O r x L j Lo):UR O r x L (j+1) Lo:=
 ⟨h.rO,h.xO,h.mO,h.oO,h.ra,h.xa,h.la,fun p hp q hq=>h.oa p hp q (by rw [←List.drop_drop] at hq;exact List.mem_of_mem_drop hq)⟩
theorem ze.Wx {s0 O j:Nat} {r x ov:Value} {L:List (fM×Value)} {Y:List Nat} {Lo:List (aF×Value)} {w w':World} {g:Nat} (h:ze s0 O r x L Y (j+1) ov Lo w) (hc:UR O r x L j Lo) (hj:j<L.length) (Wy:L[j].2.ownBlock=some g)
 (hg0:s0+2≤g) (hg:w.grownBy w' (some g)):ze s0 O r x L Y (j+1) ov Lo w':=by
 have hm:=List.getElem_mem hj;refine h.keep hg fun k e=>?_;cases e;have hgO:=hc.mO _ hm g Wy;refine ⟨fun e=>hc.ra _ hm g e Wy,fun e=>hc.xa _ hm g e Wy,fun e=>by have:=(h.GI.lt g e).1;omega,fun p hp e=>?_,fun p hp e=>?_,by omega,by omega⟩
 ·have hd:L.drop j=L[j]::L.drop (j+1):=List.drop_eq_getElem_cons hj;have hp2:=List.Pairwise.sublist (List.drop_sublist j L) hc.la;rw [hd,List.pairwise_cons] at hp2;exact hp2.1 p hp g Wy e
 ·exact hc.oa p hp L[j] (by rw [List.drop_eq_getElem_cons hj];exact List.mem_cons_self ..) g e Wy
def Dv (x:Int):Nat:=jG (x % 2097152).toNat
def qN (m:List Int) (k:Nat):List Int:=(m.take k).map (fun x=>((Dv x:Nat):Int))++m.drop k
theorem MI (m:List Int):qN m 0=m:=by simp [qN]
theorem GJ (m:List Int) (k:Nat):(qN m k).length=m.length:=by simp [qN];omega
theorem TW {m:List Int} {k:Nat} (hk:k<m.length):(qN m k)[k]? = some m[k]:=by
 unfold qN;rw [List.getElem?_append_right (by simp;omega),List.length_map,List.length_take,Nat.min_eq_left (Nat.le_of_lt hk),Nat.sub_self,List.drop_eq_getElem_cons hk];rfl
theorem Qg {m:List Int} {k:Nat} (hk:k<m.length):(qN m k).set k ((Dv m[k]:Nat):Int)=qN m (k+1):=by
 unfold qN;rw [List.set_append_right _ _ (by simp;omega),List.length_map,List.length_take,Nat.min_eq_left (Nat.le_of_lt hk),Nat.sub_self,List.drop_eq_getElem_cons hk,List.set_cons_zero,List.take_succ_eq_append_getElem hk,List.map_append,List.map_singleton,List.append_assoc];rfl
theorem Qh (m:List Int):bH (qN m m.length)=ints (m.map Dv):=by
 unfold qN;rw [List.take_length,List.drop_length,List.append_nil];simp [bH,ints]
theorem Dw (x:Int):aX (Dv x):=ou
theorem Qi {w:World} {B n:Nat} {e:TypeId} {g cap:Nat} {xs:List Value} (h:w.ownsRow B e 1 (.slice (some ⟨g,0,none⟩) n cap) n xs) {k:Nat} (hk:k≤n):w.ownsRow B e 1 (.slice (some ⟨g,0,none⟩) k cap) k (xs.take k):=by
 obtain ⟨h1,h2⟩:=h;rcases h2 with ⟨h2,_⟩|⟨g',cap',cur,h2,hB,hh,hc,hm,hs,ht⟩
 ·cases h2
 ·cases h2;refine ⟨by rw [List.length_take];omega,.inr ⟨g,cap,cur,rfl,hB,hh,by omega,hm,hs,?_⟩⟩;rw [←ht,List.take_take];congr 1;omega
theorem uQ.Kr {w:World} {B B':Nat} {v:Value} {N:List (aF×Value)} (h:w.ownsRow B d_ 3 v N.length (N.flatMap eF)) (hm:∀p∈N,w.ownsRow B' aU 1 p.2 p.1.map.length (ints p.1.map)):uQ w v (N.map Prod.fst):=by
 obtain ⟨a,cap,rfl,hc,_⟩:=az h;refine ⟨a,cap,by rw [List.length_map],by rw [List.length_map];exact hc,fun i hi=>?_⟩;have hi':i<N.length:=by simpa using hi
 obtain ⟨g,cap',e1,_,hg,_,hx⟩:=cB (f:=eF) (fun _=>rfl) rfl h hi';cases e1;have h0:=(hx 0 (by omega)).1;have h1:=(hx 1 (by omega)).1;have h2:=(hx 2 (by omega)).1;refine ⟨g,0,N[i].2,rfl,hg,?_,?_,?_,?_⟩
 ·rw [List.getElem_map,Nat.zero_add];exact h0
 ·rw [List.getElem_map,Nat.zero_add];exact h1
 ·rw [Nat.zero_add];exact h2
 ·rw [List.getElem_map];exact (Sl.aT (hm _ (List.getElem_mem hi'))).any
theorem iw.Kr {w:World} {B B' B2:Nat} {v x:Value} {N:List (aF×Value)} {Y:List Nat} (h:w.ownsRow B d_ 3 v N.length (N.flatMap eF)) (hm:∀p∈N,w.ownsRow B' aU 1 p.2 p.1.map.length (ints p.1.map)) (hx:w.ownsRow B2 aU 1 x Y.length (ints Y)) :
 iw w (.agg #[v,x]) (N.map Prod.fst) Y:=⟨v,x,rfl,uQ.Kr h hm,(Sl.aT hx).any⟩
theorem ze.turn {s0 O j:Nat} {r x ov nv:Value} {L:List (fM×Value)} {Y:List Nat} {Lo N:List (aF×Value)} {w:World} (h:ze s0 O r x L Y j ov Lo w) (hc:UR O r x L j Lo) (hs:s0+1<O)
 (hn:w.ownsRow (O+1) d_ 3 nv N.length (N.flatMap eF)) (hm:∀p∈N,w.ownsRow (s0+2) aU 1 p.2 p.1.map.length (ints p.1.map)) (hO:∀p∈N,∀k,p.2.ownBlock=some k→k<O) :
 ze s0 O r x L Y j nv N ((w.setCell ⟨O,0,none⟩ nv).setCell ⟨O,1,none⟩ x):=by
 have P:∀{B n s:Nat} {e:TypeId} {v:Value} {xs:List Value},w.ownsRow B e s v n xs→v.ownBlock≠some O→((w.setCell ⟨O,0,none⟩ nv).setCell ⟨O,1,none⟩ x).ownsRow B e s v n xs:=fun ho hk=>bf (bf ho hk _ _) hk _ _
 refine ⟨P h.rows fun e=>by have:=hc.rO O e;omega,fun p hp=>P (h.maps p hp) fun e=>by have:=hc.mO p (List.mem_of_mem_drop hp) O e;omega,P h.xs fun e=>by have:=hc.xO O e;omega,
  P hn (aP hn (by omega)),fun p hp=>P (hm p hp) fun e=>by have:=hO p hp O e;omega,(h.res.put (by omega) _).put (by omega) _,(h.out.set 0 nv).set 1 x⟩
end Go.Proofs.YtjidohgiigjifaaGreatDoor
