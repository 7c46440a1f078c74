/- TraceParts and TraceWalks: a machine takes a character as those of its full decomposition, one by one; texts that are alike go through it, and of others none; no condition. -/
import Derived.Test.YtjidohgiigjifaaGreatDoorR08
import Derived.Test.YtjidohgiigjifaaGreatDoorR09
import Derived.Maps.Keyed
import Derived.DeepKeys5
set_option maxRecDepth 100000
set_option maxHeartbeats 6400000
namespace Go.Proofs.YtjidohgiigjifaaGreatDoor
open Go.RowKit Go.Cd
def vF (w:World) (v:Value) (T:List aF):Prop:=
 ∃a cap,v=.slice a T.length cap∧T.length≤cap∧∀i (hi:i<T.length),∃b off m,a=some ⟨b,off,none⟩∧b<w.heap.size∧
  w.cell? ⟨b,off+i*3,none⟩=some (.int .i32 T[i].code)∧w.cell? ⟨b,off+i*3+1,none⟩=some (.int .i64 T[i].cls)∧w.cell? ⟨b,off+i*3+2,none⟩=some m∧Sl aM w m (aN T[i].map)∧fH m
theorem vF.mono {w w':World} {v:Value} {T:List aF} (h:vF w v T) (hb:Below w.heap.size w w'):vF w' v T:=by
 obtain ⟨a,cap,hv,hc,h⟩:=h;refine ⟨a,cap,hv,hc,fun i hi=>?_⟩;obtain ⟨b,off,m,ha,hbs,h1,h2,h3,h4,h5⟩:=h i hi;exact ⟨b,off,m,ha,Nat.lt_of_lt_of_le hbs hb.size,aA hb h1,aA hb h2,aA hb h3,h4.mono hb,h5⟩
theorem vF.aT {w:World} {base:Nat} {v:Value} {L:List (aF×Value)} (h:w.ownsRow base fE 3 v L.length (L.flatMap dB)) (hm:∀x∈L,Sl aM w x.2 (aN x.1.map)∧fH x.2):vF w v (L.map (·.1)):=by
 obtain ⟨a,cap,rfl,hc,_⟩:=az h;refine ⟨a,cap,by rw [List.length_map],by rw [List.length_map];exact hc,fun i hi=>?_⟩;have hi':i<L.length:=by simpa using hi
 obtain ⟨g,cap',he,_,hg,_,hk⟩:=cB xE rfl h hi';cases he;obtain ⟨h1,h2⟩:=hm _ (List.getElem_mem hi');have k0:=(hk 0 (by decide)).1;have k1:=(hk 1 (by decide)).1;have k2:=(hk 2 (by decide)).1;refine ⟨g,0,L[i].2,rfl,hg,?_,?_,?_,?_,h2⟩
 ·rw [Nat.zero_add];simpa [dB] using k0
 ·rw [Nat.zero_add];simpa [dB] using k1
 ·rw [Nat.zero_add];simpa [dB] using k2
 ·simpa using h1
def nK (w:World) (v:Value) (T:List aF) (X:List Nat):Prop:=∃r x,v=.agg #[r,x]∧vF w r T∧bD w x (aN (ji X))
theorem nK.mono {w w':World} {v:Value} {T:List aF} {X:List Nat} (h:nK w v T X) (hb:Below w.heap.size w w'):nK w' v T X:=by
 obtain ⟨r,x,hv,h1,h2⟩:=h;exact ⟨r,x,hv,h1.mono hb,h2.mono hb⟩
def jR (T:List aF) (c:Nat):aF:=(rowOf T c).getD ⟨0,0,[]⟩
theorem Cz (T:List aF) (c:Nat):aB T c=(jR T c).cls:=by
 unfold aB jR;cases rowOf T c <;> rfl
theorem Fg {w:World} (a b:Int) (m:Value) (c:Int) (ha:0≤a∧a<2147483648) (hc:0≤c∧c<2147483648) :
 Calls Tryz.prog 200 #[.agg #[.int .i32 a,.int .i64 b,m],.int .i32 c] w fun e w'=>e=.returned (.int .i64 (a-c))∧Below w.heap.size w w':=by
 have hb:=ai (w:=w) (.cells #[.int .i32 a,.int .i64 b,m] 164);have k0:=Is.new w #[.int .i32 a,.int .i64 b,m] 164;have e0:=k0.at 0 rfl;go_enter Tryz.func200,Tryz.ntmps200;go_wp2;go_ret;exact ⟨rfl,hb⟩
theorem Bc {T:List aF} {c k:Nat} (hk:k<T.length) (h1:∀t (ht:t<T.length),t<k→T[t].code<c) (h:T[k].code=c):rowOf T c=some T[k]:=by
 refine wZ hk (fun r hr=>?_) h;obtain ⟨t,ht,rfl⟩:=List.mem_iff_getElem.1 hr;rw [List.length_take] at ht;rw [List.getElem_take];have:=h1 t (by omega) (by omega);omega
theorem x8 {T:List aF} {c k:Nat} (hs:rising T) (h1:∀t (ht:t<T.length),t<k→T[t].code<c) (h2:∀t (ht:t<T.length),k≤t→c≤T[t].code) (h:∀hk:k<T.length,T[k].code≠c):rowOf T c=none:=by
 refine lZ fun r hr=>?_;obtain ⟨t,ht,rfl⟩:=List.mem_iff_getElem.1 hr;rcases Nat.lt_trichotomy t k with h3|h3|h3
 ·have:=h1 t ht h3;omega
 ·subst h3;exact h ht
 ·have h4:=iy hs k t (by omega) ht h3;have:=h2 k (by omega) (Nat.le_refl _);omega
theorem Ve {w:World} {v:Value} {T:List aF} (h:vF w v T) (hs:rising T) (hT:∀r∈T,r.code<1114112) (hl:T.length<1000000) (c:Nat) (hc:c<1114112) :
 Calls Tryz.prog 199 #[v,.int .i32 c,.func (.func 200) #[] #[]] w fun e w'=>
  ∃k:Nat,e=.returned (.tuple #[.int .i64 k,.bool (rowOf T c).isSome])∧((rowOf T c).isSome=true→rowOf T c=T[k]?)∧Below w.heap.size w w':=by
 obtain ⟨a,cap,rfl,_,hx⟩:=h;have HX:=ae hx;obtain ⟨n,hn⟩:=af T.length;have HN:=ae hn;have HS:=ae hs;have HT:=ae hT;rw [←hn] at hl ⊢;clear hx hn hs hT;go_enter Tryz.func199,Tryz.ntmps199;go_wp2
 go_loopg [9,10] n (fun g s7 s8 wr=>∃lo hi:Nat,s7=.int .i64 lo∧s8=.int .i64 hi∧lo≤hi∧hi≤n∧hi-lo≤g∧Below w.heap.size w wr∧(∀t (ht:t<T.length),t<lo→T[t].code<c)∧(∀t (ht:t<T.length),hi≤t→c≤T[t].code))
 case atStart=>exact ⟨0,n,rfl,rfl,Nat.zero_le _,Nat.le_refl _,by omega,Below.refl _ _,fun t _ ht=>absurd ht (Nat.not_lt_zero _),fun t h1 h2=>by have:=HN.out;omega⟩
 case round=>
  obtain ⟨lo,hi,rfl,rfl,hlh,hin,hg,hE,h1,h2⟩:=hrel;have I:=ae (And.intro h1 h2);clear h1 h2;by_cases hlt:lo<hi
  ·have ko:(lo+hi) / 2<T.length:=by have:=HN.out;omega
   obtain ⟨b,off,m,rfl,_,c0,c1,c2,hm,hpm⟩:=HX.out ((lo+hi) / 2) ko;have c0:=aA hE c0;have c1:=aA hE c1;have c2:=aA hE c2;have hcd:=HT.out _ (List.getElem_mem ko);obtain ⟨am,nm,cm,rfl,_⟩:=hpm;have F1:=ae (fun W=>Fg (w:=W) (T[(lo+hi) / 2].code:Nat) (T[(lo+hi) / 2].cls:Nat) (.slice am nm cm) (c:Nat) ⟨by omega,by omega⟩ ⟨by omega,by omega⟩);have Y1:=ae (fun t (ht:t<T.length) (h:t<(lo+hi) / 2)=>iy HS.out t _ ht ko h);have Y2:=ae (fun t (ht:t<T.length) (h:(lo+hi) / 2<t)=>iy HS.out _ t ko ht h);have YE:=ae (show ∀t (ht:t<T.length),t=(lo+hi) / 2→T[t].code=T[(lo+hi) / 2].code from fun t ht e=>by subst e;rfl);clear hm;generalize T[(lo+hi) / 2].code=y at *;generalize T[(lo+hi) / 2].cls=yc at *;by_cases hyx:y<c
   ·have zy:decide ((y:Int)-(c:Int)<0)=true:=by simp;omega
    go_wp2_with (go_at_call 200;refine (F1.out _).mono ?_;rintro e w2 ⟨rfl,hB2⟩)
    go_roundg (hi-((lo+hi) / 2+1))
    case measure=>omega
    case rel=>
     refine ⟨(lo+hi) / 2+1,hi,by rw [show ((lo:Int)+(hi:Int)) / 2+1=(((lo+hi) / 2+1:Nat):Int) by omega],rfl,by omega,hin,Nat.le_refl _,ag hE hB2,fun t ht h=>?_,I.out.2⟩;rcases Nat.lt_or_ge t ((lo+hi) / 2) with h3|h3
     ·have:=Y1.out t ht h3;omega
     ·have:=YE.out t ht (by omega);omega
   ·have zy:decide ((y:Int)-(c:Int)<0)=false:=by simp;omega
    go_wp2_with (go_at_call 200;refine (F1.out _).mono ?_;rintro e w2 ⟨rfl,hB2⟩)
    go_roundg ((lo+hi) / 2-lo)
    case measure=>omega
    case rel=>
     refine ⟨lo,(lo+hi) / 2,rfl,by rw [show ((lo:Int)+(hi:Int)) / 2=(((lo+hi) / 2:Nat):Int) by omega],by omega,by omega,Nat.le_refl _,ag hE hB2,I.out.1,fun t ht h=>?_⟩;rcases Nat.lt_or_ge ((lo+hi) / 2) t with h3|h3
     ·have:=Y2.out t ht h3;omega
     ·have:=YE.out t ht (by omega);omega
  ·have:hi=lo:=by omega
   subst this;by_cases hn:hi<n
   ·have ko:hi<T.length:=by have:=HN.out;omega
    obtain ⟨b,off,m,rfl,_,c0,c1,c2,hm,hpm⟩:=HX.out hi ko;have c0:=aA hE c0;have c1:=aA hE c1;have c2:=aA hE c2;have hcd:=HT.out _ (List.getElem_mem ko);obtain ⟨am,nm,cm,rfl,_⟩:=hpm;have F1:=ae (fun W=>Fg (w:=W) (T[hi].code:Nat) (T[hi].cls:Nat) (.slice am nm cm) (c:Nat) ⟨by omega,by omega⟩ ⟨by omega,by omega⟩);clear hm;have R1:=ae (show T[hi].code=c→rowOf T c=some T[hi] from fun h=>Bc ko I.out.1 h);have R2:=ae (show T[hi].code≠c→rowOf T c=none from fun h=>x8 HS.out I.out.1 I.out.2 (fun _=>h));have R3:=ae (show some T[hi]=T[hi]? from (List.getElem?_eq_getElem ko).symm);have R4:∃y,y=T[hi].code:=⟨_,rfl⟩;generalize T[hi]=q at *;by_cases hyx:q.code=c
    ·have zy:(((q.code:Int)-(c:Int))==0)=true:=by simp;omega
     have hrow:=R1.out hyx;have zM:=ae hrow;clear hrow hyx R1 R2;go_wp2_with (go_at_call 200;refine (F1.out _).mono ?_;rintro e w2 ⟨rfl,hB2⟩);go_ret2;refine ⟨hi,?_,fun _=>by rw [zM.out,R3.out],ag hE hB2⟩;rw [zM.out];rfl
    ·have zy:(((q.code:Int)-(c:Int))==0)=false:=by simp;omega
     have hrow:=R2.out hyx;have zM:=ae hrow;clear hrow hyx R1 R2;go_wp2_with (go_at_call 200;refine (F1.out _).mono ?_;rintro e w2 ⟨rfl,hB2⟩);go_ret2;refine ⟨hi,?_,fun h=>?_,ag hE hB2⟩
     ·rw [zM.out];rfl
     ·rw [zM.out] at h;cases h
   ·have zM:=ae (x8 HS.out I.out.1 I.out.2 (fun hk=>absurd hk (by have:=HN.out;omega)));go_wp2_with (go_at_call 200;trivial);go_ret2;refine ⟨hi,?_,fun h=>?_,hE⟩
    ·rw [zM.out];rfl
    ·rw [zM.out] at h;cases h
structure gT (T:List aF):Prop where
 rise:rising T
 code:∀r∈T,r.code<1114112
 map:∀r∈T,r.map.length≤2
 Vf:∀r∈T,∀x∈r.map,x<1114112
 len:T.length<40000
theorem uo {w:World} {v:Value} {T:List aF} {X:List Nat} (h:nK w v T X) (hF:gT T) (c:Nat) (hc:c<1114112) :
 Calls Tryz.prog 169 #[v,.int .i32 c] w fun e w'=>∃m,e=.returned (.tuple #[.agg #[.int .i32 (jR T c).code,.int .i64 (jR T c).cls,m],.bool (rowOf T c).isSome])∧Sl aM w' m (aN (jR T c).map)∧fH m∧Below w.heap.size w w':=by
 obtain ⟨r,x,rfl,h1,h2⟩:=h;obtain ⟨ra,Vg,rfl,_,hx⟩:=id h1;obtain ⟨nx,hnx⟩:∃n,n=(ji X).length:=⟨_,rfl⟩;obtain ⟨xa,xc,rfl,_,_⟩:=bD.lD h2 hnx;clear hnx;obtain ⟨w1,hw1⟩:=af (w.alloc (.cells #[.slice ra T.length Vg,.slice xa nx xc] 127));have k1:Is w1 w.heap.size #[.slice ra T.length Vg,.slice xa nx xc] 127:=by rw [hw1];exact Is.new _ _ _
 have hb1:Below w.heap.size w w1:=by rw [hw1];exact ai _
 obtain ⟨w2,hw2⟩:=af (w1.alloc (.cells #[.int .i32 0,.int .i64 0,.slice none 0 0] 164));have hb2:Below w1.heap.size w1 w2:=by rw [hw2];exact ai _
 have k2:=k1.mono hb2;have l2:Is w2 w1.heap.size #[.int .i32 0,.int .i64 0,.slice none 0 0] 164:=by rw [hw2];exact Is.new _ _ _
 have hz1:w1.heap.size=w.heap.size+1:=by rw [hw1];simp
 rw [hz1] at l2;have hb:=ag hb1 hb2;have BS:=ae (Ve (h1.mono hb) hF.rise hF.code (by have:=hF.len;omega) c hc);have HX:=ae hx;have hz2:w2.heap.size=w.heap.size+2:=by rw [hw2,World.size_alloc,hz1]
 have e0:=k2.at 0 rfl;have hrd:jR T c=(rowOf T c).getD ⟨0,0,[]⟩:=rfl;have HRD:=ae hrd;rw [hw1] at hw2;clear hx h1 h2 k1 hb1 hb2 hw1 hrd;go_enter Tryz.func169,Tryz.ntmps169;go_wp2_with fail;rw [←hw2];clear hw2;refine BS.out.mono ?_;rintro e w3 ⟨k,rfl,hk,hB3⟩;have k3:=k2.mono hB3;have l3:=l2.mono hB3;have e0:=k3.at 0 rfl;have d0:=l3.at 0 rfl;have d1:=l3.at 1 rfl;have d2:=l3.at 2 rfl;have f0:=l3.frozen 0;have f1:=l3.frozen 1;have f2:=l3.frozen 2;cases hr:rowOf T c with
 | none=>
   have hrd:=HRD.out;rw [hr] at hrd;have HR:=ae hr;have HD:=ae hrd;clear hr hk BS hrd HRD hF;go_wp2
   (try simp only [Exit.inBlock,Exit.then])
   have P:=((l3.set 0 (.int .i32 0)).set 1 (.int .i64 0)).set 2 (.slice none 0 0);have v0:=P.at 0 rfl;have v1:=P.at 1 rfl;have v2:=P.at 2 rfl;refine bodyPost_ret (v:=.tuple #[.agg #[.int .i32 0,.int .i64 0,.slice none 0 0],.bool false]) (by simp [results,Tryz.results169,go_sem,v0,v1,v2]) rfl ?_;have hB:=hb.trans (hB3.mono hb.size);refine ⟨.slice none 0 0,?_,?_,⟨none,0,0,rfl,.inl rfl⟩,aj (aj (aj hB (by omega)) (by omega)) (by omega)⟩
   ·rw [HD.out,HR.out];rfl
   ·rw [HD.out];exact Sl.nil _ _ _ _ (fun _=>rfl)
 | some q=>
   have hrd:=HRD.out;rw [hr] at hrd hk;have HR:=ae hr;have hq:some q=T[k]?:=hk rfl;obtain ⟨hkl,hqe⟩:=List.getElem?_eq_some_iff.1 hq.symm;obtain ⟨b,off,m,rfl,hbs,c0,c1,c2,hm,hpm⟩:=HX.out k hkl;rw [hqe] at c0 c1 hm;have j_:=hb.trans (hB3.mono hb.size);have c0:=aA j_ c0;have c1:=aA j_ c1;have c2:=aA j_ c2;have Ut:=hm.mono j_;obtain ⟨am,nm,cm,rfl,hpm⟩:=hpm;have HD:=ae hrd;have HMM:=ae Ut;have Vh:=ae hpm;clear hr hk BS hrd HRD hF hq hqe hm Ut hpm;have Vi:=HD.out;simp only [Option.getD_some] at Vi;have HD2:=ae Vi;clear Vi HD;go_wp2
   (try simp only [Exit.inBlock,Exit.then])
   have P:=((l3.set 0 (.int .i32 (q.code:Nat))).set 1 (.int .i64 (q.cls:Nat))).set 2 (.slice am nm cm);have v0:=P.at 0 rfl;have v1:=P.at 1 rfl;have v2:=P.at 2 rfl;refine bodyPost_ret (v:=.tuple #[.agg #[.int .i32 (q.code:Nat),.int .i64 (q.cls:Nat),.slice am nm cm],.bool true]) (by simp [results,Tryz.results169,go_sem,v0,v1,v2]) rfl ?_;have hT:164≠aM:=by decide
   refine ⟨.slice am nm cm,?_,?_,⟨am,nm,cm,rfl,Vh.out⟩,aj (aj (aj j_ (by omega)) (by omega)) (by omega)⟩
   ·rw [HD2.out,HR.out];rfl
   ·rw [HD2.out];exact ((HMM.out.put l3.at_ hT).put (l3.set 0 _).at_ hT).put ((l3.set 0 _).set 1 _).at_ hT
theorem nK.shape {w:World} {v:Value} {T:List aF} {X:List Nat} (h:nK w v T X):∃ra nt rc xa nx xc,v=.agg #[.slice ra nt rc,.slice xa nx xc]:=by
 obtain ⟨r,x,rfl,⟨a,cap,rfl,_⟩,h2⟩:=h;obtain ⟨b,c,rfl,_⟩:=bD.out h2;exact ⟨_,_,_,_,_,_,rfl⟩
theorem Iu {w:World} {v:Value} {T:List aF} {X:List Nat} (h:nK w v T X) (hF:gT T) (c:Nat) (hc:c<1114112) :
 Calls Tryz.prog 197 #[v,.int .i32 c] w fun e w'=>e=.returned (.int .i64 (aB T c))∧Below w.heap.size w w':=by
 obtain ⟨ra,nt,rc,xa,nx,xc,rfl⟩:=h.shape;obtain ⟨w1,hw1⟩:=af (w.alloc (.cells #[.slice ra nt rc,.slice xa nx xc] 127));have k1:Is w1 w.heap.size #[.slice ra nt rc,.slice xa nx xc] 127:=by rw [hw1];exact Is.new _ _ _
 have hb1:Below w.heap.size w w1:=by rw [hw1];exact ai _
 have FD:=ae (uo (h.mono hb1) hF c hc);have e0:=k1.at 0 rfl;have e1:=k1.at 1 rfl;rw [Cz];clear h hF;go_enter Tryz.func197,Tryz.ntmps197;go_wp2_with fail;rw [←hw1];clear hw1;refine FD.out.mono ?_;rintro e w2 ⟨m,rfl,_,⟨am,nm,cm,rfl,_⟩,hB2⟩;have hb3:=ai (w:=w2) (.cells #[.int .i32 (jR T c).code,.int .i64 (jR T c).cls,.slice am nm cm] 164);have k3:=Is.new w2 #[.int .i32 (jR T c).code,.int .i64 (jR T c).cls,.slice am nm cm] 164;have e3:=k3.at 1 rfl;clear FD e0 e1;go_wp2;go_ret;exact ⟨rfl,hb1.trans ((ag hB2 hb3).mono hb1.size)⟩
theorem Bd {c:Nat} (h:4≤hk c):∃a b,cO c=[a,b]:=by
 have hn:cO c≠[]:=fun e=>by have:=tu.1 e;omega
 unfold cO at *;by_cases h4:hk c=4
 ·exact ⟨_,_,if_pos h4⟩
 ·rw [if_neg h4] at hn ⊢;by_cases h5:hk c=5
  ·exact ⟨_,_,if_pos h5⟩
  ·rw [if_neg h5] at hn;exact absurd rfl hn
theorem Lg {T:List aF} {c:Nat} (h:hk c<4):mapOf T c=(jR T c).map:=by
 unfold mapOf bF jR;rw [if_pos h];cases rowOf T c <;> rfl
theorem Fh {w:World} {v:Value} {T:List aF} {X:List Nat} (h:nK w v T X) (hF:gT T) (c:Nat) (hc:c<1114112) :
 Calls Tryz.prog 196 #[v,.int .i32 c] w fun e w'=>∃r,e=.returned r∧w'.ownsRow w.heap.size aM 1 r (mapOf T c).length (aN (mapOf T c))∧Below w.heap.size w w':=by
 obtain ⟨ra,nt,rc,xa,nx,xc,rfl⟩:=h.shape;obtain ⟨w1,hw1⟩:=af (w.alloc (.cells #[.slice ra nt rc,.slice xa nx xc] 127));have k1:Is w1 w.heap.size #[.slice ra nt rc,.slice xa nx xc] 127:=by rw [hw1];exact Is.new _ _ _
 have hb1:Below w.heap.size w w1:=by rw [hw1];exact ai _
 have hz1:w1.heap.size=w.heap.size+1:=by rw [hw1];simp
 by_cases h4:4≤hk c
 ·obtain ⟨a,b,hab⟩:=Bd h4;have HP:=ae (jE (w:=w1) hc hab);have hm:mapOf T c=[a,b]:=by unfold mapOf;rw [if_neg (by omega),hab]
  rw [hm];have o2:=kD w1 #[.int .i32 (a:Nat),.int .i32 (b:Nat)] aM 2 rfl (by decide);rw [hz1] at o2;have hb2:=ai (w:=w1) (.cells #[.int .i32 a,.int .i32 b] aM);clear hm hab h hF k1;go_enter Tryz.func196,Tryz.ntmps196;go_wp2_with fail;rw [←hw1];clear hw1;refine HP.out.mono ?_;rintro e w2 ⟨rfl,rfl⟩;go_wp2;go_ret;exact ⟨_,rfl,aW o2 (by omega),hb1.trans (hb2.mono hb1.size)⟩
 ·have FD:=ae (uo (h.mono hb1) hF c hc);have HP:=ae (oq (w:=w1) hc (by omega));have ko:(jR T c).map.length<1000000:=by
   unfold jR;cases hr:rowOf T c with
   | none=>simp
   | some q=>
     have:=hF.map q (List.mem_of_find?_eq_some hr);simp only [Option.getD_some];omega
  rw [Lg (by omega)];generalize jR T c=q at *;have e0:=k1.at 0 rfl;have e1:=k1.at 1 rfl;clear h hF;go_enter Tryz.func196,Tryz.ntmps196;go_wp2_with fail;rw [←hw1];clear hw1;refine HP.out.mono ?_;rintro e w2 ⟨⟨a,b,rfl⟩,rfl⟩;go_wp2_with fail;refine FD.out.mono ?_;rintro e w3 ⟨m,rfl,hm,hpm,hB3⟩;obtain ⟨w4,hw4⟩:=af (w3.alloc (.cells #[.int .i32 q.code,.int .i64 q.cls,m] 164));have hb4:Below w3.heap.size w3 w4:=by rw [hw4];exact ai _
  have k4:Is w4 w3.heap.size #[.int .i32 q.code,.int .i64 q.cls,m] 164:=by rw [hw4];exact Is.new _ _ _
  have CL:=ae (lQ q.map (hm.mono hb4) hpm ko);obtain ⟨am,nm,cm,rfl,_⟩:=hpm;have e4:=k4.at 2 rfl;clear FD e0 e1 hm;rw [hw4] at e4;go_wp2_with fail;rw [←hw4];refine CL.out.mono ?_;rintro e w5 ⟨r,rfl,ho,qQ⟩;have hz:w2.heap.size≤w4.heap.size:=Nat.le_trans hB3.size hb4.size;obtain ⟨ar,cr,rfl,_,_⟩:=az ho;clear e4 hw4 CL;have HO:=ae ho;clear ho;go_wp2;go_ret;exact ⟨_,rfl,aW HO.out (by omega),hb1.trans ((ag (ag hB3 hb4) qQ).mono hb1.size)⟩
theorem Lh {A B C:World} {u v:Value} (h1:A.grownBy B u.ownBlock) (hn:jo A u v) (h2:B.grownBy C v.ownBlock):A.grownBy C u.ownBlock:=by
 refine ⟨h2.os.trans h1.os,h2.tape.trans h1.tape,h2.output.trans h1.output,Nat.le_trans h1.size h2.size,fun k hk hne=>?_⟩;refine (h2.block k (Nat.lt_of_lt_of_le hk h1.size) fun e=>?_).trans (h1.block k hk hne);rcases hn with hn|⟨k',h3,h4⟩
 ·exact hne (e.trans hn)
 ·rw [h3] at e;cases e;omega
theorem Iw {T:List aF} (h:∀r∈T,r.map.length≤2) (c:Nat):(mapOf T c).length≤2:=by
 unfold mapOf
 split
 ·unfold bF;cases hr:rowOf T c with
  | none=>simp
  | some r=>exact h r (List.mem_of_find?_eq_some hr)
 ·exact Ar c
theorem pR {w0:World} {v:Value} {T:List aF} {X:List Nat} (h:nK w0 v T X) (hF:gT T) (deep:Nat) (c:Nat) (w:World) (base:Nat) (out:List Nat) (ov:Value) (hc:c<1114112)
 (hm0:mapOf T c=[]) (hln:out.length<32) (hE:Below w0.heap.size w0 w) (_:w0.heap.size≤base) (hbw:base≤w.heap.size) (ho:w.ownsRow base aM 1 ov out.length (aN out)) :
 Calls Tryz.prog 167 #[v,ov,.int .i32 c,.int .i64 deep] w fun e w'=>∃r,e=.returned (.tuple #[r,.bool true])∧w'.ownsRow base aM 1 r (out++[c]).length (aN (out++[c]))∧w.grownBy w' ov.ownBlock∧jo w ov r:=by
 have hT:=h.mono hE;obtain ⟨ra,nt,rc,xa,nx,xc,rfl⟩:=h.shape;have hnt:nt=T.length:=by
  obtain ⟨r,x,he,⟨a,cap,hr,_⟩,_⟩:=h;subst hr;injection he with he;have:=congrArg (fun s:Array Value=>s[0]?) he;simp at this;exact this.2.1
 have qR:=ae hnt;clear hnt;obtain ⟨w1,hw1⟩:=af (w.alloc (.cells #[.slice ra nt rc,.slice xa nx xc] 127));have k1:Is w1 w.heap.size #[.slice ra nt rc,.slice xa nx xc] 127:=by rw [hw1];exact Is.new _ _ _
 have hb1:Below w.heap.size w w1:=by rw [hw1];exact ai _
 have hz1:w1.heap.size=w.heap.size+1:=by rw [hw1];simp
 have MP:=ae (Fh (hT.mono hb1) hF c hc);have e0:=k1.at 0 rfl;have e1:=k1.at 1 rfl;obtain ⟨oa,oc,rfl,_,_⟩:=az ho;go_enter Tryz.func167,Tryz.ntmps167;go_wp2_with fail;rw [←hw1];refine MP.out.mono ?_;rintro e w2 ⟨mv,rfl,hm,hB2⟩;have k2:=k1.mono hB2;have hb2:=ag hb1 hB2;have ho2:=aG ho hb2;have hz2:w.heap.size+1≤w2.heap.size:=by have:=hB2.size;omega
 clear e0 e1 hw1 MP k1 ho hT;rw [hm0] at hm;obtain ⟨ma,mc,rfl,_,_⟩:=az hm;have zl:decide ((out.length:Int)<32)=true:=by simp;omega
 clear hm;go_wp2_with (at_builtin;go_loud (refine mY (W:=w2) rfl _ _ 39 rfl base aM _ 1 4 (Elem.XW bS) (by decide) (by decide) (by decide) (by decide) (.slice oa out.length oc) out.length (aN out) rfl ho2 _ rfl rfl (by simp [Value.oneCell']) (by omega) w2 (Below.refl _ _) (by omega) ?_);intro v1 w3 o1 hb3 hg1 hN1;obtain ⟨a1,wI,rfl,_,_⟩:=az o1);go_ret2;refine ⟨_,rfl,?_,?_,?_⟩
 ·rw [bA];exact o1
 ·refine ⟨hg1.os.trans hb2.os,hg1.tape.trans hb2.tape,hg1.output.trans hb2.output,Nat.le_trans hb2.size hg1.size,fun k hk hne=>(hg1.block k (by omega) hne).trans (hb2.block k hk)⟩
 ·rcases hN1 with hn|⟨k,h1,h2⟩
  ·exact .inl hn
  ·exact .inr ⟨k,h1,by omega⟩
theorem vG {w0:World} {v:Value} {T:List aF} {X:List Nat} (h:nK w0 v T X) (hF:gT T):∀(f deep:Nat) (c:Nat) (w:World) (base:Nat) (out:List Nat) (ov:Value),deep+f=T.length+3→c<1114112→
 oZ (mapOf T) (fZ (mapOf T) f c)→out.length+(fZ (mapOf T) f c).length≤32→Below w0.heap.size w0 w→w0.heap.size≤base→base≤w.heap.size→w.ownsRow base aM 1 ov out.length (aN out)→
 Calls Tryz.prog 167 #[v,ov,.int .i32 c,.int .i64 deep] w fun e w'=>∃r,e=.returned (.tuple #[r,.bool true])∧w'.ownsRow base aM 1 r (out++fZ (mapOf T) f c).length (aN (out++fZ (mapOf T) f c))∧w.grownBy w' ov.ownBlock∧jo w ov r:=by
 intro f
 induction f with
 | zero=>
   intro deep c w base out ov hdf hc hlf hln hE hb0 hbw ho;have hm0:mapOf T c=[]:=hlf c (by simp [fZ]);rw [g_ hm0] at hln ⊢;exact pR h hF deep c w base out ov hc hm0 (by simp at hln;omega) hE hb0 hbw ho
 | succ f ih=>
   intro deep c w base out ov hdf hc hlf hln hE hb0 hbw ho;by_cases hm0:mapOf T c=[]
   ·rw [g_ hm0] at hln ⊢;exact pR h hF deep c w base out ov hc hm0 (by simp at hln;omega) hE hb0 hbw ho
   rw [Ag hm0] at hlf hln ⊢;have Vj:=ae h;have hlm:=Iw hF.map c;have RS:=ae (fun x (hx:x∈mapOf T c)=>EP hF.Vf hc hx);have hT:=h.mono hE;obtain ⟨ra,nt,rc,xa,nx,xc,rfl⟩:=h.shape;have hnt:nt=T.length:=by
    obtain ⟨r,x,he,⟨a,cap,hr,_⟩,_⟩:=h;subst hr;injection he with he;have:=congrArg (fun s:Array Value=>s[0]?) he;simp at this;exact this.2.1
   have qR:=ae hnt;clear hnt;obtain ⟨w1,hw1⟩:=af (w.alloc (.cells #[.slice ra nt rc,.slice xa nx xc] 127));have k1:Is w1 w.heap.size #[.slice ra nt rc,.slice xa nx xc] 127:=by rw [hw1];exact Is.new _ _ _
   have hb1:Below w.heap.size w w1:=by rw [hw1];exact ai _
   have hz1:w1.heap.size=w.heap.size+1:=by rw [hw1];simp
   have MP:=ae (Fh (hT.mono hb1) hF c hc);have e0:=k1.at 0 rfl;have e1:=k1.at 1 rfl;obtain ⟨oa,oc,rfl,_,_⟩:=az ho;go_enter Tryz.func167,Tryz.ntmps167;go_wp2_with fail;rw [←hw1];refine MP.out.mono ?_;rintro e w2 ⟨mv,rfl,hm,hB2⟩;have k2:=k1.mono hB2;have hb2:=ag hb1 hB2;have ho2:=aG ho hb2;have hz2:w.heap.size+1≤w2.heap.size:=by have:=hB2.size;omega
   have h0m:0<(mapOf T c).length:=List.length_pos_iff.2 hm0;have HIH:=ae ih;have HOW:=ae (fun k (hk:(Value.slice oa out.length oc).ownBlock=some k)=>ho.lt k hk);clear e0 e1 hw1 MP k1 ho hT hm0 ih;generalize hmd:mapOf T c=m at *;have HMD:=ae hmd;have acp:nt<40000:=by have:=qR.out;have:=hF.len;omega
   clear hmd;obtain ⟨n,hn⟩:=af m.length;obtain ⟨ma,mc,rfl,_,_⟩:=az hm;have HN:=ae hn;have HLF:=ae hlf;have Yq:=ae hln;have HM:=ae hm;have e0:=k2.at 0 rfl;have zd:decide ((nt:Int)+2<(deep:Int))=false:=by have:=qR.out;simp;omega
   rw [←hn] at h0m hlm ⊢;clear hn hlf hln hm;have zn:((n:Int)==0)=false:=by simp;omega
   go_wp2_with fail;have QA:=ae ho2;go_loopw [1,36] (fun uv iv wr=>∃j:Nat,j≤n∧iv=.int .i64 j∧wr.ownsRow base aM 1 uv (out++(m.take j).flatMap (fZ (mapOf T) f)).length (aN (out++(m.take j).flatMap (fZ (mapOf T) f)))∧w2.grownBy wr (Value.slice oa out.length oc).ownBlock∧jo w2 (.slice oa out.length oc) uv) (fun _ iv _=>n-(intOf iv).toNat)
   case atStart=>exact ⟨0,Nat.zero_le _,rfl,by simpa using ho2,⟨rfl,rfl,rfl,Nat.le_refl _,fun _ _ _=>rfl⟩,jo.refl _ _⟩
   case round=>
    clear e0 zd ho2;obtain ⟨j,hj,rfl,hor,hg,hN⟩:=hrel;have Iy:∀k,(Value.slice oa out.length oc).ownBlock=some k→base≤k∧k<w.heap.size:=fun k hk=>HOW.out k hk;have kr:=k2.grown hg (fun e=>by have:=(Iy _ e).2;omega);have hEr:Below w0.heap.size w0 wr:=(hE.trans (hb2.mono hE.size)).grown hg (by have:=hE.size;omega) fun k hk=>Nat.le_trans hb0 (Iy k hk).1;have hsz:=hg.size;by_cases hjn:j<n
    ·obtain ⟨ua,uc,rfl,_,_⟩:=az hor;have zj:decide ((j:Int)<(n:Int))=true:=by simp;omega
     have hjl:j<m.length:=by have:=HN.out;omega
     have hmr:=uS.stays (u:=.slice ma m.length mc) (v:=.slice oa out.length oc) (fun k h1 h2=>by have:=(HM.out.lt k h1).1;have:=(Iy k h2).2;omega) HM.out hg;obtain ⟨a',c',he,_,hx⟩:=bD.lD (Sl.aT hmr).any rfl;obtain ⟨bm,off,ha',_,hcl⟩:=hx j hjl;have hma:ma=some ⟨bm,off,none⟩:=by injection he with e1;rw [e1];exact ha'
     subst hma;have hmem:=List.getElem_mem hjl;have e0:=kr.at 0 rfl;have e1:=kr.at 1 rfl;have hTK:m.take (j+1)=m.take j++[m[j]]:=List.take_succ_eq_append_getElem hjl;have hsum:(out++(m.take j).flatMap (fZ (mapOf T) f)).length+(fZ (mapOf T) f m[j]).length≤32:=by
      have h1:=Yq.out;have h2:m.flatMap (fZ (mapOf T) f)=(m.take j).flatMap (fZ (mapOf T) f)++(fZ (mapOf T) f m[j]++(m.drop (j+1)).flatMap (fZ (mapOf T) f)):=by
       conv=>lhs;rw [←List.take_append_drop j m,List.drop_eq_getElem_cons hjl]
       rw [List.flatMap_append,List.flatMap_cons]
      rw [h2] at h1;simp only [List.length_append] at h1 ⊢;omega
     have Yr:oZ (mapOf T) (fZ (mapOf T) f m[j]):=fun x hx=>HLF.out x (List.mem_flatMap.2 ⟨_,hmem,hx⟩);have hrr:=HIH.out (deep+1) m[j] wr base _ _ (by omega) (RS.out _ hmem) Yr hsum hEr hb0 (by omega) hor;rw [show ((deep+1:Nat):Int)=(deep:Int)+1 from by omega] at hrr;have HR:=ae hrr;have hdl:deep<50000:=by have:=qR.out;omega
     clear hrr;have U2:=ae (show out++(m.take (j+1)).flatMap (fZ (mapOf T) f)=(out++(m.take j).flatMap (fZ (mapOf T) f))++fZ (mapOf T) f m[j] by rw [hTK,List.flatMap_append,List.append_assoc];simp);clear hx hmr hsum Yr hmem hTK he ha';generalize m[j]=cj at *;generalize out++(m.take j).flatMap (fZ (mapOf T) f)=O at *;have ahA:=ae hor;clear hor;go_wp2_with fail;refine HR.out.mono ?_;rintro e w5 ⟨r,rfl,o5,hg5,hN5⟩;rw [List.length_append] at o5;obtain ⟨ra5,rc5,rfl,_,_⟩:=az o5;clear HR hcl e0 e1;go_wp2_with fail;go_roundw
     case rel=>
      refine ⟨j+1,by omega,by simp,?_,Lh hg hN hg5,jo.trans hN hN5 hsz⟩;rw [U2.out,List.length_append];exact o5
     case measure=>simp [intOf];omega
    ·have zj:decide ((j:Int)<(n:Int))=false:=by simp;omega
     obtain rfl:j=n:=by omega
     have hTA:m.take j=m:=List.take_of_length_le (by have:=HN.out;omega);rw [hTA] at hor;generalize hO:out++m.flatMap (fZ (mapOf T) f)=O at hor;have HOE:=ae hO;clear hO;obtain ⟨ua,uc,rfl,_,_⟩:=az hor;have HOR:=ae hor;clear hor hTA;go_wp2;go_ret2;rw [HMD.out,HOE.out];refine ⟨_,rfl,HOR.out,?_,?_⟩
     ·exact ⟨hg.os.trans hb2.os,hg.tape.trans hb2.tape,hg.output.trans hb2.output,Nat.le_trans hb2.size hg.size,fun k hk hne=>(hg.block k (by omega) hne).trans (hb2.block k hk)⟩
     ·rcases hN with hn|⟨k,h1,h2⟩
      ·exact .inl hn
      ·exact .inr ⟨k,h1,by omega⟩
theorem Li {w:World} {v:Value} {T:List aF} {X:List Nat} (h:nK w v T X) (hF:gT T) (c:Nat) (hc:c<1114112) (hok:eO T c) :
 Calls Tryz.prog 132 #[v,.int .i32 c] w fun e w'=>∃r,e=.returned r∧w'.ownsRow w.heap.size aM 1 r (aK T c).length (aN (aK T c))∧Below w.heap.size w w':=by
 obtain ⟨ra,nt,rc,xa,nx,xc,rfl⟩:=h.shape;obtain ⟨w1,hw1⟩:=af (w.alloc (.cells #[.slice ra nt rc,.slice xa nx xc] 127));have k1:Is w1 w.heap.size #[.slice ra nt rc,.slice xa nx xc] 127:=by rw [hw1];exact Is.new _ _ _
 have hb1:Below w.heap.size w w1:=by rw [hw1];exact ai _
 have hz1:w1.heap.size=w.heap.size+1:=by rw [hw1];simp
 have EX:=ae (vG h hF (T.length+3) 0 c w1 w.heap.size [] (.slice none 0 0) (by omega) hc hok.1 (by rw [List.length_nil,Nat.zero_add];exact hok.2) hb1 (Nat.le_refl _) hb1.size (World.ownsRow_nil _ _ _ _));rw [List.nil_append,show fZ (mapOf T) (T.length+3) c=aK T c from rfl] at EX;have e0:=k1.at 0 rfl;have e1:=k1.at 1 rfl;clear h hF hok;go_enter Tryz.func132,Tryz.ntmps132;go_wp2_with fail;rw [←hw1];clear hw1;refine EX.out.mono ?_;rintro e w2 ⟨r,rfl,ho,hg,_⟩;have hB:=eH hg;obtain ⟨a,cp,rfl,_,_⟩:=az ho;have HO:=ae ho;clear ho EX;go_wp2;go_ret;exact ⟨_,rfl,HO.out,hb1.trans (hB.mono hb1.size)⟩
def mI (T:List aF) (X:List Nat) (q:aF):Prop:=q.cls=0∧∃a b,q.map=[a,b]∧aB T a=0∧q.code∉X
theorem nL {w:World} {v:Value} {T:List aF} {X:List Nat} (h:nK w v T X) (hF:gT T) (hX:X.length<10000) (q:aF) (_:q.code<1114112) (hqm:∀x∈q.map,x<1114112) {m:Value} (hm:Sl aM w m (aN q.map)) :
 Calls Tryz.prog 168 #[v,.agg #[.int .i32 q.code,.int .i64 q.cls,m]] w fun e w'=>∃b:Bool,e=.returned (.bool b)∧(b=true↔mI T X q)∧Below w.heap.size w w':=by
 have hT:=ae h;obtain ⟨rv,xv,he,_,hxs⟩:=id h;obtain ⟨ra,nt,rc,xa,nx,xc,rfl⟩:=h.shape;have hxe:xv=.slice xa nx xc:=by
  injection he with he;have:=congrArg (fun s:Array Value=>s[1]?) he;simpa using this.symm
 subst hxe;obtain ⟨n,hn⟩:=af q.map.length;obtain ⟨ma,mc,rfl,_,hx⟩:=bD.lD hm.any hn;obtain ⟨w3,hw3⟩:=af ((w.alloc (.cells #[.slice ra nt rc,.slice xa nx xc] 127)).alloc (.cells #[.int .i32 q.code,.int .i64 q.cls,.slice ma n mc] 164));have k3:Is w3 w.heap.size #[.slice ra nt rc,.slice xa nx xc] 127:=by rw [hw3];exact (Is.new _ _ _).mono (ai _)
 have l3:Is w3 (w.heap.size+1) #[.int .i32 q.code,.int .i64 q.cls,.slice ma n mc] 164:=by rw [hw3];exact Is.new' _ _ _ _ (by simp)
 have hb3:Below w.heap.size w w3:=by rw [hw3];exact ((Below.refl _ w).alloc (Nat.le_refl _) _).alloc (by simp) _
 have HS:=ae (fun (W:World) (E:Below w3.heap.size w3 W)=>NK (w:=W) (ji X) q.code ((hxs.mono hb3).mono E) (by have:=KY X;omega) (Ie X));have hhas:=KW X q.code;generalize places (ji X) q.code=pl at *;have acr:=ae hhas;have HX:=ae hx;have HN:=ae hn;have HQM:=ae hqm;have g0:=Gr.cell (ah w3) (l3.at 0 rfl);have g1:=Gr.cell (ah w3) (l3.at 1 rfl);have g2:=Gr.cell (ah w3) (l3.at 2 rfl);have g3:=Gr.cell (ah w3) (k3.at 0 rfl);have g4:=Gr.cell (ah w3) (k3.at 1 rfl);have HCP:=ae (show mI T X q↔(q.cls=0∧∃a b,q.map=[a,b]∧aB T a=0∧q.code∉X) from Iff.rfl);clear hxs he hm hx hn hqm hhas h;go_enter Tryz.func168,Tryz.ntmps168;go_wp2_with fail;rw [←hw3];clear hw3;by_cases h1:q.cls=0
 ·have z1:((q.cls:Int)==0)=true:=by simp;omega
  by_cases h2:n=2
  ·have z2:((n:Int)==2)=true:=by simp;omega
   obtain ⟨a,b,hab⟩:∃a b,q.map=[a,b]:=by
    have:=HN.out;rcases hq':q.map with _|⟨a,_|⟨b,_|⟨c,l⟩⟩⟩
    ·rw [hq'] at this;simp at this;omega
    ·rw [hq'] at this;simp at this;omega
    ·exact ⟨a,b,rfl⟩
    ·rw [hq'] at this;simp at this;omega
   obtain ⟨mb,off,rfl,_,hc0⟩:=HX.out 0 (by have:=HN.out;omega);have ea:q.map[0]'(by have:=HN.out;omega)=a:=by simp [hab]
   rw [ea,Nat.add_zero] at hc0;have g7:=Gr.cell (ah w3) (aA hb3 hc0);have ha:a<1114112:=HQM.out a (by rw [hab];simp);have CL:=ae (fun (W:World) (E:Below w3.heap.size w3 W)=>Iu ((hT.out.mono hb3).mono E) hF a ha);have HAB:=ae hab;clear hab ea HX;subst h2;by_cases h3:aB T a=0
   ·rw [h3] at CL;have H3:=ae h3;clear h3;refine aD (Array.replicate 27 true) 27 0 mixed (by rfl) ?_;refine ay [0,1,2,3,4,5,6,7,8,9,10,11,12,13,14] 12 rfl (by kernel_rfl) ?_;refine aZ ?_
    iterate 15 (refine aO rfl ?_)
    refine a_ ?_
    iterate 15 (go_big_quiet_step (rfl))
    refine ak ?_;refine aL 15 (by kernel_rfl) rfl ?_;go_wp2_with fail;refine (CL.out _ (ah _)).mono ?_;rintro e w4 ⟨rfl,hB4⟩;go_wp2_with fail;refine aH hB4 ?_;have kW:=ag (ah w3) hB4;have k4:=k3.mono kW;have l4:=l3.mono kW;have g5:=Gr.cell (Below.refl _ _) (k4.at 1 rfl);have g6:=Gr.cell (Below.refl _ _) (l4.at 0 rfl);refine ay [16,17,18,19,20,21,22] 4 rfl (by kernel_rfl) ?_;refine aZ ?_
    iterate 7 (refine aO rfl ?_)
    refine a_ ?_
    iterate 7 (go_big_quiet_step (rfl))
    refine ak ?_;refine aL 23 (by kernel_rfl) rfl ?_;go_wp2_with fail;refine (HS.out _ kW).mono ?_;rintro e w5 ⟨rfl,qQ⟩;go_wp2_with fail;refine aH qQ ?_;refine ay [24,25,26] 0 rfl (by kernel_rfl) ?_;refine aZ ?_
    iterate 3 (refine aO rfl ?_)
    refine a_ ?_
    iterate 3 (go_big_quiet_step (rfl))
    refine ak ?_;refine aI [] (by kernel_rfl) ?_;refine tail_nil ?_;go_wp2;go_ret;refine ⟨_,rfl,?_,hb3.trans ((ag kW qQ).mono hb3.size)⟩;rw [HCP.out];have h5:=acr.out;constructor
    ·intro hd;refine ⟨h1,a,b,HAB.out,H3.out,fun hc=>?_⟩;have:=h5.2 hc;simp [this] at hd
    ·rintro ⟨_,_,_,_,_,hc⟩;have:¬pl % 2=1:=fun e=>hc (h5.1 e);simp [this]
   ·have z3:((aB T a:Int)==0)=false:=by simp;omega
    have H3:=ae h3;generalize aB T a=ka at CL z3;clear h3;refine aD (Array.replicate 27 true) 27 0 mixed (by rfl) ?_;refine ay [0,1,2,3,4,5,6,7,8,9,10,11,12,13,14] 12 rfl (by kernel_rfl) ?_;refine aZ ?_
    iterate 15 (refine aO rfl ?_)
    refine a_ ?_
    iterate 15 (go_big_quiet_step (rfl))
    refine ak ?_;refine aL 15 (by kernel_rfl) rfl ?_;go_wp2_with fail;refine (CL.out _ (ah _)).mono ?_;rintro e w4 ⟨rfl,hB4⟩;go_wp2_with fail;refine aH hB4 ?_;have kW:=ag (ah w3) hB4;have k4:=k3.mono kW;have l4:=l3.mono kW;have g5:=Gr.cell (Below.refl _ _) (k4.at 1 rfl);have g6:=Gr.cell (Below.refl _ _) (l4.at 0 rfl);refine ay [16,17,18,19,20,21,22] 4 rfl (by kernel_rfl) ?_;refine aZ ?_
    iterate 7 (refine aO rfl ?_)
    refine a_ ?_
    iterate 7 (go_big_quiet_step (rfl))
    refine ak ?_;refine aL 23 (by kernel_rfl) rfl ?_;go_wp2_with fail;refine aH (Below.refl _ _) ?_;refine ay [24,25,26] 0 rfl (by kernel_rfl) ?_;refine aZ ?_
    iterate 3 (refine aO rfl ?_)
    refine a_ ?_
    iterate 3 (go_big_quiet_step (rfl))
    refine ak ?_;refine aI [] (by kernel_rfl) ?_;refine tail_nil ?_;go_wp2;go_ret;refine ⟨_,rfl,?_,hb3.trans (kW.mono hb3.size)⟩;rw [HCP.out];constructor
    ·intro hd;cases hd
    ·rintro ⟨_,a',b',h6,h7,_⟩;rw [HAB.out] at h6;cases h6;exact absurd h7 H3.out
  ·have z2:((n:Int)==2)=false:=by simp;omega
   refine aD (Array.replicate 27 true) 27 0 mixed (by rfl) ?_;refine ay [0,1,2,3,4,5,6,7,8,9,10,11,12,13,14] 12 rfl (by kernel_rfl) ?_;refine aZ ?_
   iterate 15 (refine aO rfl ?_)
   refine a_ ?_
   iterate 15 (go_big_quiet_step (rfl))
   refine ak ?_;refine aL 15 (by kernel_rfl) rfl ?_;go_wp2_with fail;refine aH (Below.refl _ _) ?_;refine ay [16,17,18,19,20,21,22] 4 rfl (by kernel_rfl) ?_;refine aZ ?_
   iterate 7 (refine aO rfl ?_)
   refine a_ ?_
   iterate 7 (go_big_quiet_step (rfl))
   refine ak ?_;refine aL 23 (by kernel_rfl) rfl ?_;go_wp2_with fail;refine aH (Below.refl _ _) ?_;refine ay [24,25,26] 0 rfl (by kernel_rfl) ?_;refine aZ ?_
   iterate 3 (refine aO rfl ?_)
   refine a_ ?_
   iterate 3 (go_big_quiet_step (rfl))
   refine ak ?_;refine aI [] (by kernel_rfl) ?_;refine tail_nil ?_;go_wp2;go_ret;refine ⟨_,rfl,?_,hb3.trans ((ah w3).mono hb3.size)⟩;rw [HCP.out];constructor
   ·intro hd;cases hd
   ·rintro ⟨_,a',b',h6,_⟩;have:=HN.out;rw [h6] at this;exact absurd this h2
 ·have z1:((q.cls:Int)==0)=false:=by simp;omega
  refine aD (Array.replicate 27 true) 27 0 mixed (by rfl) ?_;refine ay [0,1,2,3,4,5,6,7,8,9,10,11,12,13,14] 12 rfl (by kernel_rfl) ?_;refine aZ ?_
  iterate 15 (refine aO rfl ?_)
  refine a_ ?_
  iterate 15 (go_big_quiet_step (rfl))
  refine ak ?_;refine aL 15 (by kernel_rfl) rfl ?_;go_wp2_with fail;refine aH (Below.refl _ _) ?_;refine ay [16,17,18,19,20,21,22] 4 rfl (by kernel_rfl) ?_;refine aZ ?_
  iterate 7 (refine aO rfl ?_)
  refine a_ ?_
  iterate 7 (go_big_quiet_step (rfl))
  refine ak ?_;refine aL 23 (by kernel_rfl) rfl ?_;go_wp2_with fail;refine aH (Below.refl _ _) ?_;refine ay [24,25,26] 0 rfl (by kernel_rfl) ?_;refine aZ ?_
  iterate 3 (refine aO rfl ?_)
  refine a_ ?_
  iterate 3 (go_big_quiet_step (rfl))
  refine ak ?_;refine aI [] (by kernel_rfl) ?_;refine tail_nil ?_;go_wp2;go_ret;refine ⟨_,rfl,?_,hb3.trans ((ah w3).mono hb3.size)⟩;rw [HCP.out];constructor
  ·intro hd;cases hd
  ·rintro ⟨h6,_⟩;exact absurd h6 h1
theorem x9 {T:List aF} {c:Nat} {q:aF} (h:rowOf T c=some q):q∈T∧q.code=c:=by
 refine ⟨List.mem_of_find?_eq_some h,?_⟩;have:=List.find?_some h;simpa using this
theorem Fj {T:List aF} {X:List Nat} {c:Nat} {q:aF} (h4:hk c<4) (h:rowOf T c=some q):Prim T X c↔mI T X q:=by
 have hc:=(x9 h).2;have hm:mapOf T c=q.map:=by unfold mapOf bF;rw [if_pos h4,h]
 have hk':aB T c=q.cls:=by unfold aB;rw [h]
 unfold Prim mI;rw [hm,hk',hc];constructor
 ·rintro (h5|⟨a,b,h1,h2,h3,h5⟩)
  ·omega
  ·exact ⟨h2,a,b,h1,h3,h5⟩
 ·rintro ⟨h2,a,b,h1,h3,h5⟩;exact .inr ⟨a,b,h1,h2,h3,h5⟩
theorem Lj {T:List aF} {X:List Nat} {c:Nat} (h4:hk c<4) (h:rowOf T c=none):¬Prim T X c:=by
 have hm:mapOf T c=[]:=by unfold mapOf bF;rw [if_pos h4,h]
 unfold Prim;rw [hm];rintro (h5|⟨a,b,h1,_⟩)
 ·omega
 ·cases h1
theorem CB {w:World} {v:Value} {T:List aF} {X:List Nat} (h:nK w v T X) (hF:gT T) (hX:X.length<10000) (c:Nat) (hc:c<1114112) :
 Calls Tryz.prog 133 #[v,.int .i32 c] w fun e w'=>∃b:Bool,e=.returned (.bool b)∧(b=true↔Prim T X c)∧Below w.heap.size w w':=by
 obtain ⟨ra,nt,rc,xa,nx,xc,rfl⟩:=h.shape;obtain ⟨w1,hw1⟩:=af (w.alloc (.cells #[.slice ra nt rc,.slice xa nx xc] 127));have k1:Is w1 w.heap.size #[.slice ra nt rc,.slice xa nx xc] 127:=by rw [hw1];exact Is.new _ _ _
 have hb1:Below w.heap.size w w1:=by rw [hw1];exact ai _
 have hz1:w1.heap.size=w.heap.size+1:=by rw [hw1];simp
 by_cases h4:4≤hk c
 ·obtain ⟨a,b,hab⟩:=Bd h4;have HP:=ae (jE (w:=w1) hc hab);clear hab h hF k1;go_enter Tryz.func133,Tryz.ntmps133;go_wp2_with fail;rw [←hw1];clear hw1;refine HP.out.mono ?_;rintro e w2 ⟨rfl,rfl⟩;go_wp2;go_ret;exact ⟨true,rfl,⟨fun _=>.inl h4,fun _=>rfl⟩,hb1⟩
 ·have FD:=ae (uo (h.mono hb1) hF c hc);have HP:=ae (oq (w:=w1) hc (by omega));have hT1:=ae (h.mono hb1);have e0:=k1.at 0 rfl;have e1:=k1.at 1 rfl;clear h;go_enter Tryz.func133,Tryz.ntmps133;go_wp2_with fail;rw [←hw1];clear hw1;refine HP.out.mono ?_;rintro e w2 ⟨⟨a,b,rfl⟩,rfl⟩;go_wp2_with fail;refine FD.out.mono ?_;rintro e w3 ⟨m,rfl,hm,hpm,hB3⟩;obtain ⟨w4,hw4⟩:=af (w3.alloc (.cells #[.int .i32 (jR T c).code,.int .i64 (jR T c).cls,m] 164));have hb4:Below w3.heap.size w3 w4:=by rw [hw4];exact ai _
  have k4:Is w4 w3.heap.size #[.int .i32 (jR T c).code,.int .i64 (jR T c).cls,m] 164:=by rw [hw4];exact Is.new _ _ _
  have l4:=(k1.mono hB3).mono hb4;obtain ⟨am,nm,cm,rfl,_⟩:=hpm;have kW:=ag hB3 hb4;cases hr:rowOf T c with
  | none=>
    have hq:jR T c=⟨0,0,[]⟩:=by unfold jR;rw [hr];rfl
    have QC:=ae (Lj (X:=X) (by omega) hr);rw [hq];clear hq hr FD e0 e1 hm k4 l4 kW hb4 hw4;go_wp2;go_ret;exact ⟨false,rfl,⟨fun h=>(by cases h),fun h=>absurd h QC.out⟩,hb1.trans ((ag hB3 (ai _)).mono hb1.size)⟩
  | some q=>
    have hq:jR T c=q:=by unfold jR;rw [hr];rfl
    have HYP:=ae (Fj (X:=X) (by omega) hr);have hqm:=(x9 hr).1;rw [hq] at hw4 k4 hm;rw [hq];have CO:=ae (nL (hT1.out.mono kW) hF hX q (hF.code q hqm) (fun x hx=>hF.Vf q hqm x hx) (hm.mono hb4));have f0:=k4.at 0 rfl;have f1:=k4.at 1 rfl;have f2:=k4.at 2 rfl;have f3:=l4.at 0 rfl;have f4:=l4.at 1 rfl;rw [hw4] at f0 f1 f2 f3 f4;clear hq hr FD e0 e1 hm k4 l4 hqm;go_wp2_with fail;rw [←hw4];refine CO.out.mono ?_;rintro e w5 ⟨bb,rfl,hbb,qQ⟩;clear f0 f1 f2 f3 f4 hw4;go_wp2;go_ret;exact ⟨bb,rfl,hbb.trans HYP.out.symm,hb1.trans ((ag kW qQ).mono hb1.size)⟩
theorem Oj {w:World} (q:aF) (hq:Go.Cd.rowFine q) (last:Int) (hlt:last<q.code) {m:Value} (hm:Sl aM w m (aN q.map)) :
 Calls Tryz.prog 165 #[.agg #[.int .i32 q.code,.int .i64 q.cls,m],.int .i32 last] w fun e w'=>e=.returned (.string ⟨#[]⟩)∧Below w.heap.size w w':=by
 obtain ⟨h1,h2,h3,h4,h5⟩:=hq;obtain ⟨n,hn⟩:=af q.map.length;obtain ⟨ma,mc,rfl,_,hx⟩:=bD.lD hm.any hn;obtain ⟨w1,hw1⟩:=af (w.alloc (.cells #[.int .i32 q.code,.int .i64 q.cls,.slice ma n mc] 164));have k1:Is w1 w.heap.size #[.int .i32 q.code,.int .i64 q.cls,.slice ma n mc] 164:=by rw [hw1];exact Is.new _ _ _
 have hb1:Below w.heap.size w w1:=by rw [hw1];exact ai _
 have HO:=ae (qY (w:=w1) q.code h1.1);rw [h4] at HO;have UI:=ae (fun W=>jF (w:=W) q.code (by have:=h1.1;omega));rw [decide_eq_true h1] at UI;have HX:=ae hx;have HN:=ae hn;have H5:=ae h5;rw [←hn] at h3;have e0:=k1.at 0 rfl;have e1:=k1.at 1 rfl;have e2:=k1.at 2 rfl;clear h4 h5 hm hx hn;generalize q.code=c at *;generalize q.cls=l at *;clear h1;go_enter Tryz.func165,Tryz.ntmps165;go_wp2_with fail;rw [←hw1];clear hw1;refine HO.out.mono ?_;rintro e w2 ⟨rfl,rfl⟩;go_wp2_with fail;go_loopw [5,6,16] (fun s5 s6 iv wr=>∃j:Nat,j≤n∧iv=.int .i64 j∧s5=.bool false∧s6=.bool false∧wr=w2) (fun _ _ iv _=>n-(intOf iv).toNat)
 case atStart=>exact ⟨0,Nat.zero_le _,rfl,rfl,rfl,rfl⟩
 case round=>
  obtain ⟨j,hj,rfl,rfl,rfl,rfl⟩:=hrel;by_cases hjn:j<n
  ·have zj:decide ((j:Int)<(n:Int))=true:=by simp;omega
   have hjl:j<q.map.length:=by have:=HN.out;omega
   obtain ⟨b,off,rfl,_,hcl⟩:=HX.out j hjl;have hcl:=aA hb1 hcl;obtain ⟨h6,h7⟩:=H5.out _ (List.getElem_mem hjl);generalize q.map[j]=x at *;have QA:=ae (qY (w:=wr) x h7.1);rw [h6] at QA;have UI2:=ae (jF (w:=wr) x (by have:=h7.1;omega));rw [decide_eq_true h7] at UI2;clear h6 h7;go_wp2_with fail;refine QA.out.mono ?_;rintro e w3 ⟨rfl,rfl⟩;go_wp2_with fail;refine UI2.out.mono ?_;rintro e w4 ⟨rfl,rfl⟩;go_wp2_with fail;go_roundw
   case rel=>exact ⟨j+1,by omega,by simp,by simp⟩
   case measure=>simp [intOf];omega
  ·have zj:decide ((j:Int)<(n:Int))=false:=by simp;omega
   have z1:decide ((c:Int)≤last)=false:=by simp;omega
   have z2:decide ((l:Int)<0)=false:=decide_eq_false (by omega);have z3:decide ((254:Int)<(l:Int))=false:=by simp;omega
   have z4:decide ((2:Int)<(n:Int))=false:=by simp;omega
   go_wp2_with (go_at_call 81;refine (UI.out _).mono ?_;rintro e w3 ⟨rfl,rfl⟩);go_ret;exact ⟨rfl,hb1⟩
end Go.Proofs.YtjidohgiigjifaaGreatDoor
namespace Go.Cd
section
open Go.RowKit
variable {P : Program} {k : TypeId}
def gq (P:Program) (k:TypeId) (x:Value):Prop:=∃l,keyOf P k x=some l
def cK (P:Program) (k:TypeId) (w:World) (r:Nat) (G:Value→Value→Prop):Prop:=
 ∃(es:Array MapEntry) (ck:Nat),w.heap[r]? = some (.map es ck)∧(∀e∈es.toList,gq P k e.key)∧(∀(i j:Nat) (e e':MapEntry),es[i]? = some e→es[j]? = some e'→e.key=e'.key→i=j)∧∀x v,G x v↔∃e∈es.toList,e.key=x∧e.val=v
theorem cK.block {w w':World} {r:Nat} {G:Value→Value→Prop} (h:cK P k w r G) (hb:w'.heap[r]? = w.heap[r]?):cK P k w' r G:=by
 obtain ⟨es,ck,h1,h2⟩:=h;exact ⟨es,ck,hb.trans h1,h2⟩
theorem cK.lt {w:World} {r:Nat} {G:Value→Value→Prop} (h:cK P k w r G):r<w.heap.size:=by
 obtain ⟨es,ck,h1,_⟩:=h;exact (Array.getElem?_eq_some_iff.1 h1).1
theorem cK.mono {w w':World} {r:Nat} {G:Value→Value→Prop} (h:cK P k w r G) (hb:Below w.heap.size w w'):cK P k w' r G:=h.block (hb.block r h.lt)
theorem cK.new (w:World) (ck:Nat):cK P k (w.alloc (.map #[] ck)) w.heap.size (fun _ _=>False):=
 ⟨#[],ck,heap_alloc_new _ _,by simp,by simp,by simp⟩
theorem cK.one {w:World} {r:Nat} {G:Value→Value→Prop} (h:cK P k w r G) {x u v:Value} (h1:G x u) (h2:G x v):u=v:=by
 obtain ⟨es,ck,_,_,h3,h4⟩:=h;obtain ⟨e,he,e1,e2⟩:=(h4 x u).1 h1;obtain ⟨e',he',Xk,e2'⟩:=(h4 x v).1 h2;obtain ⟨i,hi,ei⟩:=List.mem_iff_getElem.1 he;obtain ⟨j,hj,ej⟩:=List.mem_iff_getElem.1 he';have a1:es[i]? = some e:=by rw [←Array.getElem?_toList,List.getElem?_eq_getElem hi,ei]
 have a2:es[j]? = some e':=by rw [←Array.getElem?_toList,List.getElem?_eq_getElem hj,ej]
 have:=h3 i j e e' a1 a2 (e1.trans Xk.symm);subst this;rw [a1] at a2;cases a2;exact e2.symm.trans e2'
theorem cK.find (K:Maps.Keyed P k) {W:World} {G:Value→Value→Prop} {es:Array MapEntry} (h2:∀e∈es.toList,gq P k e.key) (h4:∀x v,G x v↔∃e∈es.toList,e.key=x∧e.val=v) {x:Value} (hx:gq P k x) :
 ((Instr.findKey k x es.toList).run P W=.ok none W∧∀v,¬G x v)∨∃j e,(Instr.findKey k x es.toList).run P W=.ok (some (j,e.val)) W∧es[j]? = some e∧e.key=x∧G x e.val:=by
 obtain ⟨l,hl⟩:=hx;rcases K.find W hl es.toList h2 with ⟨h5,h6⟩|⟨j,e,h5,h6,h7⟩
 ·refine .inl ⟨h5,fun v hg=>?_⟩;obtain ⟨e,he,e1,_⟩:=(h4 x v).1 hg;exact h6 e he e1
 ·refine .inr ⟨j,e,h5,by rw [←Array.getElem?_toList];exact h6,h7,(h4 x e.val).2 ⟨e,List.mem_of_getElem? h6,h7,rfl⟩⟩
theorem nN (K:Maps.Keyed P k) {t elem:TypeId} (ht:P.underlying t=some (.map k elem)) {w:World} {r:Nat} {G:Value→Value→Prop} (h:cK P k w r G) {x:Value} (hx:gq P k x) {z:Value} (hz:(zeroValue elem).run P w=.ok z w) (c:Bool) :
 ((Instr.lookup t (.map (some r)) x c).run P w=.ok (if c then .tuple #[z,.bool false] else z) w∧∀v,¬G x v)∨∃v,(Instr.lookup t (.map (some r)) x c).run P w=.ok (if c then .tuple #[v,.bool true] else v) w∧G x v:=by
 obtain ⟨es,ck,h1,h2,h3,h4⟩:=h;obtain ⟨l,hl⟩:=id hx;rcases cK.find K (W:=w) h2 h4 hx with ⟨h5,h6⟩|⟨j,e,h5,h6,h7,h8⟩
 ·exact .inl ⟨by simp [Instr.lookup,run_underlying ht,MapKept.run_getObj_map h1,K.check w _ hl,h5,hz,Result.andThen],h6⟩
 ·exact .inr ⟨e.val,by simp [Instr.lookup,run_underlying ht,MapKept.run_getObj_map h1,K.check w _ hl,h5,Result.andThen],h8⟩
def vZ (G:Value→Value→Prop) (x v:Value):Value→Value→Prop:=fun y u=>(y=x∧u=v)∨(y≠x∧G y u)
theorem Fp (K:Maps.Keyed P k) {t elem:TypeId} (ht:P.underlying t=some (.map k elem)) {w:World} {r:Nat} {G:Value→Value→Prop} (h:cK P k w r G) {x:Value} (hx:gq P k x) (v:Value) :
 ∃w',(Instr.mapUpdate t (.map (some r)) x v).run P w=.ok () w'∧cK P k w' r (vZ G x v)∧w.grownBy w' (some r):=by
 obtain ⟨es,ck,h1,h2,h3,h4⟩:=h;have hlt:r<w.heap.size:=(Array.getElem?_eq_some_iff.1 h1).1;obtain ⟨l,hl⟩:=id hx;have hset:∀o:Obj,({ w with heap:=w.heap.setIfInBounds r o }:World).heap[r]? = some o:=fun o=>by simp [hlt]
 have hgr:∀o:Obj,w.grownBy { w with heap:=w.heap.setIfInBounds r o } (some r):=fun o=>⟨rfl,rfl,rfl,by simp,fun j _ hj=>by
  have:r≠j:=fun e=>hj (by rw [e])
  simp [this]⟩
 rcases cK.find K (W:=w) h2 h4 hx with ⟨h5,h6⟩|⟨j,e,h5,h6,h7,h8⟩
 ·refine ⟨_,by simp [Instr.mapUpdate,run_underlying ht,MapKept.run_getObj_map h1,K.check w _ hl,h5,MapKept.run_setObj_map _ h1,Result.andThen];rfl,⟨_,_,hset _,?_,?_,?_⟩,hgr _⟩
  ·intro e he;rw [Array.toList_push] at he;rcases List.mem_append.1 he with he|he
   ·exact h2 e he
   ·rw [List.mem_singleton.1 he];exact hx
  ·intro i j e e' hi hj he;have hno:∀e∈es.toList,e.key≠x:=fun e he hk=>h6 e.val ((h4 x e.val).2 ⟨e,he,hk,rfl⟩);rw [Array.getElem?_push] at hi hj
   split at hi <;> split at hj
   ·omega
   ·cases hi;exact absurd he.symm (hno e' (by rw [←Array.getElem?_toList] at hj;exact List.mem_of_getElem? hj))
   ·cases hj;exact absurd he (hno e (by rw [←Array.getElem?_toList] at hi;exact List.mem_of_getElem? hi))
   ·exact h3 i j e e' hi hj he
  ·intro y u;unfold vZ;rw [Array.toList_push];constructor
   ·rintro (⟨rfl,rfl⟩|⟨hy,hg⟩)
    ·exact ⟨{ key:=y,val:=u,born:=ck },by simp,rfl,rfl⟩
    ·obtain ⟨e,he,e1,e2⟩:=(h4 y u).1 hg;exact ⟨e,by simp [he],e1,e2⟩
   ·rintro ⟨e,he,e1,e2⟩;rcases List.mem_append.1 he with he|he
    ·have hg:=(h4 y u).2 ⟨e,he,e1,e2⟩;refine .inr ⟨fun e3=>?_,hg⟩;subst e3;exact h6 u hg
    ·rw [List.mem_singleton.1 he] at e1 e2;exact .inl ⟨e1.symm,e2.symm⟩
 ·have hj:j<es.size:=(Array.getElem?_eq_some_iff.1 h6).1;have hst:=K.stays w hl;refine ⟨_,by simp [Instr.mapUpdate,run_underlying ht,MapKept.run_getObj_map h1,K.check w _ hl,h5,h6,h7,hst,MapKept.run_setObj_map _ h1,Result.andThen];rfl,⟨_,_,hset _,?_,?_,?_⟩,hgr _⟩
  ·intro e' he;obtain ⟨i,hi,rfl⟩:=List.mem_iff_getElem.1 he;rw [Array.length_toList,Array.size_modify] at hi;rw [Array.getElem_toList,Array.getElem_modify]
   split
   ·exact hx
   ·exact h2 _ (by simp)
  ·intro i i' e1 e2 hi hi' he;rw [Array.getElem?_modify] at hi hi';have key:∀(m:Nat) (y:MapEntry),(if j=m then (es[m]?).map fun e=>{ e with key:=x,val:=v } else es[m]?)=some y→∃y0,es[m]? = some y0∧y0.key=y.key:=by
    intro m y hy
    split at hy
    ·rename_i hm;subst hm;rw [h6] at hy;cases hy;exact ⟨e,h6,h7⟩
    ·exact ⟨y,hy,rfl⟩
   obtain ⟨y1,a1,b1⟩:=key i e1 hi;obtain ⟨y2,a2,b2⟩:=key i' e2 hi';exact h3 i i' y1 y2 a1 a2 (b1.trans (he.trans b2.symm))
  ·intro y u;unfold vZ;constructor
   ·rintro (⟨rfl,rfl⟩|⟨hy,hg⟩)
    ·refine ⟨{ e with key:=y,val:=u },?_,rfl,rfl⟩;refine List.mem_iff_getElem.2 ⟨j,by simp [hj],?_⟩;rw [Array.getElem_toList,Array.getElem_modify,if_pos rfl];congr 1;exact (Array.getElem?_eq_some_iff.1 h6).2▸rfl
    ·obtain ⟨e',he,e1,e2⟩:=(h4 y u).1 hg;obtain ⟨i,hi,rfl⟩:=List.mem_iff_getElem.1 he;have hij:j≠i:=fun h=>by
      subst h;have:=(Array.getElem?_eq_some_iff.1 h6).2;rw [Array.getElem_toList,this,h7] at e1;exact hy e1.symm
     refine ⟨_,List.mem_iff_getElem.2 ⟨i,by simpa using hi,rfl⟩,?_,?_⟩
     ·rw [Array.getElem_toList,Array.getElem_modify,if_neg hij];simpa using e1
     ·rw [Array.getElem_toList,Array.getElem_modify,if_neg hij];simpa using e2
   ·rintro ⟨e',he,e1,e2⟩;obtain ⟨i,hi,rfl⟩:=List.mem_iff_getElem.1 he;rw [Array.length_toList,Array.size_modify] at hi;rw [Array.getElem_toList,Array.getElem_modify] at e1 e2;by_cases hij:j=i
    ·rw [if_pos hij] at e1 e2;exact .inl ⟨e1.symm,e2.symm⟩
    ·rw [if_neg hij] at e1 e2;refine .inr ⟨fun h=>hij ?_,(h4 y u).2 ⟨es[i],by simp,e1,e2⟩⟩;exact h3 j i e es[i] h6 (Array.getElem?_eq_getElem hi) (h7.trans (h.symm.trans e1.symm))
theorem gB {w:World} {ops:Array Oper} {rest:List Oper} {o:Oper} {a:Act} {Q:Exit→Act→World→Prop} (hg:o.guard=none) (m x:Operand) (t elem:TypeId) (c:Bool) (ho:o.op=Op.lookup t m x c)
 (K:Maps.Keyed P k) (ht:P.underlying t=some (.map k elem)) {r:Nat} {G:Value→Value→Prop} (h:cK P k w r G) (hm:a.eval m=.map (some r)) {xv:Value} (hx:a.eval x=xv) (hk:gq P k xv) {z:Value} (hz:(zeroValue elem).run P w=.ok z w)
 (h1:(∀v,¬G xv v)→wpList P ops Q rest (a.put o.dst (if c then .tuple #[z,.bool false] else z)) w) (h2:∀v,G xv v→wpList P ops Q rest (a.put o.dst (if c then .tuple #[v,.bool true] else v)) w):wpList P ops Q (o::rest) a w:=by
 refine wpList_plain hg fun K' hK'=>?_;rcases nN K ht h hk hz c with ⟨hr,hn⟩|⟨v,hr,hv⟩
 ·unfold Oper.wp;simp [execOp,ho,hm,hx,hr,Result.andThen];exact hK' _ _ (h1 hn)
 ·unfold Oper.wp;simp [execOp,ho,hm,hx,hr,Result.andThen];exact hK' _ _ (h2 v hv)
theorem iT {w:World} {ops:Array Oper} {rest:List Oper} {o:Oper} {a:Act} {Q:Exit→Act→World→Prop} (hg:o.guard=none) (m x v:Operand) (t elem:TypeId) (ho:o.op=Op.mapUpdate t m x v)
 (K:Maps.Keyed P k) (ht:P.underlying t=some (.map k elem)) {r:Nat} {G:Value→Value→Prop} (h:cK P k w r G) (hm:a.eval m=.map (some r)) {xv vv:Value} (hx:a.eval x=xv) (hv:a.eval v=vv) (hk:gq P k xv)
 (h1:∀w',cK P k w' r (vZ G xv vv)→w.grownBy w' (some r)→wpList P ops Q rest (a.put o.dst undef) w'):wpList P ops Q (o::rest) a w:=by
 refine wpList_plain hg fun K' hK'=>?_;obtain ⟨w',hr,r1,r2⟩:=Fp K ht h hk vv;unfold Oper.wp;simp [execOp,ho,hm,hx,hv,hr,Result.andThen];exact hK' _ _ (h1 w' r1 r2)
theorem mapM_some {α β:Type} {f:α→Option β}:∀(l:List α),(∀x∈l,∃y,f x=some y)→∃ys,l.mapM f=some ys
 | [],_=>⟨[],rfl⟩
 | a::l,h=>by
   obtain ⟨y,hy⟩:=h a (by simp);obtain ⟨ys,hys⟩:=mapM_some l fun x hx=>h x (by simp [hx]);exact ⟨y::ys,by simp [List.mapM_cons,hy,hys]⟩
theorem J7 {k e:TypeId} {n:Nat} {q:IntKind} (hk:P.underlying k=some (.array n e)) (he:P.underlying e=some (.int q)) (h1:P.cellsOf e=1) (hn:P.cellsOf k=n) (hkt:P.keyType k=true) {m:Nat} (hm:P.types.size=m+1) (cs:Array Value) (hcs:cs.size=n)
 (hall:∀i,i<n→∃x,cs[i]? = some (.int q x)∧(Lit.int q x).wf=true):gq P k (.agg cs):=by
 have hl:cs.toList.length=n:=by simpa using hcs
 have hmm:∃ys,(List.range n).mapM (fun i=>P.keyLits (m+1) e ((cs.toList.drop (i*1)).take 1))=some ys:=by
  refine mapM_some _ fun i hi=>?_;obtain ⟨x,hx,hw⟩:=hall i (List.mem_range.1 hi);refine ⟨[.int q x],?_⟩;have hi':i<cs.toList.length:=by rw [hl];exact List.mem_range.1 hi
  have e1:(cs.toList.drop (i*1)).take 1=[.int q x]:=by
   rw [Nat.mul_one,List.drop_eq_getElem_cons hi'];have:=(Array.getElem?_eq_some_iff.1 hx).2;simp [this]
  rw [e1];unfold Program.keyLits;simp [he,hw]
 obtain ⟨ys,hys⟩:=hmm;refine ⟨.string (keyBytes ys.flatten),?_⟩;unfold keyOf;have hf:Value.formed P k (.agg cs)=true:=by simp [Value.formed,hk,hcs,hn]
 have hkl:P.keyLits (P.types.size+1) k cs.toList=some ys.flatten:=by
  rw [hm]
  conv=>lhs;unfold Program.keyLits
  simp only [hk];rw [if_pos (by rw [hl,hn]),h1,hys];rfl
 simp only [hk];rw [hkt,hf];simp only [Bool.and_self,if_true];show (P.keyLits (P.types.size+1) k cs.toList).map _=_;rw [hkl];rfl
end
end Go.Cd
namespace Go.Proofs.YtjidohgiigjifaaGreatDoor
open Go.RowKit Go.Cd
theorem Ol:laidOutB Tryz.prog=true:=by kernel_rfl
theorem Be:Maps.Keyed Tryz.prog 275:=Maps.Keyed.of_law (deep_law_laid Ol (m:=4) (by decide) (of_decide_eq_true (by kernel_rfl)) (by kernel_rfl) (by kernel_rfl))
theorem qA:Maps.Keyed Tryz.prog 182:=Maps.Keyed.of_law (deep_law_laid Ol (m:=4) (by decide) (of_decide_eq_true (by kernel_rfl)) (by kernel_rfl) (by kernel_rfl))
theorem Iz:Maps.Keyed Tryz.prog 226:=Maps.Keyed.of_law (deep_law_laid Ol (m:=4) (by decide) (of_decide_eq_true (by kernel_rfl)) (by kernel_rfl) (by kernel_rfl))
theorem Ll:Maps.Keyed Tryz.prog 21:=Maps.int_keyed Tryz.underlying21
theorem Lm {a b:Nat} (ha:a<1114112) (hb:b<1114112):gq Tryz.prog 275 (.agg #[.int .i32 a,.int .i32 b]):=by
 refine J7 (P:=Tryz.prog) (k:=275) (e:=21) (n:=2) (q:=.i32) Tryz.underlying275 Tryz.underlying21 (by kernel_rfl) (by kernel_rfl) (by kernel_rfl) (m:=Tryz.prog.types.size-1) (by kernel_rfl) #[.int .i32 a,.int .i32 b] rfl ?_;intro i hi;have hw:∀x:Nat,x<1114112→(Lit.int .i32 (x:Int)).wf=true:=fun x hx=>by
  have e1:IntKind.i32.min=-2147483648:=by decide
  have e2:IntKind.i32.max=2147483647:=by decide
  simp only [Lit.wf,e1,e2,Bool.and_eq_true,decide_eq_true_eq];omega
 rcases i with _|_|i
 ·exact ⟨a,rfl,hw a ha⟩
 ·exact ⟨b,rfl,hw b hb⟩
 ·omega
end Go.Proofs.YtjidohgiigjifaaGreatDoor
