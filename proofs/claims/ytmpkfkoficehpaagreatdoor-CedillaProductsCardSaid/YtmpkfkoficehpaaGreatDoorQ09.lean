/- CedillaProducts: where a text may be cut apart, it has as many texts that are alike as its two parts multiplied; no condition. -/
import Derived.Test.YtmpkfkoficehpaaGreatDoorQ08
import Derived.Maps.Keyed
import Derived.DeepKeys5
set_option maxRecDepth 100000
set_option maxHeartbeats 6400000
namespace Go.Proofs.YtmpkfkoficehpaaGreatDoor
open Go.RowKit Go.Cd
def wU (w:World) (v:Value) (T:List aH):Prop:=
 ∃a cap,v=.slice a T.length cap∧T.length≤cap∧∀i (hi:i<T.length),∃b off m,a=some ⟨b,off,none⟩∧b<w.heap.size∧
  w.cell? ⟨b,off+i*3,none⟩=some (.int .i32 T[i].code)∧w.cell? ⟨b,off+i*3+1,none⟩=some (.int .i64 T[i].cls)∧w.cell? ⟨b,off+i*3+2,none⟩=some m∧Sl aM w m (aN T[i].map)∧fC m
theorem wU.mono {w w':World} {v:Value} {T:List aH} (h:wU w v T) (hb:Below w.heap.size w w'):wU w' v T:=by
 obtain ⟨a,cap,hv,hc,h⟩:=h;refine ⟨a,cap,hv,hc,fun i hi=>?_⟩;obtain ⟨b,off,m,ha,hbs,h1,h2,h3,h4,h5⟩:=h i hi;exact ⟨b,off,m,ha,Nat.lt_of_lt_of_le hbs hb.size,aA hb h1,aA hb h2,aA hb h3,h4.mono hb,h5⟩
theorem wU.aW {w:World} {base:Nat} {v:Value} {L:List (aH×Value)} (h:w.ownsRow base mV 3 v L.length (L.flatMap mh)) (hm:∀x∈L,Sl aM w x.2 (aN x.1.map)∧fC x.2):wU w v (L.map (·.1)):=by
 obtain ⟨a,cap,rfl,hc,_⟩:=ak h;refine ⟨a,cap,by rw [List.length_map],by rw [List.length_map];exact hc,fun i hi=>?_⟩;have hi':i<L.length:=by simpa using hi
 obtain ⟨g,cap',he,_,hg,_,hk⟩:=dB Ki rfl h hi';cases he;obtain ⟨h1,h2⟩:=hm _ (List.getElem_mem hi');have k0:=(hk 0 (by decide)).1;have k1:=(hk 1 (by decide)).1;have k2:=(hk 2 (by decide)).1;refine ⟨g,0,L[i].2,rfl,hg,?_,?_,?_,?_,h2⟩
 ·rw [Nat.zero_add];simpa [mh] using k0
 ·rw [Nat.zero_add];simpa [mh] using k1
 ·rw [Nat.zero_add];simpa [mh] using k2
 ·simpa using h1
def oZ (w:World) (v:Value) (T:List aH) (X:List Nat):Prop:=∃r x,v=.agg #[r,x]∧wU w r T∧bB w x (aN (jR X))
theorem oZ.mono {w w':World} {v:Value} {T:List aH} {X:List Nat} (h:oZ w v T X) (hb:Below w.heap.size w w'):oZ w' v T X:=by
 obtain ⟨r,x,hv,h1,h2⟩:=h;exact ⟨r,x,hv,h1.mono hb,h2.mono hb⟩
def kJ (T:List aH) (c:Nat):aH:=(rowOf T c).getD ⟨0,0,[]⟩
theorem DZ (T:List aH) (c:Nat):ai T c=(kJ T c).cls:=by
 unfold ai kJ;cases rowOf T c <;> rfl
theorem GQ {w:World} (a b:Int) (m:Value) (c:Int) (ha:0≤a∧a<2147483648) (hc:0≤c∧c<2147483648) :
 Calls Tryz.prog 166 #[.agg #[.int .i32 a,.int .i64 b,m],.int .i32 c] w fun e w'=>e=.returned (.int .i64 (a-c))∧Below w.heap.size w w':=by
 have hb:=af (w:=w) (.cells #[.int .i32 a,.int .i64 b,m] 187);have k0:=Is.new w #[.int .i32 a,.int .i64 b,m] 187;have e0:=k0.at 0 rfl;go_enter Tryz.func166,Tryz.ntmps166;go_wp2;go_ret;exact ⟨rfl,hb⟩
theorem Cf {T:List aH} {c k:Nat} (hk:k<T.length) (h1:∀t (ht:t<T.length),t<k→T[t].code<c) (h:T[k].code=c):rowOf T c=some T[k]:=by
 refine yG hk (fun r hr=>?_) h;obtain ⟨t,ht,rfl⟩:=List.mem_iff_getElem.1 hr;rw [List.length_take] at ht;rw [List.getElem_take];have:=h1 t (by omega) (by omega);omega
theorem yU {T:List aH} {c k:Nat} (hs:rising T) (h1:∀t (ht:t<T.length),t<k→T[t].code<c) (h2:∀t (ht:t<T.length),k≤t→c≤T[t].code) (h:∀hk:k<T.length,T[k].code≠c):rowOf T c=none:=by
 refine nI fun r hr=>?_;obtain ⟨t,ht,rfl⟩:=List.mem_iff_getElem.1 hr;rcases Nat.lt_trichotomy t k with h3|h3|h3
 ·have:=h1 t ht h3;omega
 ·subst h3;exact h ht
 ·have h4:=iW hs k t (by omega) ht h3;have:=h2 k (by omega) (Nat.le_refl _);omega
theorem XX {w:World} {v:Value} {T:List aH} (h:wU w v T) (hs:rising T) (hT:∀r∈T,r.code<1114112) (hl:T.length<1000000) (c:Nat) (hc:c<1114112) :
 Calls Tryz.prog 165 #[v,.int .i32 c,.func (.func 166) #[] #[]] w fun e w'=>
  ∃k:Nat,e=.returned (.tuple #[.int .i64 k,.bool (rowOf T c).isSome])∧((rowOf T c).isSome=true→rowOf T c=T[k]?)∧Below w.heap.size w w':=by
 obtain ⟨a,cap,rfl,_,hx⟩:=h;have HX:=aa hx;obtain ⟨n,hn⟩:=ae T.length;have HN:=aa hn;have HS:=aa hs;have HT:=aa hT;rw [←hn] at hl ⊢;clear hx hn hs hT;go_enter Tryz.func165,Tryz.ntmps165;go_wp2
 go_loopg [9,10] n (fun g s7 s8 wr=>∃lo hi:Nat,s7=.int .i64 lo∧s8=.int .i64 hi∧lo≤hi∧hi≤n∧hi-lo≤g∧Below w.heap.size w wr∧(∀t (ht:t<T.length),t<lo→T[t].code<c)∧(∀t (ht:t<T.length),hi≤t→c≤T[t].code))
 case atStart=>exact ⟨0,n,rfl,rfl,Nat.zero_le _,Nat.le_refl _,by omega,Below.refl _ _,fun t _ ht=>absurd ht (Nat.not_lt_zero _),fun t h1 h2=>by have:=HN.out;omega⟩
 case round=>
  obtain ⟨lo,hi,rfl,rfl,hlh,hin,hg,hE,h1,h2⟩:=hrel;have I:=aa (And.intro h1 h2);clear h1 h2;by_cases hlt:lo<hi
  ·have kX:(lo+hi) / 2<T.length:=by have:=HN.out;omega
   obtain ⟨b,off,m,rfl,_,c0,c1,c2,hm,hpm⟩:=HX.out ((lo+hi) / 2) kX;have c0:=aA hE c0;have c1:=aA hE c1;have c2:=aA hE c2;have hcd:=HT.out _ (List.getElem_mem kX);obtain ⟨am,nm,cm,rfl,_⟩:=hpm;have F1:=aa (fun W=>GQ (w:=W) (T[(lo+hi) / 2].code:Nat) (T[(lo+hi) / 2].cls:Nat) (.slice am nm cm) (c:Nat) ⟨by omega,by omega⟩ ⟨by omega,by omega⟩);have Y1:=aa (fun t (ht:t<T.length) (h:t<(lo+hi) / 2)=>iW HS.out t _ ht kX h);have Y2:=aa (fun t (ht:t<T.length) (h:(lo+hi) / 2<t)=>iW HS.out _ t kX ht h);have YE:=aa (show ∀t (ht:t<T.length),t=(lo+hi) / 2→T[t].code=T[(lo+hi) / 2].code from fun t ht e=>by subst e;rfl);clear hm;generalize T[(lo+hi) / 2].code=y at *;generalize T[(lo+hi) / 2].cls=yc at *;by_cases hyx:y<c
   ·have zy:decide ((y:Int)-(c:Int)<0)=true:=by simp;omega
    go_wp2_with (go_at_call 166;refine (F1.out _).mono ?_;rintro e w2 ⟨rfl,hB2⟩)
    go_roundg (hi-((lo+hi) / 2+1))
    case measure=>omega
    case rel=>
     refine ⟨(lo+hi) / 2+1,hi,by rw [show ((lo:Int)+(hi:Int)) / 2+1=(((lo+hi) / 2+1:Nat):Int) by omega],rfl,by omega,hin,Nat.le_refl _,ah hE hB2,fun t ht h=>?_,I.out.2⟩;rcases Nat.lt_or_ge t ((lo+hi) / 2) with h3|h3
     ·have:=Y1.out t ht h3;omega
     ·have:=YE.out t ht (by omega);omega
   ·have zy:decide ((y:Int)-(c:Int)<0)=false:=by simp;omega
    go_wp2_with (go_at_call 166;refine (F1.out _).mono ?_;rintro e w2 ⟨rfl,hB2⟩)
    go_roundg ((lo+hi) / 2-lo)
    case measure=>omega
    case rel=>
     refine ⟨lo,(lo+hi) / 2,rfl,by rw [show ((lo:Int)+(hi:Int)) / 2=(((lo+hi) / 2:Nat):Int) by omega],by omega,by omega,Nat.le_refl _,ah hE hB2,I.out.1,fun t ht h=>?_⟩;rcases Nat.lt_or_ge ((lo+hi) / 2) t with h3|h3
     ·have:=Y2.out t ht h3;omega
     ·have:=YE.out t ht (by omega);omega
  ·have:hi=lo:=by omega
   subst this;by_cases hn:hi<n
   ·have kX:hi<T.length:=by have:=HN.out;omega
    obtain ⟨b,off,m,rfl,_,c0,c1,c2,hm,hpm⟩:=HX.out hi kX;have c0:=aA hE c0;have c1:=aA hE c1;have c2:=aA hE c2;have hcd:=HT.out _ (List.getElem_mem kX);obtain ⟨am,nm,cm,rfl,_⟩:=hpm;have F1:=aa (fun W=>GQ (w:=W) (T[hi].code:Nat) (T[hi].cls:Nat) (.slice am nm cm) (c:Nat) ⟨by omega,by omega⟩ ⟨by omega,by omega⟩);clear hm;have R1:=aa (show T[hi].code=c→rowOf T c=some T[hi] from fun h=>Cf kX I.out.1 h);have R2:=aa (show T[hi].code≠c→rowOf T c=none from fun h=>yU HS.out I.out.1 I.out.2 (fun _=>h));have R3:=aa (show some T[hi]=T[hi]? from (List.getElem?_eq_getElem kX).symm);have R4:∃y,y=T[hi].code:=⟨_,rfl⟩;generalize T[hi]=q at *;by_cases hyx:q.code=c
    ·have zy:(((q.code:Int)-(c:Int))==0)=true:=by simp;omega
     have hrow:=R1.out hyx;have AV:=aa hrow;clear hrow hyx R1 R2;go_wp2_with (go_at_call 166;refine (F1.out _).mono ?_;rintro e w2 ⟨rfl,hB2⟩);go_ret2;refine ⟨hi,?_,fun _=>by rw [AV.out,R3.out],ah hE hB2⟩;rw [AV.out];rfl
    ·have zy:(((q.code:Int)-(c:Int))==0)=false:=by simp;omega
     have hrow:=R2.out hyx;have AV:=aa hrow;clear hrow hyx R1 R2;go_wp2_with (go_at_call 166;refine (F1.out _).mono ?_;rintro e w2 ⟨rfl,hB2⟩);go_ret2;refine ⟨hi,?_,fun h=>?_,ah hE hB2⟩
     ·rw [AV.out];rfl
     ·rw [AV.out] at h;cases h
   ·have AV:=aa (yU HS.out I.out.1 I.out.2 (fun hk=>absurd hk (by have:=HN.out;omega)));go_wp2_with (go_at_call 166;trivial);go_ret2;refine ⟨hi,?_,fun h=>?_,hE⟩
    ·rw [AV.out];rfl
    ·rw [AV.out] at h;cases h
structure iJ (T:List aH):Prop where
 rise:rising T
 code:∀r∈T,r.code<1114112
 map:∀r∈T,r.map.length≤2
 XY:∀r∈T,∀x∈r.map,x<1114112
 len:T.length<40000
theorem vH {w:World} {v:Value} {T:List aH} {X:List Nat} (h:oZ w v T X) (hF:iJ T) (c:Nat) (hc:c<1114112) :
 Calls Tryz.prog 127 #[v,.int .i32 c] w fun e w'=>∃m,e=.returned (.tuple #[.agg #[.int .i32 (kJ T c).code,.int .i64 (kJ T c).cls,m],.bool (rowOf T c).isSome])∧Sl aM w' m (aN (kJ T c).map)∧fC m∧Below w.heap.size w w':=by
 obtain ⟨r,x,rfl,h1,h2⟩:=h;obtain ⟨ra,NP,rfl,_,hx⟩:=id h1;obtain ⟨nx,hnx⟩:∃n,n=(jR X).length:=⟨_,rfl⟩;obtain ⟨xa,xc,rfl,_,_⟩:=bB.qL h2 hnx;clear hnx;obtain ⟨w1,hw1⟩:=ae (w.alloc (.cells #[.slice ra T.length NP,.slice xa nx xc] 95));have k1:Is w1 w.heap.size #[.slice ra T.length NP,.slice xa nx xc] 95:=by rw [hw1];exact Is.new _ _ _
 have hb1:Below w.heap.size w w1:=by rw [hw1];exact af _
 obtain ⟨w2,hw2⟩:=ae (w1.alloc (.cells #[.int .i32 0,.int .i64 0,.slice none 0 0] 187));have hb2:Below w1.heap.size w1 w2:=by rw [hw2];exact af _
 have k2:=k1.mono hb2;have l2:Is w2 w1.heap.size #[.int .i32 0,.int .i64 0,.slice none 0 0] 187:=by rw [hw2];exact Is.new _ _ _
 have hz1:w1.heap.size=w.heap.size+1:=by rw [hw1];simp
 rw [hz1] at l2;have hb:=ah hb1 hb2;have BS:=aa (XX (h1.mono hb) hF.rise hF.code (by have:=hF.len;omega) c hc);have HX:=aa hx;have hz2:w2.heap.size=w.heap.size+2:=by rw [hw2,World.size_alloc,hz1]
 have e0:=k2.at 0 rfl;have hrd:kJ T c=(rowOf T c).getD ⟨0,0,[]⟩:=rfl;have HRD:=aa hrd;rw [hw1] at hw2;clear hx h1 h2 k1 hb1 hb2 hw1 hrd;go_enter Tryz.func127,Tryz.ntmps127;go_wp2_with fail;rw [←hw2];clear hw2;refine BS.out.mono ?_;rintro e w3 ⟨k,rfl,hk,hB3⟩;have k3:=k2.mono hB3;have l3:=l2.mono hB3;have e0:=k3.at 0 rfl;have d0:=l3.at 0 rfl;have d1:=l3.at 1 rfl;have d2:=l3.at 2 rfl;have f0:=l3.frozen 0;have f1:=l3.frozen 1;have f2:=l3.frozen 2;cases hr:rowOf T c with
 | none=>
   have hrd:=HRD.out;rw [hr] at hrd;have HR:=aa hr;have HD:=aa hrd;clear hr hk BS hrd HRD hF;go_wp2
   (try simp only [Exit.inBlock,Exit.then])
   have P:=((l3.set 0 (.int .i32 0)).set 1 (.int .i64 0)).set 2 (.slice none 0 0);have v0:=P.at 0 rfl;have v1:=P.at 1 rfl;have v2:=P.at 2 rfl;refine bodyPost_ret (v:=.tuple #[.agg #[.int .i32 0,.int .i64 0,.slice none 0 0],.bool false]) (by simp [results,Tryz.results127,go_sem,v0,v1,v2]) rfl ?_;have hB:=hb.trans (hB3.mono hb.size);refine ⟨.slice none 0 0,?_,?_,⟨none,0,0,rfl,.inl rfl⟩,aj (aj (aj hB (by omega)) (by omega)) (by omega)⟩
   ·rw [HD.out,HR.out];rfl
   ·rw [HD.out];exact Sl.nil _ _ _ _ (fun _=>rfl)
 | some q=>
   have hrd:=HRD.out;rw [hr] at hrd hk;have HR:=aa hr;have hq:some q=T[k]?:=hk rfl;obtain ⟨hkl,hqe⟩:=List.getElem?_eq_some_iff.1 hq.symm;obtain ⟨b,off,m,rfl,hbs,c0,c1,c2,hm,hpm⟩:=HX.out k hkl;rw [hqe] at c0 c1 hm;have kY:=hb.trans (hB3.mono hb.size);have c0:=aA kY c0;have c1:=aA kY c1;have c2:=aA kY c2;have Xa:=hm.mono kY;obtain ⟨am,nm,cm,rfl,hpm⟩:=hpm;have HD:=aa hrd;have NQ:=aa Xa;have XZ:=aa hpm;clear hr hk BS hrd HRD hF hq hqe hm Xa hpm;have X4:=HD.out;simp only [Option.getD_some] at X4;have HD2:=aa X4;clear X4 HD;go_wp2
   (try simp only [Exit.inBlock,Exit.then])
   have P:=((l3.set 0 (.int .i32 (q.code:Nat))).set 1 (.int .i64 (q.cls:Nat))).set 2 (.slice am nm cm);have v0:=P.at 0 rfl;have v1:=P.at 1 rfl;have v2:=P.at 2 rfl;refine bodyPost_ret (v:=.tuple #[.agg #[.int .i32 (q.code:Nat),.int .i64 (q.cls:Nat),.slice am nm cm],.bool true]) (by simp [results,Tryz.results127,go_sem,v0,v1,v2]) rfl ?_;have hT:187≠aM:=by decide
   refine ⟨.slice am nm cm,?_,?_,⟨am,nm,cm,rfl,XZ.out⟩,aj (aj (aj kY (by omega)) (by omega)) (by omega)⟩
   ·rw [HD2.out,HR.out];rfl
   ·rw [HD2.out];exact ((NQ.out.put l3.at_ hT).put (l3.set 0 _).at_ hT).put ((l3.set 0 _).set 1 _).at_ hT
theorem oZ.shape {w:World} {v:Value} {T:List aH} {X:List Nat} (h:oZ w v T X):∃ra nt rc xa nx xc,v=.agg #[.slice ra nt rc,.slice xa nx xc]:=by
 obtain ⟨r,x,rfl,⟨a,cap,rfl,_⟩,h2⟩:=h;obtain ⟨b,c,rfl,_⟩:=bB.out h2;exact ⟨_,_,_,_,_,_,rfl⟩
theorem Km {w:World} {v:Value} {T:List aH} {X:List Nat} (h:oZ w v T X) (hF:iJ T) (c:Nat) (hc:c<1114112) :
 Calls Tryz.prog 164 #[v,.int .i32 c] w fun e w'=>e=.returned (.int .i64 (ai T c))∧Below w.heap.size w w':=by
 obtain ⟨ra,nt,rc,xa,nx,xc,rfl⟩:=h.shape;obtain ⟨w1,hw1⟩:=ae (w.alloc (.cells #[.slice ra nt rc,.slice xa nx xc] 95));have k1:Is w1 w.heap.size #[.slice ra nt rc,.slice xa nx xc] 95:=by rw [hw1];exact Is.new _ _ _
 have hb1:Below w.heap.size w w1:=by rw [hw1];exact af _
 have FD:=aa (vH (h.mono hb1) hF c hc);have e0:=k1.at 0 rfl;have e1:=k1.at 1 rfl;rw [DZ];clear h hF;go_enter Tryz.func164,Tryz.ntmps164;go_wp2_with fail;rw [←hw1];clear hw1;refine FD.out.mono ?_;rintro e w2 ⟨m,rfl,_,⟨am,nm,cm,rfl,_⟩,hB2⟩;have hb3:=af (w:=w2) (.cells #[.int .i32 (kJ T c).code,.int .i64 (kJ T c).cls,.slice am nm cm] 187);have k3:=Is.new w2 #[.int .i32 (kJ T c).code,.int .i64 (kJ T c).cls,.slice am nm cm] 187;have e3:=k3.at 1 rfl;clear FD e0 e1;go_wp2;go_ret;exact ⟨rfl,hb1.trans ((ah hB2 hb3).mono hb1.size)⟩
theorem Cg {c:Nat} (h:4≤hk c):∃a b,dE c=[a,b]:=by
 have hn:dE c≠[]:=fun e=>by have:=vC.1 e;omega
 unfold dE at *;by_cases h4:hk c=4
 ·exact ⟨_,_,if_pos h4⟩
 ·rw [if_neg h4] at hn ⊢;by_cases h5:hk c=5
  ·exact ⟨_,_,if_pos h5⟩
  ·rw [if_neg h5] at hn;exact absurd rfl hn
theorem NR {T:List aH} {c:Nat} (h:hk c<4):mapOf T c=(kJ T c).map:=by
 unfold mapOf bL kJ;rw [if_pos h];cases rowOf T c <;> rfl
theorem GU {w:World} {v:Value} {T:List aH} {X:List Nat} (h:oZ w v T X) (hF:iJ T) (c:Nat) (hc:c<1114112) :
 Calls Tryz.prog 163 #[v,.int .i32 c] w fun e w'=>∃r,e=.returned r∧w'.ownsRow w.heap.size aM 1 r (mapOf T c).length (aN (mapOf T c))∧Below w.heap.size w w':=by
 obtain ⟨ra,nt,rc,xa,nx,xc,rfl⟩:=h.shape;obtain ⟨w1,hw1⟩:=ae (w.alloc (.cells #[.slice ra nt rc,.slice xa nx xc] 95));have k1:Is w1 w.heap.size #[.slice ra nt rc,.slice xa nx xc] 95:=by rw [hw1];exact Is.new _ _ _
 have hb1:Below w.heap.size w w1:=by rw [hw1];exact af _
 have hz1:w1.heap.size=w.heap.size+1:=by rw [hw1];simp
 by_cases h4:4≤hk c
 ·obtain ⟨a,b,hab⟩:=Cg h4;have HP:=aa (ku (w:=w1) hc hab);have hm:mapOf T c=[a,b]:=by unfold mapOf;rw [if_neg (by omega),hab]
  rw [hm];have o2:=lK w1 #[.int .i32 (a:Nat),.int .i32 (b:Nat)] aM 2 rfl (by decide);rw [hz1] at o2;have hb2:=af (w:=w1) (.cells #[.int .i32 a,.int .i32 b] aM);clear hm hab h hF k1;go_enter Tryz.func163,Tryz.ntmps163;go_wp2_with fail;rw [←hw1];clear hw1;refine HP.out.mono ?_;rintro e w2 ⟨rfl,rfl⟩;go_wp2;go_ret;exact ⟨_,rfl,aV o2 (by omega),hb1.trans (hb2.mono hb1.size)⟩
 ·have FD:=aa (vH (h.mono hb1) hF c hc);have HP:=aa (qm (w:=w1) hc (by omega));have kX:(kJ T c).map.length<1000000:=by
   unfold kJ;cases hr:rowOf T c with
   | none=>simp
   | some q=>
     have:=hF.map q (List.mem_of_find?_eq_some hr);simp only [Option.getD_some];omega
  rw [NR (by omega)];generalize kJ T c=q at *;have e0:=k1.at 0 rfl;have e1:=k1.at 1 rfl;clear h hF;go_enter Tryz.func163,Tryz.ntmps163;go_wp2_with fail;rw [←hw1];clear hw1;refine HP.out.mono ?_;rintro e w2 ⟨⟨a,b,rfl⟩,rfl⟩;go_wp2_with fail;refine FD.out.mono ?_;rintro e w3 ⟨m,rfl,hm,hpm,hB3⟩;obtain ⟨w4,hw4⟩:=ae (w3.alloc (.cells #[.int .i32 q.code,.int .i64 q.cls,m] 187));have hb4:Below w3.heap.size w3 w4:=by rw [hw4];exact af _
  have k4:Is w4 w3.heap.size #[.int .i32 q.code,.int .i64 q.cls,m] 187:=by rw [hw4];exact Is.new _ _ _
  have CL:=aa (jZ q.map (hm.mono hb4) hpm kX);obtain ⟨am,nm,cm,rfl,_⟩:=hpm;have e4:=k4.at 2 rfl;clear FD e0 e1 hm;rw [hw4] at e4;go_wp2_with fail;rw [←hw4];refine CL.out.mono ?_;rintro e w5 ⟨r,rfl,ho,rZ⟩;have hz:w2.heap.size≤w4.heap.size:=Nat.le_trans hB3.size hb4.size;obtain ⟨ar,cr,rfl,_,_⟩:=ak ho;clear e4 hw4 CL;have HO:=aa ho;clear ho;go_wp2;go_ret;exact ⟨_,rfl,aV HO.out (by omega),hb1.trans ((ah (ah hB3 hb4) rZ).mono hb1.size)⟩
theorem yV {M:Nat→List Nat} {l:List Nat}:anyM M l=false↔qZ M l:=by
 unfold anyM qZ;rw [List.any_eq_false];constructor
 ·intro h x hx;have:=h x hx;simpa using this
 ·intro h x hx;simp [h x hx]
theorem Q3 {c x:Nat} (hc:c<1114112) (h:x∈dE c):x<1114112:=by
 unfold dE at h
 split at h
 ·rename_i h4;have:=nG.1 h4;have h2:(c-44032) % 588 / 28<21:=by omega
  have h1:(c-44032) / 588<19:=by omega
  generalize (c-44032) % 588 / 28=p at *;generalize (c-44032) / 588=q at *;simp only [List.mem_cons,List.not_mem_nil,or_false] at h;rcases h with rfl|rfl <;> omega
 ·split at h
  ·have h3:=Nat.mod_lt (c-44032) (show 28 > 0 by decide);generalize (c-44032) % 28=p at *;simp only [List.mem_cons,List.not_mem_nil,or_false] at h;rcases h with rfl|rfl <;> omega
  ·simp at h
theorem GV {T:List aH} (hT:∀r∈T,∀x∈r.map,x<1114112) {c x:Nat} (hc:c<1114112) (h:x∈mapOf T c):x<1114112:=by
 unfold mapOf at h
 split at h
 ·unfold bL at h;cases hr:rowOf T c with
  | none=>rw [hr] at h;simp at h
  | some r=>rw [hr] at h;exact hT r (List.mem_of_find?_eq_some hr) x h
 ·exact Q3 hc h
theorem Q4 {T:List aH} (hT:∀r∈T,∀x∈r.map,x<1114112) {l:List Nat} (hl:∀x∈l,x<1114112):∀x∈df (mapOf T) l,x<1114112:=by
 intro x hx;unfold df at hx;obtain ⟨c,hc,hx⟩:=List.mem_flatMap.1 hx
 split at hx
 ·rw [List.mem_singleton.1 hx];exact hl c hc
 ·exact GV hT (hl c hc) hx
instance (T:List aH) (c:Nat):Decidable (fJ T c):=by unfold fJ qZ;exact inferInstance
theorem Kn {T:List aH} {c i:Nat} (hi:i≤T.length+3) (h:32<(steps (mapOf T) i [c]).length):¬fJ T c:=by
 rintro ⟨_,h2⟩;rw [iU,show T.length+3=i+(T.length+3-i) by omega,vD] at h2;have:=vE (mapOf T) (T.length+3-i) (steps (mapOf T) i [c]);omega
theorem GX {T:List aH} {c:Nat} (h:32<(df (mapOf T) (steps (mapOf T) (T.length+3) [c])).length) (hl:(steps (mapOf T) (T.length+3) [c]).length≤32):¬fJ T c:=by
 rintro ⟨h1,_⟩;rw [iU] at h1;rw [oL h1] at h;omega
theorem uh {w:World} {v:Value} {T:List aH} {X:List Nat} (h:iV w v T X) (c:Nat) (hc:c<1114112) (hT:∀r∈T,∀x∈r.map,x<1114112) (Ga:∀r∈T,r.map.length≤4) (hmax:T.length<1000000) :
 Calls Tryz.prog 15 #[v,.int .i64 c] w fun e w'=>∃r,e=.returned (.tuple #[r,.bool (decide (fJ T c))])∧(fJ T c→bB w' r (ints (aC T c)))∧Below w.heap.size w w':=by
 have HT:=aa h;obtain ⟨r,x,rfl,⟨a,cap,rfl,_⟩,h2⟩:=h;obtain ⟨ax,cx,rfl,_,_⟩:=Go.Cd.bB.out h2;obtain ⟨nt,hnt⟩:∃n,n=T.length:=⟨_,rfl⟩;obtain ⟨nx,hnx⟩:∃n,n=(ints X).length:=⟨_,rfl⟩;rw [←hnt,←hnx] at HT ⊢;have tu:=aa hnt;have hmt:nt<1000000:=by omega
 have hb:=af (w:=w) (.cells #[.slice a nt cap,.slice ax nx cx] 25);have d0:(w.alloc (.cells #[.slice a nt cap,.slice ax nx cx] 25)).cell? ⟨w.heap.size,0,none⟩=some (.slice a nt cap):=by unfold World.cell?;rw [heap_alloc_new];rfl
 have d1:(w.alloc (.cells #[.slice a nt cap,.slice ax nx cx] 25)).cell? ⟨w.heap.size,1,none⟩=some (.slice ax nx cx):=by unfold World.cell?;rw [heap_alloc_new];rfl
 obtain ⟨W0,hW⟩:=ae (w.alloc (.cells #[.slice a nt cap,.slice ax nx cx] 25));rw [←hW] at hb d0 d1;obtain ⟨W1,hW1⟩:=ae (W0.alloc (.cells #[.int .i64 c] bq));have hb1:Below W0.heap.size W0 W1:=by subst hW1;exact af _
 have s1:bB W1 (.slice (some ⟨w.heap.size+1,0,none⟩) 1 1) (ints [c]):=by
  subst hW1;have:=qj W0 #[.int .i64 c] bq;rw [show W0.heap.size=w.heap.size+1 by rw [hW];simp] at this;exact this
 rw [hW] at hW1;obtain ⟨P,hP⟩:=ae (decide (fJ T c));have HP:=aa hP;rw [←hP];have hw1:=hb.trans (hb1.mono hb.size);have e0:=aA hb1 d0;have e1:=aA hb1 d1;have HH:=aa hT;clear hW h2 hnt hnx d0 d1 hP hT hmax;go_enter Tryz.func15,Tryz.ntmps15;go_wp2_with fail;rw [←hW1];clear hW1;go_loopw [6,7] (fun lv iv wr=>∃(i:Nat) (L:List Nat),i≤nt+4∧iv=.int .i64 i∧L=steps (mapOf T) i [c]∧L.length≤32∧(∀x∈L,x<1114112)∧(i=nt+4→¬fJ T c)∧bB wr lv (ints L)∧Below W1.heap.size W1 wr) (fun _ iv _=>nt+4-(intOf iv).toNat)
 case atStart=>exact ⟨0,[c],Nat.zero_le _,rfl,rfl,by simp,by simpa using hc,fun h=>by omega,s1,Below.refl _ _⟩
 case round=>
  clear s1 hb1;obtain ⟨i,L,hi,rfl,hL,TT,ZW,hend,hs,hE⟩:=hrel;have fo:=hw1.trans (hE.mono hw1.size);have f0:=aA hE e0;have f1:=aA hE e1;have SP:=aa (DD (HT.out.mono fo) hs ZW Ga (by have:=tu.out;omega) (by omega));obtain ⟨nl,hnl⟩:∃n,n=L.length:=⟨_,rfl⟩;obtain ⟨al,cl,rfl,_,_⟩:=bB.kD hs hnl;have HS:=aa hs;have HL:=aa hL;have HE:=aa hend;clear hs hnl hL hend;by_cases hi4:i≤nt+3
  ·go_wp2_with fail;refine SP.out.mono ?_;rintro e w2 ⟨r2,rfl,o2,h2⟩;have hE2:=ah hE h2;have aaW:=hw1.trans (hE2.mono hw1.size);have s2:=(Sl.aW o2).any;cases hA:anyM (mapOf T) L
   ·have hlf:=yV.1 hA;have hfull:aC T c=L:=by rw [HL.out] at hlf ⊢;exact Dz (by have:=tu.out;omega) hlf
    have hok:fJ T c:=⟨by rw [hfull];exact hlf,by rw [hfull];exact TT⟩;have E:P=true:=HP.out.trans (decide_eq_true hok);have HF:=aa hfull;subst E;have HS2:=aa (HS.out.mono h2);clear SP o2 s2 hA hlf hok hfull;go_wp2;go_ret2;exact ⟨_,rfl,fun _=>by rw [HF.out];exact HS2.out,aaW⟩
   ·obtain ⟨n2,hn2⟩:∃n,n=(df (mapOf T) L).length:=⟨_,rfl⟩;obtain ⟨a2,c2,rfl,_,_⟩:=bB.kD s2 hn2;have HN2:=aa hn2;have HS2:=aa s2;have hst:df (mapOf T) L=steps (mapOf T) (i+1) [c]:=by rw [HL.out,rT]
    have HST:=aa hst;by_cases h32:32<n2
    ·have hno:¬fJ T c:=by
      by_cases hi3:i+1≤nt+3
      ·exact Kn (i:=i+1) (by have:=tu.out;omega) (by rw [←hst,←hn2];exact h32)
      ·have hie:i=T.length+3:=by have:=tu.out;omega
       rw [hn2,HL.out,hie] at h32;exact GX h32 (by rw [←hie,←HL.out];exact TT)
     have E:P=false:=HP.out.trans (decide_eq_false hno);have Qf:=aa hno;subst E;clear SP o2 s2 hA hn2 hst hno;go_wp2;go_ret2;exact ⟨_,rfl,fun h=>absurd h Qf.out,aaW⟩
    ·have hlt2:=aa (Q4 HH.out ZW);have Xb:i+1=nt+4→¬fJ T c:=by
      rintro hi5 ⟨hk1,_⟩;have hie:i=T.length+3:=by have:=tu.out;omega
      rw [iU,←hie,←HL.out] at hk1;rw [yV.2 hk1] at hA;cases hA
     have HE2:=aa Xb;clear SP o2 s2 hA hn2 hst Xb;go_wp2;go_roundw
     case rel=>exact ⟨i+1,df (mapOf T) L,by omega,rfl,HST.out,by rw [←HN2.out];omega,hlt2.out,HE2.out,HS2.out,hE2⟩
     case measure=>simp [intOf];omega
  ·have hi5:i=nt+4:=by omega
   have Qf:=aa (HE.out hi5);have E:P=false:=HP.out.trans (decide_eq_false Qf.out);subst E;clear SP;go_wp2;go_ret2;exact ⟨_,rfl,fun h=>absurd h Qf.out,fo⟩
theorem NS {A B C:World} {u v:Value} (h1:A.grownBy B u.ownBlock) (hn:jV A u v) (h2:B.grownBy C v.ownBlock):A.grownBy C u.ownBlock:=by
 refine ⟨h2.os.trans h1.os,h2.tape.trans h1.tape,h2.output.trans h1.output,Nat.le_trans h1.size h2.size,fun k hk hne=>?_⟩;refine (h2.block k (Nat.lt_of_lt_of_le hk h1.size) fun e=>?_).trans (h1.block k hk hne);rcases hn with hn|⟨k',h3,h4⟩
 ·exact hne (e.trans hn)
 ·rw [h3] at e;cases e;omega
theorem Ko {T:List aH} (h:∀r∈T,r.map.length≤2) (c:Nat):(mapOf T c).length≤2:=by
 unfold mapOf
 split
 ·unfold bL;cases hr:rowOf T c with
  | none=>simp
  | some r=>exact h r (List.mem_of_find?_eq_some hr)
 ·exact BP c
theorem ry {w0:World} {v:Value} {T:List aH} {X:List Nat} (h:oZ w0 v T X) (hF:iJ T) (deep:Nat) (c:Nat) (w:World) (base:Nat) (out:List Nat) (ov:Value) (hc:c<1114112)
 (hm0:mapOf T c=[]) (hln:out.length<32) (hE:Below w0.heap.size w0 w) (_:w0.heap.size≤base) (hbw:base≤w.heap.size) (ho:w.ownsRow base aM 1 ov out.length (aN out)) :
 Calls Tryz.prog 125 #[v,ov,.int .i32 c,.int .i64 deep] w fun e w'=>∃r,e=.returned (.tuple #[r,.bool true])∧w'.ownsRow base aM 1 r (out++[c]).length (aN (out++[c]))∧w.grownBy w' ov.ownBlock∧jV w ov r:=by
 have hT:=h.mono hE;obtain ⟨ra,nt,rc,xa,nx,xc,rfl⟩:=h.shape;have hnt:nt=T.length:=by
  obtain ⟨r,x,he,⟨a,cap,hr,_⟩,_⟩:=h;subst hr;injection he with he;have:=congrArg (fun s:Array Value=>s[0]?) he;simp at this;exact this.2.1
 have tu:=aa hnt;clear hnt;obtain ⟨w1,hw1⟩:=ae (w.alloc (.cells #[.slice ra nt rc,.slice xa nx xc] 95));have k1:Is w1 w.heap.size #[.slice ra nt rc,.slice xa nx xc] 95:=by rw [hw1];exact Is.new _ _ _
 have hb1:Below w.heap.size w w1:=by rw [hw1];exact af _
 have hz1:w1.heap.size=w.heap.size+1:=by rw [hw1];simp
 have MP:=aa (GU (hT.mono hb1) hF c hc);have e0:=k1.at 0 rfl;have e1:=k1.at 1 rfl;obtain ⟨oa,oc,rfl,_,_⟩:=ak ho;go_enter Tryz.func125,Tryz.ntmps125;go_wp2_with fail;rw [←hw1];refine MP.out.mono ?_;rintro e w2 ⟨mv,rfl,hm,hB2⟩;have k2:=k1.mono hB2;have hb2:=ah hb1 hB2;have ho2:=aG ho hb2;have hz2:w.heap.size+1≤w2.heap.size:=by have:=hB2.size;omega
 clear e0 e1 hw1 MP k1 ho hT;rw [hm0] at hm;obtain ⟨ma,mc,rfl,_,_⟩:=ak hm;have zl:decide ((out.length:Int)<32)=true:=by simp;omega
 clear hm;go_wp2_with (at_builtin;go_loud (refine n_ (W:=w2) rfl _ _ 52 rfl base aM _ 1 4 (Elem.aaN bT) (by decide) (by decide) (by decide) (by decide) (.slice oa out.length oc) out.length (aN out) rfl ho2 _ rfl rfl (by simp [Value.oneCell']) (by omega) w2 (Below.refl _ _) (by omega) ?_);intro v1 w3 o1 hb3 hg1 hN1;obtain ⟨a1,xZ,rfl,_,_⟩:=ak o1);go_ret2;refine ⟨_,rfl,?_,?_,?_⟩
 ·rw [aZ];exact o1
 ·refine ⟨hg1.os.trans hb2.os,hg1.tape.trans hb2.tape,hg1.output.trans hb2.output,Nat.le_trans hb2.size hg1.size,fun k hk hne=>(hg1.block k (by omega) hne).trans (hb2.block k hk)⟩
 ·rcases hN1 with hn|⟨k,h1,h2⟩
  ·exact .inl hn
  ·exact .inr ⟨k,h1,by omega⟩
theorem wV {w0:World} {v:Value} {T:List aH} {X:List Nat} (h:oZ w0 v T X) (hF:iJ T):∀(f deep:Nat) (c:Nat) (w:World) (base:Nat) (out:List Nat) (ov:Value),deep+f=T.length+3→c<1114112→
 qZ (mapOf T) (gQ (mapOf T) f c)→out.length+(gQ (mapOf T) f c).length≤32→Below w0.heap.size w0 w→w0.heap.size≤base→base≤w.heap.size→w.ownsRow base aM 1 ov out.length (aN out)→
 Calls Tryz.prog 125 #[v,ov,.int .i32 c,.int .i64 deep] w fun e w'=>∃r,e=.returned (.tuple #[r,.bool true])∧w'.ownsRow base aM 1 r (out++gQ (mapOf T) f c).length (aN (out++gQ (mapOf T) f c))∧w.grownBy w' ov.ownBlock∧jV w ov r:=by
 intro f
 induction f with
 | zero=>
   intro deep c w base out ov hdf hc hlf hln hE hb0 hbw ho;have hm0:mapOf T c=[]:=hlf c (by simp [gQ]);rw [iT hm0] at hln ⊢;exact ry h hF deep c w base out ov hc hm0 (by simp at hln;omega) hE hb0 hbw ho
 | succ f ih=>
   intro deep c w base out ov hdf hc hlf hln hE hb0 hbw ho;by_cases hm0:mapOf T c=[]
   ·rw [iT hm0] at hln ⊢;exact ry h hF deep c w base out ov hc hm0 (by simp at hln;omega) hE hb0 hbw ho
   rw [BM hm0] at hlf hln ⊢;have X5:=aa h;have hlm:=Ko hF.map c;have UO:=aa (fun x (hx:x∈mapOf T c)=>GV hF.XY hc hx);have hT:=h.mono hE;obtain ⟨ra,nt,rc,xa,nx,xc,rfl⟩:=h.shape;have hnt:nt=T.length:=by
    obtain ⟨r,x,he,⟨a,cap,hr,_⟩,_⟩:=h;subst hr;injection he with he;have:=congrArg (fun s:Array Value=>s[0]?) he;simp at this;exact this.2.1
   have tu:=aa hnt;clear hnt;obtain ⟨w1,hw1⟩:=ae (w.alloc (.cells #[.slice ra nt rc,.slice xa nx xc] 95));have k1:Is w1 w.heap.size #[.slice ra nt rc,.slice xa nx xc] 95:=by rw [hw1];exact Is.new _ _ _
   have hb1:Below w.heap.size w w1:=by rw [hw1];exact af _
   have hz1:w1.heap.size=w.heap.size+1:=by rw [hw1];simp
   have MP:=aa (GU (hT.mono hb1) hF c hc);have e0:=k1.at 0 rfl;have e1:=k1.at 1 rfl;obtain ⟨oa,oc,rfl,_,_⟩:=ak ho;go_enter Tryz.func125,Tryz.ntmps125;go_wp2_with fail;rw [←hw1];refine MP.out.mono ?_;rintro e w2 ⟨mv,rfl,hm,hB2⟩;have k2:=k1.mono hB2;have hb2:=ah hb1 hB2;have ho2:=aG ho hb2;have hz2:w.heap.size+1≤w2.heap.size:=by have:=hB2.size;omega
   have h0m:0<(mapOf T c).length:=List.length_pos_iff.2 hm0;have Xc:=aa ih;have HOW:=aa (fun k (hk:(Value.slice oa out.length oc).ownBlock=some k)=>ho.lt k hk);clear e0 e1 hw1 MP k1 ho hT hm0 ih;generalize hmd:mapOf T c=m at *;have HMD:=aa hmd;have aeX:nt<40000:=by have:=tu.out;have:=hF.len;omega
   clear hmd;obtain ⟨n,hn⟩:=ae m.length;obtain ⟨ma,mc,rfl,_,_⟩:=ak hm;have HN:=aa hn;have HLF:=aa hlf;have yX:=aa hln;have HM:=aa hm;have e0:=k2.at 0 rfl;have zd:decide ((nt:Int)+2<(deep:Int))=false:=by have:=tu.out;simp;omega
   rw [←hn] at h0m hlm ⊢;clear hn hlf hln hm;have zn:((n:Int)==0)=false:=by simp;omega
   go_wp2_with fail;have TV:=aa ho2;go_loopw [1,36] (fun uv iv wr=>∃j:Nat,j≤n∧iv=.int .i64 j∧wr.ownsRow base aM 1 uv (out++(m.take j).flatMap (gQ (mapOf T) f)).length (aN (out++(m.take j).flatMap (gQ (mapOf T) f)))∧w2.grownBy wr (Value.slice oa out.length oc).ownBlock∧jV w2 (.slice oa out.length oc) uv) (fun _ iv _=>n-(intOf iv).toNat)
   case atStart=>exact ⟨0,Nat.zero_le _,rfl,by simpa using ho2,⟨rfl,rfl,rfl,Nat.le_refl _,fun _ _ _=>rfl⟩,jV.refl _ _⟩
   case round=>
    clear e0 zd ho2;obtain ⟨j,hj,rfl,hor,hg,hN⟩:=hrel;have Kq:∀k,(Value.slice oa out.length oc).ownBlock=some k→base≤k∧k<w.heap.size:=fun k hk=>HOW.out k hk;have kr:=k2.grown hg (fun e=>by have:=(Kq _ e).2;omega);have hEr:Below w0.heap.size w0 wr:=(hE.trans (hb2.mono hE.size)).grown hg (by have:=hE.size;omega) fun k hk=>Nat.le_trans hb0 (Kq k hk).1;have hsz:=hg.size;by_cases hjn:j<n
    ·obtain ⟨ua,uc,rfl,_,_⟩:=ak hor;have zj:decide ((j:Int)<(n:Int))=true:=by simp;omega
     have hjl:j<m.length:=by have:=HN.out;omega
     have hmr:=wP.stays (u:=.slice ma m.length mc) (v:=.slice oa out.length oc) (fun k h1 h2=>by have:=(HM.out.lt k h1).1;have:=(Kq k h2).2;omega) HM.out hg;obtain ⟨a',c',he,_,hx⟩:=bB.qL (Sl.aW hmr).any rfl;obtain ⟨bm,off,ha',_,hcl⟩:=hx j hjl;have hma:ma=some ⟨bm,off,none⟩:=by injection he with e1;rw [e1];exact ha'
     subst hma;have hmem:=List.getElem_mem hjl;have e0:=kr.at 0 rfl;have e1:=kr.at 1 rfl;have hTK:m.take (j+1)=m.take j++[m[j]]:=List.take_succ_eq_append_getElem hjl;have hsum:(out++(m.take j).flatMap (gQ (mapOf T) f)).length+(gQ (mapOf T) f m[j]).length≤32:=by
      have h1:=yX.out;have h2:m.flatMap (gQ (mapOf T) f)=(m.take j).flatMap (gQ (mapOf T) f)++(gQ (mapOf T) f m[j]++(m.drop (j+1)).flatMap (gQ (mapOf T) f)):=by
       conv=>lhs;rw [←List.take_append_drop j m,List.drop_eq_getElem_cons hjl]
       rw [List.flatMap_append,List.flatMap_cons]
      rw [h2] at h1;simp only [List.length_append] at h1 ⊢;omega
     have aaY:qZ (mapOf T) (gQ (mapOf T) f m[j]):=fun x hx=>HLF.out x (List.mem_flatMap.2 ⟨_,hmem,hx⟩);have hrr:=Xc.out (deep+1) m[j] wr base _ _ (by omega) (UO.out _ hmem) aaY hsum hEr hb0 (by omega) hor;rw [show ((deep+1:Nat):Int)=(deep:Int)+1 from by omega] at hrr;have HR:=aa hrr;have hdl:deep<50000:=by have:=tu.out;omega
     clear hrr;have XR:=aa (show out++(m.take (j+1)).flatMap (gQ (mapOf T) f)=(out++(m.take j).flatMap (gQ (mapOf T) f))++gQ (mapOf T) f m[j] by rw [hTK,List.flatMap_append,List.append_assoc];simp);clear hx hmr hsum aaY hmem hTK he ha';generalize m[j]=cj at *;generalize out++(m.take j).flatMap (gQ (mapOf T) f)=O at *;have akp:=aa hor;clear hor;go_wp2_with fail;refine HR.out.mono ?_;rintro e w5 ⟨r,rfl,o5,hg5,hN5⟩;rw [List.length_append] at o5;obtain ⟨ra5,rc5,rfl,_,_⟩:=ak o5;clear HR hcl e0 e1;go_wp2_with fail;go_roundw
     case rel=>
      refine ⟨j+1,by omega,by simp,?_,NS hg hN hg5,jV.trans hN hN5 hsz⟩;rw [XR.out,List.length_append];exact o5
     case measure=>simp [intOf];omega
    ·have zj:decide ((j:Int)<(n:Int))=false:=by simp;omega
     obtain rfl:j=n:=by omega
     have hTA:m.take j=m:=List.take_of_length_le (by have:=HN.out;omega);rw [hTA] at hor;generalize hO:out++m.flatMap (gQ (mapOf T) f)=O at hor;have HOE:=aa hO;clear hO;obtain ⟨ua,uc,rfl,_,_⟩:=ak hor;have HOR:=aa hor;clear hor hTA;go_wp2;go_ret2;rw [HMD.out,HOE.out];refine ⟨_,rfl,HOR.out,?_,?_⟩
     ·exact ⟨hg.os.trans hb2.os,hg.tape.trans hb2.tape,hg.output.trans hb2.output,Nat.le_trans hb2.size hg.size,fun k hk hne=>(hg.block k (by omega) hne).trans (hb2.block k hk)⟩
     ·rcases hN with hn|⟨k,h1,h2⟩
      ·exact .inl hn
      ·exact .inr ⟨k,h1,by omega⟩
theorem NT {w:World} {v:Value} {T:List aH} {X:List Nat} (h:oZ w v T X) (hF:iJ T) (c:Nat) (hc:c<1114112) (hok:fJ T c) :
 Calls Tryz.prog 89 #[v,.int .i32 c] w fun e w'=>∃r,e=.returned r∧w'.ownsRow w.heap.size aM 1 r (aC T c).length (aN (aC T c))∧Below w.heap.size w w':=by
 obtain ⟨ra,nt,rc,xa,nx,xc,rfl⟩:=h.shape;obtain ⟨w1,hw1⟩:=ae (w.alloc (.cells #[.slice ra nt rc,.slice xa nx xc] 95));have k1:Is w1 w.heap.size #[.slice ra nt rc,.slice xa nx xc] 95:=by rw [hw1];exact Is.new _ _ _
 have hb1:Below w.heap.size w w1:=by rw [hw1];exact af _
 have hz1:w1.heap.size=w.heap.size+1:=by rw [hw1];simp
 have EX:=aa (wV h hF (T.length+3) 0 c w1 w.heap.size [] (.slice none 0 0) (by omega) hc hok.1 (by rw [List.length_nil,Nat.zero_add];exact hok.2) hb1 (Nat.le_refl _) hb1.size (World.ownsRow_nil _ _ _ _));rw [List.nil_append,show gQ (mapOf T) (T.length+3) c=aC T c from rfl] at EX;have e0:=k1.at 0 rfl;have e1:=k1.at 1 rfl;clear h hF hok;go_enter Tryz.func89,Tryz.ntmps89;go_wp2_with fail;rw [←hw1];clear hw1;refine EX.out.mono ?_;rintro e w2 ⟨r,rfl,ho,hg,_⟩;have hB:=fA hg;obtain ⟨a,cp,rfl,_,_⟩:=ak ho;have HO:=aa ho;clear ho EX;go_wp2;go_ret;exact ⟨_,rfl,HO.out,hb1.trans (hB.mono hb1.size)⟩
def oh (T:List aH) (X:List Nat) (q:aH):Prop:=q.cls=0∧∃a b,q.map=[a,b]∧ai T a=0∧q.code∉X
theorem o_ {w:World} {v:Value} {T:List aH} {X:List Nat} (h:oZ w v T X) (hF:iJ T) (hX:X.length<10000) (q:aH) (_:q.code<1114112) (hqm:∀x∈q.map,x<1114112) {m:Value} (hm:Sl aM w m (aN q.map)) :
 Calls Tryz.prog 126 #[v,.agg #[.int .i32 q.code,.int .i64 q.cls,m]] w fun e w'=>∃b:Bool,e=.returned (.bool b)∧(b=true↔oh T X q)∧Below w.heap.size w w':=by
 have hT:=aa h;obtain ⟨rv,xv,he,_,hxs⟩:=id h;obtain ⟨ra,nt,rc,xa,nx,xc,rfl⟩:=h.shape;have hxe:xv=.slice xa nx xc:=by
  injection he with he;have:=congrArg (fun s:Array Value=>s[1]?) he;simpa using this.symm
 subst hxe;obtain ⟨n,hn⟩:=ae q.map.length;obtain ⟨ma,mc,rfl,_,hx⟩:=bB.qL hm.any hn;obtain ⟨w3,hw3⟩:=ae ((w.alloc (.cells #[.slice ra nt rc,.slice xa nx xc] 95)).alloc (.cells #[.int .i32 q.code,.int .i64 q.cls,.slice ma n mc] 187));have k3:Is w3 w.heap.size #[.slice ra nt rc,.slice xa nx xc] 95:=by rw [hw3];exact (Is.new _ _ _).mono (af _)
 have l3:Is w3 (w.heap.size+1) #[.int .i32 q.code,.int .i64 q.cls,.slice ma n mc] 187:=by rw [hw3];exact Is.new' _ _ _ _ (by simp)
 have hb3:Below w.heap.size w w3:=by rw [hw3];exact ((Below.refl _ w).alloc (Nat.le_refl _) _).alloc (by simp) _
 have HS:=aa (fun (W:World) (E:Below w3.heap.size w3 W)=>GK (w:=W) (jR X) q.code ((hxs.mono hb3).mono E) (by have:=NM X;omega) (Kl X));have hhas:=NL X q.code;generalize places (jR X) q.code=pl at *;have aeY:=aa hhas;have HX:=aa hx;have HN:=aa hn;have HQM:=aa hqm;have g0:=Gr.cell (ag w3) (l3.at 0 rfl);have g1:=Gr.cell (ag w3) (l3.at 1 rfl);have g2:=Gr.cell (ag w3) (l3.at 2 rfl);have g3:=Gr.cell (ag w3) (k3.at 0 rfl);have g4:=Gr.cell (ag w3) (k3.at 1 rfl);have HCP:=aa (show oh T X q↔(q.cls=0∧∃a b,q.map=[a,b]∧ai T a=0∧q.code∉X) from Iff.rfl);clear hxs he hm hx hn hqm hhas h;go_enter Tryz.func126,Tryz.ntmps126;go_wp2_with fail;rw [←hw3];clear hw3;by_cases h1:q.cls=0
 ·have z1:((q.cls:Int)==0)=true:=by simp;omega
  by_cases h2:n=2
  ·have z2:((n:Int)==2)=true:=by simp;omega
   obtain ⟨a,b,hab⟩:∃a b,q.map=[a,b]:=by
    have:=HN.out;rcases hq':q.map with _|⟨a,_|⟨b,_|⟨c,l⟩⟩⟩
    ·rw [hq'] at this;simp at this;omega
    ·rw [hq'] at this;simp at this;omega
    ·exact ⟨a,b,rfl⟩
    ·rw [hq'] at this;simp at this;omega
   obtain ⟨mb,off,rfl,_,hc0⟩:=HX.out 0 (by have:=HN.out;omega);have ea:q.map[0]'(by have:=HN.out;omega)=a:=by simp [hab]
   rw [ea,Nat.add_zero] at hc0;have g7:=Gr.cell (ag w3) (aA hb3 hc0);have ha:a<1114112:=HQM.out a (by rw [hab];simp);have CL:=aa (fun (W:World) (E:Below w3.heap.size w3 W)=>Km ((hT.out.mono hb3).mono E) hF a ha);have HAB:=aa hab;clear hab ea HX;subst h2;by_cases h3:ai T a=0
   ·rw [h3] at CL;have H3:=aa h3;clear h3;refine aF (Array.replicate 27 true) 27 0 mixed (by rfl) ?_;refine ay [0,1,2,3,4,5,6,7,8,9,10,11,12,13,14] 12 rfl (by kernel_rfl) ?_;refine a_ ?_
    iterate 15 (refine aS rfl ?_)
    refine bf ?_
    iterate 15 (go_big_quiet_step (rfl))
    refine az ?_;refine aI 15 (by kernel_rfl) rfl ?_;go_wp2_with fail;refine (CL.out _ (ag _)).mono ?_;rintro e w4 ⟨rfl,hB4⟩;go_wp2_with fail;refine aD hB4 ?_;have kZ:=ah (ag w3) hB4;have k4:=k3.mono kZ;have l4:=l3.mono kZ;have g5:=Gr.cell (Below.refl _ _) (k4.at 1 rfl);have g6:=Gr.cell (Below.refl _ _) (l4.at 0 rfl);refine ay [16,17,18,19,20,21,22] 4 rfl (by kernel_rfl) ?_;refine a_ ?_
    iterate 7 (refine aS rfl ?_)
    refine bf ?_
    iterate 7 (go_big_quiet_step (rfl))
    refine az ?_;refine aI 23 (by kernel_rfl) rfl ?_;go_wp2_with fail;refine (HS.out _ kZ).mono ?_;rintro e w5 ⟨rfl,rZ⟩;go_wp2_with fail;refine aD rZ ?_;refine ay [24,25,26] 0 rfl (by kernel_rfl) ?_;refine a_ ?_
    iterate 3 (refine aS rfl ?_)
    refine bf ?_
    iterate 3 (go_big_quiet_step (rfl))
    refine az ?_;refine aJ [] (by kernel_rfl) ?_;refine tail_nil ?_;go_wp2;go_ret;refine ⟨_,rfl,?_,hb3.trans ((ah kZ rZ).mono hb3.size)⟩;rw [HCP.out];have h5:=aeY.out;constructor
    ·intro hd;refine ⟨h1,a,b,HAB.out,H3.out,fun hc=>?_⟩;have:=h5.2 hc;simp [this] at hd
    ·rintro ⟨_,_,_,_,_,hc⟩;have:¬pl % 2=1:=fun e=>hc (h5.1 e);simp [this]
   ·have z3:((ai T a:Int)==0)=false:=by simp;omega
    have H3:=aa h3;generalize ai T a=ka at CL z3;clear h3;refine aF (Array.replicate 27 true) 27 0 mixed (by rfl) ?_;refine ay [0,1,2,3,4,5,6,7,8,9,10,11,12,13,14] 12 rfl (by kernel_rfl) ?_;refine a_ ?_
    iterate 15 (refine aS rfl ?_)
    refine bf ?_
    iterate 15 (go_big_quiet_step (rfl))
    refine az ?_;refine aI 15 (by kernel_rfl) rfl ?_;go_wp2_with fail;refine (CL.out _ (ag _)).mono ?_;rintro e w4 ⟨rfl,hB4⟩;go_wp2_with fail;refine aD hB4 ?_;have kZ:=ah (ag w3) hB4;have k4:=k3.mono kZ;have l4:=l3.mono kZ;have g5:=Gr.cell (Below.refl _ _) (k4.at 1 rfl);have g6:=Gr.cell (Below.refl _ _) (l4.at 0 rfl);refine ay [16,17,18,19,20,21,22] 4 rfl (by kernel_rfl) ?_;refine a_ ?_
    iterate 7 (refine aS rfl ?_)
    refine bf ?_
    iterate 7 (go_big_quiet_step (rfl))
    refine az ?_;refine aI 23 (by kernel_rfl) rfl ?_;go_wp2_with fail;refine aD (Below.refl _ _) ?_;refine ay [24,25,26] 0 rfl (by kernel_rfl) ?_;refine a_ ?_
    iterate 3 (refine aS rfl ?_)
    refine bf ?_
    iterate 3 (go_big_quiet_step (rfl))
    refine az ?_;refine aJ [] (by kernel_rfl) ?_;refine tail_nil ?_;go_wp2;go_ret;refine ⟨_,rfl,?_,hb3.trans (kZ.mono hb3.size)⟩;rw [HCP.out];constructor
    ·intro hd;cases hd
    ·rintro ⟨_,a',b',h6,h7,_⟩;rw [HAB.out] at h6;cases h6;exact absurd h7 H3.out
  ·have z2:((n:Int)==2)=false:=by simp;omega
   refine aF (Array.replicate 27 true) 27 0 mixed (by rfl) ?_;refine ay [0,1,2,3,4,5,6,7,8,9,10,11,12,13,14] 12 rfl (by kernel_rfl) ?_;refine a_ ?_
   iterate 15 (refine aS rfl ?_)
   refine bf ?_
   iterate 15 (go_big_quiet_step (rfl))
   refine az ?_;refine aI 15 (by kernel_rfl) rfl ?_;go_wp2_with fail;refine aD (Below.refl _ _) ?_;refine ay [16,17,18,19,20,21,22] 4 rfl (by kernel_rfl) ?_;refine a_ ?_
   iterate 7 (refine aS rfl ?_)
   refine bf ?_
   iterate 7 (go_big_quiet_step (rfl))
   refine az ?_;refine aI 23 (by kernel_rfl) rfl ?_;go_wp2_with fail;refine aD (Below.refl _ _) ?_;refine ay [24,25,26] 0 rfl (by kernel_rfl) ?_;refine a_ ?_
   iterate 3 (refine aS rfl ?_)
   refine bf ?_
   iterate 3 (go_big_quiet_step (rfl))
   refine az ?_;refine aJ [] (by kernel_rfl) ?_;refine tail_nil ?_;go_wp2;go_ret;refine ⟨_,rfl,?_,hb3.trans ((ag w3).mono hb3.size)⟩;rw [HCP.out];constructor
   ·intro hd;cases hd
   ·rintro ⟨_,a',b',h6,_⟩;have:=HN.out;rw [h6] at this;exact absurd this h2
 ·have z1:((q.cls:Int)==0)=false:=by simp;omega
  refine aF (Array.replicate 27 true) 27 0 mixed (by rfl) ?_;refine ay [0,1,2,3,4,5,6,7,8,9,10,11,12,13,14] 12 rfl (by kernel_rfl) ?_;refine a_ ?_
  iterate 15 (refine aS rfl ?_)
  refine bf ?_
  iterate 15 (go_big_quiet_step (rfl))
  refine az ?_;refine aI 15 (by kernel_rfl) rfl ?_;go_wp2_with fail;refine aD (Below.refl _ _) ?_;refine ay [16,17,18,19,20,21,22] 4 rfl (by kernel_rfl) ?_;refine a_ ?_
  iterate 7 (refine aS rfl ?_)
  refine bf ?_
  iterate 7 (go_big_quiet_step (rfl))
  refine az ?_;refine aI 23 (by kernel_rfl) rfl ?_;go_wp2_with fail;refine aD (Below.refl _ _) ?_;refine ay [24,25,26] 0 rfl (by kernel_rfl) ?_;refine a_ ?_
  iterate 3 (refine aS rfl ?_)
  refine bf ?_
  iterate 3 (go_big_quiet_step (rfl))
  refine az ?_;refine aJ [] (by kernel_rfl) ?_;refine tail_nil ?_;go_wp2;go_ret;refine ⟨_,rfl,?_,hb3.trans ((ag w3).mono hb3.size)⟩;rw [HCP.out];constructor
  ·intro hd;cases hd
  ·rintro ⟨h6,_⟩;exact absurd h6 h1
theorem yY {T:List aH} {c:Nat} {q:aH} (h:rowOf T c=some q):q∈T∧q.code=c:=by
 refine ⟨List.mem_of_find?_eq_some h,?_⟩;have:=List.find?_some h;simpa using this
theorem GY {T:List aH} {X:List Nat} {c:Nat} {q:aH} (h4:hk c<4) (h:rowOf T c=some q):Prim T X c↔oh T X q:=by
 have hc:=(yY h).2;have hm:mapOf T c=q.map:=by unfold mapOf bL;rw [if_pos h4,h]
 have hk':ai T c=q.cls:=by unfold ai;rw [h]
 unfold Prim oh;rw [hm,hk',hc];constructor
 ·rintro (h5|⟨a,b,h1,h2,h3,h5⟩)
  ·omega
  ·exact ⟨h2,a,b,h1,h3,h5⟩
 ·rintro ⟨h2,a,b,h1,h3,h5⟩;exact .inr ⟨a,b,h1,h2,h3,h5⟩
theorem NU {T:List aH} {X:List Nat} {c:Nat} (h4:hk c<4) (h:rowOf T c=none):¬Prim T X c:=by
 have hm:mapOf T c=[]:=by unfold mapOf bL;rw [if_pos h4,h]
 unfold Prim;rw [hm];rintro (h5|⟨a,b,h1,_⟩)
 ·omega
 ·cases h1
theorem D5 {w:World} {v:Value} {T:List aH} {X:List Nat} (h:oZ w v T X) (hF:iJ T) (hX:X.length<10000) (c:Nat) (hc:c<1114112) :
 Calls Tryz.prog 90 #[v,.int .i32 c] w fun e w'=>∃b:Bool,e=.returned (.bool b)∧(b=true↔Prim T X c)∧Below w.heap.size w w':=by
 obtain ⟨ra,nt,rc,xa,nx,xc,rfl⟩:=h.shape;obtain ⟨w1,hw1⟩:=ae (w.alloc (.cells #[.slice ra nt rc,.slice xa nx xc] 95));have k1:Is w1 w.heap.size #[.slice ra nt rc,.slice xa nx xc] 95:=by rw [hw1];exact Is.new _ _ _
 have hb1:Below w.heap.size w w1:=by rw [hw1];exact af _
 have hz1:w1.heap.size=w.heap.size+1:=by rw [hw1];simp
 by_cases h4:4≤hk c
 ·obtain ⟨a,b,hab⟩:=Cg h4;have HP:=aa (ku (w:=w1) hc hab);clear hab h hF k1;go_enter Tryz.func90,Tryz.ntmps90;go_wp2_with fail;rw [←hw1];clear hw1;refine HP.out.mono ?_;rintro e w2 ⟨rfl,rfl⟩;go_wp2;go_ret;exact ⟨true,rfl,⟨fun _=>.inl h4,fun _=>rfl⟩,hb1⟩
 ·have FD:=aa (vH (h.mono hb1) hF c hc);have HP:=aa (qm (w:=w1) hc (by omega));have hT1:=aa (h.mono hb1);have e0:=k1.at 0 rfl;have e1:=k1.at 1 rfl;clear h;go_enter Tryz.func90,Tryz.ntmps90;go_wp2_with fail;rw [←hw1];clear hw1;refine HP.out.mono ?_;rintro e w2 ⟨⟨a,b,rfl⟩,rfl⟩;go_wp2_with fail;refine FD.out.mono ?_;rintro e w3 ⟨m,rfl,hm,hpm,hB3⟩;obtain ⟨w4,hw4⟩:=ae (w3.alloc (.cells #[.int .i32 (kJ T c).code,.int .i64 (kJ T c).cls,m] 187));have hb4:Below w3.heap.size w3 w4:=by rw [hw4];exact af _
  have k4:Is w4 w3.heap.size #[.int .i32 (kJ T c).code,.int .i64 (kJ T c).cls,m] 187:=by rw [hw4];exact Is.new _ _ _
  have l4:=(k1.mono hB3).mono hb4;obtain ⟨am,nm,cm,rfl,_⟩:=hpm;have kZ:=ah hB3 hb4;cases hr:rowOf T c with
  | none=>
    have hq:kJ T c=⟨0,0,[]⟩:=by unfold kJ;rw [hr];rfl
    have TW:=aa (NU (X:=X) (by omega) hr);rw [hq];clear hq hr FD e0 e1 hm k4 l4 kZ hb4 hw4;go_wp2;go_ret;exact ⟨false,rfl,⟨fun h=>(by cases h),fun h=>absurd h TW.out⟩,hb1.trans ((ah hB3 (af _)).mono hb1.size)⟩
  | some q=>
    have hq:kJ T c=q:=by unfold kJ;rw [hr];rfl
    have HYP:=aa (GY (X:=X) (by omega) hr);have hqm:=(yY hr).1;rw [hq] at hw4 k4 hm;rw [hq];have CO:=aa (o_ (hT1.out.mono kZ) hF hX q (hF.code q hqm) (fun x hx=>hF.XY q hqm x hx) (hm.mono hb4));have f0:=k4.at 0 rfl;have f1:=k4.at 1 rfl;have f2:=k4.at 2 rfl;have f3:=l4.at 0 rfl;have f4:=l4.at 1 rfl;rw [hw4] at f0 f1 f2 f3 f4;clear hq hr FD e0 e1 hm k4 l4 hqm;go_wp2_with fail;rw [←hw4];refine CO.out.mono ?_;rintro e w5 ⟨bb,rfl,hbb,rZ⟩;clear f0 f1 f2 f3 f4 hw4;go_wp2;go_ret;exact ⟨bb,rfl,hbb.trans HYP.out.symm,hb1.trans ((ah kZ rZ).mono hb1.size)⟩
theorem Q5 {w:World} (q:aH) (hq:Go.Cd.rowFine q) (last:Int) (hlt:last<q.code) {m:Value} (hm:Sl aM w m (aN q.map)) :
 Calls Tryz.prog 123 #[.agg #[.int .i32 q.code,.int .i64 q.cls,m],.int .i32 last] w fun e w'=>e=.returned (.string ⟨#[]⟩)∧Below w.heap.size w w':=by
 obtain ⟨h1,h2,h3,h4,h5⟩:=hq;obtain ⟨n,hn⟩:=ae q.map.length;obtain ⟨ma,mc,rfl,_,hx⟩:=bB.qL hm.any hn;obtain ⟨w1,hw1⟩:=ae (w.alloc (.cells #[.int .i32 q.code,.int .i64 q.cls,.slice ma n mc] 187));have k1:Is w1 w.heap.size #[.int .i32 q.code,.int .i64 q.cls,.slice ma n mc] 187:=by rw [hw1];exact Is.new _ _ _
 have hb1:Below w.heap.size w w1:=by rw [hw1];exact af _
 have HO:=aa (ql (w:=w1) q.code h1.1);rw [h4] at HO;have UI:=aa (fun W=>iG (w:=W) q.code (by have:=h1.1;omega));rw [decide_eq_true h1] at UI;have HX:=aa hx;have HN:=aa hn;have H5:=aa h5;rw [←hn] at h3;have e0:=k1.at 0 rfl;have e1:=k1.at 1 rfl;have e2:=k1.at 2 rfl;clear h4 h5 hm hx hn;generalize q.code=c at *;generalize q.cls=l at *;clear h1;go_enter Tryz.func123,Tryz.ntmps123;go_wp2_with fail;rw [←hw1];clear hw1;refine HO.out.mono ?_;rintro e w2 ⟨rfl,rfl⟩;go_wp2_with fail;go_loopw [5,6,16] (fun s5 s6 iv wr=>∃j:Nat,j≤n∧iv=.int .i64 j∧s5=.bool false∧s6=.bool false∧wr=w2) (fun _ _ iv _=>n-(intOf iv).toNat)
 case atStart=>exact ⟨0,Nat.zero_le _,rfl,rfl,rfl,rfl⟩
 case round=>
  obtain ⟨j,hj,rfl,rfl,rfl,rfl⟩:=hrel;by_cases hjn:j<n
  ·have zj:decide ((j:Int)<(n:Int))=true:=by simp;omega
   have hjl:j<q.map.length:=by have:=HN.out;omega
   obtain ⟨b,off,rfl,_,hcl⟩:=HX.out j hjl;have hcl:=aA hb1 hcl;obtain ⟨h6,h7⟩:=H5.out _ (List.getElem_mem hjl);generalize q.map[j]=x at *;have TV:=aa (ql (w:=wr) x h7.1);rw [h6] at TV;have UI2:=aa (iG (w:=wr) x (by have:=h7.1;omega));rw [decide_eq_true h7] at UI2;clear h6 h7;go_wp2_with fail;refine TV.out.mono ?_;rintro e w3 ⟨rfl,rfl⟩;go_wp2_with fail;refine UI2.out.mono ?_;rintro e w4 ⟨rfl,rfl⟩;go_wp2_with fail;go_roundw
   case rel=>exact ⟨j+1,by omega,by simp,by simp⟩
   case measure=>simp [intOf];omega
  ·have zj:decide ((j:Int)<(n:Int))=false:=by simp;omega
   have z1:decide ((c:Int)≤last)=false:=by simp;omega
   have z2:decide ((l:Int)<0)=false:=decide_eq_false (by omega);have z3:decide ((254:Int)<(l:Int))=false:=by simp;omega
   have z4:decide ((2:Int)<(n:Int))=false:=by simp;omega
   go_wp2_with (go_at_call 17;refine (UI.out _).mono ?_;rintro e w3 ⟨rfl,rfl⟩);go_ret;exact ⟨rfl,hb1⟩
end Go.Proofs.YtmpkfkoficehpaaGreatDoor
namespace Go.Cd
section
open Go.RowKit
variable {P : Program} {k : TypeId}
def gU (P:Program) (k:TypeId) (x:Value):Prop:=∃l,keyOf P k x=some l
def dC (P:Program) (k:TypeId) (w:World) (r:Nat) (G:Value→Value→Prop):Prop:=
 ∃(es:Array MapEntry) (ck:Nat),w.heap[r]? = some (.map es ck)∧(∀e∈es.toList,gU P k e.key)∧(∀(i j:Nat) (e e':MapEntry),es[i]? = some e→es[j]? = some e'→e.key=e'.key→i=j)∧∀x v,G x v↔∃e∈es.toList,e.key=x∧e.val=v
theorem dC.block {w w':World} {r:Nat} {G:Value→Value→Prop} (h:dC P k w r G) (hb:w'.heap[r]? = w.heap[r]?):dC P k w' r G:=by
 obtain ⟨es,ck,h1,h2⟩:=h;exact ⟨es,ck,hb.trans h1,h2⟩
theorem dC.lt {w:World} {r:Nat} {G:Value→Value→Prop} (h:dC P k w r G):r<w.heap.size:=by
 obtain ⟨es,ck,h1,_⟩:=h;exact (Array.getElem?_eq_some_iff.1 h1).1
theorem dC.mono {w w':World} {r:Nat} {G:Value→Value→Prop} (h:dC P k w r G) (hb:Below w.heap.size w w'):dC P k w' r G:=h.block (hb.block r h.lt)
theorem dC.new (w:World) (ck:Nat):dC P k (w.alloc (.map #[] ck)) w.heap.size (fun _ _=>False):=
 ⟨#[],ck,heap_alloc_new _ _,by simp,by simp,by simp⟩
theorem dC.one {w:World} {r:Nat} {G:Value→Value→Prop} (h:dC P k w r G) {x u v:Value} (h1:G x u) (h2:G x v):u=v:=by
 obtain ⟨es,ck,_,_,h3,h4⟩:=h;obtain ⟨e,he,e1,e2⟩:=(h4 x u).1 h1;obtain ⟨e',he',Q6,e2'⟩:=(h4 x v).1 h2;obtain ⟨i,hi,ei⟩:=List.mem_iff_getElem.1 he;obtain ⟨j,hj,ej⟩:=List.mem_iff_getElem.1 he';have a1:es[i]? = some e:=by rw [←Array.getElem?_toList,List.getElem?_eq_getElem hi,ei]
 have a2:es[j]? = some e':=by rw [←Array.getElem?_toList,List.getElem?_eq_getElem hj,ej]
 have:=h3 i j e e' a1 a2 (e1.trans Q6.symm);subst this;rw [a1] at a2;cases a2;exact e2.symm.trans e2'
theorem dC.find (K:Maps.Keyed P k) {W:World} {G:Value→Value→Prop} {es:Array MapEntry} (h2:∀e∈es.toList,gU P k e.key) (h4:∀x v,G x v↔∃e∈es.toList,e.key=x∧e.val=v) {x:Value} (hx:gU P k x) :
 ((Instr.findKey k x es.toList).run P W=.ok none W∧∀v,¬G x v)∨∃j e,(Instr.findKey k x es.toList).run P W=.ok (some (j,e.val)) W∧es[j]? = some e∧e.key=x∧G x e.val:=by
 obtain ⟨l,hl⟩:=hx;rcases K.find W hl es.toList h2 with ⟨h5,h6⟩|⟨j,e,h5,h6,h7⟩
 ·refine .inl ⟨h5,fun v hg=>?_⟩;obtain ⟨e,he,e1,_⟩:=(h4 x v).1 hg;exact h6 e he e1
 ·refine .inr ⟨j,e,h5,by rw [←Array.getElem?_toList];exact h6,h7,(h4 x e.val).2 ⟨e,List.mem_of_getElem? h6,h7,rfl⟩⟩
theorem pg (K:Maps.Keyed P k) {t elem:TypeId} (ht:P.underlying t=some (.map k elem)) {w:World} {r:Nat} {G:Value→Value→Prop} (h:dC P k w r G) {x:Value} (hx:gU P k x) {z:Value} (hz:(zeroValue elem).run P w=.ok z w) (c:Bool) :
 ((Instr.lookup t (.map (some r)) x c).run P w=.ok (if c then .tuple #[z,.bool false] else z) w∧∀v,¬G x v)∨∃v,(Instr.lookup t (.map (some r)) x c).run P w=.ok (if c then .tuple #[v,.bool true] else v) w∧G x v:=by
 obtain ⟨es,ck,h1,h2,h3,h4⟩:=h;obtain ⟨l,hl⟩:=id hx;rcases dC.find K (W:=w) h2 h4 hx with ⟨h5,h6⟩|⟨j,e,h5,h6,h7,h8⟩
 ·exact .inl ⟨by simp [Instr.lookup,run_underlying ht,MapKept.run_getObj_map h1,K.check w _ hl,h5,hz,Result.andThen],h6⟩
 ·exact .inr ⟨e.val,by simp [Instr.lookup,run_underlying ht,MapKept.run_getObj_map h1,K.check w _ hl,h5,Result.andThen],h8⟩
def xH (G:Value→Value→Prop) (x v:Value):Value→Value→Prop:=fun y u=>(y=x∧u=v)∨(y≠x∧G y u)
theorem GZ (K:Maps.Keyed P k) {t elem:TypeId} (ht:P.underlying t=some (.map k elem)) {w:World} {r:Nat} {G:Value→Value→Prop} (h:dC P k w r G) {x:Value} (hx:gU P k x) (v:Value) :
 ∃w',(Instr.mapUpdate t (.map (some r)) x v).run P w=.ok () w'∧dC P k w' r (xH G x v)∧w.grownBy w' (some r):=by
 obtain ⟨es,ck,h1,h2,h3,h4⟩:=h;have hlt:r<w.heap.size:=(Array.getElem?_eq_some_iff.1 h1).1;obtain ⟨l,hl⟩:=id hx;have hset:∀o:Obj,({ w with heap:=w.heap.setIfInBounds r o }:World).heap[r]? = some o:=fun o=>by simp [hlt]
 have hgr:∀o:Obj,w.grownBy { w with heap:=w.heap.setIfInBounds r o } (some r):=fun o=>⟨rfl,rfl,rfl,by simp,fun j _ hj=>by
  have:r≠j:=fun e=>hj (by rw [e])
  simp [this]⟩
 rcases dC.find K (W:=w) h2 h4 hx with ⟨h5,h6⟩|⟨j,e,h5,h6,h7,h8⟩
 ·refine ⟨_,by simp [Instr.mapUpdate,run_underlying ht,MapKept.run_getObj_map h1,K.check w _ hl,h5,MapKept.run_setObj_map _ h1,Result.andThen];rfl,⟨_,_,hset _,?_,?_,?_⟩,hgr _⟩
  ·intro e he;rw [Array.toList_push] at he;rcases List.mem_append.1 he with he|he
   ·exact h2 e he
   ·rw [List.mem_singleton.1 he];exact hx
  ·intro i j e e' hi hj he;have hno:∀e∈es.toList,e.key≠x:=fun e he hk=>h6 e.val ((h4 x e.val).2 ⟨e,he,hk,rfl⟩);rw [Array.getElem?_push] at hi hj
   split at hi <;> split at hj
   ·omega
   ·cases hi;exact absurd he.symm (hno e' (by rw [←Array.getElem?_toList] at hj;exact List.mem_of_getElem? hj))
   ·cases hj;exact absurd he (hno e (by rw [←Array.getElem?_toList] at hi;exact List.mem_of_getElem? hi))
   ·exact h3 i j e e' hi hj he
  ·intro y u;unfold xH;rw [Array.toList_push];constructor
   ·rintro (⟨rfl,rfl⟩|⟨hy,hg⟩)
    ·exact ⟨{ key:=y,val:=u,born:=ck },by simp,rfl,rfl⟩
    ·obtain ⟨e,he,e1,e2⟩:=(h4 y u).1 hg;exact ⟨e,by simp [he],e1,e2⟩
   ·rintro ⟨e,he,e1,e2⟩;rcases List.mem_append.1 he with he|he
    ·have hg:=(h4 y u).2 ⟨e,he,e1,e2⟩;refine .inr ⟨fun e3=>?_,hg⟩;subst e3;exact h6 u hg
    ·rw [List.mem_singleton.1 he] at e1 e2;exact .inl ⟨e1.symm,e2.symm⟩
 ·have hj:j<es.size:=(Array.getElem?_eq_some_iff.1 h6).1;have hst:=K.stays w hl;refine ⟨_,by simp [Instr.mapUpdate,run_underlying ht,MapKept.run_getObj_map h1,K.check w _ hl,h5,h6,h7,hst,MapKept.run_setObj_map _ h1,Result.andThen];rfl,⟨_,_,hset _,?_,?_,?_⟩,hgr _⟩
  ·intro e' he;obtain ⟨i,hi,rfl⟩:=List.mem_iff_getElem.1 he;rw [Array.length_toList,Array.size_modify] at hi;rw [Array.getElem_toList,Array.getElem_modify]
   split
   ·exact hx
   ·exact h2 _ (by simp)
  ·intro i i' e1 e2 hi hi' he;rw [Array.getElem?_modify] at hi hi';have key:∀(m:Nat) (y:MapEntry),(if j=m then (es[m]?).map fun e=>{ e with key:=x,val:=v } else es[m]?)=some y→∃y0,es[m]? = some y0∧y0.key=y.key:=by
    intro m y hy
    split at hy
    ·rename_i hm;subst hm;rw [h6] at hy;cases hy;exact ⟨e,h6,h7⟩
    ·exact ⟨y,hy,rfl⟩
   obtain ⟨y1,a1,b1⟩:=key i e1 hi;obtain ⟨y2,a2,b2⟩:=key i' e2 hi';exact h3 i i' y1 y2 a1 a2 (b1.trans (he.trans b2.symm))
  ·intro y u;unfold xH;constructor
   ·rintro (⟨rfl,rfl⟩|⟨hy,hg⟩)
    ·refine ⟨{ e with key:=y,val:=u },?_,rfl,rfl⟩;refine List.mem_iff_getElem.2 ⟨j,by simp [hj],?_⟩;rw [Array.getElem_toList,Array.getElem_modify,if_pos rfl];congr 1;exact (Array.getElem?_eq_some_iff.1 h6).2▸rfl
    ·obtain ⟨e',he,e1,e2⟩:=(h4 y u).1 hg;obtain ⟨i,hi,rfl⟩:=List.mem_iff_getElem.1 he;have hij:j≠i:=fun h=>by
      subst h;have:=(Array.getElem?_eq_some_iff.1 h6).2;rw [Array.getElem_toList,this,h7] at e1;exact hy e1.symm
     refine ⟨_,List.mem_iff_getElem.2 ⟨i,by simpa using hi,rfl⟩,?_,?_⟩
     ·rw [Array.getElem_toList,Array.getElem_modify,if_neg hij];simpa using e1
     ·rw [Array.getElem_toList,Array.getElem_modify,if_neg hij];simpa using e2
   ·rintro ⟨e',he,e1,e2⟩;obtain ⟨i,hi,rfl⟩:=List.mem_iff_getElem.1 he;rw [Array.length_toList,Array.size_modify] at hi;rw [Array.getElem_toList,Array.getElem_modify] at e1 e2;by_cases hij:j=i
    ·rw [if_pos hij] at e1 e2;exact .inl ⟨e1.symm,e2.symm⟩
    ·rw [if_neg hij] at e1 e2;refine .inr ⟨fun h=>hij ?_,(h4 y u).2 ⟨es[i],by simp,e1,e2⟩⟩;exact h3 j i e es[i] h6 (Array.getElem?_eq_getElem hi) (h7.trans (h.symm.trans e1.symm))
theorem ig {w:World} {ops:Array Oper} {rest:List Oper} {o:Oper} {a:Act} {Q:Exit→Act→World→Prop} (hg:o.guard=none) (m x:Operand) (t elem:TypeId) (c:Bool) (ho:o.op=Op.lookup t m x c)
 (K:Maps.Keyed P k) (ht:P.underlying t=some (.map k elem)) {r:Nat} {G:Value→Value→Prop} (h:dC P k w r G) (hm:a.eval m=.map (some r)) {xv:Value} (hx:a.eval x=xv) (hk:gU P k xv) {z:Value} (hz:(zeroValue elem).run P w=.ok z w)
 (h1:(∀v,¬G xv v)→wpList P ops Q rest (a.put o.dst (if c then .tuple #[z,.bool false] else z)) w) (h2:∀v,G xv v→wpList P ops Q rest (a.put o.dst (if c then .tuple #[v,.bool true] else v)) w):wpList P ops Q (o::rest) a w:=by
 refine wpList_plain hg fun K' hK'=>?_;rcases pg K ht h hk hz c with ⟨hr,hn⟩|⟨v,hr,hv⟩
 ·unfold Oper.wp;simp [execOp,ho,hm,hx,hr,Result.andThen];exact hK' _ _ (h1 hn)
 ·unfold Oper.wp;simp [execOp,ho,hm,hx,hr,Result.andThen];exact hK' _ _ (h2 v hv)
theorem jy {w:World} {ops:Array Oper} {rest:List Oper} {o:Oper} {a:Act} {Q:Exit→Act→World→Prop} (hg:o.guard=none) (m x v:Operand) (t elem:TypeId) (ho:o.op=Op.mapUpdate t m x v)
 (K:Maps.Keyed P k) (ht:P.underlying t=some (.map k elem)) {r:Nat} {G:Value→Value→Prop} (h:dC P k w r G) (hm:a.eval m=.map (some r)) {xv vv:Value} (hx:a.eval x=xv) (hv:a.eval v=vv) (hk:gU P k xv)
 (h1:∀w',dC P k w' r (xH G xv vv)→w.grownBy w' (some r)→wpList P ops Q rest (a.put o.dst undef) w'):wpList P ops Q (o::rest) a w:=by
 refine wpList_plain hg fun K' hK'=>?_;obtain ⟨w',hr,r1,r2⟩:=GZ K ht h hk vv;unfold Oper.wp;simp [execOp,ho,hm,hx,hv,hr,Result.andThen];exact hK' _ _ (h1 w' r1 r2)
theorem mapM_some {α β:Type} {f:α→Option β}:∀(l:List α),(∀x∈l,∃y,f x=some y)→∃ys,l.mapM f=some ys
 | [],_=>⟨[],rfl⟩
 | a::l,h=>by
   obtain ⟨y,hy⟩:=h a (by simp);obtain ⟨ys,hys⟩:=mapM_some l fun x hx=>h x (by simp [hx]);exact ⟨y::ys,by simp [List.mapM_cons,hy,hys]⟩
theorem Mw {k e:TypeId} {n:Nat} {q:IntKind} (hk:P.underlying k=some (.array n e)) (he:P.underlying e=some (.int q)) (h1:P.cellsOf e=1) (hn:P.cellsOf k=n) (hkt:P.keyType k=true) {m:Nat} (hm:P.types.size=m+1) (cs:Array Value) (hcs:cs.size=n)
 (hall:∀i,i<n→∃x,cs[i]? = some (.int q x)∧(Lit.int q x).wf=true):gU P k (.agg cs):=by
 have hl:cs.toList.length=n:=by simpa using hcs
 have hmm:∃ys,(List.range n).mapM (fun i=>P.keyLits (m+1) e ((cs.toList.drop (i*1)).take 1))=some ys:=by
  refine mapM_some _ fun i hi=>?_;obtain ⟨x,hx,hw⟩:=hall i (List.mem_range.1 hi);refine ⟨[.int q x],?_⟩;have hi':i<cs.toList.length:=by rw [hl];exact List.mem_range.1 hi
  have e1:(cs.toList.drop (i*1)).take 1=[.int q x]:=by
   rw [Nat.mul_one,List.drop_eq_getElem_cons hi'];have:=(Array.getElem?_eq_some_iff.1 hx).2;simp [this]
  rw [e1];unfold Program.keyLits;simp [he,hw]
 obtain ⟨ys,hys⟩:=hmm;refine ⟨.string (keyBytes ys.flatten),?_⟩;unfold keyOf;have hf:Value.formed P k (.agg cs)=true:=by simp [Value.formed,hk,hcs,hn]
 have hkl:P.keyLits (P.types.size+1) k cs.toList=some ys.flatten:=by
  rw [hm]
  conv=>lhs;unfold Program.keyLits
  simp only [hk];rw [if_pos (by rw [hl,hn]),h1,hys];rfl
 simp only [hk];rw [hkt,hf];simp only [Bool.and_self,if_true];show (P.keyLits (P.types.size+1) k cs.toList).map _=_;rw [hkl];rfl
end
end Go.Cd
namespace Go.Proofs.YtmpkfkoficehpaaGreatDoor
open Go.RowKit Go.Cd
theorem Q7:laidOutB Tryz.prog=true:=by kernel_rfl
theorem Ci:Maps.Keyed Tryz.prog 239:=Maps.Keyed.of_law (deep_law_laid Q7 (m:=4) (by decide) (of_decide_eq_true (by kernel_rfl)) (by kernel_rfl) (by kernel_rfl))
theorem r_:Maps.Keyed Tryz.prog 133:=Maps.Keyed.of_law (deep_law_laid Q7 (m:=4) (by decide) (of_decide_eq_true (by kernel_rfl)) (by kernel_rfl) (by kernel_rfl))
theorem Kr:Maps.Keyed Tryz.prog 192:=Maps.Keyed.of_law (deep_law_laid Q7 (m:=4) (by decide) (of_decide_eq_true (by kernel_rfl)) (by kernel_rfl) (by kernel_rfl))
theorem NV:Maps.Keyed Tryz.prog 21:=Maps.int_keyed Tryz.underlying21
theorem NY {a b:Nat} (ha:a<1114112) (hb:b<1114112):gU Tryz.prog 239 (.agg #[.int .i32 a,.int .i32 b]):=by
 refine Mw (P:=Tryz.prog) (k:=239) (e:=21) (n:=2) (q:=.i32) Tryz.underlying239 Tryz.underlying21 (by kernel_rfl) (by kernel_rfl) (by kernel_rfl) (m:=Tryz.prog.types.size-1) (by kernel_rfl) #[.int .i32 a,.int .i32 b] rfl ?_;intro i hi;have hw:∀x:Nat,x<1114112→(Lit.int .i32 (x:Int)).wf=true:=fun x hx=>by
  have e1:IntKind.i32.min=-2147483648:=by decide
  have e2:IntKind.i32.max=2147483647:=by decide
  simp only [Lit.wf,e1,e2,Bool.and_eq_true,decide_eq_true_eq];omega
 rcases i with _|_|i
 ·exact ⟨a,rfl,hw a ha⟩
 ·exact ⟨b,rfl,hw b hb⟩
 ·omega
end Go.Proofs.YtmpkfkoficehpaaGreatDoor
