/- CedillaProducts: where a text may be cut apart, it has as many texts that are alike as its two parts multiplied; no condition. -/
import Derived.Test.YtmpkfkoficehpaaGreatDoorQ11
set_option maxRecDepth 100000
set_option maxHeartbeats 6400000
namespace Go.Cd
open Go.Proofs.YtmpkfkoficehpaaGreatDoor
theorem Ht {c x:Nat} (h:x∈hparts c):0<hk x∧hk x<4:=by
 have hr:(4352≤x∧x<4371)∨(4449≤x∧x<4470)∨(4520≤x∧x<4547):=by
  have h3:=Nat.mod_lt (c-44032) (show 28 > 0 by decide);have h2:(c-44032) % 588 / 28<21:=by omega
  unfold hparts at h;by_cases h4:hk c=4
  ·rw [if_pos h4] at h;have h1:(c-44032) / 588<19:=by rw [nG] at h4;omega
   clear h4;generalize (c-44032) % 588 / 28=v at *;generalize (c-44032) / 588=l at *;simp only [List.mem_cons,List.not_mem_nil,or_false] at h;omega
  ·rw [if_neg h4] at h;by_cases h5:hk c=5
   ·rw [if_pos h5] at h;have h1:(c-44032) / 588<19∧(c-44032) % 28≠0:=by rw [lJ] at h5;omega
    clear h4 h5;generalize (c-44032) % 588 / 28=v at *;generalize (c-44032) / 588=l at *;generalize (c-44032) % 28=t at *;simp only [List.mem_cons,List.not_mem_nil,or_false] at h;omega
   ·rw [if_neg h5] at h;simp at h
 unfold hk;rcases hr with h|h|h
 ·rw [if_pos h];omega
 ·rw [if_neg (by omega),if_pos h];omega
 ·rw [if_neg (by omega),if_neg (by omega),if_pos h];omega
theorem Rm {T:List aH} {X:List Nat} (hV:aY T X) {x:Nat} (h:0<hk x):rowOf T x=none:=
 nI fun r hr e=>by have:=(hV.fine r hr).2.2.2.1;rw [e] at this;omega
theorem KG {T:List aH} {X:List Nat} (hV:aY T X) {x:Nat} (h:0<hk x) (h4:hk x<4):mapOf T x=[]:=by
 unfold mapOf bL;rw [if_pos h4,Rm hV h]
theorem lT {T:List aH} {X:List Nat} (hV:aY T X) (c:Nat):qZ (mapOf T) (hparts c):=fun _ hx=>KG hV (Ht hx).1 (Ht hx).2
theorem Hu (M:Nat→List Nat) (c:Nat) (h:M c≠[]):steps M 1 [c]=M c:=by
 show df M [c]=M c;unfold df;rw [List.flatMap_cons,if_neg h];simp
theorem xe {T:List aH} {X:List Nat} (hV:aY T X) {c:Nat} (h:4≤hk c):aC T c=hparts c∧fJ T c:=by
 have hm:mapOf T c=dE c:=by unfold mapOf;rw [if_neg (by omega)]
 have hn:dE c≠[]:=fun e=>by have:=vC.1 e;omega
 have hf:aC T c=hparts c:=by
  by_cases h4:hk c=4
  ·have e:dE c=hparts c:=by unfold dE hparts;rw [if_pos h4,if_pos h4]
   have h1:steps (mapOf T) 1 [c]=hparts c:=by rw [Hu _ _ (by rw [hm];exact hn),hm,e]
   rw [Dz (k:=1) (by omega) (by rw [h1];exact lT hV c),h1]
  ·have h5:hk c=5:=by have:=yC c;omega
   have h1:steps (mapOf T) 1 [c]=[c-(c-44032) % 28,4519+(c-44032) % 28]:=by
    rw [Hu _ _ (by rw [hm];exact hn),hm];unfold dE;rw [if_neg h4,if_pos h5]
   have h6:mapOf T (c-(c-44032) % 28)=[4352+(c-44032) / 588,4449+(c-44032) % 588 / 28]:=by
    unfold mapOf;rw [if_neg (by rw [Ml h5];omega),yD h5]
   have h7:mapOf T (4519+(c-44032) % 28)=[]:=lT hV c _ (by unfold hparts;rw [if_neg h4,if_pos h5];simp);have h2:steps (mapOf T) 2 [c]=hparts c:=by
    rw [rT,h1];unfold df hparts;rw [if_neg h4,if_pos h5,List.flatMap_cons,List.flatMap_cons,if_neg (by rw [h6];simp),if_pos h7,h6];rfl
   rw [Dz (k:=2) (by omega) (by rw [h2];exact lT hV c),h2]
 refine ⟨hf,by rw [hf];exact lT hV c,?_⟩;rw [hf];unfold hparts
 split
 ·simp
 split <;> simp
theorem nO {T:List aH} {X:List Nat} (hV:aY T X) (c:Nat):fJ T c:=by
 by_cases h:4≤hk c
 ·exact (xe hV h).2
 ·cases hr:rowOf T c with
  | some r=>
    obtain ⟨h1,h2⟩:=gT hr;rw [←h2];exact hV.full r h1
  | none=>
    have hm:mapOf T c=[]:=by unfold mapOf bL;rw [if_pos (by omega),hr]
    have hf:aC T c=[c]:=iT hm _;refine ⟨by rw [hf];exact fun x hx=>by rw [List.mem_singleton.1 hx];exact hm,by rw [hf];simp⟩
theorem Om {T:List aH} {X:List Nat} (hV:aY T X) {c y:Nat} (h:y∈aC T c):aC T y=[y]:=iT ((nO hV c).1 y h) _
theorem x9 (T:List aH) (c:Nat):aC T c≠[]:=by
 rw [iU];intro e;have:=vE (mapOf T) (T.length+3) [c];rw [e] at this;simp at this
theorem Hw {c x:Nat} (h:x∈dE c):x<55296:=by
 unfold dE at h
 split at h
 ·rename_i h4;have:=nG.1 h4;have h2:(c-44032) % 588 / 28<21:=by omega
  have h1:(c-44032) / 588<19:=by omega
  generalize (c-44032) % 588 / 28=p at *;generalize (c-44032) / 588=q at *;simp only [List.mem_cons,List.not_mem_nil,or_false] at h;omega
 ·split at h
  ·rename_i h5;have h3:=Nat.mod_lt (c-44032) (show 28 > 0 by decide);have h8:c<55204:=(lJ.1 h5).2.1;generalize (c-44032) % 28=p at *;simp only [List.mem_cons,List.not_mem_nil,or_false] at h;omega
  ·simp at h
theorem Oo {T:List aH} {X:List Nat} (hV:aY T X) {c x:Nat} (h:x∈mapOf T c):aP x:=by
 unfold mapOf at h
 split at h
 ·unfold bL at h;cases hr:rowOf T c with
  | none=>rw [hr] at h;simp at h
  | some r=>rw [hr] at h;exact ((hV.fine r (gT hr).1).2.2.2.2 x h).2
 ·have:=Hw h;unfold aP;omega
theorem Cr {T:List aH} {X:List Nat} (hV:aY T X):∀(n:Nat) (l:List Nat),(∀x∈l,aP x)→∀x∈steps (mapOf T) n l,aP x
 | 0,_,h=>h
 | n+1,l,h=>Cr hV n (df (mapOf T) l) fun x hx=>by
   unfold df at hx;obtain ⟨c,hc,hx⟩:=List.mem_flatMap.1 hx
   split at hx
   ·rw [List.mem_singleton.1 hx];exact h c hc
   ·exact Oo hV hx
theorem mY {T:List aH} {X:List Nat} (hV:aY T X) {c y:Nat} (hc:aP c) (h:y∈aC T c):aP y:=by
 rw [iU] at h;exact Cr hV _ [c] (fun x hx=>by rw [List.mem_singleton.1 hx];exact hc) y h
theorem gI {T:List aH} {X:List Nat} (hV:aY T X) (c:Nat):(aC T c).length≤32:=(nO hV c).2
theorem ji {T:List aH} {X:List Nat} (hV:aY T X) (l:List Nat):(l.flatMap (aC T)).length≤32*l.length:=by
 induction l with
 | nil=>simp
 | cons c l ih=>
   have:=gI hV c;rw [List.flatMap_cons,List.length_append,List.length_cons];omega
def nP (T:List aH) (l:List Nat):List Nat:=fZ (ai T) (l.flatMap (aC T))
end Go.Cd
namespace Go.Proofs.YtmpkfkoficehpaaGreatDoor
open Go.RowKit Go.Cd
theorem Ea {c:Nat}:∀(L:List (Nat×Nat)) (f:Nat→Nat),(∀x∈L,x.1≠c)→(L.foldl (fun f x=>si f x.1 x.2) f) c=f c
 | [],_,_=>rfl
 | x::L,f,h=>by
   rw [List.foldl_cons,Ea L _ fun y hy=>h y (by simp [hy])];exact gV _ _ (Ne.symm (h x (by simp)))
theorem Hy {c v:Nat}:∀(L:List (Nat×Nat)) (f:Nat→Nat),(L.map (·.1)).Nodup→(c,v)∈L→(L.foldl (fun f x=>si f x.1 x.2) f) c=v
 | [],_,_,h=>by cases h
 | x::L,f,hn,h=>by
   rw [List.map_cons,List.nodup_cons] at hn;rw [List.foldl_cons];rcases List.mem_cons.1 h with rfl|h
   ·rw [Ea L _ fun y hy e=>hn.1 (List.mem_map.2 ⟨y,hy,e⟩)];exact qz _ _ _
   ·exact Hy L _ hn.2 h
theorem Hz {L:List (Nat×Nat)} {c:Nat} (h:∀x∈L,x.1≠c):iK L c=0:=Ea L _ h
theorem Ct {L:List (Nat×Nat)} {c v:Nat} (hn:(L.map (·.1)).Nodup) (h:(c,v)∈L):iK L c=v:=Hy L _ hn h
theorem uz {T:List aH} (h:rising T):(T.map (·.code)).Nodup:=by
 rw [List.Nodup,List.pairwise_map,List.pairwise_iff_getElem];intro i j hi hj hij;exact Nat.ne_of_lt (qp h hi hj hij)
theorem Cu {T:List aH} (h:rising T) (c:Nat):iK (y8 T) c=ai T c:=by
 have hn:((y8 T).map (·.1)).Nodup:=by
  have:(y8 T).map (·.1)=T.map (·.code):=by simp [y8]
  rw [this];exact uz h
 unfold ai;cases e:rowOf T c with
 | none=>
   refine Hz fun x hx=>?_;obtain ⟨r,hr,rfl⟩:=List.mem_map.1 hx;intro e2;rw [←(show r.code=c from e2),jX h hr] at e;cases e
 | some r=>
   obtain ⟨h1,h2⟩:=gT e;exact Ct hn (List.mem_map.2 ⟨r,h1,by rw [h2]⟩)
theorem H6 {T:List aH} {E:List dZ} (h:rising T) (he:E.map (·.1)=(mapped T).map (·.code)) (c:Nat) :
 (∃i,∃hi:i<E.length,E[i].1=c∧iK (qP E) c=i+1∧∃r∈T,r.code=c∧r.map≠[])∨(iK (qP E) c=0∧bL T c=[]∧∀x∈E,x.1≠c):=by
 have hn:(E.map (·.1)).Nodup:=by
  rw [he];exact ((uz h).sublist ((List.filter_sublist).map _))
 have hn2:((qP E).map (·.1)).Nodup:=by
  have:(qP E).map (·.1)=E.map (·.1):=by
   unfold qP;rw [List.map_map];have:(fun x:dZ×Nat=>x.1.1)=(fun y:dZ=>y.1) ∘ Prod.fst:=rfl;show E.zipIdx.map (fun x=>x.1.1)=_;rw [this,←List.map_map,List.zipIdx_map_fst]
  rw [this];exact hn
 by_cases hx:∃x∈E,x.1=c
 ·obtain ⟨x,hx,rfl⟩:=hx;obtain ⟨i,hi,rfl⟩:=List.mem_iff_getElem.1 hx;have hm:E[i].1∈E.map (·.1):=List.mem_map_of_mem hx;rw [he] at hm;obtain ⟨r,hr,e⟩:=List.mem_map.1 hm;obtain ⟨h1,h2⟩:=List.mem_filter.1 hr;refine .inl ⟨i,hi,rfl,Ct hn2 (List.mem_map.2 ⟨(E[i],i),?_,rfl⟩),r,h1,e,by simpa using h2⟩;rw [List.mem_zipIdx_iff_getElem?];exact List.getElem?_eq_getElem hi
 ·have hx2:∀x∈E,x.1≠c:=fun x h1 h2=>hx ⟨x,h1,h2⟩;refine .inr ⟨Hz fun y hy=>?_,?_,hx2⟩
  ·obtain ⟨z,hz,rfl⟩:=List.mem_map.1 hy;have hz1:=List.mem_zipIdx hz;exact hx2 z.1 (by rw [hz1.2.2];exact List.getElem_mem _)
  ·unfold bL;cases e:rowOf T c with
   | none=>rfl
   | some r=>
     obtain ⟨h1,h2⟩:=gT e;cases em:r.map with
     | nil=>exact em
     | cons a l=>
       exfalso;have hr:r∈mapped T:=List.mem_filter.2 ⟨h1,by simp [em]⟩;have hm:r.code∈(mapped T).map (·.code):=List.mem_map_of_mem hr;rw [←he] at hm;obtain ⟨x,hx,e2⟩:=List.mem_map.1 hm;exact hx2 x hx (e2.trans h2)
theorem ik {w:World} {p:Nat} {T:List aH} {X:List Nat} (h:b_ w p T X) (hV:aY T X) (c:Nat) (hc:c<1114112) :
 Calls Tryz.prog 19 #[.pointer (some ⟨p,0,none⟩),.int .i32 c] w fun e w'=>e=.returned (.int .i64 (ai T c))∧Below w.heap.size w w':=by
 obtain ⟨E,rv,xv,ev,bM,jM,cp,pp,iv,sv,mv,h1,h2,_⟩:=h;have CK:=aa (yZ h2 c hc);rw [Cu hV.rise] at CK;have hlt:ai T c<65536:=by
  rw [←Cu hV.rise];refine G8 (fun x hx=>?_) c;obtain ⟨r,hr,e⟩:=List.mem_map.1 hx;have:=(hV.fine r hr).2.1;rw [←e];exact Nat.lt_trans this (by decide)
 have e2:=h1.is.at 2 rfl;obtain ⟨k,hk⟩:=ae (ai T c);rw [←hk] at CK hlt ⊢;clear h1 h2 hk;go_enter Tryz.func19,Tryz.ntmps19;go_wp2_with (go_at_call 41;refine CK.out.mono ?_;rintro e w6 ⟨rfl,hb6⟩);go_ret;exact ⟨rfl,hb6⟩
theorem zo {w:World} {p:Nat} {T:List aH} {X:List Nat} (h:b_ w p T X) (hV:aY T X) (c:Nat) (hc:c<1114112) (hm:bL T c=[]) :
 Calls Tryz.prog 39 #[.pointer (some ⟨p,0,none⟩),.int .i32 c] w fun e w'=>e=.returned (.tuple #[.agg #[.slice none 0 0,.slice none 0 0,.bool false],.bool false])∧Below w.heap.size w w':=by
 obtain ⟨E,rv,xv,ev,bM,jM,cp,pp,iv,sv,mv,h1,h2,h3,_⟩:=h;have h0:iK (qP E) c=0:=by
  rcases H6 hV.rise h1.lC c with ⟨i,hi,e,_,r,hr,h5,h6⟩|⟨h4,_⟩
  ·unfold bL at hm;rw [←h5,jX hV.rise hr] at hm;exact absurd hm h6
  ·exact h4
 have hb0:=af (w:=w) (.cells #[.slice none 0 0,.slice none 0 0,.bool false] 86);have k0:=Is.new w #[.slice none 0 0,.slice none 0 0,.bool false] 86;have CK:=aa (yZ (h3.mono hb0) c hc);rw [h0] at CK;have e3:=(h1.is.mono hb0).at 3 rfl;clear h1 h2 h3 h0 hm;go_enter Tryz.func39,Tryz.ntmps39;go_wp2_with fail;refine CK.out.mono ?_;rintro e w6 ⟨rfl,hb6⟩;have k6:=k0.mono hb6;have f0:=k6.at 0 rfl;have f1:=k6.at 1 rfl;have f2:=k6.at 2 rfl;have q0:=k6.frozen 0;have q1:=k6.frozen 1;have q2:=k6.frozen 2;have v0:=((k6.set 0 (.slice none 0 0)).set 1 (.slice none 0 0)).set 2 (.bool false);have g0:=v0.at 0 rfl;have g1:=v0.at 1 rfl;have g2:=v0.at 2 rfl;have hfin:=aj (off:=2) (u:=.bool false) (aj (off:=1) (u:=.slice none 0 0) (aj (off:=0) (u:=.slice none 0 0) (ah hb0 hb6) (Nat.le_refl w.heap.size)) (Nat.le_refl w.heap.size)) (Nat.le_refl w.heap.size);clear k0 k6 v0;go_wp2_with fail;exact bodyPost_ret (v:=.tuple #[.agg #[.slice none 0 0,.slice none 0 0,.bool false],.bool false]) (by simp [results,Tryz.results39,go_sem,g0,g1,g2]) rfl ⟨rfl,hfin⟩
structure abd (w:World) (T:List aH) (X:List Nat) (c:Nat) (x:dZ):Prop where
 full:w.ownsRow 0 aM 1 x.2.2.1 (aC T c).length (aN (aC T c))
 maps:w.ownsRow 0 aM 1 x.2.1 (bL T c).length (aN (bL T c))
 pE:x.2.2.2=true↔Prim T X c
theorem xg {w:World} {p:Nat} {T:List aH} {X:List Nat} (h:b_ w p T X) (hV:aY T X) (hl:T.length<1000) (c:Nat) (hc:c<1114112) (hm:bL T c≠[]) :
 Calls Tryz.prog 39 #[.pointer (some ⟨p,0,none⟩),.int .i32 c] w fun e w'=>∃a1 n1 c1 a2 n2 c2 b,e=.returned (.tuple #[.agg #[.slice a1 n1 c1,.slice a2 n2 c2,.bool b],.bool true])∧abd w T X c (c,.slice a1 n1 c1,.slice a2 n2 c2,b)∧Below w.heap.size w w':=by
 obtain ⟨E,rv,xv,ev,bM,jM,cp,pp,iv,sv,mv,h1,h2,h3,_⟩:=h;obtain ⟨i,hi,hic,h0⟩:∃i,∃hi:i<E.length,E[i].1=c∧iK (qP E) c=i+1:=by
  rcases H6 hV.rise h1.lC c with ⟨i,hi,e,e2,_⟩|⟨_,h4,_⟩
  ·exact ⟨i,hi,e,e2⟩
  ·exact absurd h4 hm
 have xK:E.length<1000:=by
  have:=congrArg List.length h1.lC;rw [List.length_map,List.length_map] at this;rw [this];exact Nat.lt_of_le_of_lt (List.length_filter_le _ _) hl
 have hb0:=af (w:=w) (.cells #[.slice none 0 0,.slice none 0 0,.bool false] 86);have k0:=Is.new w #[.slice none 0 0,.slice none 0 0,.bool false] 86;have CK:=aa (yZ (h3.mono hb0) c hc);rw [h0] at CK;have hx:=List.getElem_mem hi;have F1:=h1.full _ hx;have F2:=h1.maps _ hx;have F3:=h1.pE _ hx;obtain ⟨g,cap,rfl,hcap,hg,_,hcell⟩:=dB (f:=Hg) Q9 rfl h1.oC hi;obtain ⟨x,vL⟩:=ae (E[i]);rw [←vL] at hcell F1 F2 F3 hic;rw [hic] at F1 F2 F3;obtain ⟨a1,c1,e1,_,_⟩:=ak F2;obtain ⟨a2,c2,e2,_,_⟩:=ak F1;rw [e1] at F2;rw [e2] at F1;have hfin:abd w T X c (c,.slice a1 (bL T c).length c1,.slice a2 (aC T c).length c2,x.2.2.2):=⟨F1,F2,F3⟩;have c0:=(hcell 0 (by decide)).1;have c1':=(hcell 1 (by decide)).1;have c2':=(hcell 2 (by decide)).1;simp only [Hg,List.getElem?_cons_zero,List.getElem?_cons_succ,e1,e2,Nat.add_zero] at c0 c1' c2';obtain ⟨n1,hn1⟩:∃n,n=(bL T c).length:=⟨_,rfl⟩;obtain ⟨n2,hn2⟩:∃n,n=(aC T c).length:=⟨_,rfl⟩;obtain ⟨b,hb⟩:=ae x.2.2.2;obtain ⟨nE,hnE⟩:∃n,n=E.length:=⟨_,rfl⟩;rw [←hn1,←hn2,←hb] at hfin;rw [←hn1] at c0;rw [←hn2] at c1';rw [←hb] at c2';have H8:=aa hfin;have e3:=(h1.is.mono hb0).at 3 rfl;have hi':i<nE:=by rw [hnE];exact hi
 have akJ:nE<1000:=by rw [hnE];exact xK
 have w1:IntKind.u16.wrap (((i+1:Nat):Int)-1)=(i:Int):=by rw [IntKind.wrap_u16];omega
 have h4':=h1.is;have z:(((i+1:Nat):Int)==0)=false:=by simp;omega
 rw [←hnE] at h4' hcap e3;clear h1 h2 h3 h0 hm hx F1 F2 F3 vL hcell hic e1 e2 hn1 hn2 hb hfin hnE xK hi;obtain ⟨j,hj⟩:=ae (i+1);rw [←hj] at CK w1 z;have hj6:j<65536:=by omega
 clear hj;go_enter Tryz.func39,Tryz.ntmps39;go_wp2_with fail;refine CK.out.mono ?_;rintro e w6 ⟨rfl,hb6⟩;have Rn:=ah hb0 hb6;have k6:=k0.mono hb6;have f0:=k6.at 0 rfl;have f1:=k6.at 1 rfl;have f2:=k6.at 2 rfl;have q0:=k6.frozen 0;have q1:=k6.frozen 1;have q2:=k6.frozen 2;have e4:=(h4'.mono Rn).at 4 rfl;have d0:=aA Rn c0;have d1:=aA Rn c1';have d2:=aA Rn c2';have v0:=((k6.set 0 (.slice a1 n1 c1)).set 1 (.slice a2 n2 c2)).set 2 (.bool b);have g0:=v0.at 0 rfl;have g1:=v0.at 1 rfl;have g2:=v0.at 2 rfl;have hfin:=aa (aj (off:=2) (u:=.bool b) (aj (off:=1) (u:=.slice a2 n2 c2) (aj (off:=0) (u:=.slice a1 n1 c1) Rn (Nat.le_refl w.heap.size)) (Nat.le_refl w.heap.size)) (Nat.le_refl w.heap.size));clear k0 k6 v0 c0 c1' c2' h4' e3 CK;go_wp2_with fail;exact bodyPost_ret (v:=.tuple #[.agg #[.slice a1 n1 c1,.slice a2 n2 c2,.bool b],.bool true]) (by simp [results,Tryz.results39,go_sem,g0,g1,g2]) rfl ⟨a1,n1,c1,a2,n2,c2,b,rfl,H8.out,hfin.out⟩
theorem nQ {w:World} {p:Nat} {T:List aH} {X:List Nat} (h:b_ w p T X) (hV:aY T X) (hl:T.length<1000) (c:Nat) (hc:c<1114112) :
 Calls Tryz.prog 18 #[.pointer (some ⟨p,0,none⟩),.int .i32 c] w fun e w'=>∃r,e=.returned r∧w'.ownsRow w.heap.size aM 1 r (aC T c).length (aN (aC T c))∧Below w.heap.size w w':=by
 have SP:=aa (JQ (w:=w) c hc);by_cases hh:4≤hk c
 ·have hf:=(xe hV hh).1;have hn:hparts c≠[]:=fun e=>by have:=gP.1 e;omega
  have hpos:=List.length_pos_iff.2 hn;rw [hf];obtain ⟨n,hnn⟩:=ae ((hparts c).length);obtain ⟨l,hl2⟩:=ae (aN (hparts c));rw [←hnn] at hpos SP ⊢;rw [←hl2] at SP ⊢;clear hnn hl2 hf hn h;go_enter Tryz.func18,Tryz.ntmps18;go_wp2_with fail;refine SP.out.mono ?_;rintro e w6 ⟨r,rfl,ho,hb6⟩;obtain ⟨a,cap,rfl,_,_⟩:=ak ho;have z:decide (0<n)=true:=by simp;omega
  have HO:=aa ho;clear ho;go_wp2_with fail;go_ret;exact ⟨_,rfl,HO.out,hb6⟩
 ·have hn:hparts c=[]:=gP.2 (by omega);rw [hn] at SP;by_cases hm:bL T c=[]
  ·have hf:aC T c=[c]:=by
    unfold aC;exact iT (by unfold mapOf;rw [if_pos (by omega),hm]) _
   rw [hf];have HD:=aa (fun (W:World) (E:Below w.heap.size w W)=>zo (h.mono E) hV c hc hm);clear hf h hm hn;go_enter Tryz.func18,Tryz.ntmps18;go_wp2_with fail;refine SP.out.mono ?_;rintro e w6 ⟨r,rfl,ho,hb6⟩;obtain ⟨a,cap,rfl,_,_⟩:=ak ho;simp only [List.length_nil];clear ho;go_wp2_with fail;refine (HD.out w6 hb6).mono ?_;rintro e w7 ⟨rfl,j4⟩;have U4:=ah hb6 j4;go_wp2_with fail;go_ret;have ho:=lK (w7.alloc (.cells #[.slice none 0 0,.slice none 0 0,.bool false] 86)) #[.int .i32 (c:Nat)] aM 1 rfl (by decide);have hs:=U4.size;rw [World.size_alloc] at ho;exact ⟨_,rfl,aV ho (by omega),ah U4 (ed _ _)⟩
  ·have HD:=aa (fun (W:World) (E:Below w.heap.size w W)=>xg (h.mono E) hV hl c hc hm);have Z6:=aa (gI hV c);clear h hm hn;go_enter Tryz.func18,Tryz.ntmps18;go_wp2_with fail;refine SP.out.mono ?_;rintro e w6 ⟨r,rfl,ho,hb6⟩;obtain ⟨a,cap,rfl,_,_⟩:=ak ho;simp only [List.length_nil];clear ho;go_wp2_with fail;refine (HD.out w6 hb6).mono ?_;rintro e w7 ⟨a1,n1,c1,a2,n2,c2,b,rfl,hF,j4⟩;have U4:=ah hb6 j4;have k8:=Is.new w7 #[.slice a1 n1 c1,.slice a2 n2 c2,.bool b] 86;have e1:=k8.at 1 rfl;have iZ:=af (w:=w7) (.cells #[.slice a1 n1 c1,.slice a2 n2 c2,.bool b] 86);have CL:=aa (jZ (w:=w7.alloc (.cells #[.slice a1 n1 c1,.slice a2 n2 c2,.bool b] 86)) (aC T c) ((Sl.aW hF.full).mono (ah j4 iZ)) (fC.aW hF.full) (by have:=Z6.out;omega));have abe:=ah U4 iZ;have hs:=abe.size;clear hF;go_wp2_with fail;refine CL.out.mono ?_;rintro e w9 ⟨r,rfl,hr,tL⟩;have HR:=aa hr;clear hr;go_wp2_with fail;go_ret;exact ⟨_,rfl,aV HR.out hs,ah abe tL⟩
abbrev eH:TypeId:=161
abbrev d_:TypeId:=156
def jD (x:Nat×Value):List Value:=[.int .i64 x.1,x.2]
theorem Oq (x:Nat×Value):(jD x).length=2:=rfl
theorem zt:mR Tryz.prog 152 eH (.agg #[.int .i64 0,.slice none 0 0]) 2 32:=⟨rfl,Tryz.underlying152,info_parts (by kernel_rfl)⟩
def U5 (v:Value):Prop:=∃a n c,v=.slice a n c
theorem U5.own {w:World} {base size n:Nat} {e:TypeId} {v:Value} {xs:List Value} (h:w.ownsRow base e size v n xs):U5 v:=by obtain ⟨a,c,rfl,_⟩:=ak h;exact ⟨_,_,_,rfl⟩
theorem H9 {w:World} (x:Nat) (m:Value) (c:Nat) (hx:x<1000000) (hc:c<1000000) :
 Calls Tryz.prog 73 #[.agg #[.int .i64 x,m],.int .i64 c] w fun e w'=>e=.returned (.int .i64 ((x:Int)-c))∧Below w.heap.size w w':=by
 have hb:=af (w:=w) (.cells #[.int .i64 x,m] eH);have k0:=Is.new w #[.int .i64 x,m] eH;have e0:=k0.at 0 rfl;go_enter Tryz.func73,Tryz.ntmps73;go_wp2;go_ret;exact ⟨by simp,hb⟩
def Xf (L:List (Nat×Value)) (c k:Nat) (b:Bool):Prop:=k≤L.length∧(∀t (ht:t<L.length),t<k→L[t].1<c)∧(∀t (ht:t<L.length),k≤t→c≤L[t].1)∧(b=true↔∃hk:k<L.length,L[k].1=c)
theorem Eb {w:World} {base:Nat} {v:Value} {L:List (Nat×Value)} (h:w.ownsRow base eH 2 v L.length (L.flatMap jD)) (hv:∀x∈L,U5 x.2) (hs:L.Pairwise fun a b=>a.1<b.1) (hT:∀r∈L,r.1<1000000) (hl:L.length<1000000) (c:Nat) (hc:c<1000000) :
 Calls Tryz.prog 72 #[v,.int .i64 c,.func (.func 73) #[] #[]] w fun e w'=>
  ∃(k:Nat) (b:Bool),e=.returned (.tuple #[.int .i64 k,.bool b])∧Xf L c k b∧Below w.heap.size w w':=by
 have HX:=aa (fun (i:Nat) (hi:i<L.length)=>dB (f:=jD) Oq rfl h hi);obtain ⟨a,cap,rfl,_,_⟩:=ak h;obtain ⟨n,hn⟩:=ae L.length;have HN:=aa hn;have HV:=aa hv;have HS:=aa (show ∀i j (hi:i<L.length) (hj:j<L.length),i<j→L[i].1<L[j].1 from fun i j hi hj hij=>(List.pairwise_iff_getElem.1 hs) i j hi hj hij);have HT:=aa hT;rw [←hn] at hl ⊢;clear h hn hs hT hv;go_enter Tryz.func72,Tryz.ntmps72;go_wp2
 go_loopg [9,10] n (fun g s7 s8 wr=>∃lo hi:Nat,s7=.int .i64 lo∧s8=.int .i64 hi∧lo≤hi∧hi≤n∧hi-lo≤g∧Below w.heap.size w wr∧(∀t (ht:t<L.length),t<lo→L[t].1<c)∧(∀t (ht:t<L.length),hi≤t→c≤L[t].1))
 case atStart=>exact ⟨0,n,rfl,rfl,Nat.zero_le _,Nat.le_refl _,by omega,Below.refl _ _,fun t _ ht=>absurd ht (Nat.not_lt_zero _),fun t h1 h2=>by have:=HN.out;omega⟩
 case round=>
  obtain ⟨lo,hi,rfl,rfl,hlh,hin,hg,hE,h1,h2⟩:=hrel;have I:=aa (And.intro h1 h2);clear h1 h2;by_cases hlt:lo<hi
  ·obtain ⟨h,hh⟩:=ae ((lo+hi) / 2);have kX:h<L.length:=by have:=HN.out;omega
   have Z7:lo≤h∧h<hi:=by omega
   have e7:((lo:Int)+(hi:Int)) / 2=(h:Int):=by omega
   obtain ⟨g',cap',hsv,_,_,_,hc2⟩:=HX.out h kX;have c0:=aA hE (show w.cell? ⟨g',h*2,none⟩=some (.int .i64 (L[h].1:Nat)) from (hc2 0 (by decide)).1);have c1:=aA hE (show w.cell? ⟨g',h*2+1,none⟩=some L[h].2 from (hc2 1 (by decide)).1);have hcd:=HT.out _ (List.getElem_mem kX);obtain ⟨am,nm,cm,hvv⟩:=HV.out _ (List.getElem_mem kX);rw [hvv] at c1;obtain ⟨y,hy⟩:=ae (L[h].1);rw [←hy] at c0 hcd;have Y1:=aa (fun t (ht:t<L.length) (hth:t<h)=>(show L[t].1<y from by rw [hy];exact HS.out t h ht kX hth));have Y2:=aa (fun t (ht:t<L.length) (hth:h<t)=>(show y<L[t].1 from by rw [hy];exact HS.out h t kX ht hth));have YE:=aa (show ∀t (ht:t<L.length),t=h→L[t].1=y from fun t ht e=>by subst e;exact hy.symm);have F1:=aa (fun W=>H9 (w:=W) y (.slice am nm cm) c hcd hc);injection hsv with hsv _ hcp;subst hcp;subst hsv;clear hc2 hvv hy hh;by_cases hyx:y<c
   ·have zy:decide ((y:Int)-(c:Int)<0)=true:=by simp;omega
    go_wp2_with (go_at_call 73;refine (F1.out _).mono ?_;rintro e w2 ⟨rfl,hB2⟩)
    go_roundg (hi-(h+1))
    case measure=>omega
    case rel=>
     refine ⟨h+1,hi,by simp,rfl,by omega,hin,Nat.le_refl _,ah hE hB2,fun t ht hth=>?_,I.out.2⟩;rcases Nat.lt_or_ge t h with h3|h3
     ·have:=Y1.out t ht h3;omega
     ·have:=YE.out t ht (by omega);omega
   ·have zy:decide ((y:Int)-(c:Int)<0)=false:=by simp;omega
    go_wp2_with (go_at_call 73;refine (F1.out _).mono ?_;rintro e w2 ⟨rfl,hB2⟩)
    go_roundg (h-lo)
    case measure=>omega
    case rel=>
     refine ⟨lo,h,rfl,rfl,by omega,by omega,Nat.le_refl _,ah hE hB2,I.out.1,fun t ht hth=>?_⟩;rcases Nat.lt_or_ge h t with h3|h3
     ·have:=Y2.out t ht h3;omega
     ·have:=YE.out t ht (by omega);omega
  ·have:hi=lo:=by omega
   subst this;by_cases hn:hi<n
   ·have kX:hi<L.length:=by have:=HN.out;omega
    obtain ⟨g',cap',hsv,_,_,_,hc2⟩:=HX.out hi kX;have c0:=aA hE (show w.cell? ⟨g',hi*2,none⟩=some (.int .i64 (L[hi].1:Nat)) from (hc2 0 (by decide)).1);have c1:=aA hE (show w.cell? ⟨g',hi*2+1,none⟩=some L[hi].2 from (hc2 1 (by decide)).1);have hcd:=HT.out _ (List.getElem_mem kX);obtain ⟨am,nm,cm,hvv⟩:=HV.out _ (List.getElem_mem kX);rw [hvv] at c1;obtain ⟨y,hy⟩:=ae (L[hi].1);rw [←hy] at c0 hcd;have HY:=aa hy;have F1:=aa (fun W=>H9 (w:=W) y (.slice am nm cm) c hcd hc);injection hsv with hsv _ hcp;subst hcp;subst hsv;clear hc2 hvv hy;by_cases hyx:y=c
    ·have zy:(((y:Int)-(c:Int))==0)=true:=by simp;omega
     have HYX:=aa hyx;clear hyx;go_wp2_with (go_at_call 73;refine (F1.out _).mono ?_;rintro e w2 ⟨rfl,hB2⟩);go_ret2;exact ⟨hi,true,by first|rfl|simp,⟨by rw [←HN.out];exact hin,I.out.1,I.out.2,⟨fun _=>⟨kX,by rw [←HY.out];exact HYX.out⟩,fun _=>rfl⟩⟩,ah hE hB2⟩
    ·have zy:(((y:Int)-(c:Int))==0)=false:=by simp;omega
     go_wp2_with (go_at_call 73;refine (F1.out _).mono ?_;rintro e w2 ⟨rfl,hB2⟩);go_ret2;exact ⟨hi,false,by first|rfl|simp,⟨by rw [←HN.out];exact hin,I.out.1,I.out.2,⟨fun h=>(by cases h),fun ⟨_,h⟩=>absurd (HY.out.trans h) hyx⟩⟩,ah hE hB2⟩
   ·go_wp2_with (go_at_call 73;trivial);go_ret2;exact ⟨hi,false,by first|rfl|simp,⟨by rw [←HN.out];exact hin,I.out.1,I.out.2,⟨fun h=>(by cases h),fun ⟨hk,_⟩=>absurd hk (by have:=HN.out;omega)⟩⟩,hE⟩
theorem KH {P:Program} {W:World} {ops:Array Oper} {rest:List Oper} {o:Oper} {a:Act} {Q:Exit→Act→World→Prop} (hgd:o.guard=none) (s x:Operand) (t:TypeId)
 (ho:o.op=.call { callee:=.builtin .append,args:=#[s,x],argTypes:=#[t,t] })
 (base:Nat) (e:TypeId) (z:Value) (size bytes:Nat) (hE:mR P t e z size bytes) (hs0:0<size) (_:size≤1000) (_:0<bytes) (Az:bytes≤100000)
 {v:Value} {n:Nat} {xs:List Value} (hs:a.eval s=v) (hown:W.ownsRow base e size v n xs) (hbase:base≤W.heap.size)
 (us:List Value) (tN:∀u∈us,u.oneCell'=true) (ad:Addr) (m c:Nat) (hm:us.length=m*size) (hx:a.eval x=.slice (some ad) m c) (hc:∀j u,us[j]? = some u→W.cell? (ad.add j)=some u) (hn:n+m<1000000)
 (h:∀v' W',W'.ownsRow base e size v' (n+m) (xs++us)→W.grownBy W' v.ownBlock→jV W v v'→wpList P ops Q rest (a.put o.dst v') W'):wpList P ops Q (o::rest) a W:=by
 obtain ⟨hzs,ht,i,hi,hz,hsize,hby⟩:=hE;have hl:us.length=m*i.size:=by rw [hsize];exact hm
 have hbb:(n+m)*bytes≤140737488355328:=by
  have:(n+m)*bytes≤1000000*100000:=Nat.mul_le_mul (by omega) Az;omega
 obtain ⟨v',w',hr,h2,h3,_⟩:=run_append_own (P:=P) W base t o.type e i z size bytes ht hi hz hsize hby hzs hs0 v n xs hown ad m c us hm hc tN (by unfold maxLen;omega) hbb hbase;refine Lib.wpList_append_run _ hgd s x _ _ ho v _ hs hx v' w' hr (h v' w' h2 h3 ?_);rcases Nat.eq_zero_or_pos m with hm0|hm0
 ·have hu0:us=[]:=List.length_eq_zero_iff.1 (by rw [hm,hm0,Nat.zero_mul]);subst hu0;subst hm0;have hr':(Builtin.append_ #[t,t] o.type #[v,.slice (some ad) 0 c]).run P W=.ok v W:=by
   rcases hown.2 with ⟨rfl,rfl⟩|⟨g,cap,cur,rfl,hbg,hg,hnc,hcm,hcs,htake⟩
   ·simp [Builtin.append_,run_underlying ht,sizeOf,typeInfo,hi,Builtin.lenOf,run_firstCells_some (P:=P) W i.size 0 ad 0 c [] hl hc]
   ·simp [Builtin.append_,run_underlying ht,sizeOf,typeInfo,hi,Builtin.lenOf,hnc,Builtin.firstCells,loadCells,loadCellsFrom,storeCells]
  rw [hr'] at hr;injection hr with e1 _;subst e1;exact .inl rfl
 ·rcases hown.2 with ⟨rfl,rfl⟩|⟨g,cap,cur,rfl,hbg,hg,hnc,hcm,hcs,htake⟩
  ·have hr':=run_append_nil (P:=P) W t o.type e i z ht hi hz ad m c us hl hc hm0 (by omega) (by rw [hby];have:=Nat.mul_le_mul (show m≤1000000 by omega) Az;omega);rw [hr'] at hr;injection hr with e1 _;subst e1;exact .inr ⟨_,rfl,Nat.le_refl _⟩
  ·by_cases hroom:n+m≤cap
   ·have hr':=run_append_room (P:=P) W t o.type e i ht hi g n cap cur hg ad m c us hl hc tN hroom (by rw [hm,hsize,hcs,←Nat.add_mul];exact Nat.mul_le_mul_right _ hroom);rw [hr'] at hr;injection hr with e1 _;subst e1;exact .inl rfl
   ·have hr':=run_append_grow (P:=P) W t o.type e i z ht hi hz ⟨g,0,none⟩ n cap xs (by rw [hsize];exact hown.1) (hown.cells (g:=g) rfl) ad m c us hl hc (by omega) (by omega) (growslice_fits (by omega) (by rw [hby];omega));rw [hr'] at hr;injection hr with e1 _;subst e1;exact .inr ⟨_,rfl,Nat.le_refl _⟩
theorem zu {w:World} {base:Nat} {v:Value} {L:List (Nat×Value)} (ho:w.ownsRow base eH 2 v L.length (L.flatMap jD)) (hb:base≤w.heap.size) (hl:L.length<100000) (x:Nat×Value) (hx1:x.2.oneCell'=true) {vb:Nat} (hvb:Is w vb (jD x).toArray eH) :
 Calls Tryz.prog 74 #[v,.int .i64 L.length,.slice (some ⟨vb,0,none⟩) 1 1] w fun e w'=>∃v',e=.returned v'∧w'.ownsRow base eH 2 v' (L.length+1) ((L++[x]).flatMap jD)∧w.grownBy w' v.ownBlock∧jV w v v':=by
 obtain ⟨n,hn⟩:=ae L.length;obtain ⟨xs,hxs⟩:=ae (L.flatMap jD);have HF:=aa (show (L++[x]).flatMap jD=xs++jD x from by rw [List.flatMap_append,hxs];simp);rw [←hn] at hl ⊢;rw [←hn,←hxs] at ho;have hcells:∀(j:Nat) (u:Value),(jD x)[j]? = some u→w.cell? ((⟨vb,0,none⟩:Addr).add j)=some u:=fun j u hj=>by
  have e0:(⟨vb,0,none⟩:Addr).add j=⟨vb,j,none⟩:=by unfold Addr.add;split <;> simp_all
  rw [e0];exact hvb.at j (by simpa using hj)
 have HC:=aa hcells;have HO:=aa ho;have hone:∀u∈jD x,u.oneCell'=true:=fun u hu=>by
  simp only [jD,List.mem_cons,List.not_mem_nil,or_false] at hu;rcases hu with rfl|rfl
  ·rfl
  ·exact hx1
 have Ya:=aa hone;clear hn hxs hcells hone hvb;rw [HF.out];rcases ho.2 with ⟨rfl,h0⟩|⟨g,cap,cur,rfl,_,_,hcap,_⟩
 ·subst h0;clear ho;go_enter Tryz.func74,Tryz.ntmps74;go_wp2_with (refine KH (W:=w) rfl _ _ 152 rfl base eH _ 2 32 zt (by decide) (by decide) (by decide) (by decide) (v:=.slice none 0 0) rfl HO.out hb (jD x) Ya.out ⟨vb,0,none⟩ 1 1 rfl rfl HC.out (by omega) ?_;intro v1 w1 o1 g1 n1;have HR:=aa (And.intro o1 (And.intro g1 n1));clear o1 g1 n1);go_ret;exact ⟨_,rfl,HR.out.1,HR.out.2.1,HR.out.2.2⟩
 ·clear ho;by_cases hnc:n=cap
  ·subst hnc;go_enter Tryz.func74,Tryz.ntmps74;go_wp2_with (refine KH (W:=w) rfl _ _ 152 rfl base eH _ 2 32 zt (by decide) (by decide) (by decide) (by decide) (v:=.slice (some ⟨g,0,none⟩) n n) rfl HO.out hb (jD x) Ya.out ⟨vb,0,none⟩ 1 1 rfl rfl HC.out (by omega) ?_;intro v1 w1 o1 g1 n1;have HR:=aa (And.intro o1 (And.intro g1 n1));clear o1 g1 n1);go_ret;exact ⟨_,rfl,HR.out.1,HR.out.2.1,HR.out.2.2⟩
  ·go_enter Tryz.func74,Tryz.ntmps74;go_wp2_with (refine KH (W:=w) rfl _ _ 152 rfl base eH _ 2 32 zt (by decide) (by decide) (by decide) (by decide) (v:=.slice (some ⟨g,0,none⟩) n cap) rfl HO.out hb (jD x) Ya.out ⟨vb,0,none⟩ 1 1 rfl rfl HC.out (by omega) ?_;intro v1 w1 o1 g1 n1;have HR:=aa (And.intro o1 (And.intro g1 n1));clear o1 g1 n1);go_ret;exact ⟨_,rfl,HR.out.1,HR.out.2.1,HR.out.2.2⟩
section
open Go.RowKit Go.Cd
abbrev dU:=Nat×Value×List Nat
def eX (x:dU):List Value:=[.int .i64 x.1,x.2.1]
theorem ja (x:dU):(eX x).length=2:=rfl
abbrev bX:=Nat×Value×List dU
def kQ (x:bX):List Value:=[.int .i32 x.1,x.2.1,.slice none 0 0,.slice none 0 0,.int .i64 0,.int .i64 0]
theorem j6 (x:bX):(kQ x).length=6:=rfl
theorem U6:mR Tryz.prog 149 d_ (.agg #[.int .i32 0,.slice none 0 0,.slice none 0 0,.slice none 0 0,.int .i64 0,.int .i64 0]) 6 96:=⟨rfl,Tryz.underlying149,info_parts (by kernel_rfl)⟩
def KJ (w:World) (F:Nat) (e:TypeId) (size:Nat) (v:Value) (n:Nat) (xs:List Value):Prop:=w.ownsRow 0 e size v n xs∧∀k,v.ownBlock=some k→k<F
theorem KJ.low {w w':World} {F n size:Nat} {e:TypeId} {v:Value} {xs:List Value} (h:KJ w F e size v n xs) (hb:Below F w w'):KJ w' F e size v n xs:=⟨jC h.1 fun k hk=>hb.block k (h.2 k hk),h.2⟩
theorem KJ.of {w:World} {B n size:Nat} {e:TypeId} {v:Value} {xs:List Value} (h:w.ownsRow B e size v n xs):KJ w w.heap.size e size v n xs:=⟨aV h (Nat.zero_le _),fun k hk=>(h.lt k hk).2⟩
theorem KJ.le {w:World} {F F' n size:Nat} {e:TypeId} {v:Value} {xs:List Value} (h:KJ w F e size v n xs) (hF:F≤F'):KJ w F' e size v n xs:=⟨h.1,fun k hk=>Nat.lt_of_lt_of_le (h.2 k hk) hF⟩
structure mZ (w w':World) (F:Nat) (e:TypeId):Prop where
 size:w.heap.size≤w'.heap.size
 keep:∀k,k<F→lQ w k e→w'.heap[k]? = w.heap[k]?
theorem mZ.Yb {w w':World} {F n size:Nat} {e:TypeId} (h:mZ w w' F e) {v:Value} {xs:List Value} (ho:KJ w F e size v n xs):KJ w' F e size v n xs:=⟨jC ho.1 fun k hk=>h.keep k (ho.2 k hk) (bP ho.1 hk),ho.2⟩
theorem mZ.fD {w w':World} {t e:TypeId} (h:bD w w' t) (hne:e≠t) (F:Nat) (hF:F≤w.heap.size):mZ w w' F e:=⟨h.size,fun k hk hc=>h.keep k (by omega) fun h1=>hne (hc.one h1)⟩
theorem mZ.of_below {w w':World} {F:Nat} {e:TypeId} (h:Below F w w') (hs:w.heap.size≤w'.heap.size):mZ w w' F e:=⟨hs,fun k hk _=>h.block k hk⟩
def uA (w:World) (F:Nat) (r:bX):Prop:=KJ w F eH 2 r.2.1 r.2.2.length (r.2.2.flatMap eX)∧∀x∈r.2.2,KJ w F aM 1 x.2.1 x.2.2.length (aN x.2.2)
theorem uA.keep {w w':World} {F:Nat} {r:bX} (h:uA w F r) (h1:mZ w w' F eH) (h2:mZ w w' F aM):uA w' F r:=⟨h1.Yb h.1,fun x hx=>h2.Yb (h.2 x hx)⟩
theorem uA.le {w:World} {F F':Nat} {r:bX} (h:uA w F r) (hF:F≤F'):uA w F' r:=⟨h.1.le hF,fun x hx=>(h.2 x hx).le hF⟩
structure Ec (w:World) (F G:Nat) (r:bX):Prop where
 row:w.ownsRow F eH 2 r.2.1 r.2.2.length (r.2.2.flatMap eX)
 old:∀x∈r.2.2.dropLast,KJ w G aM 1 x.2.1 x.2.2.length (aN x.2.2)
 last:∀x,r.2.2.getLast? = some x→w.ownsRow G aM 1 x.2.1 x.2.2.length (aN x.2.2)
 fg:F≤G
 gs:G≤w.heap.size
theorem Ec.xL {w:World} {F G:Nat} {r:bX} (h:Ec w F G r):uA w w.heap.size r:=by
 refine ⟨KJ.of h.row,fun x hx=>?_⟩;rcases List.eq_nil_or_concat r.2.2 with e|⟨q,y,e⟩
 ·rw [e] at hx;cases hx
 ·have e':r.2.2=q++[y]:=by simpa using e
  rw [e'] at hx;rcases List.mem_append.1 hx with hx|hx
  ·exact (h.old x (by rw [e'];simpa using hx)).le h.gs
  ·rw [List.mem_singleton.1 hx];exact KJ.of (h.last y (by rw [e'];simp))
theorem Ec.ext {w w':World} {F G:Nat} {r:bX} (h:Ec w F G r) (hb:Below w.heap.size w w'):Ec w' F G r:=
 ⟨aG h.row hb,fun x hx=>(h.old x hx).low (hb.mono h.gs),fun x hx=>aG (h.last x hx) hb,h.fg,Nat.le_trans h.gs hb.size⟩
theorem Ec.iD {w w':World} {F G:Nat} {r:bX} (h:Ec w F G r) {t:TypeId} (hc:bD w w' t) (h1:eH≠t) (h2:aM≠t):Ec w' F G r:=
 ⟨hc.own h.row h1,fun x hx=>(mZ.fD hc h2 G h.gs).Yb (h.old x hx),fun x hx=>hc.own (h.last x hx) h2,h.fg,Nat.le_trans h.gs hc.size⟩
structure Fu (w:World) (B p:Nat) (dv rs:Value) (Rs:List bX) (c:bX) (F G:Nat):Prop where
 is:Is w p #[dv,rs,.slice none 0 0,.bool false] 151
 runs:w.ownsRow B d_ 6 rs (Rs.length+1) ((Rs++[c]).flatMap kQ)
 xL:∀r∈Rs,uA w F r
 cur:Ec w F G c
 low:B≤p
section
variable {w w' : World} {B p : Nat} {dv rs : Value} {Rs : List bX} {c : bX} {F G : Nat}
theorem Fu.ext (h:Fu w B p dv rs Rs c F G) (hb:Below w.heap.size w w'):Fu w' B p dv rs Rs c F G:=
 ⟨h.is.mono hb,aG h.runs hb,fun r hr=>(h.xL r hr).keep (.of_below (hb.mono (Nat.le_trans h.cur.fg h.cur.gs)) hb.size) (.of_below (hb.mono (Nat.le_trans h.cur.fg h.cur.gs)) hb.size),h.cur.ext hb,h.low⟩
theorem Fu.U7 (h:Fu w B p dv rs Rs c F G) {rs':Value} {hd:Nat} (ho:w'.ownsRow B d_ 6 rs' (Rs.length+2) ((Rs++[c]).flatMap kQ++kQ (hd,.slice none 0 0,[]))) (hg:w.grownBy w' rs.ownBlock) :
 Fu (w'.setCell ⟨p,1,none⟩ rs') B p dv rs' (Rs++[c]) (hd,.slice none 0 0,[]) w'.heap.size w'.heap.size:=by
 have c1:=bD.bK h.runs hg;have i1:=c1.is h.is (by decide);have c2:=bD.put (o:=1) i1 rs';have hF:F≤w.heap.size:=Nat.le_trans h.cur.fg h.cur.gs;have sw:=(h.cur.iD c1 (by decide) (by decide)).iD c2 (by decide) (by decide);have hsz:(w'.setCell ⟨p,1,none⟩ rs').heap.size=w'.heap.size:=by simp
 refine ⟨i1.set 1 rs',?_,fun r hr=>?_,⟨World.ownsRow_nil _ _ _ _,by simp,by simp,Nat.le_refl _,by rw [hsz];exact Nat.le_refl _⟩,h.low⟩
 ·have:=c2.own ho (by decide);rw [List.flatMap_append,List.length_append];simpa using this
 ·rcases List.mem_append.1 hr with hr|hr
  ·refine uA.le (((h.xL r hr).keep (.fD c1 (by decide) F hF) (.fD c1 (by decide) F hF)).keep (.fD c2 (by decide) F (Nat.le_trans hF c1.size)) (.fD c2 (by decide) F (Nat.le_trans hF c1.size))) (Nat.le_trans hF c1.size)
  ·rw [List.mem_singleton.1 hr];have:=sw.xL;rw [hsz] at this;exact this
end
theorem H_ {α:Type} (f:α→List Value) (m:Nat) (hf:∀a,(f a).length=m) (Rs:List α) (c c':α) (j:Nat) (u:Value) (_:j<m) (he:(f c).set j u=f c'):((Rs++[c]).flatMap f).set (Rs.length*m+j) u=(Rs++[c']).flatMap f:=by
 rw [List.flatMap_append,List.flatMap_append,List.set_append_right (h:=by rw [Gj f m hf];omega),Gj f m hf,Nat.add_sub_cancel_left];simp [he]
section
variable {w w' : World} {B p : Nat} {dv rs : Value} {Rs : List bX} {F G : Nat}
theorem vM {w w':World} {F B n size:Nat} {e t:TypeId} {v:Value} {xs:List Value} (ho:w.ownsRow B e size v n xs) (hg:w.grownBy w' v.ownBlock) (hF:F≤B) (hs:F≤w.heap.size):mZ w w' F t:=
 ⟨hg.size,fun k hk _=>hg.block k (by omega) fun e1=>by have:=(ho.lt k e1.symm).1;omega⟩
theorem Fu.Ro {hd:Nat} {lv:Value} {Ls:List dU} {g k cap:Nat} (h:Fu w B p dv (.slice (some ⟨g,0,none⟩) k cap) Rs (hd,lv,Ls) F G) {Ot:Value} {n:Nat} (ho:w'.ownsRow F eH 2 Ot (Ls.length+1) (Ls.flatMap eX++eX (n,.slice none 0 0,[]))) (hg:w.grownBy w' lv.ownBlock) :
 Fu (w'.setCell ⟨g,Rs.length*6+1,none⟩ Ot) B p dv (.slice (some ⟨g,0,none⟩) k cap) Rs (hd,Ot,Ls++[(n,.slice none 0 0,[])]) F w'.heap.size:=by
 have hF:F≤w.heap.size:=Nat.le_trans h.cur.fg h.cur.gs;have c1:=bD.bK h.cur.row hg;have hr1:=c1.own h.runs (by decide);obtain ⟨cs,hcs⟩:=bP hr1 (k:=g) rfl;have c2:=bD.put (o:=Rs.length*6+1) (⟨hcs⟩:Is w' g cs d_) Ot;have hsz:(w'.setCell ⟨g,Rs.length*6+1,none⟩ Ot).heap.size=w'.heap.size:=by simp
 have hk:k=Rs.length+1:=by
  obtain ⟨_,_,e,_⟩:=ak hr1;injection e with _ e _
 have sw:=h.cur;refine ⟨c2.is (c1.is h.is (by decide)) (by decide),?_,fun r hr=>?_,⟨?_,fun x hx=>?_,fun x hx=>?_,?_,by rw [hsz];exact Nat.le_refl _⟩,h.low⟩
 ·have:=(hk▸hr1).stored (Rs.length*6+1) Ot;rw [H_ kQ 6 j6 Rs (hd,lv,Ls) (hd,Ot,Ls++[(n,.slice none 0 0,[])]) 1 Ot (by decide) rfl] at this;rw [hk];exact this.1
 ·exact ((h.xL r hr).keep (vM sw.row hg (Nat.le_refl _) hF) (.fD c1 (by decide) F hF)).keep (.fD c2 (by decide) F (Nat.le_trans hF c1.size)) (.fD c2 (by decide) F (Nat.le_trans hF c1.size))
 ·have:=c2.own ho (by decide);rw [List.flatMap_append,List.length_append];simpa using this
 ·rw [List.dropLast_concat] at hx;have h1:=(sw.xL).2 x hx;exact (mZ.fD c2 (by decide) _ (Nat.le_refl _)).Yb (((mZ.fD c1 (by decide) _ (Nat.le_refl _)).Yb h1).le c1.size)
 ·rw [List.getLast?_concat] at hx;cases hx;exact World.ownsRow_nil _ _ _ _
 ·exact Nat.le_trans hF c1.size
theorem Fu.U8 {hd:Nat} {Ls:List dU} {n:Nat} {v v':Value} {l:List Nat} {gl k cap:Nat} (h:Fu w B p dv rs Rs (hd,.slice (some ⟨gl,0,none⟩) k cap,Ls++[(n,v,l)]) F G) {m:Nat} (ho:w'.ownsRow G aM 1 v' (l++[m]).length (aN (l++[m]))) (hg:w.grownBy w' v.ownBlock) :
 Fu (w'.setCell ⟨gl,Ls.length*2+1,none⟩ v') B p dv rs Rs (hd,.slice (some ⟨gl,0,none⟩) k cap,Ls++[(n,v',l++[m])]) F G:=by
 have sw:=h.cur;have hF:F≤w.heap.size:=Nat.le_trans sw.fg sw.gs;have hlast:=sw.last (n,v,l) (by simp);have c1:=bD.bK hlast hg;have hr1:=c1.own sw.row (by decide);obtain ⟨cs,hcs⟩:=bP hr1 (k:=gl) rfl;have c2:=bD.put (o:=Ls.length*2+1) (⟨hcs⟩:Is w' gl cs eH) v';have hgl:F≤gl:=(hr1.lt gl rfl).1;have hk:k=Ls.length+1:=by
  obtain ⟨_,_,e,_⟩:=ak hr1;injection e with _ e _;simpa using e
 have b2:Below F w' (w'.setCell ⟨gl,Ls.length*2+1,none⟩ v'):=(Below.refl _ _).setCell hgl v';refine ⟨c2.is (c1.is h.is (by decide)) (by decide),?_,fun r hr=>?_,⟨?_,fun x hx=>?_,fun x hx=>?_,sw.fg,by have:=sw.gs;have:=c1.size;simp;omega⟩,h.low⟩
 ·have:=c2.own (c1.own h.runs (by decide)) (by decide);rw [List.flatMap_append] at this ⊢;exact this
 ·exact ((h.xL r hr).keep (.fD c1 (by decide) F hF) (vM hlast hg sw.fg hF)).keep (.of_below b2 b2.size) (.of_below b2 b2.size)
 ·have h3:w'.ownsRow F eH 2 (.slice (some ⟨gl,0,none⟩) k cap) k ((Ls++[(n,v,l)]).flatMap eX):=by
   have:=hr1;rw [show (hd,Value.slice (some ⟨gl,0,none⟩) k cap,Ls++[(n,v,l)]).2.2.length=k by simp [hk]] at this;exact this
  have:=h3.stored (Ls.length*2+1) v';rw [H_ eX 2 ja Ls (n,v,l) (n,v',l++[m]) 1 v' (by decide) rfl] at this;rw [show (hd,Value.slice (some ⟨gl,0,none⟩) k cap,Ls++[(n,v',l++[m])]).2.2.length=k by simp [hk]];exact this.1
 ·simp only [List.dropLast_concat] at hx;have h1:=sw.old x (by simpa using hx);exact (mZ.fD c2 (by decide) G (Nat.le_trans sw.gs c1.size)).Yb ((vM hlast hg (Nat.le_refl _) sw.gs).Yb h1)
 ·simp only [List.getLast?_concat] at hx;cases hx;exact c2.own ho (by decide)
end
end
end Go.Proofs.YtmpkfkoficehpaaGreatDoor
namespace Go.Cd
section
section
variable (K : Nat → Nat)
theorem Ia {a:Nat}:∀(B x y:List Nat),(∀b∈B,swp K a b)→fZ K (x++a::(B++y))=fZ K (x++(B++a::y))
 | [],_,_,_=>rfl
 | b::B,x,y,h=>by
   have h1:=vK K (h b (by simp)) (B++y) x;have h2:=Ia B (x++[b]) y (fun c hc=>h c (by simp [hc]));simp only [List.append_assoc,List.singleton_append] at h2;rw [List.cons_append,h1,h2];rfl
theorem MG:∀(A B x y:List Nat),(∀a∈A,∀b∈B,swp K a b)→fZ K (x++(A++(B++y)))=fZ K (x++(B++(A++y)))
 | [],_,_,_,_=>rfl
 | a::A,B,x,y,h=>by
   have h1:=MG A B (x++[a]) y (fun c hc b hb=>h c (by simp [hc]) b hb);have h2:=Ia K B x (A++y) (fun b hb=>h a (by simp) b hb);simp only [List.append_assoc,List.singleton_append] at h1;rw [List.cons_append,h1,h2];rfl
def up (l:List Nat):Prop:=l.Pairwise fun a b=>K a≤K b
theorem zw:∀{l:List Nat},up K l→dP K l
 | [],_=>trivial
 | [_],_=>trivial
 | a::b::l,h=>by
   unfold up at h;rw [List.pairwise_cons] at h;refine ⟨?_,zw h.2⟩;have:=h.1 b (by simp);unfold swp;omega
theorem Ou {l m:List Nat}:dP K l→dP K m→(∀c,m.head? = some c→K c=0)→dP K (l++m):=by
 intro h1 h2 h0
 induction l with
 | nil=>exact h2
 | cons a l ih=>
   cases l with
   | nil=>
     cases m with
     | nil=>trivial
     | cons c m=>exact ⟨by unfold swp;have:=h0 c rfl;omega,h2⟩
   | cons b l=>exact ⟨h1.1,ih h1.2⟩
end
end
section
section
variable (K : Nat → Nat)
def eQ (l m:List Nat):Prop:=l.Perm m∧∀x y,fZ K (x++(l++y))=fZ K (x++(m++y))
variable {K}
theorem eQ.refl (l:List Nat):eQ K l l:=⟨.refl _,fun _ _=>rfl⟩
theorem eQ.trans {l m n:List Nat} (h:eQ K l m) (k:eQ K m n):eQ K l n:=⟨h.1.trans k.1,fun x y=>(h.2 x y).trans (k.2 x y)⟩
theorem eQ.len {l m:List Nat} (h:eQ K l m):m.length=l.length:=h.1.length_eq.symm
theorem eQ.mem {l m:List Nat} (h:eQ K l m) {x:Nat}:x∈m↔x∈l:=h.1.mem_iff.symm
theorem eQ.app {l m l' m':List Nat} (h:eQ K l m) (k:eQ K l' m'):eQ K (l++l') (m++m'):=by
 refine ⟨h.1.append k.1,fun x y=>?_⟩;have h1:=h.2 x (l'++y);have h2:=k.2 (x++m) y;simp only [List.append_assoc] at h1 h2 ⊢;rw [h1,h2]
theorem eQ.rot {A B:List Nat} (h:∀a∈A,∀b∈B,swp K a b):eQ K (A++B) (B++A):=by
 refine ⟨List.perm_append_comm,fun x y=>?_⟩;have:=MG K A B x y h;simp only [List.append_assoc] at this ⊢;exact this
theorem x_ {l:List Nat} {a:Nat} (h:a∈l):∃z,l.getLast? = some z:=by
 have hn:l≠[]:=fun e=>by rw [e] at h;cases h
 exact ⟨_,List.getLast?_eq_some_getLast hn⟩
theorem Yc:up K []:=List.Pairwise.nil
theorem Yd (a:Nat):up K [a]:=by unfold up;simp
theorem aR {l m:List Nat}:up K (l++m)↔up K l∧up K m∧∀a∈l,∀b∈m,K a≤K b:=by unfold up;exact List.pairwise_append
theorem yf {l:List Nat} (h:up K l) {a z:Nat} (hz:l.getLast? = some z) (ha:a∈l):K a≤K z:=by
 obtain ⟨l',rfl⟩:∃l',l=l'++[z]:=by
  have hn:l≠[]:=fun e=>by rw [e] at ha;cases ha
  refine ⟨l.dropLast,?_⟩;rw [List.getLast?_eq_some_getLast hn] at hz;injection hz with hz;rw [←hz,List.dropLast_concat_getLast]
 rcases List.mem_append.1 ha with ha|ha
 ·exact (aR.1 h).2.2 a ha z (by simp)
 ·rw [List.mem_singleton.1 ha];exact Nat.le_refl _
theorem yg {l:List Nat} (h:up K l) {a z:Nat} (hz:l.head? = some z) (ha:a∈l):K z≤K a:=by
 cases l with
 | nil=>cases ha
 | cons b l=>
   cases hz;rcases List.mem_cons.1 ha with rfl|ha
   ·exact Nat.le_refl _
   ·unfold up at h;exact (List.pairwise_cons.1 h).1 a ha
theorem gW {L1 L2 R1 R2 M1 M2:List Nat} (hL:up K (L1++L2)) (hR:up K (R1++R2)) (pos:∀x∈R1,0<K x)
 (h1:∀a b,L1.getLast? = some a→R2.head? = some b→K a≤K b) (h2:∀a b,L2.head? = some a→R1.getLast? = some b→K b<K a)
 (s1:eQ K (L1++R1) M1) (s2:eQ K (L2++R2) M2) (u1:up K M1) (u2:up K M2):eQ K (L1++L2++(R1++R2)) (M1++M2)∧up K (M1++M2):=by
 have f1:∀a∈L1,∀b∈R2,K a≤K b:=fun a ha b hb=>by
  obtain ⟨z,hz⟩:=x_ ha;obtain ⟨y,hy⟩:∃y,R2.head? = some y:=by
   cases R2 with
   | nil=>cases hb
   | cons y R2=>exact ⟨y,rfl⟩
  have:=yf (aR.1 hL).1 hz ha;have:=h1 z y hz hy;have:=yg (aR.1 hR).2.1 hy hb;omega
 have f2:∀a∈L2,∀b∈R1,K b<K a:=fun a ha b hb=>by
  obtain ⟨z,hz⟩:=x_ hb;obtain ⟨y,hy⟩:∃y,L2.head? = some y:=by
   cases L2 with
   | nil=>cases ha
   | cons y L2=>exact ⟨y,rfl⟩
  have:=yf (aR.1 hR).1 hz hb;have:=h2 y z hy hz;have:=yg (aR.1 hL).2.1 hy ha;omega
 have r:eQ K (L2++R1) (R1++L2):=eQ.rot fun a ha b hb=>⟨pos b hb,f2 a ha b hb⟩;refine ⟨?_,aR.2 ⟨u1,u2,fun a ha b hb=>?_⟩⟩
 ·have h3:=(eQ.refl (K:=K) L1).app (r.app (eQ.refl R2));have h4:=s1.app s2;refine eQ.trans ?_ h4;simpa only [List.append_assoc] using h3
 ·have ha:=s1.mem.1 ha;have hb:=s2.mem.1 hb;rcases List.mem_append.1 ha with ha|ha <;> rcases List.mem_append.1 hb with hb|hb
  ·exact (aR.1 hL).2.2 a ha b hb
  ·exact f1 a ha b hb
  ·exact Nat.le_of_lt (f2 b hb a ha)
  ·exact (aR.1 hR).2.2 a ha b hb
theorem Ib {X Y:List Nat} {c:Nat} (h:up K (X++Y)) (pos:0<K c) (h1:∀a,X.getLast? = some a→K a≤K c) (h2:∀b,Y.head? = some b→K c<K b):eQ K (X++Y++[c]) (X++c::Y)∧up K (X++c::Y):=by
 have hY:∀b∈Y,K c<K b:=fun b hb=>by
  cases Y with
  | nil=>cases hb
  | cons y Y=>
    have:=h2 y rfl;have:=yg (aR.1 h).2.1 rfl hb;omega
 refine ⟨?_,?_⟩
 ·have:=(eQ.refl (K:=K) X).app (eQ.rot (K:=K) (A:=Y) (B:=[c]) fun a ha b hb=>by rw [List.mem_singleton.1 hb];exact ⟨pos,hY a ha⟩);simpa only [List.append_assoc,List.singleton_append] using this
 ·refine aR.2 ⟨(aR.1 h).1,?_,fun a ha b hb=>?_⟩
  ·unfold up;rw [List.pairwise_cons];exact ⟨fun b hb=>Nat.le_of_lt (hY b hb),(aR.1 h).2.1⟩
  ·rcases List.mem_cons.1 hb with rfl|hb
   ·obtain ⟨z,hz⟩:=x_ ha;exact Nat.le_trans (yf (aR.1 h).1 hz ha) (h1 z hz)
   ·exact (aR.1 h).2.2 a ha b hb
theorem Rp {X Y:List Nat} {c:Nat} (h:up K (X++Y)) (pos:∀x∈X,0<K x) (h1:∀a,X.getLast? = some a→K a<K c) (h2:∀b,Y.head? = some b→K c≤K b):eQ K (c::(X++Y)) (X++c::Y)∧up K (X++c::Y):=by
 have hX:∀b∈X,K b<K c:=fun b hb=>by
  obtain ⟨z,hz⟩:=x_ hb;exact Nat.lt_of_le_of_lt (yf (aR.1 h).1 hz hb) (h1 z hz)
 refine ⟨?_,?_⟩
 ·have:=(eQ.rot (K:=K) (A:=[c]) (B:=X) fun a ha b hb=>by rw [List.mem_singleton.1 ha];exact ⟨pos b hb,hX b hb⟩).app (eQ.refl Y);simpa only [List.append_assoc,List.singleton_append,List.cons_append,List.nil_append] using this
 ·refine aR.2 ⟨(aR.1 h).1,?_,fun a ha b hb=>?_⟩
  ·unfold up;rw [List.pairwise_cons];refine ⟨fun b hb=>?_,(aR.1 h).2.1⟩;cases Y with
   | nil=>cases hb
   | cons y Y=>exact Nat.le_trans (h2 y rfl) (yg (aR.1 h).2.1 rfl hb)
  ·rcases List.mem_cons.1 hb with rfl|hb
   ·exact Nat.le_of_lt (hX a ha)
   ·exact (aR.1 h).2.2 a ha b hb
end
theorem Ov (A Z:List Nat) (x y:Nat):((A++x::y::Z).set A.length y).set (A.length+1) x=A++y::x::Z:=by
 rw [List.set_append_right (h:=Nat.le_refl _),Nat.sub_self,List.set_cons_zero,List.set_append_right (h:=by omega),show A.length+1-A.length=1 from by omega];rfl
end
def xM (n c:Nat) (Ls:List (Nat×List Nat)):List (Nat×List Nat):=
 match Ls.getLast? with
 | some (m,l)=>if m=n then Ls.dropLast++[(m,l++[c])] else Ls++[(n,[c])]
 | none=>Ls++[(n,[c])]
abbrev cO:=Nat×List (Nat×List Nat)
def A9 (K:Nat→Nat) (rs:List cO) (c:Nat):List cO:=
 if K c=0 then rs++[(c,[])] else rs.dropLast++[((rs.getLastD (0,[])).1,xM (K c) c (rs.getLastD (0,[])).2)]
def bu (K:Nat→Nat) (l:List Nat):List cO:=l.foldl (A9 K) [(0,[])]
theorem Rq {K:Nat→Nat} {l:List Nat} {j:Nat} (hj:j<l.length):bu K (l.take (j+1))=A9 K (bu K (l.take j)) l[j]:=by
 unfold bu;rw [List.take_succ_eq_append_getElem hj,List.foldl_append];rfl
theorem Cv {n c m:Nat} {l:List Nat} {Ls:List (Nat×List Nat)} (h:m=n):xM n c (Ls++[(m,l)])=Ls++[(m,l++[c])]:=by
 unfold xM;rw [List.getLast?_concat];simp [h]
theorem zz {n c:Nat} {Ls:List (Nat×List Nat)} (h:∀x,Ls.getLast? = some x→x.1≠n):xM n c Ls=Ls++[(n,[c])]:=by
 unfold xM
 split
 ·rename_i m l e;rw [if_neg (h _ e)]
 ·rfl
theorem Ic {K:Nat→Nat} {rs:List cO} {c:Nat} (h:K c=0):A9 K rs c=rs++[(c,[])]:=by unfold A9;rw [if_pos h]
theorem Cw {K:Nat→Nat} {rs:List cO} {r:cO} {c:Nat} (h:K c≠0):A9 K (rs++[r]) c=rs++[(r.1,xM (K c) c r.2)]:=by
 unfold A9;rw [if_neg h,List.dropLast_concat,List.getLastD_concat]
theorem Ie {K:Nat→Nat}:∀{l:List Nat},dP K l→∀{j:Nat} (hj:j+1<l.length),K l[j+1]=0∨K l[j]≤K l[j+1]
 | [],_,_,hj=>absurd hj (by simp)
 | [_],_,_,hj=>absurd hj (by simp)
 | a::b::l,h,0,_=>by
   have:=h.1;unfold swp at this;simp only [List.getElem_cons_zero,List.getElem_cons_succ,Nat.zero_add];omega
 | a::b::l,h,j+1,hj=>by
   have:=Ie h.2 (j:=j) (by simpa using hj);simpa using this
end Go.Cd
namespace Go.Proofs.YtmpkfkoficehpaaGreatDoor
open Go.RowKit Go.Cd
def gy (Ls:List dU):List Nat:=Ls.map fun x=>x.2.2.length+1
theorem Ow {Ls:List dU} {j:Nat} (hj:j<Ls.length):gy (Ls.take (j+1))=gy (Ls.take j)++[Ls[j].2.2.length+1]:=by
 rw [List.take_succ_eq_append_getElem hj];unfold gy;rw [List.map_append];rfl
theorem zA (Ls:List dU):(gy Ls).length=Ls.length:=by simp [gy]
theorem zB {w:World} {F:Nat} {hd:Nat} {la:Option Addr} {ln lc:Nat} {Ls:List dU} (h:uA w F (hd,.slice la ln lc,Ls)) (hl:Ls.length<10000) (hm:∀x∈Ls,x.2.2.length<10000) (a1 a2:Option Addr) (n1 c1 n2 c2:Nat) (b3 fr:Int) :
 Calls Tryz.prog 76 #[.agg #[.int .i32 hd,.slice la ln lc,.slice a1 n1 c1,.slice a2 n2 c2,.int .i64 b3,.int .i64 fr]] w fun e w'=>∃v,e=.returned v∧w'.ownsRow w.heap.size bq 1 v Ls.length (ds (gy Ls))∧Below w.heap.size w w':=by
 have hrow:=h.1.1;have hln:ln=Ls.length:=by
  obtain ⟨_,_,e,_⟩:=ak hrow;injection e with _ e _
 subst hln;have HX:=aa (fun (i:Nat) (hi:i<Ls.length)=>dB (f:=eX) ja rfl hrow hi);have HS:=aa (fun x (hx:x∈Ls)=>ak (h.2 x hx).1);have HM:=aa hm;obtain ⟨n,hn⟩:=ae Ls.length;have HN:=aa hn;have hb1:=af (w:=w) (.cells #[.int .i32 hd,.slice la Ls.length lc,.slice a1 n1 c1,.slice a2 n2 c2,.int .i64 b3,.int .i64 fr] d_);have k1:=Is.new w #[.int .i32 hd,.slice la Ls.length lc,.slice a1 n1 c1,.slice a2 n2 c2,.int .i64 b3,.int .i64 fr] d_;have e1:=k1.at 1 rfl;rw [←hn] at hl ⊢;rw [←hn] at hb1 k1 e1;clear h hrow hm hn;go_enter Tryz.func76,Tryz.ntmps76;go_wp2_with fail;generalize w.alloc (.cells #[.int .i32 hd,.slice la n lc,.slice a1 n1 c1,.slice a2 n2 c2,.int .i64 b3,.int .i64 fr] d_)=w1 at *;go_loopw [3,5,9] (fun ov _ iv wr=>∃j:Nat,j≤n∧iv=.int .i64 j∧wr.ownsRow w.heap.size bq 1 ov j (ds (gy (Ls.take j)))∧Below w.heap.size w wr) (fun _ _ iv _=>n-(intOf iv).toNat)
 case atStart=>exact ⟨0,Nat.zero_le _,rfl,World.ownsRow_nil _ _ _ _,hb1⟩
 case round=>
  obtain ⟨j,hj,rfl,ho,hE⟩:=hrel;by_cases hjn:j<n
  ·have zj:decide ((j:Int)<(n:Int))=true:=by simp;omega
   have hjl:j<Ls.length:=by have:=HN.out;omega
   obtain ⟨g,cap',hsv,_,_,_,hc⟩:=HX.out j hjl;injection hsv with hsv _ hcp;subst hcp;subst hsv;have hm1:=HM.out _ (List.getElem_mem hjl);obtain ⟨ya,yc,hyv,_,_⟩:=HS.out _ (List.getElem_mem hjl);have hbt:=Ow hjl;obtain ⟨x,hx⟩:=ae (Ls[j]);rw [←hx] at hc hm1 hyv hbt;obtain ⟨ml,kX⟩:=ae x.2.2.length;rw [←kX] at hm1 hyv hbt;have c0:=aA hE (show w.cell? ⟨g,j*2,none⟩=some (.int .i64 (x.1:Nat)) from (hc 0 (by decide)).1);have c1':=aA hE (show w.cell? ⟨g,j*2+1,none⟩=some (.slice ya ml yc) from by rw [(hc 1 (by decide)).1];simp [eX,hyv]);obtain ⟨m1,Ye⟩:=ae (ml+1);rw [←Ye] at hbt;have e9:IntKind.i64.wrap ((ml:Int)+1)=(m1:Int):=by rw [IntWalk.i64_in _ (by omega)];omega
   have HBT:=aa hbt;have HO:=aa ho;have Ig:=aa Ye;have hs:=hE.size;clear hc hyv hbt hx kX Ye ho;obtain ⟨w2,hw2⟩:=ae (wr.alloc (.cells #[.int .i64 (x.1:Nat),.slice ya ml yc] eH));have hb2:Below wr.heap.size wr w2:=by rw [hw2];exact af _
   have hE2:=hE.trans (hb2.mono hs);have ho2:=aG HO.out hb2;have k2:Is w2 wr.heap.size #[.int .i64 (x.1:Nat),.slice ya ml yc] eH:=by rw [hw2];exact Is.new _ _ _
   have f1:=k2.at 1 rfl;have hnw:w.heap.size≤w2.heap.size:=Nat.le_trans hs hb2.size;go_upto_region 5 with fail;rw [←hw2];clear hw2 c0 c1'
   go_wp2_with (
    refine gF (W:=w2) rfl _ _ 23 rfl w.heap.size bq (.int .i64 0) 8 jh u3 j _ rfl ho2 (.int .i64 (m1:Nat)) rfl rfl (by omega) (by unfold maxLen;omega) w hE2 (Nat.le_refl _) ?_;intro v3 w3 o3 b3' _ _;have Fs:=aa (show w3.ownsRow w.heap.size bq 1 v3 (j+1) (ds (gy (Ls.take (j+1)))) from by rw [HBT.out,Nn];exact o3)
    clear o3)
   go_roundw
   case rel=>exact ⟨j+1,by omega,by simp,Fs.out,b3'⟩
   case measure=>simp [intOf];omega
  ·have zj:decide ((j:Int)<(n:Int))=false:=by simp;omega
   obtain rfl:j=n:=by omega
   have ht:Ls.take j=Ls:=List.take_of_length_le (by rw [HN.out];exact Nat.le_refl _);rw [ht] at ho;have HO:=aa ho;clear ho ht;go_wp2_with fail;go_ret;exact ⟨_,rfl,HO.out,hE⟩
end Go.Proofs.YtmpkfkoficehpaaGreatDoor
