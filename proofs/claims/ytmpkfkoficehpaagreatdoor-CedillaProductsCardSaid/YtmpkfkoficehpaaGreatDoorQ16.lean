/- CedillaProducts: where a text may be cut apart, it has as many texts that are alike as its two parts multiplied; no condition. -/
import Derived.Test.YtmpkfkoficehpaaGreatDoorQ15
set_option maxRecDepth 100000
set_option maxHeartbeats 6400000
namespace Go.Cd
section
open Go.RowKit
section
variable {P : Program} {ops : Array Oper} {md : Region.Mode} {head : Array Bool}
theorem vV {vs:Nat→Value}:∀(E:List Nat) (e:Nat) (a:Act),dG ops vs (E++[e]) a=(dG ops vs E a).put (bH ops e) (vs e)
 | [],_,_=>rfl
 | i::E,e,a=>by simp only [List.cons_append,dG];exact vV E e _
theorem pM:∀(E:List Nat) (e:Nat) (L:Array Bool),aQ (E++[e]) L=(aQ E L).setIfInBounds e true
 | [],_,_=>rfl
 | i::E,e,L=>by simp only [List.cons_append,aQ];exact pM E e _
def sH (P:Program) (o:Oper) (a:Act) (v:Value):Prop:=∀w,(execOp a.eval o).run P w=.ok (.value v) w∧∀es,((execOp a.eval o).runT P w es).2=es
inductive Early (P:Program) (md:Region.Mode) (ops:Array Oper) (L:Array Bool) (a:Act) (us:Nat→Value):List Nat→Prop
 | nil:Early P md ops L a us []
 | snoc (E:List Nat) (e:Nat) (o:Oper):Early P md ops L a us E→ops[e]? = some o→o.guard=none→e∈Region.ready md ops (aQ E L)→sH P o (dG ops us E a) (us e)→Early P md ops L a us (E++[e])
theorem Iz {L:Array Bool} {a:Act} {us us':Nat→Value} {E:List Nat} (h:Early P md ops L a us E):(∀k∈E,us k=us' k)→Early P md ops L a us' E:=by
 induction h with
 | nil=>intro _;exact .nil
 | snoc E e o hE ho hg hr hp ih=>
   intro hc;refine .snoc E e o (ih fun k hk=>hc k (by simp [hk])) ho hg hr ?_;rw [←hc e (by simp),←nS E a (fun k hk=>hc k (by simp [hk]))];exact hp
theorem CJ {Q:Exit→Act→World→Prop} {K:Act→World→Prop} {i:Nat} {o:Oper} {a:Act} {w:World} {v:Value} (hi:ops[i]? = some o) (hg:o.guard=none) (hp:sH P o a v):wpOp P ops Q i K a w↔K (a.put o.dst v) w:=by
 have hw:Region.wanted o (yielded ops a.tmps)=true:=by simp [Region.wanted,hg]
 unfold wpOp;simp only [hi,hw,if_true,Oper.wp,(hp w).1,Oper.upon];constructor
 ·rintro (h|⟨h,_⟩)
  ·exact h
  ·exfalso;have:=h.1;rw [(hp w).2] at this;simp at this
 ·exact .inl
theorem vW {Q:Exit→Act→World→Prop} {L:Array Bool} {a:Act} {us vs:Nat→Value} {S:List Nat} {w:World} (hs:Region.noSelect ops=true) :
 ∀{E:List Nat},Early P md ops L a us E→(∀e∈E,∀o,ops[e]? = some o→∀i∈S,(∀t,bH ops i=some t→t∉o.looksAt ops)∧∀t,o.dst=some t→bH ops i≠some t)→
 ∀t,wpAny P md ops Q (t+E.length) L (dG ops vs S a) w→wpAny P md ops Q t (aQ E L) (dG ops vs S (dG ops us E a)) w:=by
 intro E hE
 induction hE with
 | nil=>intro _ t h;exact h
 | snoc E e o hE ho hg hr hp ih=>
   intro hap t h;have h1:=ih (fun k hk=>hap k (by simp [hk])) (t+1) (by rw [List.length_append] at h;simp only [List.length_cons,List.length_nil] at h;rw [Nat.add_right_comm];exact h);have h2:=h1.2 e hr;have abB:=hap e (by simp) o ho;have hex:=il (vs:=vs) (Region.noSelect_spec hs e o · · ho) S (dG ops us E a) (fun i hi=>(abB i hi).1);have hp':sH P o (dG ops vs S (dG ops us E a)) (us e):=by unfold sH;rw [hex.1];exact hp
   rw [CJ ho hg hp'] at h2;have hd:bH ops e=o.dst:=by simp [bH,ho]
   rw [uF S _ (fun i hi t ht=>(abB i hi).2 t ht)] at h2;rw [pM,vV,hd];exact h2
theorem RJ {R:Nat→Value→World→Prop} {bk:Value→Nat} {a:Act} (Iy:∀i v w w',Below w.heap.size w w'→R i v w→R i v w'):∀(rem:List Nat) (vs:Nat→Value) (w:World),rem.Nodup→
 (∀i∈rem,∃oi,ops[i]? = some oi∧lF P ops (R i) bk oi a w)→
 ∃(vs':Nat→Value) (W:World),Below w.heap.size w W∧(∀k,k∉rem→vs' k=vs k)∧(∀i∈rem,R i (vs' i) W∧w.heap.size≤bk (vs' i)∧bk (vs' i)<W.heap.size)∧∀i∈rem,∀k∈rem,i≠k→bk (vs' i)≠bk (vs' k)
 | [],vs,w,_,_=>⟨vs,w,Below.refl _ _,fun _ _=>rfl,fun _ h=>absurd h (by simp),fun _ h=>absurd h (by simp)⟩
 | i::rem,vs,w,hnd,h=>by
   rw [List.nodup_cons] at hnd;obtain ⟨oi,hoi,hmk⟩:=h i (by simp);obtain ⟨v,W1,_,hb1,Yo,h1,h2⟩:=hmk.2 w (Below.refl _ _)
   obtain ⟨vs',W,hb,hk,hm,hd⟩:=RJ Iy rem (upd vs i v) W1 hnd.2 (fun k hk=>by
    obtain ⟨ok,hok,hm⟩:=h k (by simp [hk])
    exact ⟨ok,hok,hm.mono hb1⟩)
   have Fv:vs' i=v:=by rw [hk i hnd.1];simp [upd]
   refine ⟨vs',W,ah hb1 hb,fun k hkn=>?_,fun k hk'=>?_,fun k hk1 l hl1 hkl=>?_⟩
   ·simp only [List.mem_cons,not_or] at hkn;rw [hk k hkn.2];simp [upd,hkn.1]
   ·rcases List.mem_cons.1 hk' with rfl|hk'
    ·rw [Fv];exact ⟨Iy _ _ _ _ hb Yo,h1,Nat.lt_of_lt_of_le h2 hb.size⟩
    ·obtain ⟨g1,g2,g3⟩:=hm k hk';exact ⟨g1,Nat.le_trans hb1.size g2,g3⟩
   ·rcases List.mem_cons.1 hk1 with e1|hk2 <;> rcases List.mem_cons.1 hl1 with e2|hl2
    ·exact absurd (e1.trans e2.symm) hkl
    ·subst e1;rw [Fv];have:=(hm l hl2).2.1;omega
    ·subst e2;rw [Fv];have:=(hm k hk2).2.1;omega
    ·exact hd k hk2 l hl2 hkl
theorem OT {Q:Exit→Act→World→Prop} (S:List Nat) (R:Nat→Value→World→Prop) (bk:Value→Nat) (N t:Nat) (Iy:∀i v w w',Below w.heap.size w w'→R i v w→R i v w') (hs:Region.noSelect ops=true) (hnd:S.Nodup)
 (X:List Nat) (L:Array Bool) (a:Act)
 (hX:∀x∈X,x∉S∧∀o,ops[x]? = some o→uY o.op=true∧o.guard=none∧∀i∈S,(∀t,bH ops i=some t→t∉o.looksAt ops)∧(∀t,o.dst=some t→bH ops i≠some t)∧∀oi,ops[i]? = some oi→∀t,o.dst=some t→t∉oi.looksAt ops)
 (hW:∀j oj,ops[j]? = some oj→j∉S→j∉X→L.getD j true=false→∀i∈S,waits md ops i ops.size j=true)
 (hM:∀i∈S,∃oi,ops[i]? = some oi∧∀k∈S,k≠i→(∀t,bH ops k=some t→t∉oi.looksAt ops)∧∀t,oi.dst=some t→bH ops k≠some t) :
 ∀(m:Nat) (done:Nat→Bool) (vs us:Nat→Value) (E:List Nat) (listed:Array Bool) (w:World),m=(S.filter fun i=>!done i).length+(t-E.length)→Closed md ops listed→
  aQ (S.filter fun i=>!done i) listed=aQ E L→
  (∀i∈S,done i=false→i∈Region.ready md ops listed∧∀oi,ops[i]? = some oi→lF P ops (R i) bk oi a w)→
  (∀i∈S,done i=true→listed.getD i false=true∧R i (vs i) w∧N≤bk (vs i)∧bk (vs i)<w.heap.size)→(∀i∈S,∀k∈S,done i=true→done k=true→i≠k→bk (vs i)≠bk (vs k))→N≤w.heap.size→
  Early P md ops L a us E→(∀e∈E,e∈X)→E.length≤t→
  (∀w',Below w.heap.size w w'→TMk ops S R bk N (fun L a w=>wpAny P md ops Q t L a w) L a w')→
  wpAny P md ops Q m listed (dG ops vs (S.filter done) (dG ops us E a)) w:=by
 have Yv:∀{E:List Nat},(∀e∈E,e∈X)→∀e∈E,∀o,ops[e]? = some o→∀i∈S,(∀t,bH ops i=some t→t∉o.looksAt ops)∧∀t,o.dst=some t→bH ops i≠some t:=
  fun hE e he o ho i hi=>⟨((hX e (hE e he)).2 o ho).2.2 i hi |>.1,((hX e (hE e he)).2 o ho).2.2 i hi |>.2.1⟩
 intro m
 induction m with
 | zero=>
   intro done vs us E listed w hm hcl hL kS hdone jF hN hE Yw Ua hT;have hr0:(S.filter fun i=>!done i).length=0:=by omega
   have hrn:=List.length_eq_zero_iff.1 hr0;have hall:∀i∈S,done i=true:=fun i hi=>by simpa using (List.filter_eq_nil_iff.1 hrn) i hi
   rw [hrn] at hL;have hL':listed=aQ E L:=hL;rw [hL',List.filter_eq_self.2 hall];refine vW hs hE (Yv Yw) 0 ?_;rw [show 0+E.length=t from by omega];exact hT w (Below.refl _ _) vs (fun i hi=>(hdone i hi (hall i hi)).2) (fun i hi k hk=>jF i hi k hk (hall i hi) (hall k hk))
 | succ m ih=>
   intro done vs us E listed w hm hcl hL kS hdone jF hN hE Yw Ua hT;cases RL:S.filter (fun i=>!done i) with
   | nil=>
     have hall:∀i∈S,done i=true:=fun i hi=>by simpa using (List.filter_eq_nil_iff.1 RL) i hi
     rw [RL] at hL hm;have hL':listed=aQ E L:=hL;rw [hL',List.filter_eq_self.2 hall];refine vW hs hE (Yv Yw) (m+1) ?_;rw [show m+1+E.length=t from by simp at hm;omega];exact hT w (Below.refl _ _) vs (fun i hi=>(hdone i hi (hall i hi)).2) (fun i hi k hk=>jF i hi k hk (hall i hi) (hall k hk))
   | cons i0 ak7=>
     have hi0:i0∈S.filter (fun i=>!done i):=by rw [RL];simp
     obtain ⟨Yx,Vh⟩:=List.mem_filter.1 hi0;have Vh:done i0=false:=by simpa using Vh
     obtain ⟨vs',W',hbW,hk',hm',hd'⟩:=RJ (P:=P) (ops:=ops) (a:=a) Iy (S.filter fun i=>!done i) vs w (hnd.filter _) (fun i hi=>by
      obtain ⟨JL,hid⟩:=List.mem_filter.1 hi;obtain ⟨oi,hoi,_⟩:=hM i JL
      exact ⟨oi,hoi,(kS i JL (by simpa using hid)).2 oi hoi⟩)
     have hfull:wpAny P md ops Q (t-E.length) (aQ E L) (dG ops vs' S (dG ops us E a)) W':=by
      refine vW hs hE (Yv Yw) _ ?_;rw [Nat.sub_add_cancel Ua];refine hT W' hbW vs' (fun i hi=>?_) (fun i hi k hk hik=>?_)
      ·cases hid:done i
       ·obtain ⟨g1,g2,g3⟩:=hm' i (List.mem_filter.2 ⟨hi,by simp [hid]⟩);exact ⟨g1,Nat.le_trans hN g2,g3⟩
       ·rw [hk' i (fun h=>by have:=(List.mem_filter.1 h).2;simp [hid] at this)];obtain ⟨_,g1,g2,g3⟩:=hdone i hi hid;exact ⟨Iy _ _ _ _ hbW g1,g2,Nat.lt_of_lt_of_le g3 hbW.size⟩
      ·cases hid:done i <;> cases hkd:done k
       ·exact hd' i (List.mem_filter.2 ⟨hi,by simp [hid]⟩) k (List.mem_filter.2 ⟨hk,by simp [hkd]⟩) hik
       ·rw [hk' k (fun h=>by have:=(List.mem_filter.1 h).2;simp [hkd] at this)];have:=(hm' i (List.mem_filter.2 ⟨hi,by simp [hid]⟩)).2.1;have:=(hdone k hk hkd).2.2.2;omega
       ·rw [hk' i (fun h=>by have:=(List.mem_filter.1 h).2;simp [hid] at this)];have:=(hm' k (List.mem_filter.2 ⟨hk,by simp [hkd]⟩)).2.1;have:=(hdone i hi hid).2.2.2;omega
       ·rw [hk' i (fun h=>by have:=(List.mem_filter.1 h).2;simp [hid] at this),hk' k (fun h=>by have:=(List.mem_filter.1 h).2;simp [hkd] at this)];exact jF i hi k hk hid hkd hik
     refine ⟨fun h=>(by have:=(kS i0 Yx Vh).1;rw [h] at this;cases this),fun j hj=>?_⟩;obtain ⟨hjun,oj,hoj,Xm⟩:=mem_ready.1 hj;have hjlt:j<listed.size:=by
      rcases Nat.lt_or_ge j listed.size with h'|h'
      ·exact h'
      ·simp [Array.getElem?_eq_none h'] at hjun
     by_cases iQ:j∈S
     ·
      have hjd:done j=false:=by
       cases hd:done j
       ·rfl
       ·have h1:=(hdone j iQ hd).1;have h2:=bY hjun;rw [h1] at h2;cases h2
      have hMK:=(kS j iQ hjd).2 oj hoj;have xk:bH ops j=oj.dst:=by simp [bH,hoj]
      have oD:∀i∈S,i≠j→(∀t,bH ops i=some t→t∉oj.looksAt ops)∧(∀t,bH ops j=some t→bH ops i≠some t):=by
       intro i hi hij;obtain ⟨oj',RN,h⟩:=hM j iQ;rw [hoj] at RN;cases RN;rw [xk];exact h i hi hij
      have abC:=il (vs:=us) (Region.noSelect_spec hs j oj · · hoj) E a (fun e he t ht=>by
       cases ho:ops[e]? with
       | none=>exact absurd ht (by unfold bH;rw [ho];exact fun h=>by cases h)
       | some o=>
         have hd:bH ops e=o.dst:=by simp [bH,ho]
         rw [hd] at ht
         exact (((hX e (Yw e he)).2 o ho).2.2 j iQ).2.2 oj hoj t ht)
      have hex:=il (vs:=vs) (Region.noSelect_spec hs j oj · · hoj) (S.filter done) (dG ops us E a) (fun i hi=>(oD i (List.mem_filter.1 hi).1 (fun e=>by have h:=(List.mem_filter.1 hi).2;rw [e,hjd] at h;cases h)).1);have afm:lF P ops (R j) bk oj (dG ops vs (S.filter done) (dG ops us E a)) w:=(hMK.same abC.1 abC.2).same hex.1 hex.2;refine wpOp_mono (fun _ _ h=>h.2) (qg (Q:=Q) (lF.rH (Q:=Q) (K:=fun a w=>wpAny P md ops Q m (listed.setIfInBounds j true) a w) hoj afm fun v W1 hb hR h1 h2=>?_));rw [←xk,ni hjd S _ iQ hnd (fun i hi hij=>(oD i hi hij).2)];have RI:upd vs j v j=v:=by simp [upd]
      have Fv:∀i,i≠j→upd vs j v i=vs i:=fun i hi=>by simp [upd,hi]
      refine ih (fun i=>done i||i==j) (upd vs j v) us E (listed.setIfInBounds j true) W1 (by have:=lU hjd S iQ hnd;omega) (hcl.step hj) ?_ ?_ ?_ ?_ (Nat.le_trans hN hb.size) hE Yw Ua (fun w' hw'=>hT w' (ah hb hw'))
      ·rw [←hL];refine sG (by simp) fun k hk=>?_;simp only [Array.size_setIfInBounds] at hk;simp only [List.mem_filter];by_cases hkj:k=j
       ·subst hkj;simp [hk,iQ,hjd]
       ·rw [getD_set_ne false (Ne.symm hkj)];simp [hkj]
      ·intro i hi hid;simp only [Bool.or_eq_false_iff,beq_eq_false_iff_ne] at hid;obtain ⟨g1,g2⟩:=kS i hi hid.1;exact ⟨ready_mono g1 hid.2,fun oi hoi=>(g2 oi hoi).mono hb⟩
      ·intro i hi hid;by_cases hij:i=j
       ·subst hij;rw [RI];exact ⟨by simp [hjlt],hR,Nat.le_trans hN h1,h2⟩
       ·simp only [Bool.or_eq_true,beq_iff_eq,hij,or_false] at hid;rw [Fv i hij];obtain ⟨g1,g2,g3,g4⟩:=hdone i hi hid;exact ⟨getD_set_true g1,Iy _ _ _ _ hb g2,g3,Nat.lt_of_lt_of_le g4 hb.size⟩
      ·intro i hi k hk hid hkd hik;by_cases hij:i=j
       ·subst hij;have hki:k≠i:=Ne.symm hik;simp only [Bool.or_eq_true,beq_iff_eq,hki,or_false] at hkd;rw [RI,Fv k hki];have:=(hdone k hk hkd).2.2.2;omega
       ·simp only [Bool.or_eq_true,beq_iff_eq,hij,or_false] at hid;rw [Fv i hij];by_cases hkj:k=j
        ·subst hkj;rw [RI];have:=(hdone i hi hid).2.2.2;omega
        ·simp only [Bool.or_eq_true,beq_iff_eq,hkj,or_false] at hkd;rw [Fv k hkj];exact jF i hi k hk hid hkd hik
     ·
      have RO:(aQ E L).getD j true=listed.getD j true:=by
       rw [←hL,dK,if_neg (fun h=>iQ (List.mem_filter.1 h.1).1)]
      have hjL:L.getD j true=false:=by
       rw [hjun,dK] at RO
       split at RO
       ·cases RO
       ·exact RO
      have RQ:j∈X:=Classical.byContradiction fun RQ=>by
       have h0:=bY (mem_ready.1 (kS i0 Yx Vh).1).1;exact gM hcl h0 _ j oj hoj (hW j oj hoj iQ RQ hjL i0 Yx) Xm
      obtain ⟨_,hXj⟩:=hX j RQ;obtain ⟨abD,hg,RF⟩:=hXj oj hoj;have hjr:j∈Region.ready md ops (aQ E L):=by
       rw [mem_ready];refine ⟨by rw [RO];exact hjun,oj,hoj,fun e he hb=>?_⟩;rw [←hL,dK]
       split
       ·rfl
       ·exact Xm e he hb
      have afn:=il (vs:=vs) (Region.noSelect_spec hs j oj · · hoj) (S.filter done) (dG ops us E a) (fun i hi=>(RF i (List.mem_filter.1 hi).1).1);have abE:=il (vs:=vs') (Region.noSelect_spec hs j oj · · hoj) S (dG ops us E a) (fun i hi=>(RF i hi).1);obtain ⟨s,hs1⟩:∃s,t-E.length=s+1:=by
       rcases Nat.eq_zero_or_pos (t-E.length) with h|h
       ·exfalso;rw [h] at hfull;have:=hfull.1;rw [this] at hjr;cases hjr
       ·exact ⟨t-E.length-1,by omega⟩
      rw [hs1] at hfull;have hop:=hfull.2 j hjr;rcases pure_run (P:=P) (ρ:=(dG ops us E a).eval) abD with ⟨v,hv⟩|⟨x,hv⟩
      ·have hp0:sH P oj (dG ops us E a) v:=hv;have hpA:sH P oj (dG ops vs (S.filter done) (dG ops us E a)) v:=by unfold sH;rw [afn.1];exact hp0
       rw [CJ hoj hg hpA];have hdj:bH ops j=oj.dst:=by simp [bH,hoj]
       have hjE:j∉E:=fun h=>by
        have h2:(aQ E L).getD j true=true:=by
         rw [dK]
         split
         ·rfl
         ·rename_i hn;rcases Nat.lt_or_ge j L.size with h'|h'
          ·exact absurd ⟨h,h'⟩ hn
          ·simp [Array.getElem?_eq_none h']
        rw [RO,hjun] at h2;cases h2
       have abF:dG ops us E a=dG ops (upd us j v) E a:=nS _ _ fun k hk=>by
        have:k≠j:=fun e=>hjE (e▸hk);simp [upd,this]
       have hE':Early P md ops L a (upd us j v) E:=Iz hE fun k hk=>by
        have:k≠j:=fun e=>hjE (e▸hk);simp [upd,this]
       have hjv:upd us j v j=v:=by simp [upd]
       rw [uF (S.filter done) _ (fun i hi t ht=>(RF i (List.mem_filter.1 hi).1).2.1 t ht),abF];have e1:((dG ops (upd us j v) E a).put oj.dst v)=dG ops (upd us j v) (E++[j]) a:=by rw [vV,hdj,hjv]
       rw [e1];refine ih done vs (upd us j v) (E++[j]) (listed.setIfInBounds j true) w (by simp;omega) (hcl.step hj) ?_ ?_ ?_ jF hN (.snoc E j oj hE' hoj hg hjr (by rw [hjv,←abF];exact hp0)) ?_ (by simp;omega) hT
       ·rw [pM,←hL];have h2:∀(l:List Nat) (x:Array Bool),aQ [j] (aQ l x)=aQ l (aQ [j] x):=by
         intro l
         induction l with
         | nil=>intro x;rfl
         | cons k l ihl=>
           intro x;simp only [aQ] at ihl ⊢;rw [ihl];by_cases hkj:k=j
           ·subst hkj;rfl
           ·rw [Array.setIfInBounds_comm _ _ hkj]
        exact (h2 _ _).symm
       ·intro i hi hid;obtain ⟨g1,g2⟩:=kS i hi hid;exact ⟨ready_mono g1 (fun e=>iQ (e▸hi)),g2⟩
       ·intro i hi hid;obtain ⟨g1,g2⟩:=hdone i hi hid;exact ⟨getD_set_true g1,g2⟩
       ·intro e he;rcases List.mem_append.1 he with h|h
        ·exact Yw e h
        ·rw [List.mem_singleton.1 h];exact RQ
      ·exfalso;have hw:Region.wanted oj (yielded ops (dG ops vs' S (dG ops us E a)).tmps)=true:=by simp [Region.wanted,hg]
       unfold wpOp at hop;simp only [hoj,hw,if_true,Oper.wp] at hop;rw [abE.1] at hop;rcases hop with h|⟨h,_⟩
       ·rw [(hv W').1] at h;exact h
       ·have:=h.1;rw [abE.1,(hv W').2] at this;simp at this
theorem MJ {Q:Exit→Act→World→Prop} {K:Act→World→Prop} {j:Nat} {a:Act} {w:World} (h:rH P ops Q j K a w):wpOp P ops Q j K a w:=wpOp_mono (fun _ _ h=>h.2) (qg h)
theorem El {Q:Exit→Act→World→Prop} (S:List Nat) (R:Nat→Value→World→Prop) (bk:Value→Nat) (N t:Nat) (Iy:∀i v w w',Below w.heap.size w w'→R i v w→R i v w') (hs:Region.noSelect ops=true) (hnd:S.Nodup)
 (X:List Nat)
 (hX:∀x∈X,x∉S∧∀o,ops[x]? = some o→uY o.op=true∧o.guard=none∧∀i∈S,(∀t,bH ops i=some t→t∉o.looksAt ops)∧(∀t,o.dst=some t→bH ops i≠some t)∧∀oi,ops[i]? = some oi→∀t,o.dst=some t→t∉oi.looksAt ops)
 (hW:∀j oj,ops[j]? = some oj→j∉S→j∉X→head.getD j false=false→∀i∈S,waits md ops i ops.size j=true)
 (hH:∀j oj,ops[j]? = some oj→j∉S→head.getD j false=true→∀i∈S,(∀t,bH ops i=some t→t∉oj.looksAt ops)∧(∀t,bH ops i=some t→oj.dst≠some t)∧∀oi,ops[i]? = some oi→∀t,oj.dst=some t→t∉oi.looksAt ops)
 (hM:∀i∈S,∃oi,ops[i]? = some oi∧∀k∈S,k≠i→(∀t,bH ops k=some t→t∉oi.looksAt ops)∧∀t,oi.dst=some t→bH ops k≠some t) :
 ∀(m n:Nat) (done:Nat→Bool) (vs:Nat→Value) (listed:Array Bool) (a:Act) (w:World),m=n+(S.filter fun i=>!done i).length→Closed md ops listed→
  (∀i∈S,done i=false→i∈Region.ready md ops listed∧∀oi,ops[i]? = some oi→lF P ops (R i) bk oi a w)→
  (∀i∈S,done i=true→listed.getD i false=true∧R i (vs i) w∧N≤bk (vs i)∧bk (vs i)<w.heap.size)→(∀i∈S,∀k∈S,done i=true→done k=true→i≠k→bk (vs i)≠bk (vs k))→N≤w.heap.size→
  Eg P md ops head Q (TMk ops S R bk N (fun L a w=>wpAny P md ops Q t L a w)) n (aQ (S.filter fun i=>!done i) listed) a w→
  wpAny P md ops Q (m+t) listed (dG ops vs (S.filter done) a) w:=by
 intro m
 induction m with
 | zero=>
   intro n done vs listed a w hm hcl kS hdone jF hN H;obtain ⟨rfl,hr⟩:n=0∧(S.filter fun i=>!done i).length=0:=by omega
   have hrn:=List.length_eq_zero_iff.1 hr;rw [hrn] at H;have hall:∀i∈S,done i=true:=fun i hi=>by simpa using (List.filter_eq_nil_iff.1 hrn) i hi
   obtain ⟨_,h2⟩:=H w (Below.refl _ _);rw [List.filter_eq_self.2 hall,Nat.zero_add];exact h2 vs (fun i hi=>(hdone i hi (hall i hi)).2) (fun i hi k hk=>jF i hi k hk (hall i hi) (hall k hk))
 | succ m ih=>
   intro n done vs listed a w hm hcl kS hdone jF hN H;cases n with
   | zero=>
     have hhd:=(H w (Below.refl _ _)).1;have:=OT (P:=P) (Q:=Q) S R bk N t Iy hs hnd X (aQ (S.filter fun i=>!done i) listed) a hX
      (fun j oj hj iQ RQ hun=>hW j oj hj iQ RQ (by
        cases hh:head.getD j false
        ·rfl
        ·have:=fw hhd hh
         rw [bY hun] at this;cases this)) hM (m+1+t) done vs vs [] listed w (by simp;omega) hcl rfl kS hdone jF hN .nil (fun e he=>by cases he) (Nat.zero_le _)
      (fun w' hw'=>(H w' hw').2)
     exact this
   | succ n=>
     have vT:∀j,j∈Region.ready md ops listed→j∉S→j∈Region.ready md ops (aQ (S.filter fun i=>!done i) listed):=by
      intro j hj iQ;rw [mem_ready] at hj ⊢;obtain ⟨h0,o,ho,hall⟩:=hj;refine ⟨?_,o,ho,fun e he hb=>?_⟩
      ·rw [dK,if_neg (fun h=>iQ (List.mem_filter.1 h.1).1)];exact h0
      ·rw [dK];split
       ·rfl
       ·exact hall e he hb
     rw [Nat.add_right_comm];constructor
     ·intro hnil;cases hf:S.filter (fun i=>!done i) with
      | cons i l=>
        have hi:i∈S.filter (fun i=>!done i):=by rw [hf];simp
        obtain ⟨JL,hid⟩:=List.mem_filter.1 hi;have:=(kS i JL (by simpa using hid)).1;rw [hnil] at this;cases this
      | nil=>
        rw [hf] at H;exact absurd hnil (H w (Below.refl _ _)).1
     ·intro j hj;obtain ⟨hjun,oj,hoj,_⟩:=mem_ready.1 hj;have hjlt:j<listed.size:=by
       rcases Nat.lt_or_ge j listed.size with h'|h'
       ·exact h'
       ·simp [Array.getElem?_eq_none h'] at hjun
      by_cases iQ:j∈S
      ·have hjd:done j=false:=by
        cases hd:done j
        ·rfl
        ·have h1:=(hdone j iQ hd).1;have h2:=bY hjun;rw [h1] at h2;cases h2
       have hMK:=(kS j iQ hjd).2 oj hoj;have xk:bH ops j=oj.dst:=by simp [bH,hoj]
       have oD:∀i∈S,i≠j→(∀t,bH ops i=some t→t∉oj.looksAt ops)∧(∀t,bH ops j=some t→bH ops i≠some t):=by
        intro i hi hij;obtain ⟨oj',RN,h⟩:=hM j iQ;rw [hoj] at RN;cases RN;rw [xk];exact h i hi hij
       have hex:=il (vs:=vs) (Region.noSelect_spec hs j oj · · hoj) (S.filter done) a (fun i hi=>(oD i (List.mem_filter.1 hi).1 (fun e=>by have h:=(List.mem_filter.1 hi).2;rw [e,hjd] at h;cases h)).1);refine MJ (lF.rH (Q:=Q) (K:=fun a w=>wpAny P md ops Q (m+t) (listed.setIfInBounds j true) a w) hoj (hMK.same hex.1 hex.2) fun v W' hb hR h1 h2=>?_);rw [←xk,ni hjd S a iQ hnd (fun i hi hij=>(oD i hi hij).2)];have RI:upd vs j v j=v:=by simp [upd]
       have Fv:∀i,i≠j→upd vs j v i=vs i:=fun i hi=>by simp [upd,hi]
       refine ih (n+1) (fun i=>done i||i==j) (upd vs j v) (listed.setIfInBounds j true) a W' (by have:=lU hjd S iQ hnd;omega) (hcl.step hj) ?_ ?_ ?_ (Nat.le_trans hN hb.size) ?_
       ·intro i hi hid;simp only [Bool.or_eq_false_iff,beq_eq_false_iff_ne] at hid;obtain ⟨g1,g2⟩:=kS i hi hid.1;exact ⟨ready_mono g1 hid.2,fun oi hoi=>(g2 oi hoi).mono hb⟩
       ·intro i hi hid;by_cases hij:i=j
        ·subst hij;rw [RI];exact ⟨by simp [hjlt],hR,Nat.le_trans hN h1,h2⟩
        ·simp only [Bool.or_eq_true,beq_iff_eq,hij,or_false] at hid;rw [Fv i hij];obtain ⟨g1,g2,g3,g4⟩:=hdone i hi hid;exact ⟨getD_set_true g1,Iy _ _ _ _ hb g2,g3,Nat.lt_of_lt_of_le g4 hb.size⟩
       ·intro i hi k hk hid hkd hik;by_cases hij:i=j
        ·subst hij;have hki:k≠i:=Ne.symm hik;simp only [Bool.or_eq_true,beq_iff_eq,hki,or_false] at hkd;rw [RI,Fv k hki];have:=(hdone k hk hkd).2.2.2;omega
        ·simp only [Bool.or_eq_true,beq_iff_eq,hij,or_false] at hid;rw [Fv i hij];by_cases hkj:k=j
         ·subst hkj;rw [RI];have:=(hdone i hi hid).2.2.2;omega
         ·simp only [Bool.or_eq_true,beq_iff_eq,hkj,or_false] at hkd;rw [Fv k hkj];exact jF i hi k hk hid hkd hik
       ·have e:aQ (S.filter fun i=>!(done i||i==j)) (listed.setIfInBounds j true)=aQ (S.filter fun i=>!done i) listed:=by
         refine sG (by simp) fun k hk=>?_;simp only [Array.size_setIfInBounds] at hk;simp only [List.mem_filter];by_cases hkj:k=j
         ·subst hkj;simp [hk,iQ,hjd]
         ·rw [getD_set_ne false (Ne.symm hkj)];simp [hkj]
        rw [e];exact uE (n:=n+1) hb H
      ·obtain ⟨Mi,hop⟩:=(H w (Below.refl _ _)).2 j (vT j hj iQ);have oD:=hH j oj hoj iQ Mi;have hk:=Iw (Φ:=fun a w'=>(∀i∈S,done i=false→∀oi,ops[i]? = some oi→lF P ops (R i) bk oi a w')∧(∀i∈S,done i=true→R i (vs i) w'∧N≤bk (vs i)∧bk (vs i)<w'.heap.size)∧N≤w'.heap.size) hoj
        (fun a w' v h=>⟨fun i hi hid oi hoi=>(h.1 i hi hid oi hoi).same (execOp_put oi (Region.noSelect_spec hs i oi · · hoi) a _ _ ((oD i hi).2.2 oi hoi)) (wanted_put oi a _ _ ((oD i hi).2.2 oi hoi)),h.2⟩)
        (fun a w' d h=>⟨fun i hi hid oi hoi=>(h.1 i hi hid oi hoi).same rfl rfl,h.2⟩)
        (fun a w' w'' hb h=>⟨fun i hi hid oi hoi=>(h.1 i hi hid oi hoi).mono hb,fun i hi hid=>⟨Iy _ _ _ _ hb (h.2.1 i hi hid).1,(h.2.1 i hi hid).2.1,Nat.lt_of_lt_of_le (h.2.1 i hi hid).2.2 hb.size⟩,Nat.le_trans h.2.2 hb.size⟩)
        hop ⟨fun i hi hid=>(kS i hi hid).2,fun i hi hid=>(hdone i hi hid).2,hN⟩
       have hu:=sF (vs:=vs) hoj (Region.noSelect_spec hs j oj · · hoj) (S.filter done) (fun i hi=>⟨(oD i (List.mem_filter.1 hi).1).1,(oD i (List.mem_filter.1 hi).1).2.1⟩) hk;refine MJ (mG (fun a' w' h=>?_) hu);obtain ⟨b,rfl,⟨hm1,hm2,hN'⟩,hH'⟩:=h;refine ih n done vs (listed.setIfInBounds j true) b w' (by omega) (hcl.step hj) ?_ ?_ jF hN' ?_
       ·intro i hi hid;exact ⟨ready_mono (kS i hi hid).1 (fun e=>iQ (e▸hi)),hm1 i hi hid⟩
       ·intro i hi hid;exact ⟨getD_set_true (hdone i hi hid).1,hm2 i hi hid⟩
       ·have e:aQ (S.filter fun i=>!done i) (listed.setIfInBounds j true)=(aQ (S.filter fun i=>!done i) listed).setIfInBounds j true:=by
         have:(aQ (S.filter fun i=>!done i) listed).setIfInBounds j true=aQ [j] (aQ (S.filter fun i=>!done i) listed):=rfl;rw [this];have h2:∀(l:List Nat) (x:Array Bool),aQ [j] (aQ l x)=aQ l (aQ [j] x):=by
          intro l
          induction l with
          | nil=>intro x;rfl
          | cons k l ihl=>
            intro x;simp only [aQ] at ihl ⊢;rw [ihl];by_cases hkj:k=j
            ·subst hkj;rfl
            ·rw [Array.setIfInBounds_comm _ _ hkj]
         rw [h2];rfl
        rw [e];exact hH'
def Xn (md:Region.Mode) (ops:Array Oper) (head:Array Bool) (S X:List Nat):Bool:=
 Region.noSelect ops&&decide S.Nodup&&(S.all fun i=>match ops[i]? with
  | none=>false
  | some oi=>oi.after.all (fun e=>!Region.binds md e)&&(List.range ops.size).all fun j=>j==i||match ops[j]? with
    | some oj=>if S.contains j||X.contains j||head.getD j false then oi.apart ops oj&&oj.apart ops oi else waits md ops i ops.size j
    | none=>true)&&(X.all fun x=>!S.contains x&&match ops[x]? with
  | none=>true
  | some o=>uY o.op&&o.guard.isNone)
theorem IA {id:Nat} {Q:Exit→Act→World→Prop} {a:Act} {w:World} {l:List Oper} (head:Array Bool) (S X:List Nat) (R:Nat→Value→World→Prop) (bk:Value→Nat) (n t:Nat) (hm:P.follows .mixedOrders=true) (hn:n+S.length+t=l.length)
 (hB:Xn .any l.toArray head S X=true) (Iy:∀i v w w',Below w.heap.size w w'→R i v w→R i v w') (hMk:∀i∈S,∀o,nth l i=some o→lF P l.toArray (R i) bk o a w.drew)
 (h:Eg P .any l.toArray head Q (TMk l.toArray S R bk w.drew.heap.size (fun l' a w=>wpAny P .any l.toArray Q t l' a w)) n (aQ S (Array.replicate l.length false)) a w.drew):(Code.region id l.toArray true).wp P Q a w:=by
 refine wp_region_any hm ?_;simp only [Xn,Bool.and_eq_true,decide_eq_true_eq,List.all_eq_true] at hB;obtain ⟨⟨⟨hs,hnd⟩,hS⟩,hX⟩:=hB;have hSo:∀i∈S,∃oi,l.toArray[i]? = some oi∧(∀e∈oi.after,Region.binds .any e=false)∧∀j oj,l.toArray[j]? = some oj→j≠i→
  (if S.contains j||X.contains j||head.getD j false then oi.apart l.toArray oj&&oj.apart l.toArray oi else waits .any l.toArray i l.toArray.size j)=true:=by
  intro i hi;have h2:=hS i hi;cases ho:l.toArray[i]? with
  | none=>rw [ho] at h2;cases h2
  | some oi=>
    rw [ho] at h2;simp only [Bool.and_eq_true,Array.all_eq_true_iff_forall_mem,List.all_eq_true,List.mem_range] at h2;refine ⟨oi,rfl,fun e he=>by simpa using h2.1 e he,fun j oj hj hji=>?_⟩;have h3:=h2.2 j (Array.getElem?_eq_some_iff.1 hj).1;simp only [hj,Bool.or_eq_true,beq_iff_eq,hji,false_or] at h3;simpa using h3
 have hapart:∀i∈S,∀j oj,l.toArray[j]? = some oj→j≠i→(j∈S∨j∈X∨head.getD j false=true)→∃oi,l.toArray[i]? = some oi∧oi.apart l.toArray oj=true∧oj.apart l.toArray oi=true:=by
  intro i hi j oj hj hji hc;obtain ⟨oi,hoi,_,h3⟩:=hSo i hi;have h4:=h3 j oj hj hji;rw [if_pos (by rcases hc with h|h|h <;> simp [h])] at h4;simp only [Bool.and_eq_true] at h4;exact ⟨oi,hoi,h4⟩
 have hf:S.filter (fun _=>false)=[]:=by simp
 have ft:S.filter (fun i=>!(fun _=>false) i)=S:=List.filter_eq_self.2 (by simp);have:=El (P:=P) (ops:=l.toArray) (md:=.any) (head:=head) (Q:=Q) S R bk w.drew.heap.size t Iy hs hnd X
  (fun x hx=>by
    have h1:=hX x hx;refine ⟨by simpa using h1.1,fun o ho=>?_⟩;have h2:=h1.2;rw [ho] at h2;simp only [Bool.and_eq_true,Option.isNone_iff_eq_none] at h2;refine ⟨h2.1,h2.2,fun i hi=>?_⟩;have hxi:x≠i:=fun e=>by have:=h1.1;simp at this;exact this (e▸hi)
    obtain ⟨oi,hoi,g1,g2⟩:=hapart i hi x o ho hxi (.inr (.inl hx));obtain ⟨a1,a2,a3⟩:=Oper.apart_spec g1;obtain ⟨b1,b2,b3⟩:=Oper.apart_spec g2;have hd:bH l.toArray i=oi.dst:=by simp [bH,hoi]
    rw [hd]
    exact ⟨a1,b2,fun oi' vU=>by rw [hoi] at vU;cases vU;exact a3⟩)
  (fun j oj hj iQ RQ hh i hi=>by
    obtain ⟨oi,hoi,_,h3⟩:=hSo i hi;have h4:=h3 j oj hj (fun e=>iQ (e▸hi));rw [if_neg (by simp [iQ,RQ];simpa using hh)] at h4
    exact h4)
  (fun j oj hj iQ hh i hi=>by
    obtain ⟨oi,hoi,g1,g2⟩:=hapart i hi j oj hj (fun e=>iQ (e▸hi)) (.inr (.inr hh));obtain ⟨a1,a2,a3⟩:=Oper.apart_spec g1;have hd:bH l.toArray i=oi.dst:=by simp [bH,hoi]
    rw [hd]
    exact ⟨a1,a2,fun oi' vU=>by rw [hoi] at vU;cases vU;exact a3⟩)
  (fun i hi=>by
    obtain ⟨oi,hoi,_,_⟩:=hSo i hi;refine ⟨oi,hoi,fun k hk hki=>?_⟩;obtain ⟨ok,hok,_,_⟩:=hSo k hk;obtain ⟨oi',vU,g1,g2⟩:=hapart i hi k ok hok hki (.inl hk);rw [hoi] at vU;cases vU;obtain ⟨a1,a2,a3⟩:=Oper.apart_spec g1;have hd:bH l.toArray k=ok.dst:=by simp [bH,hok]
    rw [hd]
    exact ⟨a3,a2⟩)
  (n+S.length) n (fun _=>false) (fun _=>undef) (Array.replicate l.length false) a w.drew (by rw [ft]) (fun j o ho hj=>by simp [Array.getElem?_replicate] at hj;split at hj <;> simp at hj)
  (fun i hi _=>by
    obtain ⟨oi,hoi,hall,_⟩:=hSo i hi;have hlt:i<l.length:=by have:=(Array.getElem?_eq_some_iff.1 hoi).1;simpa using this
    refine ⟨?_,fun oi' vU=>hMk i hi oi' (by rw [Dm];simpa using vU)⟩;rw [mem_ready]
    exact ⟨by simp [hlt],oi,hoi,fun e he hb=>by rw [hall e he] at hb;cases hb⟩)
  (fun i _ h=>by cases h) (fun i _ k _ h=>by cases h) (Nat.le_refl _) (by rw [ft];exact h)
 rw [hf,hn] at this;simpa [dG] using this
end
end
end Go.Cd
namespace Go.Proofs.YtmpkfkoficehpaaGreatDoor
open Go.RowKit Go.Cd
theorem bB.qL {w:World} {v:Value} {l:List Int} (h:bB w v (bJ l)):∃a cap,v=.slice a l.length cap∧l.length≤cap∧∀i (hi:i<l.length),∃b off,a=some ⟨b,off,none⟩∧b<w.heap.size∧w.cell? ⟨b,off+i,none⟩=some (.int .i64 l[i]):=by
 obtain ⟨a,cap,hv,hc,hx⟩:=bB.out h;refine ⟨a,cap,by rw [hv,eT],by rw [eT] at hc;exact hc,fun i hi=>?_⟩;obtain ⟨b,off,h1,h2,h3⟩:=hx i (by rw [eT];exact hi);exact ⟨b,off,h1,h2,by rw [h3];simp [bJ]⟩
theorem Vi (w:World) (b:Int):Calls Tryz.prog 142 #[.int .i64 b] w fun e w'=>e=.returned (.bool (decide (b<1)))∧w'=w:=by
 go_enter Tryz.func142,Tryz.ntmps142;go_wp2;go_ret;exact ⟨rfl,rfl⟩
theorem Em {w:World} {v:Value} {l:List Int} (h:bB w v (bJ l)) (hmax:l.length<1099511627776) :
 Calls Tryz.prog 179 #[v,.func (.func 142) #[] #[]] w fun e w'=>∃r:Int,e=.returned (.int .i64 r)∧(0≤r↔∃b∈l,b<1)∧Below w.heap.size w w':=by
 obtain ⟨x1,xZ,rfl,_,hx1⟩:=bB.qL h;have lD:=aa hx1;clear h hx1;go_enter Tryz.func179,Tryz.ntmps179;go_wp2_with fail;go_loopw [8] (fun i wr=>∃j:Nat,j≤l.length∧i=.int .i64 j∧(∀t (ht:t<l.length),t<j→1≤l[t])∧Below w.heap.size w wr)
  (fun i _=>l.length-(intOf i).toNat)
 case atStart=>exact ⟨0,Nat.zero_le _,rfl,fun _ _ h=>by omega,Below.refl _ _⟩
 case round=>
  obtain ⟨j,hj,rfl,hno,hE⟩:=hrel;have Qf:=aa hno;clear hno;by_cases hjl:j<l.length
  ·obtain ⟨b1,Yy,rfl,hb1,hc1⟩:=lD.out j hjl;have hc1:=(hE.cell (p:=⟨b1,Yy+j,none⟩) hb1).trans hc1;have HB:=aa (show ∃b∈l,b=l[j] from ⟨_,List.getElem_mem _,rfl⟩);have HJ:=aa (show ∀t (ht:t<l.length),t=j→l[t]=l[j] from fun t ht e=>by subst e;rfl);generalize l[j]=b at *;go_wp2_with fail;refine (Vi wr b).mono ?_;rintro e w2 ⟨rfl,rfl⟩;by_cases hb:b<1
   ·have hbd:decide (b<1)=true:=decide_eq_true hb;rw [hbd];go_wp2;go_ret;obtain ⟨c,hc,rfl⟩:=HB.out;exact ⟨j,rfl,⟨fun _=>⟨c,hc,hb⟩,fun _=>by omega⟩,hE⟩
   ·have hbd:decide (b<1)=false:=decide_eq_false hb;rw [hbd];go_wp2;go_roundw
    case rel=>
     refine ⟨j+1,by omega,rfl,fun t ht htj=>?_,hE⟩;by_cases afo:t=j
     ·rw [HJ.out t ht afo];exact hb
     ·exact Qf.out t ht (by omega)
    case measure=>simp [intOf];omega
  ·obtain rfl:j=l.length:=by omega
   go_wp2;go_ret;refine ⟨-1,rfl,⟨fun h=>by omega,fun ⟨b,hb,h1⟩=>?_⟩,hE⟩;obtain ⟨t,ht,rfl⟩:=List.getElem_of_mem hb;have:=Qf.out t ht ht;omega
theorem xN {w:World} {v:Value} {l:List Int} (h:bB w v (bJ l)) (hmax:l.length<1099511627776) :
 Calls Tryz.prog 141 #[v,.func (.func 142) #[] #[]] w fun e w'=>e=.returned (.bool (l.any fun b=>decide (b<1)))∧Below w.heap.size w w':=by
 obtain ⟨x1,xZ,hv,_,_⟩:=bB.qL h;subst hv;have IF:=aa (Em h hmax);have key:∀r:Int,(0≤r↔∃b∈l,b<1)→decide (0≤r)=l.any fun b=>decide (b<1):=fun r hr=>by
  rw [Bool.eq_iff_iff,decide_eq_true_iff,hr];simp
 have KEY:=aa key;clear key h;go_enter Tryz.func141,Tryz.ntmps141;go_wp2_with fail;refine IF.out.mono ?_;rintro e w2 ⟨r,rfl,hr,hb⟩;have HR:=aa hr;clear hr;go_wp2;go_ret;exact ⟨dX (KEY.out r HR.out),hb⟩
theorem CP {w:World} {v:Value} {l:List Int} (h:bB w v (bJ l)) (hmax:l.length<1099511627776) :
 Calls Tryz.prog 143 #[v] w fun e w'=>∃r,e=.returned r∧w'.ownsRow w.heap.size bq 1 r l.length (bJ l)∧Below w.heap.size w w':=by
 rcases h.cases with ⟨hn,a,cap,rfl,h0⟩|⟨b,off,cap,rfl,hc,hp,hb,hx⟩
 ·have hl:l=[]:=by simpa [bJ] using hn
  subst hl;cases a with
  | none=>
    refine (Tryz.slices_Clone_int_nil 0 cap w).mono ?_;rintro e w' ⟨rfl,rfl⟩;exact ⟨_,rfl,World.ownsRow_nil _ _ _ _,Below.refl _ _⟩
  | some a=>
    refine (Tryz.slices_Clone_int_zero a cap w).mono ?_;rintro e w' ⟨r,rfl,ho,_,hb⟩;exact ⟨r,rfl,ho,hb⟩
 ·rw [eT] at *;refine (Tryz.slices_Clone_int b off l.length cap l w (Nat.le_refl _) (by omega) (fun j hj=>?_)).mono ?_
  ·rw [hx j (by rw [eT];exact hj)];simp [bJ,hj]
  ·rintro e w' ⟨r,rfl,ho,_,hb⟩;rw [List.take_length] at ho;exact ⟨r,rfl,ho,hb⟩
section
open Go.RowKit Go.Cd Go.Shelf
attribute [local go_sem] Oper.semAt_some
theorem Yz (F:Fence) (m:Nat) (hF:F.fn 180) (hro:F.round=none) (hm:1≤m) (l Bs b off n cap:Nat) (hmax:n<1099511627776) {α:Type} (el:Nat→α) (encs:α→Array Value) (val:Nat→Int)
 (henc:∀j,j<n→encs (el j)=#[.int .i64 (j:Int),.int .i64 (val j)]) (J Jx:List α→World→Prop)
 (hY:∀pre x W,J pre W→pre.length<n→YieldAt F (m-1) Tryz.prog l (encs x) W fun e W'=>
   (e=.returned (.bool true)∧J (pre++[x]) W'∧kI Bs b W W')∨(e=.returned (.bool false)∧Jx (pre++[x]) W'))
 (W:World) (Nr:W.cell? ⟨Bs,0,none⟩=some (.slice (some ⟨b,off,none⟩) n cap)) (hc:∀j,j<n→W.cell? ⟨b,off+j,none⟩=some (.int .i64 (val j))) (h0:J [] W) :
 CallsIn F m Tryz.prog 180 #[.func (.yield l) #[] #[],.pointer (some ⟨Bs,0,none⟩)] W fun e W'=>(∃v,e=.returned v)∧
  ((∃ys,ys=lu el n n∧J ys W')∨(∃pre,(∃k,k≤n∧pre=lu el n k)∧Jx pre W')):=by
 refine callsIn_of_wp Tryz.func180 rfl hF ?_ hro;simp only [Tryz.ntmps180,List.size_toArray,List.length_cons,List.length_nil,Nat.reduceAdd,Nat.reduceSub,Array.replicate_succ,Array.replicate_zero,List.push_toArray,List.append_toArray,List.nil_append,List.cons_append]
 gi_wp2
 gi_loopw [3] (fun i wr=>∃k:Nat,k≤n∧i=.int .i64 ((n:Int)-1-(k:Int))∧J (lu el n k) wr∧kI Bs b W wr)
  (fun i _=>(intOf i+1).toNat)
 case atStart=>exact ⟨0,Nat.zero_le _,by simp,h0,kI.refl _ _ _⟩
 case round=>
  obtain ⟨k,hk,rfl,hJs,hnx⟩:=hrel;have hcs:=(hnx.cellP 0).trans Nr;by_cases hlt:k<n
  ·obtain ⟨i,hi⟩:∃i:Nat,(n:Int)-1-(k:Int)=(i:Int):=⟨n-1-k,by omega⟩;have hin:i<n:=by omega
   have hik:n-1-k=i:=by omega
   have hcx:=(hnx.aaS (off+i)).trans (hc i hin);obtain ⟨fn,tmps,assign,body,hy,hR⟩:=hY _ (el i) wr hJs (by rw [wQ];exact hlt);rw [henc i hin] at hy;rw [hi];clear hi
   gi_wp2
   refine hR.mono ?_;rintro e W3 (⟨rfl,hJ3,hk3⟩|⟨rfl,hJx3⟩)
   ·have afp:=(hk3.cellP 0).trans hcs
    gi_wp2
    go_roundw
    case rel=>exact ⟨k+1,by omega,congrArg (Value.int .i64) (by omega),by rw [jY,hik];exact hJ3,hnx.trans hk3⟩
    case measure=>simp [intOf]
   ·gi_wp2
    refine bodyPost_ret (results_none rfl _ _ _) rfl ?_;exact ⟨⟨_,rfl⟩,.inr ⟨_,⟨k+1,by omega,by rw [jY,hik]⟩,hJx3⟩⟩
  ·obtain rfl:k=n:=by omega
   have hz:(k:Int)-1-(k:Int)=-1:=by omega
   rw [hz]
   gi_wp2
   go_end0
   exact ⟨⟨_,rfl⟩,.inl ⟨_,rfl,hJs⟩⟩
theorem Vj (F:Fence) (m:Nat) (hF:F.fn 180) (hro:F.round=none) (l Bs:Nat) (a:Option Addr) (cap:Nat) {α:Type} (J:List α→World→Prop) (W:World) (Nr:W.cell? ⟨Bs,0,none⟩=some (.slice a 0 cap)) (h0:J [] W) :
 CallsIn F m Tryz.prog 180 #[.func (.yield l) #[] #[],.pointer (some ⟨Bs,0,none⟩)] W fun e W'=>(∃v,e=.returned v)∧J [] W':=by
 refine callsIn_of_wp Tryz.func180 rfl hF ?_ hro;simp only [Tryz.ntmps180,List.size_toArray,List.length_cons,List.length_nil,Nat.reduceAdd,Nat.reduceSub,Array.replicate_succ,Array.replicate_zero,List.push_toArray,List.append_toArray,List.nil_append,List.cons_append]
 gi_wp2
 gi_loopw [3] (fun i wr=>i=.int .i64 (-1)∧J [] wr) (fun _ _=>0)
 case atStart=>exact ⟨rfl,h0⟩
 case round=>
  obtain ⟨rfl,hJs⟩:=hrel
  gi_wp2
  go_end0
  exact ⟨⟨_,rfl⟩,hJs⟩
theorem En (v:Value) (w:World) (hv:∃a n cap,v=.slice a n cap) :
 Calls Tryz.prog 144 #[v] w fun e w'=>e=.returned (.func (.func 180) #[] #[.pointer (some ⟨w.heap.size,0,none⟩)])∧w'=w.alloc (.cells #[v] 23):=by
 obtain ⟨a,n,cap,rfl⟩:=hv;go_enter Tryz.func144,Tryz.ntmps144;go_wp2;go_ret;exact ⟨rfl,rfl⟩
def zG (b:Nat) (W:World) (sv:Value) (n:Nat) (val:Nat→Int):Prop:=
 (n=0∧∃a cap,sv=.slice a 0 cap)∨∃off cap,sv=.slice (some ⟨b,off,none⟩) n cap∧b<W.heap.size∧∀j,j<n→W.cell? ⟨b,off+j,none⟩=some (.int .i64 (val j))
theorem zG.below {b:Nat} {A B:World} (h:Below A.heap.size A B) {sv:Value} {n:Nat} {val:Nat→Int}:zG b A sv n val→zG b B sv n val
 | .inl e=>.inl e
 | .inr ⟨off,cap,e,hb,hc⟩=>.inr ⟨off,cap,e,Nat.lt_of_lt_of_le hb h.size,fun j hj=>(h.cell (p:=⟨b,off+j,none⟩) hb).trans (hc j hj)⟩
theorem IB (F:Fence) (m:Nat) (hF:F.fn 180) (hro:F.round=none) (hm:1≤m) (Bs b:Nat) (sv:Value) (n:Nat) (hmax:n<1099511627776) {α:Type} (el:Nat→α) (encs:α→Array Value) (val:Nat→Int)
 (henc:∀j,j<n→encs (el j)=#[.int .i64 (j:Int),.int .i64 (val j)]) (w:World) (Nr:Bs<w.heap.size) (hc:w.cell? ⟨Bs,0,none⟩=some sv) (hI:zG b w sv n val) :
 SeqStopsK F m Tryz.prog 180 #[.pointer (some ⟨Bs,0,none⟩)] encs (kI Bs b) (fun ys=>ys=lu el n n) (fun pre=>∃k,k≤n∧pre=lu el n k) n w:=fun l J Jx W hW _ _ hY h0=>by
 have hc':=(hW.cell (p:=⟨Bs,0,none⟩) Nr).trans hc;rcases hI.below hW with ⟨rfl,a,cap,rfl⟩|⟨off,cap,rfl,hb,hcs⟩
 ·exact (Vj F m hF hro l Bs a cap J W hc' h0).mono fun e W' ⟨he,hj⟩=>⟨he,.inl ⟨_,rfl,by simpa [lu] using hj⟩⟩
 ·exact Yz F m hF hro hm l Bs b off n cap hmax el encs val henc J Jx hY W hc' hcs h0
end
section
open Go.RowKit Go.Cd Go.Shelf
attribute [local go_sem] Oper.semAt_some
theorem Vk {P:Program} {ops:Array Oper} {md:Region.Mode} {head:Array Bool} {Q:Exit→Act→World→Prop} {T:Array Bool→Act→World→Prop} {n:Nat} (i k:Nat) {o u:Oper} {listed:Array Bool} {a:Act} {w:World} (hB:(Region.ready md ops listed==[i,k]&&(head.getD i false&&head.getD k false))=true) (hi:nth ops.toList i=some o) (hk:nth ops.toList k=some u)
 (h:∀w',Below w.heap.size w w'→wpList P ops (QE Q w' (Eg P md ops head Q T n (listed.setIfInBounds i true))) [o] a w') (h':∀w',Below w.heap.size w w'→wpList P ops (QE Q w' (Eg P md ops head Q T n (listed.setIfInBounds k true))) [u] a w'):Eg P md ops head Q T (n+1) listed a w:=by
 simp only [Bool.and_eq_true,beq_iff_eq] at hB;obtain ⟨hr,hh⟩:=hB;intro w' hw';refine ⟨by rw [hr];simp,fun j hj=>?_⟩;rw [hr] at hj;simp only [List.mem_cons,List.not_mem_nil,or_false] at hj;rcases hj with rfl|rfl
 ·exact ⟨hh.1,lH (dV hi) (h w' hw')⟩
 ·exact ⟨hh.2,lH (dV hk) (h' w' hw')⟩
abbrev cB:TypeId:=154
structure oo (W:World) (k:Nat) (a b c:Value) (T:TypeId):Prop where
 at_:W.heap[k]? = some (.cells #[a,b,c] T)
theorem oo.cell {W:World} {k:Nat} {a b c:Value} {T:TypeId} (h:oo W k a b c T):W.cell? ⟨k,0,none⟩=some a∧W.cell? ⟨k,1,none⟩=some b∧W.cell? ⟨k,2,none⟩=some c:=by
 refine ⟨?_,?_,?_⟩ <;> (unfold World.cell?;rw [h.at_];rfl)
theorem oo.frozen {W:World} {k:Nat} {a b c:Value} {T:TypeId} (h:oo W k a b c T) (o:Nat):W.frozen? ⟨k,o,none⟩=false:=by
 unfold World.frozen?;rw [h.at_];simp
theorem oo.set0 {W:World} {k:Nat} {a b c:Value} {T:TypeId} (h:oo W k a b c T) (u:Value):oo (W.setCell ⟨k,0,none⟩ u) k u b c T:=⟨heap_setCell_same W k 0 _ _ _ h.at_⟩
theorem oo.set1 {W:World} {k:Nat} {a b c:Value} {T:TypeId} (h:oo W k a b c T) (u:Value):oo (W.setCell ⟨k,1,none⟩ u) k a u c T:=⟨heap_setCell_same W k 1 _ _ _ h.at_⟩
theorem oo.set2 {W:World} {k:Nat} {a b c:Value} {T:TypeId} (h:oo W k a b c T) (u:Value):oo (W.setCell ⟨k,2,none⟩ u) k a b u T:=⟨heap_setCell_same W k 2 _ _ _ h.at_⟩
theorem oo.put {W:World} {k:Nat} {a b c:Value} {T:TypeId} (h:oo W k a b c T) {j o:Nat} (hj:k≠j) (u:Value):oo (W.setCell ⟨j,o,none⟩ u) k a b c T:=⟨(Below.heap_setCell _ _ _ _ (by simp only;omega)).trans h.at_⟩
theorem oo.mono {W W':World} {k:Nat} {a b c:Value} {T:TypeId} (h:oo W k a b c T) (hb:Below W.heap.size W W'):oo W' k a b c T:=⟨(hb.block k (block_lt h.at_)).trans h.at_⟩
theorem oo.writes {W:World} {k:Nat} {a b c:Value} {T:TypeId} (h:oo W k a b c T):(W.cell? ⟨k,0,none⟩=some a∧W.frozen? ⟨k,0,none⟩=false)∧
 (∀u,(W.setCell ⟨k,0,none⟩ u).cell? ⟨k,1,none⟩=some b∧(W.setCell ⟨k,0,none⟩ u).frozen? ⟨k,1,none⟩=false)∧
 (∀u u',((W.setCell ⟨k,0,none⟩ u).setCell ⟨k,1,none⟩ u').cell? ⟨k,2,none⟩=some c∧((W.setCell ⟨k,0,none⟩ u).setCell ⟨k,1,none⟩ u').frozen? ⟨k,2,none⟩=false):=
 ⟨⟨h.cell.1,h.frozen 0⟩,fun u=>⟨(h.set0 u).cell.2.1,(h.set0 u).frozen 1⟩,fun u u'=>⟨((h.set0 u).set1 u').cell.2.2,((h.set0 u).set1 u').frozen 2⟩⟩
theorem uI {W:World} {k:Nat} {u:Value} {T:TypeId} (h:W.heap[k]? = some (.cells #[u] T)):W.cell? ⟨k,0,none⟩=some u∧W.frozen? ⟨k,0,none⟩=false:=by
 constructor
 ·unfold World.cell?;rw [h];rfl
 ·unfold World.frozen?;rw [h];rfl
abbrev BX (n:Nat):={ p:Nat×Nat // (p.1<n∨n=0)∧1≤p.2∧p.2<9223372036854775808 }
def Eo (n:Nat) (pre:List (BX n)):List Nat×Nat:=pre.foldl (fun s x=>(s.1.set x.1.1 s.2,s.2*x.1.2)) (List.replicate n 0,1)
theorem IC {n:Nat} (pre:List (BX n)) (x:BX n):Eo n (pre++[x])=((Eo n pre).1.set x.1.1 (Eo n pre).2,(Eo n pre).2*x.1.2):=by simp [Eo]
theorem Vl {n:Nat} (pre:List (BX n)):(Eo n pre).1.length=n:=by
 unfold Eo;have:∀(l:List (BX n)) (s:List Nat×Nat),(l.foldl (fun s x=>(s.1.set x.1.1 s.2,s.2*x.1.2)) s).1.length=s.1.length:=by
  intro l
  induction l with
  | nil=>intro s;rfl
  | cons x l ih=>intro s;rw [List.foldl_cons,ih];simp
 rw [this];simp
def Vm (bs:List Nat) (j:Nat):BX bs.length:=
 if h:j<bs.length∧1≤bs[j]?.getD 0∧bs[j]?.getD 0<9223372036854775808 then ⟨(j,bs[j]?.getD 0),.inl h.1,h.2.1,h.2.2⟩
 else ⟨(0,1),by simp only;omega,by decide,by decide⟩
theorem Er {bs:List Nat} (h1:∀b∈bs,1≤b) (h2:∀b∈bs,b<9223372036854775808) {j:Nat} (hj:j<bs.length):(Vm bs j).1=(j,bs[j]):=by
 have e:bs[j]?.getD 0=bs[j]:=by rw [List.getElem?_eq_getElem hj];rfl
 unfold Vm;rw [dif_pos ⟨hj,by rw [e];exact h1 _ (List.getElem_mem _),by rw [e];exact h2 _ (List.getElem_mem _)⟩];simp only [e]
def aX:List Nat→Nat
 | []=>1
 | b::bs=>b*aX bs
def weights:List Nat→List Nat
 | []=>[]
 | _::bs=>aX bs::weights bs
@[simp] theorem zH:∀bs:List Nat,(weights bs).length=bs.length
  | []=>rfl
  | _::bs=>by simp [weights,zH bs]
theorem j_:∀{bs:List Nat},(∀b∈bs,1≤b)→1≤aX bs
 | [],_=>Nat.le_refl _
 | b::bs,h=>Nat.mul_le_mul (h b (by simp)) (j_ fun c hc=>h c (by simp [hc]))
theorem zI:∀{bs:List Nat},(∀b∈bs,1≤b)→∀k,aX (bs.drop k)≤aX bs
 | [],_,k=>by simp
 | b::bs,_,0=>by simp
 | b::bs,h,k+1=>by
   have h1:=zI (bs:=bs) (fun c hc=>h c (by simp [hc])) k;have h2:=Nat.le_mul_of_pos_left (aX bs) (h b (by simp));simp only [List.drop_succ_cons,aX];omega
theorem KQ {bs:List Nat} (h1:∀b∈bs,1≤b) (h2:∀b∈bs,b<9223372036854775808):∀k,k≤bs.length→
 Eo bs.length (lu (Vm bs) bs.length k)=(List.replicate (bs.length-k) 0++weights (bs.drop (bs.length-k)),aX (bs.drop (bs.length-k)))
 | 0,_=>by
   rw [Nat.sub_zero,List.drop_length];show Eo bs.length []=_;simp [Eo,weights,aX]
 | k+1,hk=>by
   have ih:=KQ h1 h2 k (by omega);rw [jY,IC,ih];obtain ⟨i,hi⟩:=ae (bs.length-1-k);have e1:bs.length-k=i+1:=by omega
   have e2:bs.length-(k+1)=i:=by omega
   have hil:i<bs.length:=by omega
   rw [←hi,Er h1 h2 hil,e1,e2];have e3:bs.drop i=bs[i]::bs.drop (i+1):=List.drop_eq_getElem_cons hil;rw [e3];simp only [weights,aX];rw [Nat.mul_comm];congr 1;rw [List.set_append_left _ _ (by simp),List.replicate_succ',List.set_append_right _ _ (by simp)];simp
def fO (w:World) (v:Value) (bs:List Nat):Prop:=∃s1 s2,v=.agg #[s1,s2,.int .i64 (aX bs:Nat)]∧bB w s1 (ds bs)∧bB w s2 (ds (weights bs))
theorem fO.mono {w w':World} {v:Value} {bs:List Nat} (h:fO w v bs) (hb:Below w.heap.size w w'):fO w' v bs:=by
 obtain ⟨s1,s2,hv,h1,h2⟩:=h;exact ⟨s1,s2,hv,h1.mono hb,h2.mono hb⟩
theorem IE {bs:List Nat} (h1:∀b∈bs,1≤b) (h2:∀b∈bs,b<9223372036854775808) {k:Nat} (hk:k≤bs.length) {ini:List (BX bs.length)} {last:BX bs.length} (e1:lu (Vm bs) bs.length k=ini++[last])
 (e2:1073741824 / (Eo bs.length ini).2<last.1.2):1073741824<aX bs:=by
 cases k with
 | zero=>simp [lu] at e1
 | succ k=>
   rw [jY] at e1;obtain ⟨e3,e4⟩:=List.append_inj' e1 rfl;have e5:Vm bs (bs.length-1-k)=last:=by simpa using e4
   rw [←e3,KQ h1 h2 k (by omega),←e5] at e2;obtain ⟨i,hi⟩:=ae (bs.length-1-k);have hil:i<bs.length:=by omega
   rw [←hi,Er h1 h2 hil,show bs.length-k=i+1 from by omega] at e2;simp only at e2;have hd:=zI h1 i;rw [List.drop_eq_getElem_cons hil] at hd;simp only [aX] at hd;have hp:=j_ (bs:=bs.drop (i+1)) (fun b hb=>h1 b (List.mem_of_mem_drop hb));generalize aX (bs.drop (i+1))=p at *;generalize bs[i]=b at *;have h3:1073741824<b*p:=by
    have:=Nat.lt_mul_of_div_lt e2 (by omega);exact this
   omega
end
end Go.Proofs.YtmpkfkoficehpaaGreatDoor
