/-
  Regions that draw their order, a fourth time: makers from the region's beginning on, where pure operations of the tail (the parts of a tuple) may come ahead of a maker. No program is named here; no condition.
-/
import Derived.Test.YtcabmibcgedhhaaDoorFlow3
namespace Go.Cd
open Go.RowKit

section
variable {P : Program} {ops : Array Oper} {md : Region.Mode} {head : Array Bool}

theorem putS_snoc {vs : Nat → Value} : ∀ (E : List Nat) (e : Nat) (a : Act), putS ops vs (E ++ [e]) a = (putS ops vs E a).put (dstOf ops e) (vs e)
  | [], _, _ => rfl
  | i :: E, e, a => by simp only [List.cons_append, putS]; exact putS_snoc E e _

theorem setAll_snoc : ∀ (E : List Nat) (e : Nat) (L : Array Bool), setAll (E ++ [e]) L = (setAll E L).setIfInBounds e true
  | [], _, _ => rfl
  | i :: E, e, L => by simp only [List.cons_append, setAll]; exact setAll_snoc E e _

/-- It yields 'v' in every world, and asks nothing. -/
def PureAt (P : Program) (o : Oper) (a : Act) (v : Value) : Prop := ∀ w, (execOp a.eval o).run P w = .ok (.value v) w ∧ ∀ es, ((execOp a.eval o).runT P w es).2 = es

/-- What is done early: pure operations, one behind the other, each with its value. -/
inductive Early (P : Program) (md : Region.Mode) (ops : Array Oper) (L : Array Bool) (a : Act) (us : Nat → Value) : List Nat → Prop
  | nil : Early P md ops L a us []
  | snoc (E : List Nat) (e : Nat) (o : Oper) : Early P md ops L a us E → ops[e]? = some o → o.guard = none → e ∈ Region.ready md ops (setAll E L) → PureAt P o (putS ops us E a) (us e) → Early P md ops L a us (E ++ [e])

theorem early_congr {L : Array Bool} {a : Act} {us us' : Nat → Value} {E : List Nat} (h : Early P md ops L a us E) : (∀ k ∈ E, us k = us' k) → Early P md ops L a us' E := by
  induction h with
  | nil => intro _; exact .nil
  | snoc E e o hE ho hg hr hp ih =>
    intro hc
    refine .snoc E e o (ih fun k hk => hc k (by simp [hk])) ho hg hr ?_
    rw [← hc e (by simp), ← putS_congr E a (fun k hk => hc k (by simp [hk]))]
    exact hp

theorem wpOp_pure {Q : Exit → Act → World → Prop} {K : Act → World → Prop} {i : Nat} {o : Oper} {a : Act} {w : World} {v : Value} (hi : ops[i]? = some o) (hg : o.guard = none) (hp : PureAt P o a v) : wpOp P ops Q i K a w ↔ K (a.put o.dst v) w := by
  have hw : Region.wanted o (yielded ops a.tmps) = true := by simp [Region.wanted, hg]
  unfold wpOp
  simp only [hi, hw, if_true, Oper.wp, (hp w).1, Oper.upon]
  constructor
  · rintro (h | ⟨h, _⟩)
    · exact h
    · exfalso
      have := h.1
      rw [(hp w).2] at this
      simp at this
  · exact .inl

/-- A run of the rest may begin with what is done early. -/
theorem early_adv {Q : Exit → Act → World → Prop} {L : Array Bool} {a : Act} {us vs : Nat → Value} {S : List Nat} {w : World} (hs : Region.noSelect ops = true) :
    ∀ {E : List Nat}, Early P md ops L a us E → (∀ e ∈ E, ∀ o, ops[e]? = some o → ∀ i ∈ S, (∀ t, dstOf ops i = some t → t ∉ o.looksAt ops) ∧ ∀ t, o.dst = some t → dstOf ops i ≠ some t) →
    ∀ t, wpAny P md ops Q (t + E.length) L (putS ops vs S a) w → wpAny P md ops Q t (setAll E L) (putS ops vs S (putS ops us E a)) w := by
  intro E hE
  induction hE with
  | nil => intro _ t h; exact h
  | snoc E e o hE ho hg hr hp ih =>
    intro hap t h
    have h1 := ih (fun k hk => hap k (by simp [hk])) (t + 1) (by rw [List.length_append] at h; simp only [List.length_cons, List.length_nil] at h; rw [Nat.add_right_comm]; exact h)
    have h2 := h1.2 e hr
    have hape := hap e (by simp) o ho
    have hex := putS_exec (vs := vs) (Region.noSelect_spec hs e o · · ho) S (putS ops us E a) (fun i hi => (hape i hi).1)
    have hp' : PureAt P o (putS ops vs S (putS ops us E a)) (us e) := by unfold PureAt; rw [hex.1]; exact hp
    rw [wpOp_pure ho hg hp'] at h2
    have hd : dstOf ops e = o.dst := by simp [dstOf, ho]
    rw [putS_put S _ (fun i hi t ht => (hape i hi).2 t ht)] at h2
    rw [setAll_snoc, putS_snoc, hd]
    exact h2

/-- All makers that are still to come, run one behind the other. -/
theorem mk_all {R : Nat → Value → World → Prop} {bk : Value → Nat} {a : Act} (hRm : ∀ i v w w', Below w.heap.size w w' → R i v w → R i v w') : ∀ (rem : List Nat) (vs : Nat → Value) (w : World), rem.Nodup →
    (∀ i ∈ rem, ∃ oi, ops[i]? = some oi ∧ MkAt P ops (R i) bk oi a w) →
    ∃ (vs' : Nat → Value) (W : World), Below w.heap.size w W ∧ (∀ k, k ∉ rem → vs' k = vs k) ∧ (∀ i ∈ rem, R i (vs' i) W ∧ w.heap.size ≤ bk (vs' i) ∧ bk (vs' i) < W.heap.size) ∧ ∀ i ∈ rem, ∀ k ∈ rem, i ≠ k → bk (vs' i) ≠ bk (vs' k)
  | [], vs, w, _, _ => ⟨vs, w, Below.refl _ _, fun _ _ => rfl, fun _ h => absurd h (by simp), fun _ h => absurd h (by simp)⟩
  | i :: rem, vs, w, hnd, h => by
    rw [List.nodup_cons] at hnd
    obtain ⟨oi, hoi, hmk⟩ := h i (by simp)
    obtain ⟨v, W1, _, hb1, hR1, h1, h2⟩ := hmk.2 w (Below.refl _ _)
    obtain ⟨vs', W, hb, hk, hm, hd⟩ := mk_all hRm rem (upd vs i v) W1 hnd.2 (fun k hk => by
      obtain ⟨ok, hok, hm⟩ := h k (by simp [hk])
      exact ⟨ok, hok, hm.mono hb1⟩)
    have hvi : vs' i = v := by rw [hk i hnd.1]; simp [upd]
    refine ⟨vs', W, ext_trans hb1 hb, fun k hkn => ?_, fun k hk' => ?_, fun k hk1 l hl1 hkl => ?_⟩
    · simp only [List.mem_cons, not_or] at hkn
      rw [hk k hkn.2]; simp [upd, hkn.1]
    · rcases List.mem_cons.1 hk' with rfl | hk'
      · rw [hvi]; exact ⟨hRm _ _ _ _ hb hR1, h1, Nat.lt_of_lt_of_le h2 hb.size⟩
      · obtain ⟨g1, g2, g3⟩ := hm k hk'
        exact ⟨g1, Nat.le_trans hb1.size g2, g3⟩
    · rcases List.mem_cons.1 hk1 with e1 | hk2 <;> rcases List.mem_cons.1 hl1 with e2 | hl2
      · exact absurd (e1.trans e2.symm) hkl
      · subst e1
        rw [hvi]
        have := (hm l hl2).2.1
        omega
      · subst e2
        rw [hvi]
        have := (hm k hk2).2.1
        omega
      · exact hd k hk2 l hl2 hkl

/-- Only makers are wanting, and what may come ahead of them. -/
theorem wpAny_mk0 {Q : Exit → Act → World → Prop} (S : List Nat) (R : Nat → Value → World → Prop) (bk : Value → Nat) (N t : Nat) (hRm : ∀ i v w w', Below w.heap.size w w' → R i v w → R i v w') (hs : Region.noSelect ops = true) (hnd : S.Nodup)
    (X : List Nat) (L : Array Bool) (a : Act)
    (hX : ∀ x ∈ X, x ∉ S ∧ ∀ o, ops[x]? = some o → isPure o.op = true ∧ o.guard = none ∧ ∀ i ∈ S, (∀ t, dstOf ops i = some t → t ∉ o.looksAt ops) ∧ (∀ t, o.dst = some t → dstOf ops i ≠ some t) ∧ ∀ oi, ops[i]? = some oi → ∀ t, o.dst = some t → t ∉ oi.looksAt ops)
    (hW : ∀ j oj, ops[j]? = some oj → j ∉ S → j ∉ X → L.getD j true = false → ∀ i ∈ S, waits md ops i ops.size j = true)
    (hM : ∀ i ∈ S, ∃ oi, ops[i]? = some oi ∧ ∀ k ∈ S, k ≠ i → (∀ t, dstOf ops k = some t → t ∉ oi.looksAt ops) ∧ ∀ t, oi.dst = some t → dstOf ops k ≠ some t) :
    ∀ (m : Nat) (done : Nat → Bool) (vs us : Nat → Value) (E : List Nat) (listed : Array Bool) (w : World), m = (S.filter fun i => !done i).length + (t - E.length) → Closed md ops listed →
      setAll (S.filter fun i => !done i) listed = setAll E L →
      (∀ i ∈ S, done i = false → i ∈ Region.ready md ops listed ∧ ∀ oi, ops[i]? = some oi → MkAt P ops (R i) bk oi a w) →
      (∀ i ∈ S, done i = true → listed.getD i false = true ∧ R i (vs i) w ∧ N ≤ bk (vs i) ∧ bk (vs i) < w.heap.size) → (∀ i ∈ S, ∀ k ∈ S, done i = true → done k = true → i ≠ k → bk (vs i) ≠ bk (vs k)) → N ≤ w.heap.size →
      Early P md ops L a us E → (∀ e ∈ E, e ∈ X) → E.length ≤ t →
      (∀ w', Below w.heap.size w w' → TMk ops S R bk N (fun L a w => wpAny P md ops Q t L a w) L a w') →
      wpAny P md ops Q m listed (putS ops vs (S.filter done) (putS ops us E a)) w := by
  have hEap : ∀ {E : List Nat}, (∀ e ∈ E, e ∈ X) → ∀ e ∈ E, ∀ o, ops[e]? = some o → ∀ i ∈ S, (∀ t, dstOf ops i = some t → t ∉ o.looksAt ops) ∧ ∀ t, o.dst = some t → dstOf ops i ≠ some t :=
    fun hE e he o ho i hi => ⟨((hX e (hE e he)).2 o ho).2.2 i hi |>.1, ((hX e (hE e he)).2 o ho).2.2 i hi |>.2.1⟩
  intro m
  induction m with
  | zero =>
    intro done vs us E listed w hm hcl hL hrem hdone hdist hN hE hEX hEt hT
    have hr0 : (S.filter fun i => !done i).length = 0 := by omega
    have hrn := List.length_eq_zero_iff.1 hr0
    have hall : ∀ i ∈ S, done i = true := fun i hi => by simpa using (List.filter_eq_nil_iff.1 hrn) i hi
    rw [hrn] at hL
    have hL' : listed = setAll E L := hL
    rw [hL', List.filter_eq_self.2 hall]
    refine early_adv hs hE (hEap hEX) 0 ?_
    rw [show 0 + E.length = t from by omega]
    exact hT w (Below.refl _ _) vs (fun i hi => (hdone i hi (hall i hi)).2) (fun i hi k hk => hdist i hi k hk (hall i hi) (hall k hk))
  | succ m ih =>
    intro done vs us E listed w hm hcl hL hrem hdone hdist hN hE hEX hEt hT
    cases hrem0 : S.filter (fun i => !done i) with
    | nil =>
      have hall : ∀ i ∈ S, done i = true := fun i hi => by simpa using (List.filter_eq_nil_iff.1 hrem0) i hi
      rw [hrem0] at hL hm
      have hL' : listed = setAll E L := hL
      rw [hL', List.filter_eq_self.2 hall]
      refine early_adv hs hE (hEap hEX) (m + 1) ?_
      rw [show m + 1 + E.length = t from by simp at hm; omega]
      exact hT w (Below.refl _ _) vs (fun i hi => (hdone i hi (hall i hi)).2) (fun i hi k hk => hdist i hi k hk (hall i hi) (hall k hk))
    | cons i0 rem0 =>
      have hi0 : i0 ∈ S.filter (fun i => !done i) := by rw [hrem0]; simp
      obtain ⟨hi0S, hi0d⟩ := List.mem_filter.1 hi0
      have hi0d : done i0 = false := by simpa using hi0d
      -- a run in which all makers come now
      obtain ⟨vs', W', hbW, hk', hm', hd'⟩ := mk_all (P := P) (ops := ops) (a := a) hRm (S.filter fun i => !done i) vs w (hnd.filter _) (fun i hi => by
        obtain ⟨hiS, hid⟩ := List.mem_filter.1 hi
        obtain ⟨oi, hoi, _⟩ := hM i hiS
        exact ⟨oi, hoi, (hrem i hiS (by simpa using hid)).2 oi hoi⟩)
      have hfull : wpAny P md ops Q (t - E.length) (setAll E L) (putS ops vs' S (putS ops us E a)) W' := by
        refine early_adv hs hE (hEap hEX) _ ?_
        rw [Nat.sub_add_cancel hEt]
        refine hT W' hbW vs' (fun i hi => ?_) (fun i hi k hk hik => ?_)
        · cases hid : done i
          · obtain ⟨g1, g2, g3⟩ := hm' i (List.mem_filter.2 ⟨hi, by simp [hid]⟩)
            exact ⟨g1, Nat.le_trans hN g2, g3⟩
          · rw [hk' i (fun h => by have := (List.mem_filter.1 h).2; simp [hid] at this)]
            obtain ⟨_, g1, g2, g3⟩ := hdone i hi hid
            exact ⟨hRm _ _ _ _ hbW g1, g2, Nat.lt_of_lt_of_le g3 hbW.size⟩
        · cases hid : done i <;> cases hkd : done k
          · exact hd' i (List.mem_filter.2 ⟨hi, by simp [hid]⟩) k (List.mem_filter.2 ⟨hk, by simp [hkd]⟩) hik
          · rw [hk' k (fun h => by have := (List.mem_filter.1 h).2; simp [hkd] at this)]
            have := (hm' i (List.mem_filter.2 ⟨hi, by simp [hid]⟩)).2.1
            have := (hdone k hk hkd).2.2.2
            omega
          · rw [hk' i (fun h => by have := (List.mem_filter.1 h).2; simp [hid] at this)]
            have := (hm' k (List.mem_filter.2 ⟨hk, by simp [hkd]⟩)).2.1
            have := (hdone i hi hid).2.2.2
            omega
          · rw [hk' i (fun h => by have := (List.mem_filter.1 h).2; simp [hid] at this), hk' k (fun h => by have := (List.mem_filter.1 h).2; simp [hkd] at this)]
            exact hdist i hi k hk hid hkd hik
      refine ⟨fun h => (by have := (hrem i0 hi0S hi0d).1; rw [h] at this; cases this), fun j hj => ?_⟩
      obtain ⟨hjun, oj, hoj, hjall⟩ := mem_ready.1 hj
      have hjlt : j < listed.size := by
        rcases Nat.lt_or_ge j listed.size with h' | h'
        · exact h'
        · simp [Array.getElem?_eq_none h'] at hjun
      by_cases hjS : j ∈ S
      · -- a maker
        have hjd : done j = false := by
          cases hd : done j
          · rfl
          · have h1 := (hdone j hjS hd).1
            have h2 := getD_false_of_true hjun
            rw [h1] at h2; cases h2
        have hMK := (hrem j hjS hjd).2 oj hoj
        have hdstj : dstOf ops j = oj.dst := by simp [dstOf, hoj]
        have hapS : ∀ i ∈ S, i ≠ j → (∀ t, dstOf ops i = some t → t ∉ oj.looksAt ops) ∧ (∀ t, dstOf ops j = some t → dstOf ops i ≠ some t) := by
          intro i hi hij
          obtain ⟨oj', hoj', h⟩ := hM j hjS
          rw [hoj] at hoj'; cases hoj'
          rw [hdstj]
          exact h i hi hij
        have hexE := putS_exec (vs := us) (Region.noSelect_spec hs j oj · · hoj) E a (fun e he t ht => by
          cases ho : ops[e]? with
          | none => exact absurd ht (by unfold dstOf; rw [ho]; exact fun h => by cases h)
          | some o =>
            have hd : dstOf ops e = o.dst := by simp [dstOf, ho]
            rw [hd] at ht
            exact (((hX e (hEX e he)).2 o ho).2.2 j hjS).2.2 oj hoj t ht)
        have hex := putS_exec (vs := vs) (Region.noSelect_spec hs j oj · · hoj) (S.filter done) (putS ops us E a) (fun i hi => (hapS i (List.mem_filter.1 hi).1 (fun e => by have h := (List.mem_filter.1 hi).2; rw [e, hjd] at h; cases h)).1)
        have hMK' : MkAt P ops (R j) bk oj (putS ops vs (S.filter done) (putS ops us E a)) w := (hMK.same hexE.1 hexE.2).same hex.1 hex.2
        refine wpOp_mono (fun _ _ h => h.2) (wpOp_QP (Q := Q) (MkAt.opE (Q := Q) (K := fun a w => wpAny P md ops Q m (listed.setIfInBounds j true) a w) hoj hMK' fun v W1 hb hR h1 h2 => ?_))
        rw [← hdstj, putS_step hjd S _ hjS hnd (fun i hi hij => (hapS i hi hij).2)]
        have hvj : upd vs j v j = v := by simp [upd]
        have hvi : ∀ i, i ≠ j → upd vs j v i = vs i := fun i hi => by simp [upd, hi]
        refine ih (fun i => done i || i == j) (upd vs j v) us E (listed.setIfInBounds j true) W1 (by have := filter_drop hjd S hjS hnd; omega) (hcl.step hj) ?_ ?_ ?_ ?_ (Nat.le_trans hN hb.size) hE hEX hEt (fun w' hw' => hT w' (ext_trans hb hw'))
        · rw [← hL]
          refine setAll_ext (by simp) fun k hk => ?_
          simp only [Array.size_setIfInBounds] at hk
          simp only [List.mem_filter]
          by_cases hkj : k = j
          · subst hkj; simp [hk, hjS, hjd]
          · rw [getD_set_ne false (Ne.symm hkj)]; simp [hkj]
        · intro i hi hid
          simp only [Bool.or_eq_false_iff, beq_eq_false_iff_ne] at hid
          obtain ⟨g1, g2⟩ := hrem i hi hid.1
          exact ⟨ready_mono g1 hid.2, fun oi hoi => (g2 oi hoi).mono hb⟩
        · intro i hi hid
          by_cases hij : i = j
          · subst hij
            rw [hvj]
            exact ⟨by simp [hjlt], hR, Nat.le_trans hN h1, h2⟩
          · simp only [Bool.or_eq_true, beq_iff_eq, hij, or_false] at hid
            rw [hvi i hij]
            obtain ⟨g1, g2, g3, g4⟩ := hdone i hi hid
            exact ⟨getD_set_true g1, hRm _ _ _ _ hb g2, g3, Nat.lt_of_lt_of_le g4 hb.size⟩
        · intro i hi k hk hid hkd hik
          by_cases hij : i = j
          · subst hij
            have hki : k ≠ i := Ne.symm hik
            simp only [Bool.or_eq_true, beq_iff_eq, hki, or_false] at hkd
            rw [hvj, hvi k hki]
            have := (hdone k hk hkd).2.2.2
            omega
          · simp only [Bool.or_eq_true, beq_iff_eq, hij, or_false] at hid
            rw [hvi i hij]
            by_cases hkj : k = j
            · subst hkj
              rw [hvj]
              have := (hdone i hi hid).2.2.2
              omega
            · simp only [Bool.or_eq_true, beq_iff_eq, hkj, or_false] at hkd
              rw [hvi k hkj]
              exact hdist i hi k hk hid hkd hik
      · -- what is pure
        have hLj : (setAll E L).getD j true = listed.getD j true := by
          rw [← hL, setAll_get, if_neg (fun h => hjS (List.mem_filter.1 h.1).1)]
        have hjL : L.getD j true = false := by
          rw [hjun, setAll_get] at hLj
          split at hLj
          · cases hLj
          · exact hLj
        have hjX : j ∈ X := Classical.byContradiction fun hjX => by
          have h0 := getD_false_of_true (mem_ready.1 (hrem i0 hi0S hi0d).1).1
          exact waits_spec hcl h0 _ j oj hoj (hW j oj hoj hjS hjX hjL i0 hi0S) hjall
        obtain ⟨_, hXj⟩ := hX j hjX
        obtain ⟨hpure, hg, hapj⟩ := hXj oj hoj
        have hjr : j ∈ Region.ready md ops (setAll E L) := by
          rw [mem_ready]
          refine ⟨by rw [hLj]; exact hjun, oj, hoj, fun e he hb => ?_⟩
          rw [← hL, setAll_get]
          split
          · rfl
          · exact hjall e he hb
        have hexA := putS_exec (vs := vs) (Region.noSelect_spec hs j oj · · hoj) (S.filter done) (putS ops us E a) (fun i hi => (hapj i (List.mem_filter.1 hi).1).1)
        have hexB := putS_exec (vs := vs') (Region.noSelect_spec hs j oj · · hoj) S (putS ops us E a) (fun i hi => (hapj i hi).1)
        obtain ⟨s, hs1⟩ : ∃ s, t - E.length = s + 1 := by
          rcases Nat.eq_zero_or_pos (t - E.length) with h | h
          · exfalso
            rw [h] at hfull
            have := hfull.1
            rw [this] at hjr; cases hjr
          · exact ⟨t - E.length - 1, by omega⟩
        rw [hs1] at hfull
        have hop := hfull.2 j hjr
        rcases pure_run (P := P) (ρ := (putS ops us E a).eval) hpure with ⟨v, hv⟩ | ⟨x, hv⟩
        · have hp0 : PureAt P oj (putS ops us E a) v := hv
          have hpA : PureAt P oj (putS ops vs (S.filter done) (putS ops us E a)) v := by unfold PureAt; rw [hexA.1]; exact hp0
          rw [wpOp_pure hoj hg hpA]
          have hdj : dstOf ops j = oj.dst := by simp [dstOf, hoj]
          have hjE : j ∉ E := fun h => by
            have h2 : (setAll E L).getD j true = true := by
              rw [setAll_get]
              split
              · rfl
              · rename_i hn
                rcases Nat.lt_or_ge j L.size with h' | h'
                · exact absurd ⟨h, h'⟩ hn
                · simp [Array.getElem?_eq_none h']
            rw [hLj, hjun] at h2; cases h2
          have husE : putS ops us E a = putS ops (upd us j v) E a := putS_congr _ _ fun k hk => by
            have : k ≠ j := fun e => hjE (e ▸ hk)
            simp [upd, this]
          have hE' : Early P md ops L a (upd us j v) E := early_congr hE fun k hk => by
            have : k ≠ j := fun e => hjE (e ▸ hk)
            simp [upd, this]
          have hjv : upd us j v j = v := by simp [upd]
          rw [putS_put (S.filter done) _ (fun i hi t ht => (hapj i (List.mem_filter.1 hi).1).2.1 t ht), husE]
          have e1 : ((putS ops (upd us j v) E a).put oj.dst v) = putS ops (upd us j v) (E ++ [j]) a := by rw [putS_snoc, hdj, hjv]
          rw [e1]
          refine ih done vs (upd us j v) (E ++ [j]) (listed.setIfInBounds j true) w (by simp; omega) (hcl.step hj) ?_ ?_ ?_ hdist hN (.snoc E j oj hE' hoj hg hjr (by rw [hjv, ← husE]; exact hp0)) ?_ (by simp; omega) hT
          · rw [setAll_snoc, ← hL]
            have h2 : ∀ (l : List Nat) (x : Array Bool), setAll [j] (setAll l x) = setAll l (setAll [j] x) := by
              intro l
              induction l with
              | nil => intro x; rfl
              | cons k l ihl =>
                intro x
                simp only [setAll] at ihl ⊢
                rw [ihl]
                by_cases hkj : k = j
                · subst hkj; rfl
                · rw [Array.setIfInBounds_comm _ _ hkj]
            exact (h2 _ _).symm
          · intro i hi hid
            obtain ⟨g1, g2⟩ := hrem i hi hid
            exact ⟨ready_mono g1 (fun e => hjS (e ▸ hi)), g2⟩
          · intro i hi hid
            obtain ⟨g1, g2⟩ := hdone i hi hid
            exact ⟨getD_set_true g1, g2⟩
          · intro e he
            rcases List.mem_append.1 he with h | h
            · exact hEX e h
            · rw [List.mem_singleton.1 h]; exact hjX
        · exfalso
          have hw : Region.wanted oj (yielded ops (putS ops vs' S (putS ops us E a)).tmps) = true := by simp [Region.wanted, hg]
          unfold wpOp at hop
          simp only [hoj, hw, if_true, Oper.wp] at hop
          rw [hexB.1] at hop
          rcases hop with h | ⟨h, _⟩
          · rw [(hv W').1] at h
            exact h
          · have := h.1
            rw [hexB.1, (hv W').2] at this
            simp at this


theorem opE_any {Q : Exit → Act → World → Prop} {K : Act → World → Prop} {j : Nat} {a : Act} {w : World} (h : opE P ops Q j K a w) : wpOp P ops Q j K a w := wpOp_mono (fun _ _ h => h.2) (wpOp_QP h)

/-- The makers, the calls, the tail. -/
theorem wpAny_makers {Q : Exit → Act → World → Prop} (S : List Nat) (R : Nat → Value → World → Prop) (bk : Value → Nat) (N t : Nat) (hRm : ∀ i v w w', Below w.heap.size w w' → R i v w → R i v w') (hs : Region.noSelect ops = true) (hnd : S.Nodup)
    (X : List Nat)
    (hX : ∀ x ∈ X, x ∉ S ∧ ∀ o, ops[x]? = some o → isPure o.op = true ∧ o.guard = none ∧ ∀ i ∈ S, (∀ t, dstOf ops i = some t → t ∉ o.looksAt ops) ∧ (∀ t, o.dst = some t → dstOf ops i ≠ some t) ∧ ∀ oi, ops[i]? = some oi → ∀ t, o.dst = some t → t ∉ oi.looksAt ops)
    (hW : ∀ j oj, ops[j]? = some oj → j ∉ S → j ∉ X → head.getD j false = false → ∀ i ∈ S, waits md ops i ops.size j = true)
    (hH : ∀ j oj, ops[j]? = some oj → j ∉ S → head.getD j false = true → ∀ i ∈ S, (∀ t, dstOf ops i = some t → t ∉ oj.looksAt ops) ∧ (∀ t, dstOf ops i = some t → oj.dst ≠ some t) ∧ ∀ oi, ops[i]? = some oi → ∀ t, oj.dst = some t → t ∉ oi.looksAt ops)
    (hM : ∀ i ∈ S, ∃ oi, ops[i]? = some oi ∧ ∀ k ∈ S, k ≠ i → (∀ t, dstOf ops k = some t → t ∉ oi.looksAt ops) ∧ ∀ t, oi.dst = some t → dstOf ops k ≠ some t) :
    ∀ (m n : Nat) (done : Nat → Bool) (vs : Nat → Value) (listed : Array Bool) (a : Act) (w : World), m = n + (S.filter fun i => !done i).length → Closed md ops listed →
      (∀ i ∈ S, done i = false → i ∈ Region.ready md ops listed ∧ ∀ oi, ops[i]? = some oi → MkAt P ops (R i) bk oi a w) →
      (∀ i ∈ S, done i = true → listed.getD i false = true ∧ R i (vs i) w ∧ N ≤ bk (vs i) ∧ bk (vs i) < w.heap.size) → (∀ i ∈ S, ∀ k ∈ S, done i = true → done k = true → i ≠ k → bk (vs i) ≠ bk (vs k)) → N ≤ w.heap.size →
      wpH P md ops head Q (TMk ops S R bk N (fun L a w => wpAny P md ops Q t L a w)) n (setAll (S.filter fun i => !done i) listed) a w →
      wpAny P md ops Q (m + t) listed (putS ops vs (S.filter done) a) w := by
  intro m
  induction m with
  | zero =>
    intro n done vs listed a w hm hcl hrem hdone hdist hN H
    obtain ⟨rfl, hr⟩ : n = 0 ∧ (S.filter fun i => !done i).length = 0 := by omega
    have hrn := List.length_eq_zero_iff.1 hr
    rw [hrn] at H
    have hall : ∀ i ∈ S, done i = true := fun i hi => by simpa using (List.filter_eq_nil_iff.1 hrn) i hi
    obtain ⟨_, h2⟩ := H w (Below.refl _ _)
    rw [List.filter_eq_self.2 hall, Nat.zero_add]
    exact h2 vs (fun i hi => (hdone i hi (hall i hi)).2) (fun i hi k hk => hdist i hi k hk (hall i hi) (hall k hk))
  | succ m ih =>
    intro n done vs listed a w hm hcl hrem hdone hdist hN H
    cases n with
    | zero =>
      -- only makers are wanting
      have hhd := (H w (Below.refl _ _)).1
      have := wpAny_mk0 (P := P) (Q := Q) S R bk N t hRm hs hnd X (setAll (S.filter fun i => !done i) listed) a hX
        (fun j oj hj hjS hjX hun => hW j oj hj hjS hjX (by
          cases hh : head.getD j false
          · rfl
          · have := headDone_spec hhd hh
            rw [getD_false_of_true hun] at this; cases this)) hM (m + 1 + t) done vs vs [] listed w (by simp; omega) hcl rfl hrem hdone hdist hN .nil (fun e he => by cases he) (Nat.zero_le _)
        (fun w' hw' => (H w' hw').2)
      exact this
    | succ n =>
      have hready : ∀ j, j ∈ Region.ready md ops listed → j ∉ S → j ∈ Region.ready md ops (setAll (S.filter fun i => !done i) listed) := by
        intro j hj hjS
        rw [mem_ready] at hj ⊢
        obtain ⟨h0, o, ho, hall⟩ := hj
        refine ⟨?_, o, ho, fun e he hb => ?_⟩
        · rw [setAll_get, if_neg (fun h => hjS (List.mem_filter.1 h.1).1)]; exact h0
        · rw [setAll_get]; split
          · rfl
          · exact hall e he hb
      rw [Nat.add_right_comm]
      constructor
      · intro hnil
        cases hf : S.filter (fun i => !done i) with
        | cons i l =>
          have hi : i ∈ S.filter (fun i => !done i) := by rw [hf]; simp
          obtain ⟨hiS, hid⟩ := List.mem_filter.1 hi
          have := (hrem i hiS (by simpa using hid)).1
          rw [hnil] at this; cases this
        | nil =>
          rw [hf] at H
          exact absurd hnil (H w (Below.refl _ _)).1
      · intro j hj
        obtain ⟨hjun, oj, hoj, _⟩ := mem_ready.1 hj
        have hjlt : j < listed.size := by
          rcases Nat.lt_or_ge j listed.size with h' | h'
          · exact h'
          · simp [Array.getElem?_eq_none h'] at hjun
        by_cases hjS : j ∈ S
        · have hjd : done j = false := by
            cases hd : done j
            · rfl
            · have h1 := (hdone j hjS hd).1
              have h2 := getD_false_of_true hjun
              rw [h1] at h2; cases h2
          have hMK := (hrem j hjS hjd).2 oj hoj
          have hdstj : dstOf ops j = oj.dst := by simp [dstOf, hoj]
          have hapS : ∀ i ∈ S, i ≠ j → (∀ t, dstOf ops i = some t → t ∉ oj.looksAt ops) ∧ (∀ t, dstOf ops j = some t → dstOf ops i ≠ some t) := by
            intro i hi hij
            obtain ⟨oj', hoj', h⟩ := hM j hjS
            rw [hoj] at hoj'; cases hoj'
            rw [hdstj]
            exact h i hi hij
          have hex := putS_exec (vs := vs) (Region.noSelect_spec hs j oj · · hoj) (S.filter done) a (fun i hi => (hapS i (List.mem_filter.1 hi).1 (fun e => by have h := (List.mem_filter.1 hi).2; rw [e, hjd] at h; cases h)).1)
          refine opE_any (MkAt.opE (Q := Q) (K := fun a w => wpAny P md ops Q (m + t) (listed.setIfInBounds j true) a w) hoj (hMK.same hex.1 hex.2) fun v W' hb hR h1 h2 => ?_)
          rw [← hdstj, putS_step hjd S a hjS hnd (fun i hi hij => (hapS i hi hij).2)]
          have hvj : upd vs j v j = v := by simp [upd]
          have hvi : ∀ i, i ≠ j → upd vs j v i = vs i := fun i hi => by simp [upd, hi]
          refine ih (n + 1) (fun i => done i || i == j) (upd vs j v) (listed.setIfInBounds j true) a W' (by have := filter_drop hjd S hjS hnd; omega) (hcl.step hj) ?_ ?_ ?_ (Nat.le_trans hN hb.size) ?_
          · intro i hi hid
            simp only [Bool.or_eq_false_iff, beq_eq_false_iff_ne] at hid
            obtain ⟨g1, g2⟩ := hrem i hi hid.1
            exact ⟨ready_mono g1 hid.2, fun oi hoi => (g2 oi hoi).mono hb⟩
          · intro i hi hid
            by_cases hij : i = j
            · subst hij
              rw [hvj]
              exact ⟨by simp [hjlt], hR, Nat.le_trans hN h1, h2⟩
            · simp only [Bool.or_eq_true, beq_iff_eq, hij, or_false] at hid
              rw [hvi i hij]
              obtain ⟨g1, g2, g3, g4⟩ := hdone i hi hid
              exact ⟨getD_set_true g1, hRm _ _ _ _ hb g2, g3, Nat.lt_of_lt_of_le g4 hb.size⟩
          · intro i hi k hk hid hkd hik
            by_cases hij : i = j
            · subst hij
              have hki : k ≠ i := Ne.symm hik
              simp only [Bool.or_eq_true, beq_iff_eq, hki, or_false] at hkd
              rw [hvj, hvi k hki]
              have := (hdone k hk hkd).2.2.2
              omega
            · simp only [Bool.or_eq_true, beq_iff_eq, hij, or_false] at hid
              rw [hvi i hij]
              by_cases hkj : k = j
              · subst hkj
                rw [hvj]
                have := (hdone i hi hid).2.2.2
                omega
              · simp only [Bool.or_eq_true, beq_iff_eq, hkj, or_false] at hkd
                rw [hvi k hkj]
                exact hdist i hi k hk hid hkd hik
          · have e : setAll (S.filter fun i => !(done i || i == j)) (listed.setIfInBounds j true) = setAll (S.filter fun i => !done i) listed := by
              refine setAll_ext (by simp) fun k hk => ?_
              simp only [Array.size_setIfInBounds] at hk
              simp only [List.mem_filter]
              by_cases hkj : k = j
              · subst hkj; simp [hk, hjS, hjd]
              · rw [getD_set_ne false (Ne.symm hkj)]; simp [hkj]
            rw [e]
            exact wpH_mono (n := n + 1) hb H
        · obtain ⟨hhj, hop⟩ := (H w (Below.refl _ _)).2 j (hready j hj hjS)
          have hapS := hH j oj hoj hjS hhj
          have hk := opE_keep (Φ := fun a w' => (∀ i ∈ S, done i = false → ∀ oi, ops[i]? = some oi → MkAt P ops (R i) bk oi a w') ∧ (∀ i ∈ S, done i = true → R i (vs i) w' ∧ N ≤ bk (vs i) ∧ bk (vs i) < w'.heap.size) ∧ N ≤ w'.heap.size) hoj
            (fun a w' v h => ⟨fun i hi hid oi hoi => (h.1 i hi hid oi hoi).same (execOp_put oi (Region.noSelect_spec hs i oi · · hoi) a _ _ ((hapS i hi).2.2 oi hoi)) (wanted_put oi a _ _ ((hapS i hi).2.2 oi hoi)), h.2⟩)
            (fun a w' d h => ⟨fun i hi hid oi hoi => (h.1 i hi hid oi hoi).same rfl rfl, h.2⟩)
            (fun a w' w'' hb h => ⟨fun i hi hid oi hoi => (h.1 i hi hid oi hoi).mono hb, fun i hi hid => ⟨hRm _ _ _ _ hb (h.2.1 i hi hid).1, (h.2.1 i hi hid).2.1, Nat.lt_of_lt_of_le (h.2.1 i hi hid).2.2 hb.size⟩, Nat.le_trans h.2.2 hb.size⟩)
            hop ⟨fun i hi hid => (hrem i hi hid).2, fun i hi hid => (hdone i hi hid).2, hN⟩
          have hu := opE_underS (vs := vs) hoj (Region.noSelect_spec hs j oj · · hoj) (S.filter done) (fun i hi => ⟨(hapS i (List.mem_filter.1 hi).1).1, (hapS i (List.mem_filter.1 hi).1).2.1⟩) hk
          refine opE_any (opE_mono (fun a' w' h => ?_) hu)
          obtain ⟨b, rfl, ⟨hm1, hm2, hN'⟩, hH'⟩ := h
          refine ih n done vs (listed.setIfInBounds j true) b w' (by omega) (hcl.step hj) ?_ ?_ hdist hN' ?_
          · intro i hi hid
            exact ⟨ready_mono (hrem i hi hid).1 (fun e => hjS (e ▸ hi)), hm1 i hi hid⟩
          · intro i hi hid
            exact ⟨getD_set_true (hdone i hi hid).1, hm2 i hi hid⟩
          · have e : setAll (S.filter fun i => !done i) (listed.setIfInBounds j true) = (setAll (S.filter fun i => !done i) listed).setIfInBounds j true := by
              have : (setAll (S.filter fun i => !done i) listed).setIfInBounds j true = setAll [j] (setAll (S.filter fun i => !done i) listed) := rfl
              rw [this]
              have h2 : ∀ (l : List Nat) (x : Array Bool), setAll [j] (setAll l x) = setAll l (setAll [j] x) := by
                intro l
                induction l with
                | nil => intro x; rfl
                | cons k l ihl =>
                  intro x
                  simp only [setAll] at ihl ⊢
                  rw [ihl]
                  by_cases hkj : k = j
                  · subst hkj; rfl
                  · rw [Array.setIfInBounds_comm _ _ hkj]
              rw [h2]; rfl
            rw [e]
            exact hH'

/-- The check: makers 'S', what is pure and of the tail 'X'. -/
def regOk (md : Region.Mode) (ops : Array Oper) (head : Array Bool) (S X : List Nat) : Bool :=
  Region.noSelect ops && decide S.Nodup && (S.all fun i => match ops[i]? with
    | none => false
    | some oi => oi.after.all (fun e => !Region.binds md e) && (List.range ops.size).all fun j => j == i || match ops[j]? with
      | some oj => if S.contains j || X.contains j || head.getD j false then oi.apart ops oj && oj.apart ops oi else waits md ops i ops.size j
      | none => true) && (X.all fun x => !S.contains x && match ops[x]? with
    | none => true
    | some o => isPure o.op && o.guard.isNone)

/-- A region with makers: n operations form its head beside these, t its tail. -/
theorem wp_region_M {id : Nat} {Q : Exit → Act → World → Prop} {a : Act} {w : World} {l : List Oper} (head : Array Bool) (S X : List Nat) (R : Nat → Value → World → Prop) (bk : Value → Nat) (n t : Nat) (hm : P.follows .mixedOrders = true) (hn : n + S.length + t = l.length)
    (hB : regOk .any l.toArray head S X = true) (hRm : ∀ i v w w', Below w.heap.size w w' → R i v w → R i v w') (hMk : ∀ i ∈ S, ∀ o, nth l i = some o → MkAt P l.toArray (R i) bk o a w.drew)
    (h : wpH P .any l.toArray head Q (TMk l.toArray S R bk w.drew.heap.size (fun l' a w => wpAny P .any l.toArray Q t l' a w)) n (setAll S (Array.replicate l.length false)) a w.drew) : (Code.region id l.toArray true).wp P Q a w := by
  refine wp_region_any hm ?_
  simp only [regOk, Bool.and_eq_true, decide_eq_true_eq, List.all_eq_true] at hB
  obtain ⟨⟨⟨hs, hnd⟩, hS⟩, hX⟩ := hB
  have hSo : ∀ i ∈ S, ∃ oi, l.toArray[i]? = some oi ∧ (∀ e ∈ oi.after, Region.binds .any e = false) ∧ ∀ j oj, l.toArray[j]? = some oj → j ≠ i →
      (if S.contains j || X.contains j || head.getD j false then oi.apart l.toArray oj && oj.apart l.toArray oi else waits .any l.toArray i l.toArray.size j) = true := by
    intro i hi
    have h2 := hS i hi
    cases ho : l.toArray[i]? with
    | none => rw [ho] at h2; cases h2
    | some oi =>
      rw [ho] at h2
      simp only [Bool.and_eq_true, Array.all_eq_true_iff_forall_mem, List.all_eq_true, List.mem_range] at h2
      refine ⟨oi, rfl, fun e he => by simpa using h2.1 e he, fun j oj hj hji => ?_⟩
      have h3 := h2.2 j (Array.getElem?_eq_some_iff.1 hj).1
      simp only [hj, Bool.or_eq_true, beq_iff_eq, hji, false_or] at h3
      simpa using h3
  have hapart : ∀ i ∈ S, ∀ j oj, l.toArray[j]? = some oj → j ≠ i → (j ∈ S ∨ j ∈ X ∨ head.getD j false = true) → ∃ oi, l.toArray[i]? = some oi ∧ oi.apart l.toArray oj = true ∧ oj.apart l.toArray oi = true := by
    intro i hi j oj hj hji hc
    obtain ⟨oi, hoi, _, h3⟩ := hSo i hi
    have h4 := h3 j oj hj hji
    rw [if_pos (by rcases hc with h | h | h <;> simp [h])] at h4
    simp only [Bool.and_eq_true] at h4
    exact ⟨oi, hoi, h4⟩
  have hf : S.filter (fun _ => false) = [] := by simp
  have ft : S.filter (fun i => !(fun _ => false) i) = S := List.filter_eq_self.2 (by simp)
  have := wpAny_makers (P := P) (ops := l.toArray) (md := .any) (head := head) (Q := Q) S R bk w.drew.heap.size t hRm hs hnd X
    (fun x hx => by
      have h1 := hX x hx
      refine ⟨by simpa using h1.1, fun o ho => ?_⟩
      have h2 := h1.2
      rw [ho] at h2
      simp only [Bool.and_eq_true, Option.isNone_iff_eq_none] at h2
      refine ⟨h2.1, h2.2, fun i hi => ?_⟩
      have hxi : x ≠ i := fun e => by have := h1.1; simp at this; exact this (e ▸ hi)
      obtain ⟨oi, hoi, g1, g2⟩ := hapart i hi x o ho hxi (.inr (.inl hx))
      obtain ⟨a1, a2, a3⟩ := Oper.apart_spec g1
      obtain ⟨b1, b2, b3⟩ := Oper.apart_spec g2
      have hd : dstOf l.toArray i = oi.dst := by simp [dstOf, hoi]
      rw [hd]
      exact ⟨a1, b2, fun oi' hoi' => by rw [hoi] at hoi'; cases hoi'; exact a3⟩)
    (fun j oj hj hjS hjX hh i hi => by
      obtain ⟨oi, hoi, _, h3⟩ := hSo i hi
      have h4 := h3 j oj hj (fun e => hjS (e ▸ hi))
      rw [if_neg (by simp [hjS, hjX]; simpa using hh)] at h4
      exact h4)
    (fun j oj hj hjS hh i hi => by
      obtain ⟨oi, hoi, g1, g2⟩ := hapart i hi j oj hj (fun e => hjS (e ▸ hi)) (.inr (.inr hh))
      obtain ⟨a1, a2, a3⟩ := Oper.apart_spec g1
      have hd : dstOf l.toArray i = oi.dst := by simp [dstOf, hoi]
      rw [hd]
      exact ⟨a1, a2, fun oi' hoi' => by rw [hoi] at hoi'; cases hoi'; exact a3⟩)
    (fun i hi => by
      obtain ⟨oi, hoi, _, _⟩ := hSo i hi
      refine ⟨oi, hoi, fun k hk hki => ?_⟩
      obtain ⟨ok, hok, _, _⟩ := hSo k hk
      obtain ⟨oi', hoi', g1, g2⟩ := hapart i hi k ok hok hki (.inl hk)
      rw [hoi] at hoi'; cases hoi'
      obtain ⟨a1, a2, a3⟩ := Oper.apart_spec g1
      have hd : dstOf l.toArray k = ok.dst := by simp [dstOf, hok]
      rw [hd]
      exact ⟨a3, a2⟩)
    (n + S.length) n (fun _ => false) (fun _ => undef) (Array.replicate l.length false) a w.drew (by rw [ft]) (fun j o ho hj => by simp [Array.getElem?_replicate] at hj; split at hj <;> simp at hj)
    (fun i hi _ => by
      obtain ⟨oi, hoi, hall, _⟩ := hSo i hi
      have hlt : i < l.length := by have := (Array.getElem?_eq_some_iff.1 hoi).1; simpa using this
      refine ⟨?_, fun oi' hoi' => hMk i hi oi' (by rw [nth_eq]; simpa using hoi')⟩
      rw [mem_ready]
      exact ⟨by simp [hlt], oi, hoi, fun e he hb => by rw [hall e he] at hb; cases hb⟩)
    (fun i _ h => by cases h) (fun i _ k _ h => by cases h) (Nat.le_refl _) (by rw [ft]; exact h)
  rw [hf, hn] at this
  simpa [putS] using this

end
end Go.Cd
