/-
  Regions that draw their order, a second time: whatever lay there when the region began stays as it was; blocks of the region's own may be written in it. No program is named here; no condition.
-/
import Derived.Test.YtcabmibcgedhhaaFlow
namespace Go.Cd
open Go.RowKit

/-- A world that has, below B, all that 'w' has, as it was. -/
structure GrB (B : Nat) (w : World) where
  to : World
  ext : Below B w to

section
variable {B : Nat} {P : Program} {ops : Array Oper} {md : Region.Mode} {head : Array Bool}

def opB (B : Nat) (P : Program) (ops : Array Oper) (Q : Exit → Act → World → Prop) (i : Nat) (K : Act → World → Prop) (a : Act) (w : World) : Prop :=
  wpOp P ops (QP Q) i (fun a' w' => Below B w w' ∧ K a' w') a w


/-- The head's operations in whatever order; each of them keeps what there was; then T. -/
def wpB (B : Nat) (P : Program) (md : Region.Mode) (ops : Array Oper) (head : Array Bool) (Q : Exit → Act → World → Prop) (T : Array Bool → Act → World → Prop) : Nat → Array Bool → Act → World → Prop
  | 0, listed, a, w => headDone head listed = true ∧ T listed a w
  | n + 1, listed, a, w => Region.ready md ops listed ≠ [] ∧
    ∀ i ∈ Region.ready md ops listed, head.getD i false = true ∧ opB B P ops Q i (wpB B P md ops head Q T n (listed.setIfInBounds i true)) a w

theorem wpAny_of_B {Q : Exit → Act → World → Prop} {t : Nat} : ∀ (n : Nat) (listed : Array Bool) (a : Act) (w : World),
    wpB B P md ops head Q (fun l a w => wpAny P md ops Q t l a w) n listed a w → wpAny P md ops Q (n + t) listed a w
  | 0, _, _, _, h => by simpa using h.2
  | n + 1, listed, a, w, h => by
    rw [Nat.add_right_comm]
    refine ⟨fun h0 => absurd h0 h.1, fun i hi => ?_⟩
    exact wpOp_mono (fun a' w' h' => wpAny_of_B n _ a' w' h'.2) (wpOp_QP (h.2 i hi).2)

/-- 'o' yields 'v' in this state, in every world that has all that 'w' has, and leaves that world alone. -/
def YieldsB (B : Nat) (P : Program) (ops : Array Oper) (w : World) (o : Oper) (v : Value) (a : Act) : Prop :=
  (Region.wanted o (yielded ops a.tmps) = true ∧ ∀ w', Below B w w' → ((execOp a.eval o).run P w' = .ok (.value v) w' ∨ ((execOp a.eval o).run P w' = .ok .skip w' ∧ v = undef))) ∨
  (Region.wanted o (yielded ops a.tmps) = false ∧ v = undef)

theorem YieldsB.mono {w w' : World} {o : Oper} {v : Value} {a : Act} (h : YieldsB B P ops w o v a) (hw : Below B w w') : YieldsB B P ops w' o v a :=
  h.imp (fun ⟨h1, h2⟩ => ⟨h1, fun w'' hw'' => h2 w'' (hw.trans hw'')⟩) id

theorem YieldsB.of_same {w : World} {o : Oper} {v : Value} {a a' : Act} (hy : YieldsB B P ops w o v a) (he : execOp a'.eval o = execOp a.eval o)
    (hw : Region.wanted o (yielded ops a'.tmps) = Region.wanted o (yielded ops a.tmps)) : YieldsB B P ops w o v a' := by
  unfold YieldsB at *
  rw [he, hw]
  exact hy

theorem YieldsB.opB {Q : Exit → Act → World → Prop} {w : World} {i : Nat} {o : Oper} {v : Value} {a : Act} (hi : ops[i]? = some o) (hy : YieldsB B P ops w o v a)
    {K : Act → World → Prop} (h : K (a.put o.dst v) w) : opB B P ops Q i K a w := by
  unfold Cd.opB wpOp
  simp only [hi]
  rcases hy with ⟨hw, hv⟩ | ⟨hw, rfl⟩
  · have h1 := hv w (Below.refl _ _)
    clear hv
    rcases h1 with h1 | ⟨h1, rfl⟩
    · simp only [hw, if_true, Oper.wp, h1, Oper.upon]; exact .inl ⟨Below.refl _ _, h⟩
    · simp only [hw, if_true, Oper.wp, h1, Oper.upon]; exact .inl ⟨Below.refl _ _, h⟩
  · simp only [hw, Bool.false_eq_true, if_false]; exact ⟨Below.refl _ _, h⟩

theorem opB_put {Q : Exit → Act → World → Prop} {j : Nat} {oi oj : Oper} {v : Value} (hj : ops[j]? = some oj) (hap : oi.apart ops oj = true)
    (hsi : ∀ cs b, oi.op ≠ .select cs b) (hsj : ∀ cs b, oj.op ≠ .select cs b)
    {K : Act → World → Prop} {a : Act} {w : World}
    (hy : YieldsB B P ops w oi v a) (h : opB B P ops Q j K (a.put oi.dst v) w) :
    opB B P ops Q j (fun a' w' => YieldsB B P ops w' oi v a' ∧ K (a'.put oi.dst v) w') a w := by
  obtain ⟨h1, h2, h3⟩ := Oper.apart_spec hap
  have keep : ∀ (a : Act), YieldsB B P ops w oi v a → ∀ u, YieldsB B P ops w oi v (a.put oj.dst u) := fun a hy u =>
    hy.of_same (execOp_put oi hsi a oj.dst u h3) (wanted_put oi a oj.dst u h3)
  have keepD : ∀ d, YieldsB B P ops w oi v { a with defers := d :: a.defers } := fun d => hy.of_same rfl rfl
  unfold Cd.opB wpOp at *
  simp only [hj] at *
  rw [wanted_put oj a oi.dst v h1] at h
  split
  · rename_i hw
    simp only [hw, if_true] at h
    rcases h with h | ⟨hasks, hlets⟩
    case inr => exact .inr ⟨by unfold Oper.asks at *; rw [execOp_put oj hsj a oi.dst v h1] at hasks; exact hasks, hlets⟩
    refine .inl ?_
    unfold Oper.wp at *
    rw [execOp_put oj hsj a oi.dst v h1] at h
    generalize (execOp a.eval oj).run P w = r at *
    cases r with
    | ok n w' =>
      cases n <;> simp only [Oper.upon] at h ⊢
      case value u => exact ⟨h.1, (keep a hy u).mono h.1, by rw [← Act.put_comm a v u h2]; exact h.2⟩
      case skip => exact ⟨h.1, (keep a hy _).mono h.1, by rw [← Act.put_comm a v undef h2]; exact h.2⟩
      case defer d =>
        refine ⟨h.1, (YieldsB.of_same (keepD d) (execOp_put oi hsi _ oj.dst _ h3) (wanted_put oi _ oj.dst _ h3)).mono h.1, ?_⟩
        rw [← Act.put_comm _ v undef h2, ← Act.put_defers]
        exact h.2
      case enter f args =>
        refine Calls.mono h fun e w'' he => ?_
        cases e with
        | returned u => exact ⟨he.1, (keep a hy u).mono he.1, by rw [← Act.put_comm a v u h2]; exact he.2⟩
        | panicked c => exact he.elim
        | outgrown => exact he
      case row row args => exact Rows.mono h fun u w'' he => ⟨he.1, (keep a hy u).mono he.1, by rw [← Act.put_comm a v u h2]; exact he.2⟩
    | halt x w' =>
      cases x <;> simp only [Oper.upon] at h ⊢
      case panic u => exact h.elim
  · rename_i hw
    simp only [hw] at h
    exact ⟨h.1, keep a hy _, by rw [← Act.put_comm a v undef h2]; exact h.2⟩

theorem opB_mono {Q : Exit → Act → World → Prop} {i : Nat} {a : Act} {w : World} {K K' : Act → World → Prop} (h : ∀ a w, K a w → K' a w)
    (hh : opB B P ops Q i K a w) : opB B P ops Q i K' a w := wpOp_mono (fun _ _ ⟨h1, h2⟩ => ⟨h1, h _ _ h2⟩) hh


theorem wpB_first {Q : Exit → Act → World → Prop} {T : Array Bool → Act → World → Prop} {i : Nat} {oi : Oper} {v : Value} (hi : ops[i]? = some oi) (hsel : ∀ (j : Nat) (o : Oper) cs b, ops[j]? = some o → o.op ≠ .select cs b)
    (hhi : head.getD i false = true) :
    ∀ (n : Nat) (listed : Array Bool) (a : Act) (w : World), Closed md ops listed →
      (∀ j oj, ops[j]? = some oj → j ≠ i → listed.getD j true = false → (∀ e ∈ oj.after, Region.binds md e = true → e.on ≠ i) → (head.getD j false = true ∧ oi.apart ops oj = true) ∨ waits md ops i ops.size j = true) →
      i ∈ Region.ready md ops listed → YieldsB B P ops w oi v a →
      wpB B P md ops head Q T n (listed.setIfInBounds i true) (a.put oi.dst v) w → wpB B P md ops head Q T (n + 1) listed a w := by
  intro n
  have key : ∀ (listed : Array Bool), Closed md ops listed →
      (∀ j oj, ops[j]? = some oj → j ≠ i → listed.getD j true = false → (∀ e ∈ oj.after, Region.binds md e = true → e.on ≠ i) → (head.getD j false = true ∧ oi.apart ops oj = true) ∨ waits md ops i ops.size j = true) →
      i ∈ Region.ready md ops listed → ∀ j, j ∈ Region.ready md ops listed → j ≠ i → ∃ oj, ops[j]? = some oj ∧ listed.getD j true = false ∧ head.getD j false = true ∧ oi.apart ops oj = true := by
    intro listed hcl hfree hr j hj hji
    obtain ⟨hjun, oj, hoj, hall⟩ := mem_ready.1 hj
    have h0 := (mem_ready.1 hr).1
    have hi0 : listed.getD i false = false := by
      rcases Nat.lt_or_ge i listed.size with h' | h'
      · simp [h'] at h0 ⊢; exact h0
      · simp [Array.getElem?_eq_none h']
    have hnot : ∀ e ∈ oj.after, Region.binds md e = true → e.on ≠ i := fun e he hb heq => by
      have h1 := hall e he hb
      rw [heq, hi0] at h1
      cases h1
    rcases hfree j oj hoj hji hjun hnot with h | h
    · exact ⟨oj, hoj, hjun, h.1, h.2⟩
    · exact absurd hall (waits_spec hcl hi0 _ j oj hoj h)
  induction n with
  | zero =>
    intro listed a w hcl hfree hr hy H
    refine ⟨fun h => (by rw [h] at hr; cases hr), fun j hj => ?_⟩
    by_cases hji : j = i
    · subst hji; exact ⟨hhi, hy.opB hi H⟩
    · obtain ⟨oj, hoj, hjun, hjh, _⟩ := key listed hcl hfree hr j hj hji
      have h2 := headDone_spec H.1 hjh
      rw [getD_set_ne false (Ne.symm hji)] at h2
      rcases Nat.lt_or_ge j listed.size with h' | h'
      · simp [h'] at hjun h2; rw [hjun] at h2; cases h2
      · simp [Array.getElem?_eq_none h'] at h2
  | succ n ih =>
    intro listed a w hcl hfree hr hy H
    refine ⟨fun h => (by rw [h] at hr; cases hr), fun j hj => ?_⟩
    by_cases hji : j = i
    · subst hji; exact ⟨hhi, hy.opB hi H⟩
    · obtain ⟨hhj, h1⟩ := H.2 j (ready_mono hj hji)
      obtain ⟨oj, hoj, hjun, _, hap⟩ := key listed hcl hfree hr j hj hji
      have h2 := opB_put hoj hap (fun cs b => hsel i oi cs b hi) (fun cs b => hsel j oj cs b hoj) hy h1
      have hfree' : ∀ k ok, ops[k]? = some ok → k ≠ i → (listed.setIfInBounds j true).getD k true = false →
          (∀ e ∈ ok.after, Region.binds md e = true → e.on ≠ i) → (head.getD k false = true ∧ oi.apart ops ok = true) ∨ waits md ops i ops.size k = true := fun k ok hk hki hun hno => by
        refine hfree k ok hk hki ?_ hno
        by_cases hjk : j = k
        · subst hjk; exact hjun
        · rw [getD_set_ne true hjk] at hun; exact hun
      refine ⟨hhj, opB_mono (fun a' w' h3 => ih (listed.setIfInBounds j true) a' w' (hcl.step hj) hfree' (ready_mono hr (Ne.symm hji)) h3.1 ?_) h2⟩
      rw [Array.setIfInBounds_comm _ _ hji]
      exact h3.2


theorem wpB_seg {Q : Exit → Act → World → Prop} {T : Array Bool → Act → World → Prop} (hs : Region.noSelect ops = true) : ∀ (l : List Nat) (n : Nat) (listed : Array Bool) (a : Act) (w : World), Closed md ops listed →
    (fltAll ops l && segOk md ops head l listed) = true → wpQuiet P ops (fun w' => ∃ g : GrB B w, w' = g.to) (fun a' => wpB B P md ops head Q T n (setAll l listed) a' w) (pickOps ops l) a → wpB B P md ops head Q T (n + l.length) listed a w
  | [], n, listed, a, w, _, _, h => h
  | i :: l, n, listed, a, w, hcl, hB, h => by
    simp only [segOk, fltAll, List.all_cons, Bool.and_eq_true] at hB
    obtain ⟨⟨hfi, hfl⟩, ⟨⟨hr, hf⟩, hh⟩, hB'⟩ := hB
    cases ho : ops[i]? with
    | none => rw [ho] at hfi; cases hfi
    | some o =>
      rw [ho] at hfi
      simp only at hfi
      have hp : pickOps ops (i :: l) = o :: pickOps ops l := by simp [pickOps, ho]
      rw [hp] at h
      have hB2 : (fltAll ops l && segOk md ops head l (listed.setIfInBounds i true)) = true := by simp only [fltAll, Bool.and_eq_true]; exact ⟨hfl, hB'⟩
      simp only [wpQuiet] at h
      by_cases hw : Region.wanted o (yielded ops a.tmps) = true
      · rw [if_pos hw] at h
        obtain ⟨v, hv, hK⟩ := h
        refine wpB_first ho (Region.noSelect_spec hs) hh (n + l.length) listed a w hcl (freeE_spec ho hf) (by simpa using hr) (.inl ⟨hw, fun w' hw' => ?_⟩)
          (wpB_seg hs l n _ _ w (hcl.step (by simpa using hr)) hB2 hK)
        have h1 := hv w' ⟨⟨w', hw'⟩, rfl⟩
        unfold Oper.quietAt at h1
        generalize hrun : (execOp a.eval o).run P w' = r at h1
        cases r with
        | ok x w1 =>
          cases x <;> simp only [Oper.quietUpon] at h1
          case value u => rw [h1.1, h1.2]; exact .inl rfl
          case skip => rw [h1.1, h1.2]; exact .inr ⟨rfl, rfl⟩
          case enter f args => exact absurd hrun (no_enter hfi _ _ _ _)
        | halt x w1 => exact h1.elim
      · rw [if_neg hw] at h
        exact wpB_first ho (Region.noSelect_spec hs) hh (n + l.length) listed a w hcl (freeE_spec ho hf) (by simpa using hr) (.inr ⟨by simpa using hw, rfl⟩)
          (wpB_seg hs l n _ _ w (hcl.step (by simpa using hr)) hB2 h)


/-- The same, the count said as an equation. -/
theorem wpB_seg' {Q : Exit → Act → World → Prop} {T : Array Bool → Act → World → Prop} (l : List Nat) (n : Nat) {m : Nat} {listed : Array Bool} {a : Act} {w : World} (hn : m = n + l.length)
    (hB : ((Region.noSelect ops && closedB md ops listed) && (fltAll ops l && segOk md ops head l listed)) = true) (h : wpQuiet P ops (fun w' => ∃ g : GrB B w, w' = g.to) (fun a' => wpB B P md ops head Q T n (setAll l listed) a' w) (pickOps ops l) a) : wpB B P md ops head Q T m listed a w := by
  subst hn
  rw [Bool.and_eq_true, Bool.and_eq_true] at hB
  exact wpB_seg hB.1.1 l n listed a w (closedB_spec hB.1.2) hB.2 h

/-- The exit of one operation of the head, said as an exit of a list. -/
def QB (B : Nat) (Q : Exit → Act → World → Prop) (w : World) (K : Act → World → Prop) : Exit → Act → World → Prop
  | .normal, a, w' => Below B w w' ∧ K a w'
  | .panic _, _, _ => False
  | e, a, w' => Q e a w'

theorem opB_of_list {Q : Exit → Act → World → Prop} {K : Act → World → Prop} {i : Nat} {o : Oper} {a : Act} {w : World} (hi : ops[i]? = some o)
    (h : wpList P ops (QB B Q w K) [o] a w) : opB B P ops Q i K a w := by
  unfold Cd.opB wpOp
  simp only [hi]
  unfold wpList at h
  split
  · rename_i hw
    rw [if_pos hw] at h
    rcases h with h | ⟨h1, h2⟩
    · refine .inl ?_
      unfold Oper.wp at *
      generalize (execOp a.eval o).run P w = r at *
      cases r with
      | ok n w' =>
        cases n <;> simp only [Oper.upon] at h ⊢
        case enter f args =>
          refine Calls.mono h fun e w'' he => ?_
          cases e with
          | returned u => exact he
          | panicked c => exact he
          | outgrown => exact he
        case row row args => exact Rows.mono h fun u w'' he => he
        all_goals exact h
      | halt x w' => cases x <;> simp only [Oper.upon] at h ⊢; exact h
    · exact .inr ⟨h1, h2⟩
  · rename_i hw
    rw [if_neg hw] at h
    exact h

/-- The next one is forced. -/
theorem wpB_one {Q : Exit → Act → World → Prop} {T : Array Bool → Act → World → Prop} {n : Nat} (i : Nat) {o : Oper} {listed : Array Bool} {a : Act} {w : World} (hB : (Region.ready md ops listed == [i] && head.getD i false) = true) (hi : nth ops.toList i = some o)
    (h : wpList P ops (QB B Q w (wpB B P md ops head Q T n (listed.setIfInBounds i true))) [o] a w) : wpB B P md ops head Q T (n + 1) listed a w := by
  simp only [Bool.and_eq_true, beq_iff_eq] at hB
  obtain ⟨hr, hh⟩ := hB
  refine ⟨by rw [hr]; simp, fun j hj => ?_⟩
  rw [hr] at hj
  obtain rfl : j = i := by simpa using hj
  exact ⟨hh, opB_of_list (at_of_nth hi) h⟩

/-- One of two may come. -/
theorem wpB_two {Q : Exit → Act → World → Prop} {T : Array Bool → Act → World → Prop} {n : Nat} (i k : Nat) {o u : Oper} {listed : Array Bool} {a : Act} {w : World} (hB : (Region.ready md ops listed == [i, k] && (head.getD i false && head.getD k false)) = true) (hi : nth ops.toList i = some o) (hk : nth ops.toList k = some u)
    (h : wpList P ops (QB B Q w (wpB B P md ops head Q T n (listed.setIfInBounds i true))) [o] a w) (h' : wpList P ops (QB B Q w (wpB B P md ops head Q T n (listed.setIfInBounds k true))) [u] a w) : wpB B P md ops head Q T (n + 1) listed a w := by
  simp only [Bool.and_eq_true, beq_iff_eq] at hB
  obtain ⟨hr, hh⟩ := hB
  refine ⟨by rw [hr]; simp, fun j hj => ?_⟩
  rw [hr] at hj
  simp only [List.mem_cons, List.not_mem_nil, or_false] at hj
  rcases hj with rfl | rfl
  · exact ⟨hh.1, opB_of_list (at_of_nth hi) h⟩
  · exact ⟨hh.2, opB_of_list (at_of_nth hk) h'⟩

/-- Behind a forced one: it has kept what there was. -/
theorem QB_intro {Q : Exit → Act → World → Prop} {w : World} {K : Act → World → Prop} {a : Act} {w' : World} (h1 : Below B w w') (h2 : K a w') : QB B Q w K .normal a w' := ⟨h1, h2⟩


theorem wpB_tail {Q : Exit → Act → World → Prop} (l : List Nat) {listed : Array Bool} {a : Act} {w : World} (hB : (headDone head listed && (Region.noSelect ops && tailOk md ops l listed)) = true)
    (h : wpList P ops (QP Q) (pickOps ops l) a w) : wpB B P md ops head Q (fun l' a w => wpAny P md ops Q l.length l' a w) 0 listed a w := by
  simp only [Bool.and_eq_true] at hB
  exact ⟨hB.1, wpAny_QP _ _ _ _ (wpAny_tail hB.2.1 l listed a w hB.2.2 h)⟩

/-- A region that draws: n operations form its head ('head' marks them), t (stores, what may come behind them) its tail. -/
theorem wp_region_B {id : Nat} {Q : Exit → Act → World → Prop} {a : Act} {w : World} {l : List Oper} (head : Array Bool) (n t : Nat) (hm : P.follows .mixedOrders = true) (hn : n + t = l.length)
    (h : wpB w.heap.size P .any l.toArray head Q (fun l' a w => wpAny P .any l.toArray Q t l' a w) n (Array.replicate l.length false) a w.drew) : (Code.region id l.toArray true).wp P Q a w := by
  refine wp_region_any hm ?_
  have := wpAny_of_B n _ _ _ h
  rw [hn] at this
  simpa using this

end

theorem GrB.cell {B : Nat} {w0 w : World} (E : Below w0.heap.size w0 w) (hB : w0.heap.size ≤ B) {b o : Nat} {v : Value} (h : w0.cell? ⟨b, o, none⟩ = some v) : ∀ g : GrB B w, g.to.cell? ⟨b, o, none⟩ = some v :=
  fun g => ((E.trans (g.ext.mono hB)).cell (p := ⟨b, o, none⟩) (World.block_lt_of_cell? w0 ⟨b, o, none⟩ h)).trans h

theorem below_renew {B : Nat} {y : World} {o o' : Obj} (hB : B ≤ y.heap.size) : Below B (y.alloc o) (y.alloc o') :=
  ⟨rfl, rfl, rfl, by simp, fun k hk => (Below.heap_alloc y o' k (by omega)).trans (Below.heap_alloc y o k (by omega)).symm⟩

end Go.Cd
