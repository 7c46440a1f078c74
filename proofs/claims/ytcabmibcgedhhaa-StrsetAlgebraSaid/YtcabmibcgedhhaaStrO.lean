/-
  Texts in order: plain laws on lists of bytes. No condition.
-/
import Derived.Lib.Bytealg
import Derived.Lib.SlicesCompact
import Derived.Sort.Walk0
import Derived.Sort.Statements
namespace Go.Cd
open Go.Lib Go.Sort

abbrev Txt : Type := List UInt8
/-- Rising, each once. -/
def inc (l : List Txt) : Prop := l.Pairwise (· < ·)

theorem cb_lt : ∀ (a b : Txt), compareBytes a b < 0 ↔ a < b
  | [], [] => by simp [compareBytes]
  | [], _ :: _ => by simp [compareBytes]
  | _ :: _, [] => by simp [compareBytes]
  | a :: x, b :: y => by
    have ih := cb_lt x y
    unfold compareBytes
    rw [List.cons_lt_cons_iff]
    by_cases h1 : a < b
    · simp [h1]
    · by_cases h2 : b < a
      · have : a ≠ b := fun e => by subst e; exact absurd h2 (UInt8.lt_irrefl _)
        simp [h1, h2, this]
      · have : a = b := UInt8.le_antisymm (UInt8.not_lt.1 h2) (UInt8.not_lt.1 h1)
        subst this
        simp [ih]
theorem cb_gt : ∀ (a b : Txt), 0 < compareBytes a b ↔ b < a
  | [], [] => by simp [compareBytes]
  | [], _ :: _ => by simp [compareBytes]
  | _ :: _, [] => by simp [compareBytes]
  | a :: x, b :: y => by
    have ih := cb_gt x y
    unfold compareBytes
    rw [List.cons_lt_cons_iff]
    by_cases h1 : a < b
    · have h2 : ¬ b < a := fun h => UInt8.lt_irrefl _ (UInt8.lt_trans h1 h)
      have h3 : b ≠ a := fun e => by subst e; exact absurd h1 (UInt8.lt_irrefl _)
      simp [h1, h2, h3]
    · by_cases h2 : b < a
      · simp [h1, h2]
      · have : a = b := UInt8.le_antisymm (UInt8.not_lt.1 h2) (UInt8.not_lt.1 h1)
        subst this
        simp [ih]
theorem tri (a b : Txt) : a < b ∨ a = b ∨ b < a := by
  by_cases h1 : a < b
  · exact .inl h1
  · by_cases h2 : b < a
    · exact .inr (.inr h2)
    · exact .inr (.inl (List.le_antisymm (List.not_lt.1 h2) (List.not_lt.1 h1)))
theorem cb_eq (a b : Txt) : compareBytes a b = 0 ↔ a = b := by
  have h1 := cb_lt a b
  have h2 := cb_gt a b
  constructor
  · intro h
    rcases tri a b with h3 | h3 | h3
    · have := h1.2 h3; omega
    · exact h3
    · have := h2.2 h3; omega
  · rintro rfl
    have h3 := List.lt_irrefl a
    have h4 : ¬ compareBytes a a < 0 := fun h => h3 (h1.1 h)
    have h5 : ¬ 0 < compareBytes a a := fun h => h3 (h2.1 h)
    omega
theorem swo_cb : SWO (fun x y : Txt => decide (compareBytes x y < 0)) where
  irrefl x := by simp [(cb_eq x x).2 rfl]
  trans x y z h1 h2 := by simp only [decide_eq_true_eq, cb_lt] at *; exact List.lt_trans h1 h2
  ntrans x y z h1 h2 := by
    simp only [decide_eq_false_iff_not, cb_lt, List.not_lt] at *
    exact List.le_trans h2 h1

theorem inc_cons {x : Txt} {l : List Txt} : inc (x :: l) ↔ (∀ y ∈ l, x < y) ∧ inc l := List.pairwise_cons
theorem inc_append {l m : List Txt} : inc (l ++ m) ↔ inc l ∧ inc m ∧ ∀ x ∈ l, ∀ y ∈ m, x < y := List.pairwise_append

theorem inc_ext : ∀ (l m : List Txt), inc l → inc m → (∀ x, x ∈ l ↔ x ∈ m) → l = m
  | [], [], _, _, _ => rfl
  | [], y :: m, _, _, h => absurd ((h y).2 (by simp)) (by simp)
  | x :: l, [], _, _, h => absurd ((h x).1 (by simp)) (by simp)
  | x :: l, y :: m, hl, hm, h => by
    obtain ⟨h1, h2⟩ := inc_cons.1 hl
    obtain ⟨h3, h4⟩ := inc_cons.1 hm
    have hxy : x = y := by
      rcases List.mem_cons.1 ((h x).1 (by simp)) with e | e
      · exact e
      · rcases List.mem_cons.1 ((h y).2 (by simp)) with e' | e'
        · exact e'.symm
        · exact absurd (List.lt_trans (h3 x e) (h1 y e')) (List.lt_irrefl _)
    subst hxy
    rw [inc_ext l m h2 h4 fun z => ?_]
    constructor
    · intro hz
      rcases List.mem_cons.1 ((h z).1 (List.mem_cons_of_mem _ hz)) with e | e
      · subst e; exact absurd (h1 z hz) (List.lt_irrefl _)
      · exact e
    · intro hz
      rcases List.mem_cons.1 ((h z).2 (List.mem_cons_of_mem _ hz)) with e | e
      · subst e; exact absurd (h3 z hz) (List.lt_irrefl _)
      · exact e

/-- What is left of a sorted row when neighbours that are equal are one. -/
theorem compact_upto (d : Array Txt) (hs : ∀ i j, i < j → j < d.size → ¬ d[j]! < d[i]!) : ∀ m, m ≤ d.size →
    inc (compactUpTo d m) ∧ (∀ x, x ∈ compactUpTo d m ↔ ∃ j, j < m ∧ d[j]! = x)
  | 0, _ => ⟨by simp [compactUpTo, inc], fun x => by simp [compactUpTo]⟩
  | m + 1, hm => by
    obtain ⟨h1, h2⟩ := compact_upto d hs m (by omega)
    rw [compactUpTo_succ]
    by_cases hk : keeps d m = true
    · rw [if_pos hk]
      refine ⟨inc_append.2 ⟨h1, by simp [inc], fun x hx y hy => ?_⟩, fun x => ?_⟩
      · obtain ⟨j, hj, rfl⟩ := (h2 x).1 hx
        obtain rfl : y = d[m]! := by simpa using hy
        have hne : d[m]! ≠ d[m - 1]! := by
          unfold keeps at hk
          rcases of_decide_eq_true hk with h | h
          · omega
          · exact h
        have h3 : d[m - 1]! < d[m]! := by
          rcases tri d[m - 1]! d[m]! with h | h | h
          · exact h
          · exact absurd h.symm hne
          · exact absurd h (hs (m - 1) m (by omega) (by omega))
        by_cases hjm : j = m - 1
        · subst hjm; exact h3
        · have h4 := hs j (m - 1) (by omega) (by omega)
          rcases tri d[j]! d[m - 1]! with h | h | h
          · exact List.lt_trans h h3
          · rw [h]; exact h3
          · exact absurd h h4
      · rw [List.mem_append, h2]
        constructor
        · rintro (⟨j, hj, e⟩ | h)
          · exact ⟨j, by omega, e⟩
          · exact ⟨m, by omega, (List.mem_singleton.1 h).symm⟩
        · rintro ⟨j, hj, e⟩
          by_cases hjm : j = m
          · subst hjm; exact .inr (by simp [e])
          · exact .inl ⟨j, by omega, e⟩
    · rw [if_neg hk, List.append_nil]
      refine ⟨h1, fun x => ?_⟩
      rw [h2]
      constructor
      · rintro ⟨j, hj, e⟩; exact ⟨j, by omega, e⟩
      · rintro ⟨j, hj, e⟩
        by_cases hjm : j = m
        · subst hjm
          have h3 : ¬ (j = 0 ∨ d[j]! ≠ d[j - 1]!) := by
            unfold keeps at hk
            simpa using hk
          have h4 : j ≠ 0 := fun e => h3 (.inl e)
          have h5 : d[j]! = d[j - 1]! := Classical.byContradiction fun e => h3 (.inr e)
          exact ⟨j - 1, by omega, h5 ▸ e⟩
        · exact ⟨j, by omega, e⟩
end Go.Cd
