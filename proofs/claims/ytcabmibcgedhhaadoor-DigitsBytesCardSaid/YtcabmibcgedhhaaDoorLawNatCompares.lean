/-
  The walk of the law NatCompares.
-/
import Derived.Test.YtcabmibcgedhhaaDoorRef4
namespace Go.Proofs.YtcabmibcgedhhaaDoor
open Go.RowKit Go.Cd

theorem cmp_swap (x y : Nat) : cmpN y x = -cmpN x y := by
  unfold cmpN
  by_cases h : x < y
  · rw [if_neg (by omega), if_pos h, if_pos h]; rfl
  · by_cases h' : y < x
    · rw [if_pos h', if_neg h, if_pos h']
    · rw [if_neg h', if_neg h, if_neg h, if_neg h']; rfl

theorem cmp_add (x y z : Nat) : cmpN (x + z) (y + z) = cmpN x y := by
  unfold cmpN
  by_cases h : x < y
  · rw [if_pos h, if_pos (by omega)]
  · by_cases h' : y < x
    · rw [if_neg h, if_pos h', if_neg (by omega), if_pos (by omega)]
    · rw [if_neg h, if_neg h', if_neg (by omega), if_neg (by omega)]

theorem cmp_le_trans {x y z : Nat} (h : cmpN x y ≤ 0) (h' : cmpN y z ≤ 0) : cmpN x z ≤ 0 := by
  have e : ∀ x y : Nat, cmpN x y ≤ 0 ↔ x ≤ y := fun x y => by
    unfold cmpN
    by_cases h : x < y
    · rw [if_pos h]; omega
    · by_cases h' : y < x
      · rw [if_neg h, if_pos h']; omega
      · rw [if_neg h, if_neg h']; omega
  rw [e] at *; omega

theorem cmp_cases (x y : Nat) : (cmpN x y = -1 ∧ cmpN y x = 1 ∧ decide (x = y) = false) ∨ (cmpN x y = 1 ∧ cmpN y x = -1 ∧ decide (x = y) = false) ∨ (cmpN x y = 0 ∧ cmpN y x = 0 ∧ decide (x = y) = true) := by
  rcases Nat.lt_trichotomy x y with h | h | h
  · exact .inl ⟨cmp_of_lt h, cmp_of_gt h, decide_eq_false (by omega)⟩
  · subst h; exact .inr (.inr ⟨cmp_self _, cmp_self _, decide_eq_true rfl⟩)
  · exact .inr (.inl ⟨cmp_of_gt h, cmp_of_lt h, decide_eq_false (by omega)⟩)

theorem lenAdd {x y n : Nat} (hx : (digs B x).length ≤ n) (hy : (digs B y).length ≤ n) : (digs B (x + y)).length ≤ n + 1 :=
  lenB_le (add_lt_pow two_le_B ((len_digs_le two_le_B).1 hx) ((len_digs_le two_le_B).1 hy))

end Go.Proofs.YtcabmibcgedhhaaDoor
