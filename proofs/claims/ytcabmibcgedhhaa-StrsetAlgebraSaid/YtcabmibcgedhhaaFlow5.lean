/-
  Two operations of a region of which either may come first, whatever they are: both orders are walked, what follows once. No program is named here; no condition.
-/
import Derived.Test.YtcabmibcgedhhaaFlow
namespace Go.Cd
open Go.RowKit

section
variable {P : Program} {ops : Array Oper} {md : Region.Mode} {head : Array Bool}

/-- Both have come: what they gave, in whatever order. -/
def Both (a : Act) (d e : Option Nat) (R : Value → Value → World → Prop) (a' : Act) (w' : World) : Prop := ∃ v1 v2, a' = (a.put d v1).put e v2 ∧ R v1 v2 w'

theorem wpE_both {Q : Exit → Act → World → Prop} {T : Array Bool → Act → World → Prop} {n : Nat} (i k : Nat) {o u : Oper} {listed : Array Bool} {a : Act} {w : World} (R : Value → Value → World → Prop)
    (hB : ((Region.ready md ops listed == [i, k] && (head.getD i false && head.getD k false)) && ((Region.ready md ops (listed.setIfInBounds i true) == [k] && Region.ready md ops (listed.setIfInBounds k true) == [i]) && ((listed.setIfInBounds k true).setIfInBounds i true == (listed.setIfInBounds i true).setIfInBounds k true))) = true)
    (hi : nth ops.toList i = some o) (hk : nth ops.toList k = some u)
    (h1 : wpList P ops (QE Q w fun a1 w1 => wpList P ops (QE Q w1 (Both a o.dst u.dst R)) [u] a1 w1) [o] a w)
    (h2 : wpList P ops (QE Q w fun a1 w1 => wpList P ops (QE Q w1 (Both a o.dst u.dst R)) [o] a1 w1) [u] a w)
    (hK : ∀ v1 v2 w', Below w.heap.size w w' → R v1 v2 w' → wpE P md ops head Q T n ((listed.setIfInBounds i true).setIfInBounds k true) ((a.put o.dst v1).put u.dst v2) w') :
    wpE P md ops head Q T (n + 2) listed a w := by
  simp only [Bool.and_eq_true, beq_iff_eq] at hB
  obtain ⟨⟨hr, hhi, hhk⟩, ⟨hr1, hr2⟩, hl⟩ := hB
  refine ⟨by rw [hr]; simp, fun j hj => ?_⟩
  rw [hr] at hj
  simp only [List.mem_cons, List.not_mem_nil, or_false] at hj
  rcases hj with rfl | rfl
  · refine ⟨hhi, wpOp_mono (fun a1 w1 h => ⟨h.1, ?_⟩) (opE_of_list (at_of_nth hi) h1)⟩
    refine ⟨by rw [hr1]; simp, fun j' hj' => ?_⟩
    rw [hr1] at hj'
    obtain rfl : j' = k := by simpa using hj'
    refine ⟨hhk, wpOp_mono (fun a' w' h' => ⟨h'.1, ?_⟩) (opE_of_list (at_of_nth hk) h.2)⟩
    obtain ⟨v1, v2, rfl, hR⟩ := h'.2
    exact hK v1 v2 w' (ext_trans h.1 h'.1) hR
  · refine ⟨hhk, wpOp_mono (fun a1 w1 h => ⟨h.1, ?_⟩) (opE_of_list (at_of_nth hk) h2)⟩
    refine ⟨by rw [hr2]; simp, fun j' hj' => ?_⟩
    rw [hr2] at hj'
    obtain rfl : j' = i := by simpa using hj'
    refine ⟨hhi, wpOp_mono (fun a' w' h' => ⟨h'.1, ?_⟩) (opE_of_list (at_of_nth hi) h.2)⟩
    obtain ⟨v1, v2, rfl, hR⟩ := h'.2
    rw [hl]
    exact hK v1 v2 w' (ext_trans h.1 h'.1) hR
end
end Go.Cd
