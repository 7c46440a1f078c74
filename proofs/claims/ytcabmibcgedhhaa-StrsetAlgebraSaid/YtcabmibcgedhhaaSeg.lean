/-
  A segment of a region's walk with its operations written out: where a guard is false 'refine' must not look into the goal. No condition.
-/
import Derived.Test.YtcabmibcgedhhaaFlow
namespace Go.Cd
open Go.RowKit

theorem seg_ex {P : Program} {ops : Array Oper} {C : World → Prop} {K : Act → Prop} {l : List Nat} {a : Act} (h : ∃ ol, pickOps ops l = ol ∧ wpQuiet P ops C K ol a) : wpQuiet P ops C K (pickOps ops l) a := by
  obtain ⟨ol, rfl, h⟩ := h
  exact h
theorem ex_cons {ops : Array Oper} {i : Nat} {o : Oper} {l : List Nat} {F : List Oper → Prop} (ho : nth ops.toList i = some o) (h : ∃ ol, pickOps ops l = ol ∧ F (o :: ol)) : ∃ ol, pickOps ops (i :: l) = ol ∧ F ol := by
  obtain ⟨ol, rfl, h⟩ := h
  exact ⟨_, by simp [pickOps, at_of_nth ho], h⟩
theorem ex_nil {ops : Array Oper} {F : List Oper → Prop} (h : F []) : ∃ ol, pickOps ops [] = ol ∧ F ol := ⟨[], rfl, h⟩
end Go.Cd
