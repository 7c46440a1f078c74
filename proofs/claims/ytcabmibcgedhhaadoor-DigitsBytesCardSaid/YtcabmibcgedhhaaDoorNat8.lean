/-
  The walk of cedillalaw01.awake.
-/
import Derived.Test.YtcabmibcgedhhaaDoorNat7
namespace Go.Proofs.YtcabmibcgedhhaaDoor
open Go.RowKit Go.Cd

theorem lenB_le {x n : Nat} (h : x < B ^ n) : (digs B x).length ≤ n := (len_digs_le two_le_B).2 h

/-- A number out of a few digits. -/
theorem take_lt {l : List Nat} (h : ∀ d ∈ l, d < B) : ∀ d ∈ l.take 40, d < B := fun d hd => h d (List.mem_of_mem_take hd)
theorem fewLen (l : List Nat) (h : ∀ d ∈ l, d < B) : (digs B (val B (l.take 40))).length ≤ 40 :=
  Nat.le_trans (val_len_lt two_le_B (take_lt h)) (by simp; omega)


theorem powB (n : Nat) : B ^ n = 2 ^ (32 * n) := by rw [Nat.pow_mul]; rfl

end Go.Proofs.YtcabmibcgedhhaaDoor
