/- One machine of an NFD counts as its units do, multiplied; no condition. -/
import Derived.Test.YtmnimbnojdndmaaGreatDoorR01
import Derived.ProofKit
import Derived.LaidMore
import Derived.Lay
import Derived.SevenTiedAt
import Derived.Stop.Joined
import Derived.Deep.DeepHandedRow
set_option maxRecDepth 100000
set_option maxHeartbeats 6400000
set_option linter.all false
namespace Go.Proofs.YtmnimbnojdndmaaGreatDoor.countWhole
open Go.ChangeShapes Go.WideShapes Go.ChangeAt Go.RowKit
def closed:joinedFacts Tryz.pinned.checked.prog 3 Tryz.f3 (OpenSpec.ofChange Rows.countWholeSpec).bare Rows.countWholeRow=true:=by
 simp only[joinedFacts,Bool.and_eq_true]
 repeat' apply And.intro
 all_goals (as_aux_lemma=>kernel_rfl)
def isI:Tryz.f3.isInstance Tryz.pinned.checked.prog Rows.countWholeRow.origin Rows.countWholeRow.targs:=of_decide_eq_true (by kernel_rfl)
def isW:Tryz.f3.isWrapper Tryz.pinned.checked.prog Rows.countWholeRow.wrapper Rows.countWholeRow.mainSum:=by unfold Func.isWrapper;first|(rw[if_pos (by decide +kernel)];kernel_rfl)|(rw[if_neg (by decide +kernel)];exact⟨rfl,rfl⟩)
end Go.Proofs.YtmnimbnojdndmaaGreatDoor.countWhole
