/- State by state it is added up what is possible; no condition. -/
import Derived.Test.YtmnimbnojdndmaaGreatDoorS01
import Derived.Test.YtmnimbnojdndmaaGreatDoorRows
import Derived.WalkKit
import Derived.ProofKit
import Derived.LaidMore
import Derived.Lay
import Derived.SevenTiedAt
import Derived.Stop.Joined
import Derived.Deep.DeepHandedRow
set_option maxRecDepth 100000
set_option maxHeartbeats 6400000
set_option linter.all false
namespace Go.Proofs.YtmnimbnojdndmaaGreatDoor.countParts
open Go.ChangeShapes Go.WideShapes Go.ChangeAt Go.RowKit
def closed:joinedFacts Tryz.pinned.checked.prog 5 Tryz.f5 (OpenSpec.ofChange Rows.countPartsSpec).bare Rows.countPartsRow=true:=by
 simp only[joinedFacts,js]
 repeat' apply And.intro
 all_goals (as_aux_lemma=>kernel_rfl)
def isI:Tryz.f5.isInstance Tryz.pinned.checked.prog Rows.countPartsRow.origin Rows.countPartsRow.targs:=of_decide_eq_true (by kernel_rfl)
def isW:Tryz.f5.isWrapper Tryz.pinned.checked.prog Rows.countPartsRow.wrapper Rows.countPartsRow.mainSum:=by unfold Func.isWrapper;first|(rw[if_pos (by decide +kernel)];kernel_rfl)|(rw[if_neg (by decide +kernel)];exact⟨rfl,rfl⟩)
end Go.Proofs.YtmnimbnojdndmaaGreatDoor.countParts
