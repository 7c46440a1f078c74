/- Texts that are alike cost, and count, the same; no condition. -/
import Derived.Test.YtmnimbnojdndmaaGreatDoorU01
import Derived.ProofKit
import Derived.LaidMore
import Derived.Lay
import Derived.SevenTiedAt
import Derived.Stop.Joined
import Derived.Deep.DeepHandedRow
set_option maxRecDepth 100000
set_option maxHeartbeats 6400000
set_option linter.all false
namespace Go.Proofs.YtmnimbnojdndmaaGreatDoor.countAlike
open Go.ChangeShapes Go.WideShapes Go.ChangeAt Go.RowKit
def closed:joinedFacts Tryz.pinned.checked.prog 4 Tryz.f4 (OpenSpec.ofChange Rows.countAlikeSpec).bare Rows.countAlikeRow=true:=by
 simp only[joinedFacts,jn]
 repeat' apply And.intro
 all_goals (as_aux_lemma=>kernel_rfl)
def isI:Tryz.f4.isInstance Tryz.pinned.checked.prog Rows.countAlikeRow.origin Rows.countAlikeRow.targs:=of_decide_eq_true (by kernel_rfl)
def isW:Tryz.f4.isWrapper Tryz.pinned.checked.prog Rows.countAlikeRow.wrapper Rows.countAlikeRow.mainSum:=by unfold Func.isWrapper;first|(rw[if_pos (by decide +kernel)];kernel_rfl)|(rw[if_neg (by decide +kernel)];exact⟨rfl,rfl⟩)
end Go.Proofs.YtmnimbnojdndmaaGreatDoor.countAlike
