/- TraceSizes: a machine made of a text has as many states as the document says; no condition. -/
import Derived.Test.YtjidohgiigjifaaGreatDoorQ01
import Derived.Test.YtjidohgiigjifaaGreatDoorRows
import Derived.WalkKit
import Derived.ProofKit
import Derived.LaidMore
import Derived.Lay
import Derived.SevenTiedAt
import Derived.Stop.Joined
import Derived.Deep.DeepHandedRow
set_option maxRecDepth 100000
set_option maxHeartbeats 6400000
namespace Go.Proofs.YtjidohgiigjifaaGreatDoor.traceSizes
open Go.ChangeShapes Go.WideShapes Go.ChangeAt Go.RowKit
theorem closed:joinedFacts Tryz.pinned.checked.prog 3 Tryz.f3 (OpenSpec.ofChange Rows.traceSizesSpec).bare Rows.traceSizesRow=true:=by kernel_rfl
theorem isI:Tryz.f3.isInstance Tryz.pinned.checked.prog Rows.traceSizesRow.origin Rows.traceSizesRow.targs:=of_decide_eq_true (by kernel_rfl)
theorem isW:Tryz.f3.isWrapper Tryz.pinned.checked.prog Rows.traceSizesRow.wrapper Rows.traceSizesRow.mainSum:=by unfold Func.isWrapper;first|(rw [if_pos (by decide +kernel)];kernel_rfl)|(rw [if_neg (by decide +kernel)];exact ⟨rfl,rfl⟩)
end Go.Proofs.YtjidohgiigjifaaGreatDoor.traceSizes
