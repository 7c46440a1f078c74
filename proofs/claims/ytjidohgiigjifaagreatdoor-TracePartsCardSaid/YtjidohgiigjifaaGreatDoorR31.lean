/- TraceParts and TraceWalks: a machine takes a character as those of its full decomposition, one by one; texts that are alike go through it, and of others none; no condition. -/
import Derived.Test.YtjidohgiigjifaaGreatDoorR01
import Derived.Test.YtjidohgiigjifaaGreatDoorRows
import Derived.WalkKit
import Derived.ProofKit
import Derived.LaidMore
import Derived.Lay
import Derived.SevenTiedAt
import Derived.Stop.Joined
import Derived.Deep.DeepHandedRow
set_option maxRecDepth 100000
set_option maxHeartbeats 6400000
namespace Go.Proofs.YtjidohgiigjifaaGreatDoor.traceParts
open Go.ChangeShapes Go.WideShapes Go.ChangeAt Go.RowKit
theorem closed:joinedFacts Tryz.pinned.checked.prog 5 Tryz.f5 (OpenSpec.ofChange Rows.tracePartsSpec).bare Rows.tracePartsRow=true:=by kernel_rfl
theorem isI:Tryz.f5.isInstance Tryz.pinned.checked.prog Rows.tracePartsRow.origin Rows.tracePartsRow.targs:=of_decide_eq_true (by kernel_rfl)
theorem isW:Tryz.f5.isWrapper Tryz.pinned.checked.prog Rows.tracePartsRow.wrapper Rows.tracePartsRow.mainSum:=by unfold Func.isWrapper;first|(rw [if_pos (by decide +kernel)];kernel_rfl)|(rw [if_neg (by decide +kernel)];exact ⟨rfl,rfl⟩)
end Go.Proofs.YtjidohgiigjifaaGreatDoor.traceParts
