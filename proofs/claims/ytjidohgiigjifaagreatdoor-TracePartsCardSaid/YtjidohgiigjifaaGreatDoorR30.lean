/- TraceParts and TraceWalks: a machine takes a character as those of its full decomposition, one by one; texts that are alike go through it, and of others none; no condition. -/
import Derived.Test.YtjidohgiigjifaaGreatDoorR01
import Derived.Test.YtjidohgiigjifaaGreatDoorRows
import Derived.WalkKit
import Derived.ProofKit
import Derived.LaidMore
import Derived.Lay
import Derived.SevenTiedAt
import Derived.Stop.Joined
import Derived.Deep.DeepHandedRow
set_option maxRecDepth 100000
set_option maxHeartbeats 6400000
namespace Go.Proofs.YtjidohgiigjifaaGreatDoor.traceParts
open Go.ChangeShapes Go.WideShapes Go.ChangeAt Go.RowKit
theorem own:ownKnob Tryz.prog.godebug=none:=by kernel_rfl
theorem laidOut:laidOutB Tryz.prog=true:=by kernel_rfl
noncomputable def w0 (os:Os):World:=World.laidAll Tryz.prog os Rows.tracePartsRow.laid
def y7:Array Value:=#[.agg #[.slice none 0 0,.slice none 0 0,.slice none 0 0,.slice none 0 0],.slice none 0 0]
theorem Qv (os:Os):laidMetH Tryz.prog Rows.tracePartsRow.laid ((w0 os).forCall (fun _ _=>0) ⟨#[],y7,[]⟩).memory:=by
 rw [MakeChecks.laidMetH_plain _ _ _ (by kernel_rfl)];exact laidMet_laidAll _ (by kernel_rfl) (by kernel_rfl)
theorem shaped (os:Os):((w0 os).forCall (fun _ _=>0) ⟨#[],y7,[]⟩).Shaped Tryz.prog:=World.shaped_of_ZipB (by kernel_rfl) (by kernel_rfl)
theorem okw (os:Os):Input.okWideB Tryz.prog ((w0 os).forCall (fun _ _=>0) ⟨#[],y7,[]⟩) 5 ⟨#[],y7,[]⟩=true:=by kernel_rfl
theorem reads (os:Os) {H:Type} (enc:TypeId×Value→H):∃places,DataW.whole enc Tryz.prog ((w0 os).forCall (fun _ _=>0) ⟨#[],y7,[]⟩).memory Tryz.f5.params.toList (OpenSpec.ofChange Rows.tracePartsSpec).vars false y7.toList 8=some ([.agg [.agg [.nil,.nil],.nil,.nil],.nil],[],places):=
 ⟨[],by kernel_rfl⟩
end Go.Proofs.YtjidohgiigjifaaGreatDoor.traceParts
