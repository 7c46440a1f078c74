/- Texts that are alike cost, and count, the same; no condition. -/
import Derived.Test.YtmnimbnojdndmaaGreatDoorU01
import Derived.ProofKit
import Derived.LaidMore
import Derived.Lay
import Derived.SevenTiedAt
import Derived.Stop.Joined
import Derived.Deep.DeepHandedRow
set_option maxRecDepth 100000
set_option maxHeartbeats 6400000
set_option linter.all false
namespace Go.Proofs.YtmnimbnojdndmaaGreatDoor.countAlike
open Go.ChangeShapes Go.WideShapes Go.ChangeAt Go.RowKit
def own:ownKnob Tryz.prog.godebug=none:=by kernel_rfl
def laidOut:laidOutB Tryz.prog=true:=by kernel_rfl
noncomputable def w0 (os:Os):World:=World.laidAll Tryz.prog os Rows.countAlikeRow.laid
def Dv:Array Value:=#[.agg #[.slice none 0 0,.slice none 0 0,.slice none 0 0,.slice none 0 0],.slice none 0 0,.int .i64 0]
def Yd (os:Os):laidMetH Tryz.prog Rows.countAlikeRow.laid ((w0 os).forCall (λ_ _=>0) ⟨#[],Dv,[]⟩).memory:=by
 rw[A4 _ _ _ (by kernel_rfl)];exact laidMet_laidAll _ (by kernel_rfl) (by kernel_rfl)
def shaped (os:Os):((w0 os).forCall (λ_ _=>0) ⟨#[],Dv,[]⟩).Shaped Tryz.prog:=World.shaped_of_ZipB (by kernel_rfl) (by kernel_rfl)
def okw (os:Os):Input.okWideB Tryz.prog ((w0 os).forCall (λ_ _=>0) ⟨#[],Dv,[]⟩) 4 ⟨#[],Dv,[]⟩=true:=by kernel_rfl
def reads (os:Os) {H:Type} (b:TypeId×Value->H):∃a,DataW.whole b Tryz.prog ((w0 os).forCall (λ_ _=>0) ⟨#[],Dv,[]⟩).memory Tryz.f4.params.toList (OpenSpec.ofChange Rows.countAlikeSpec).vars false Dv.toList 8=some ([.agg [.agg [.nil,.nil],.nil,.nil],.nil,.lit (.int .i64 0)],[],a):=
 ⟨[],by kernel_rfl⟩
end Go.Proofs.YtmnimbnojdndmaaGreatDoor.countAlike
