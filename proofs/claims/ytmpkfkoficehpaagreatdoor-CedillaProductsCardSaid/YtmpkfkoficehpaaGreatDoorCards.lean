/-
  DERIVED. GIVEN WITH THE SEED: THE CARDS: each row of YtmpkfkoficehpaaGreatDoorRows.lean that lists a variable, with what it lists TIED to the program's text (the seventh form; the later family's looks); each row that meets fmt, with fmt's text TOLD by the authors' own Lean function (tested against real Go, not proved from fmt's source: count such statements apart). THE CARD IS WHAT COUNTS. Prove the row's statement (the work); the ties are given (YtmpkfkoficehpaaGreatDoorTie.lean); close each card by the builder's one call (the guide's Derived/Test/ToyasCard.lean, 'card_holds'). Laid BY PROGRAM, IN A SANDBOX (cutbox-door.mjs). By AI agents, Wed Nov 11 2026. No macro, syntax, notation, axiom, sorry.
-/
import Derived.Test.YtmpkfkoficehpaaGreatDoorRows
import GoSem.ClaimSeven
namespace Go.Proofs.YtmpkfkoficehpaaGreatDoor
namespace Rows

/-- THE TIED CARD OF 'cedillatop.CedillaProducts'. -/
def cedillaProductsCard : Claim7 := { stood := { row := cedillaProductsRow, standIns := [], harness := (true, "753afb9645be6b35632fa49b41751e43ffd8b5f0d383a35f4824df13c05c5c4a"), looks := true }, kinds := [], alts := [], laidByText := true, laidKinds := [.data, .data, .data, .data, .sentinel, .sentinel, .data, .pinned], laidTests := true, laidLooks := .later }
def CedillaProductsCardSaid : Prop := Claim7.holds Tryz.pinned (.plain (OpenSpec.ofChange cedillaProductsSpec)) cedillaProductsCard

/-- THE SECOND FORM's CARD OF 'cedillatop.CedillaProducts'. -/
def cedillaProductsUptoCard : Claim7 := { stood := { row := cedillaProductsUptoRow, standIns := [], harness := (true, "753afb9645be6b35632fa49b41751e43ffd8b5f0d383a35f4824df13c05c5c4a"), looks := true }, kinds := [], alts := [], laidByText := true, laidKinds := [.data, .data, .data, .data, .sentinel, .sentinel, .data, .pinned], laidTests := true, laidLooks := .later }
def CedillaProductsUptoCardSaid : Prop := Claim7.holds Tryz.pinned (.plain (OpenSpec.upto cedillaProductsSpec)) cedillaProductsUptoCard
end Rows
end Go.Proofs.YtmpkfkoficehpaaGreatDoor
