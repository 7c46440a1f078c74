/-
  DERIVED. GIVEN WITH THE SEED: THE CARDS: each row of YtmnimbnojdndmaaGreatDoorRows.lean that lists a variable, with what it lists TIED to the program's text (the seventh form; the later family's looks); each row that meets fmt, with fmt's text TOLD by the authors' own Lean function (tested against real Go, not proved from fmt's source: count such statements apart). THE CARD IS WHAT COUNTS. Prove the row's statement (the work); the ties are given (YtmnimbnojdndmaaGreatDoorTie.lean); close each card by the builder's one call (the guide's Derived/Test/ToyasCard.lean, 'card_holds'). Laid BY PROGRAM, IN A SANDBOX (cutbox-door.mjs). By AI agents, Wed Nov 11 2026. No macro, syntax, notation, axiom, sorry.
-/
import Derived.Test.YtmnimbnojdndmaaGreatDoorRows
import GoSem.ClaimSeven
namespace Go.Proofs.YtmnimbnojdndmaaGreatDoor
namespace Rows

/-- THE TIED CARD OF 'cedillalaw25.CountWhole'. -/
def countWholeCard : Claim7 := { stood := { row := countWholeRow, standIns := [], harness := (true, "77a1987c0aa7dcd9382945f77b52ca246654d4ab4d688fdce4a2c5fd472027c7"), looks := true }, kinds := [], alts := [], laidByText := true, laidKinds := [.data, .data, .data, .data, .sentinel, .sentinel, .data, .pinned, .pinned], laidTests := true, laidLooks := .later }
def CountWholeCardSaid : Prop := Claim7.holds Tryz.pinned (.plain (OpenSpec.ofChange countWholeSpec)) countWholeCard

/-- THE TIED CARD OF 'cedillalaw25.CountAlike'. -/
def countAlikeCard : Claim7 := { stood := { row := countAlikeRow, standIns := [], harness := (true, "77a1987c0aa7dcd9382945f77b52ca246654d4ab4d688fdce4a2c5fd472027c7"), looks := true }, kinds := [], alts := [], laidByText := true, laidKinds := [.data, .data, .data, .data, .sentinel, .sentinel, .data, .pinned, .pinned], laidTests := true, laidLooks := .later }
def CountAlikeCardSaid : Prop := Claim7.holds Tryz.pinned (.plain (OpenSpec.ofChange countAlikeSpec)) countAlikeCard

/-- THE TIED CARD OF 'cedillalaw25.CountParts'. -/
def countPartsCard : Claim7 := { stood := { row := countPartsRow, standIns := [], harness := (true, "77a1987c0aa7dcd9382945f77b52ca246654d4ab4d688fdce4a2c5fd472027c7"), looks := true }, kinds := [], alts := [], laidByText := true, laidKinds := [.data, .data, .data, .data, .sentinel, .sentinel, .data, .pinned, .pinned], laidTests := true, laidLooks := .later }
def CountPartsCardSaid : Prop := Claim7.holds Tryz.pinned (.plain (OpenSpec.ofChange countPartsSpec)) countPartsCard

/-- THE SECOND FORM's CARD OF 'cedillalaw25.CountWhole'. -/
def countWholeUptoCard : Claim7 := { stood := { row := countWholeUptoRow, standIns := [], harness := (true, "77a1987c0aa7dcd9382945f77b52ca246654d4ab4d688fdce4a2c5fd472027c7"), looks := true }, kinds := [], alts := [], laidByText := true, laidKinds := [.data, .data, .data, .data, .sentinel, .sentinel, .data, .pinned, .pinned], laidTests := true, laidLooks := .later }
def CountWholeUptoCardSaid : Prop := Claim7.holds Tryz.pinned (.plain (OpenSpec.upto countWholeSpec)) countWholeUptoCard

/-- THE SECOND FORM's CARD OF 'cedillalaw25.CountAlike'. -/
def countAlikeUptoCard : Claim7 := { stood := { row := countAlikeUptoRow, standIns := [], harness := (true, "77a1987c0aa7dcd9382945f77b52ca246654d4ab4d688fdce4a2c5fd472027c7"), looks := true }, kinds := [], alts := [], laidByText := true, laidKinds := [.data, .data, .data, .data, .sentinel, .sentinel, .data, .pinned, .pinned], laidTests := true, laidLooks := .later }
def CountAlikeUptoCardSaid : Prop := Claim7.holds Tryz.pinned (.plain (OpenSpec.upto countAlikeSpec)) countAlikeUptoCard

/-- THE SECOND FORM's CARD OF 'cedillalaw25.CountParts'. -/
def countPartsUptoCard : Claim7 := { stood := { row := countPartsUptoRow, standIns := [], harness := (true, "77a1987c0aa7dcd9382945f77b52ca246654d4ab4d688fdce4a2c5fd472027c7"), looks := true }, kinds := [], alts := [], laidByText := true, laidKinds := [.data, .data, .data, .data, .sentinel, .sentinel, .data, .pinned, .pinned], laidTests := true, laidLooks := .later }
def CountPartsUptoCardSaid : Prop := Claim7.holds Tryz.pinned (.plain (OpenSpec.upto countPartsSpec)) countPartsUptoCard
end Rows
end Go.Proofs.YtmnimbnojdndmaaGreatDoor
