/-
  DERIVED. GIVEN WITH THE SEED: THE CARDS: each row of YtjidohgiigjifaaGreatDoorRows.lean that lists a variable, with what it lists TIED to the program's text (the seventh form; the later family's looks); each row that meets fmt, with fmt's text TOLD by the authors' own Lean function (tested against real Go, not proved from fmt's source: count such statements apart). THE CARD IS WHAT COUNTS. Prove the row's statement (the work); the ties are given (YtjidohgiigjifaaGreatDoorTie.lean); close each card by the builder's one call (the guide's Derived/Test/ToyasCard.lean, 'card_holds'). Laid BY PROGRAM, IN A SANDBOX (cutbox-door.mjs). By AI agents, Wed Nov 11 2026. No macro, syntax, notation, axiom, sorry.
-/
import Derived.Test.YtjidohgiigjifaaGreatDoorRows
import GoSem.ClaimSeven
namespace Go.Proofs.YtjidohgiigjifaaGreatDoor
namespace Rows

/-- THE TIED CARD OF 'cedillalaw24.TraceSizes'. -/
def traceSizesCard : Claim7 := { stood := { row := traceSizesRow, standIns := [], harness := (true, "5f8e5e61d33fd32a40f85a2827eff37e55a78061c6d0fbbd7220d5d910bb1404"), looks := true }, kinds := [], alts := [], laidByText := true, laidKinds := [.data, .data, .data, .data, .sentinel, .sentinel, .pinned, .pinned], laidTests := true, laidLooks := .later }
def TraceSizesCardSaid : Prop := Claim7.holds Tryz.pinned (.plain (OpenSpec.ofChange traceSizesSpec)) traceSizesCard

/-- THE TIED CARD OF 'cedillalaw24.TraceWalks'. -/
def traceWalksCard : Claim7 := { stood := { row := traceWalksRow, standIns := [], harness := (true, "5f8e5e61d33fd32a40f85a2827eff37e55a78061c6d0fbbd7220d5d910bb1404"), looks := true }, kinds := [], alts := [], laidByText := true, laidKinds := [.data, .data, .data, .data, .sentinel, .sentinel, .pinned, .pinned], laidTests := true, laidLooks := .later }
def TraceWalksCardSaid : Prop := Claim7.holds Tryz.pinned (.plain (OpenSpec.ofChange traceWalksSpec)) traceWalksCard

/-- THE TIED CARD OF 'cedillalaw24.TraceParts'. -/
def tracePartsCard : Claim7 := { stood := { row := tracePartsRow, standIns := [], harness := (true, "5f8e5e61d33fd32a40f85a2827eff37e55a78061c6d0fbbd7220d5d910bb1404"), looks := true }, kinds := [], alts := [], laidByText := true, laidKinds := [.data, .data, .data, .data, .sentinel, .sentinel, .pinned, .pinned], laidTests := true, laidLooks := .later }
def TracePartsCardSaid : Prop := Claim7.holds Tryz.pinned (.plain (OpenSpec.ofChange tracePartsSpec)) tracePartsCard

/-- THE SECOND FORM's CARD OF 'cedillalaw24.TraceSizes'. -/
def traceSizesUptoCard : Claim7 := { stood := { row := traceSizesUptoRow, standIns := [], harness := (true, "5f8e5e61d33fd32a40f85a2827eff37e55a78061c6d0fbbd7220d5d910bb1404"), looks := true }, kinds := [], alts := [], laidByText := true, laidKinds := [.data, .data, .data, .data, .sentinel, .sentinel, .pinned, .pinned], laidTests := true, laidLooks := .later }
def TraceSizesUptoCardSaid : Prop := Claim7.holds Tryz.pinned (.plain (OpenSpec.upto traceSizesSpec)) traceSizesUptoCard

/-- THE SECOND FORM's CARD OF 'cedillalaw24.TraceWalks'. -/
def traceWalksUptoCard : Claim7 := { stood := { row := traceWalksUptoRow, standIns := [], harness := (true, "5f8e5e61d33fd32a40f85a2827eff37e55a78061c6d0fbbd7220d5d910bb1404"), looks := true }, kinds := [], alts := [], laidByText := true, laidKinds := [.data, .data, .data, .data, .sentinel, .sentinel, .pinned, .pinned], laidTests := true, laidLooks := .later }
def TraceWalksUptoCardSaid : Prop := Claim7.holds Tryz.pinned (.plain (OpenSpec.upto traceWalksSpec)) traceWalksUptoCard

/-- THE SECOND FORM's CARD OF 'cedillalaw24.TraceParts'. -/
def tracePartsUptoCard : Claim7 := { stood := { row := tracePartsUptoRow, standIns := [], harness := (true, "5f8e5e61d33fd32a40f85a2827eff37e55a78061c6d0fbbd7220d5d910bb1404"), looks := true }, kinds := [], alts := [], laidByText := true, laidKinds := [.data, .data, .data, .data, .sentinel, .sentinel, .pinned, .pinned], laidTests := true, laidLooks := .later }
def TracePartsUptoCardSaid : Prop := Claim7.holds Tryz.pinned (.plain (OpenSpec.upto tracePartsSpec)) tracePartsUptoCard
end Rows
end Go.Proofs.YtjidohgiigjifaaGreatDoor
