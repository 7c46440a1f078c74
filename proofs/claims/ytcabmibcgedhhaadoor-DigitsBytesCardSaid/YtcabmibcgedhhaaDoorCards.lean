/-
  DERIVED. GIVEN WITH THE SEED: THE CARDS: each row of YtcabmibcgedhhaaDoorRows.lean that lists a variable, with what it lists TIED to the program's text (the seventh form; the later family's looks); each row that meets fmt, with fmt's text TOLD by the authors' own Lean function (tested against real Go, not proved from fmt's source: count such statements apart). THE CARD IS WHAT COUNTS. Prove the row's statement (the work); the ties are given (YtcabmibcgedhhaaDoorTie.lean); close each card by the builder's one call (the guide's Derived/Test/ToyasCard.lean, 'card_holds'). Laid BY PROGRAM, IN A SANDBOX (cutbox-door.mjs). By AI agents, Wed Nov 11 2026. No macro, syntax, notation, axiom, sorry.
-/
import Derived.Test.YtcabmibcgedhhaaDoorRows
import GoSem.ClaimSeven
namespace Go.Proofs.YtcabmibcgedhhaaDoor
namespace Rows

/-- THE TIED CARD OF 'cedillalaw03.DigitsOrder'. -/
def digitsOrderCard : Claim7 := { stood := { row := digitsOrderRow, standIns := [], harness := (true, "53290894944b22c1833745e7ef80d7e0163e61f085c23a9d0af42e77458ca373"), looks := false }, kinds := [], alts := [], laidByText := true, laidKinds := [.data, .pinned], laidTests := true, laidLooks := .later }
def DigitsOrderCardSaid : Prop := Claim7.holds Tryd.pinned (.plain (OpenSpec.ofChange digitsOrderSpec)) digitsOrderCard

/-- THE TIED CARD OF 'cedillalaw03.DigitsTakes'. -/
def digitsTakesCard : Claim7 := { stood := { row := digitsTakesRow, standIns := [], harness := (true, "53290894944b22c1833745e7ef80d7e0163e61f085c23a9d0af42e77458ca373"), looks := false }, kinds := [], alts := [], laidByText := true, laidKinds := [.data, .pinned], laidTests := true, laidLooks := .later }
def DigitsTakesCardSaid : Prop := Claim7.holds Tryd.pinned (.plain (OpenSpec.ofChange digitsTakesSpec)) digitsTakesCard

/-- THE TIED CARD OF 'cedillalaw03.DigitsBytes'. -/
def digitsBytesCard : Claim7 := { stood := { row := digitsBytesRow, standIns := [], harness := (true, "53290894944b22c1833745e7ef80d7e0163e61f085c23a9d0af42e77458ca373"), looks := false }, kinds := [], alts := [], laidByText := true, laidKinds := [.data, .pinned], laidTests := true, laidLooks := .later }
def DigitsBytesCardSaid : Prop := Claim7.holds Tryd.pinned (.plain (OpenSpec.ofChange digitsBytesSpec)) digitsBytesCard

/-- THE TIED CARD OF 'cedillalaw03.DigitsParses'. -/
def digitsParsesCard : Claim7 := { stood := { row := digitsParsesRow, standIns := [], harness := (true, "53290894944b22c1833745e7ef80d7e0163e61f085c23a9d0af42e77458ca373"), looks := false }, kinds := [], alts := [], laidByText := true, laidKinds := [.data, .pinned], laidTests := true, laidLooks := .later }
def DigitsParsesCardSaid : Prop := Claim7.holds Tryd.pinned (.plain (OpenSpec.ofChange digitsParsesSpec)) digitsParsesCard

/-- THE TIED CARD OF 'cedillalaw03.DigitsTexts'. -/
def digitsTextsCard : Claim7 := { stood := { row := digitsTextsRow, standIns := [], harness := (true, "53290894944b22c1833745e7ef80d7e0163e61f085c23a9d0af42e77458ca373"), looks := false }, kinds := [], alts := [], laidByText := true, laidKinds := [.data, .pinned], laidTests := true, laidLooks := .later }
def DigitsTextsCardSaid : Prop := Claim7.holds Tryd.pinned (.plain (OpenSpec.ofChange digitsTextsSpec)) digitsTextsCard

/-- THE SECOND FORM's CARD OF 'cedillalaw03.DigitsOrder'. -/
def digitsOrderUptoCard : Claim7 := { stood := { row := digitsOrderUptoRow, standIns := [], harness := (true, "53290894944b22c1833745e7ef80d7e0163e61f085c23a9d0af42e77458ca373"), looks := false }, kinds := [], alts := [], laidByText := true, laidKinds := [.data, .pinned], laidTests := true, laidLooks := .later }
def DigitsOrderUptoCardSaid : Prop := Claim7.holds Tryd.pinned (.plain (OpenSpec.upto digitsOrderSpec)) digitsOrderUptoCard

/-- THE SECOND FORM's CARD OF 'cedillalaw03.DigitsTakes'. -/
def digitsTakesUptoCard : Claim7 := { stood := { row := digitsTakesUptoRow, standIns := [], harness := (true, "53290894944b22c1833745e7ef80d7e0163e61f085c23a9d0af42e77458ca373"), looks := false }, kinds := [], alts := [], laidByText := true, laidKinds := [.data, .pinned], laidTests := true, laidLooks := .later }
def DigitsTakesUptoCardSaid : Prop := Claim7.holds Tryd.pinned (.plain (OpenSpec.upto digitsTakesSpec)) digitsTakesUptoCard

/-- THE SECOND FORM's CARD OF 'cedillalaw03.DigitsBytes'. -/
def digitsBytesUptoCard : Claim7 := { stood := { row := digitsBytesUptoRow, standIns := [], harness := (true, "53290894944b22c1833745e7ef80d7e0163e61f085c23a9d0af42e77458ca373"), looks := false }, kinds := [], alts := [], laidByText := true, laidKinds := [.data, .pinned], laidTests := true, laidLooks := .later }
def DigitsBytesUptoCardSaid : Prop := Claim7.holds Tryd.pinned (.plain (OpenSpec.upto digitsBytesSpec)) digitsBytesUptoCard

/-- THE SECOND FORM's CARD OF 'cedillalaw03.DigitsParses'. -/
def digitsParsesUptoCard : Claim7 := { stood := { row := digitsParsesUptoRow, standIns := [], harness := (true, "53290894944b22c1833745e7ef80d7e0163e61f085c23a9d0af42e77458ca373"), looks := false }, kinds := [], alts := [], laidByText := true, laidKinds := [.data, .pinned], laidTests := true, laidLooks := .later }
def DigitsParsesUptoCardSaid : Prop := Claim7.holds Tryd.pinned (.plain (OpenSpec.upto digitsParsesSpec)) digitsParsesUptoCard

/-- THE SECOND FORM's CARD OF 'cedillalaw03.DigitsTexts'. -/
def digitsTextsUptoCard : Claim7 := { stood := { row := digitsTextsUptoRow, standIns := [], harness := (true, "53290894944b22c1833745e7ef80d7e0163e61f085c23a9d0af42e77458ca373"), looks := false }, kinds := [], alts := [], laidByText := true, laidKinds := [.data, .pinned], laidTests := true, laidLooks := .later }
def DigitsTextsUptoCardSaid : Prop := Claim7.holds Tryd.pinned (.plain (OpenSpec.upto digitsTextsSpec)) digitsTextsUptoCard
end Rows
end Go.Proofs.YtcabmibcgedhhaaDoor
