/-
  No cell of these rows narrows 'for every input' (looked for: loops, veiled, ifaces, maps, wideKeys, modest, calm, conditions, laid).
  DERIVED. THE GIVEN ROWS OF THIS SEAT. 16 by the template 'for every input the law returns true; each argument reads behind the call as it read before'; 0 by the template 'total and deterministic' (their statements: YtcabmibcgedhhaaTotals.lean).
  GIVEN WITH THE SEED: the statements are not yours to turn. If you find one false, say at which input.
  Laid BY PROGRAM, IN A SANDBOX (cutbox-rows.mjs): the forced cells as the released guide's own fill.sh prints them over the translation 6560662a0345390e… (all of the seat's roots in one cut). By AI agents, Wed Nov 11 2026. No macro, syntax, notation, axiom, sorry.
-/
import Derived.Test.YtcabmibcgedhhaaChecked
import GoSem.Claim
import GoSem.ClaimJoined
import GoSem.ClaimMapViews
import Derived.JoinedTies
import Derived.KernelRfl
namespace Go.Proofs.Ytcabmibcgedhhaa
/- THE CELL 'sum', in the pinned program and in every row, IS THE sha256 OF THE DUMP (.gsa) THAT YtcabmibcgedhhaaProg.lean LOADS. Nothing in Lean hashes anything: it is a label: what it is worth is what the hold of that sum in a sandbox is worth. -/
noncomputable def Try.pinned : Pinned := { name := "ytcabmibcgedhhaa", sum := "6560662a0345390e589b37c25eaaa169d676ee249d7ba6cb48048c26eaa6f5fc", checked := Try.checked }
namespace Rows
def none {H : Type} : Left H := { results := [], args := [] }

/-- 'cedillalaw23.RadixRefuses': WHATEVER THE INPUT: true; the input reads as it did. -/
def radixRefusesSpec : ChangeSpec := { name := "radixRefuses", fn := fun _ => fun
  | [d1, d2] => { results := [.lit (.bool true)], args := [d1, d2] }
  | _ => none }
def radixRefusesRow : OpenClaim := { program := "ytcabmibcgedhhaa", sum := "6560662a0345390e589b37c25eaaa169d676ee249d7ba6cb48048c26eaa6f5fc", func := "cedilla/cedillalaw23.RadixRefuses", spec := "radixRefuses", unfollowed := true, recurses := true, apart := false }
def RadixRefusesSaid : Prop := radixRefusesRow.holds Try.pinned (OpenSpec.ofChange radixRefusesSpec)

/-- ITS FALSE NEIGHBOUR: 'it returns false'. Refute it at one input. -/
def radixRefusesWrong : ChangeSpec := { name := "radixRefuses", fn := fun _ => fun
  | [d1, d2] => { results := [.lit (.bool false)], args := [d1, d2] }
  | _ => none }
def RadixRefusesWrongFalsely : Prop := radixRefusesRow.holds Try.pinned (OpenSpec.ofChange radixRefusesWrong)

/-- 'cedillalaw23.RadixOrder': WHATEVER THE INPUT: true; the input reads as it did. -/
def radixOrderSpec : ChangeSpec := { name := "radixOrder", fn := fun _ => fun
  | [d1, d2, d3] => { results := [.lit (.bool true)], args := [d1, d2, d3] }
  | _ => none }
def radixOrderRow : OpenClaim := { program := "ytcabmibcgedhhaa", sum := "6560662a0345390e589b37c25eaaa169d676ee249d7ba6cb48048c26eaa6f5fc", func := "cedilla/cedillalaw23.RadixOrder", spec := "radixOrder", unfollowed := true, recurses := true, apart := false }
def RadixOrderSaid : Prop := radixOrderRow.holds Try.pinned (OpenSpec.ofChange radixOrderSpec)

/-- ITS FALSE NEIGHBOUR: 'it returns false'. Refute it at one input. -/
def radixOrderWrong : ChangeSpec := { name := "radixOrder", fn := fun _ => fun
  | [d1, d2, d3] => { results := [.lit (.bool false)], args := [d1, d2, d3] }
  | _ => none }
def RadixOrderWrongFalsely : Prop := radixOrderRow.holds Try.pinned (OpenSpec.ofChange radixOrderWrong)

/-- 'cedillalaw23.RadixNumbers': WHATEVER THE INPUT: true; the input reads as it did. -/
def radixNumbersSpec : ChangeSpec := { name := "radixNumbers", fn := fun _ => fun
  | [d1, d2, d3] => { results := [.lit (.bool true)], args := [d1, d2, d3] }
  | _ => none }
def radixNumbersRow : OpenClaim := { program := "ytcabmibcgedhhaa", sum := "6560662a0345390e589b37c25eaaa169d676ee249d7ba6cb48048c26eaa6f5fc", func := "cedilla/cedillalaw23.RadixNumbers", spec := "radixNumbers", unfollowed := true, recurses := true, apart := false }
def RadixNumbersSaid : Prop := radixNumbersRow.holds Try.pinned (OpenSpec.ofChange radixNumbersSpec)

/-- ITS FALSE NEIGHBOUR: 'it returns false'. Refute it at one input. -/
def radixNumbersWrong : ChangeSpec := { name := "radixNumbers", fn := fun _ => fun
  | [d1, d2, d3] => { results := [.lit (.bool false)], args := [d1, d2, d3] }
  | _ => none }
def RadixNumbersWrongFalsely : Prop := radixNumbersRow.holds Try.pinned (OpenSpec.ofChange radixNumbersWrong)

/-- 'cedillalaw01.NatBits': WHATEVER THE INPUT: true; the input reads as it did. -/
def natBitsSpec : ChangeSpec := { name := "natBits", fn := fun _ => fun
  | [d1, d2] => { results := [.lit (.bool true)], args := [d1, d2] }
  | _ => none }
def natBitsRow : OpenClaim := { program := "ytcabmibcgedhhaa", sum := "6560662a0345390e589b37c25eaaa169d676ee249d7ba6cb48048c26eaa6f5fc", func := "cedilla/cedillalaw01.NatBits", spec := "natBits", apart := false }
def NatBitsSaid : Prop := natBitsRow.holds Try.pinned (OpenSpec.ofChange natBitsSpec)

/-- ITS FALSE NEIGHBOUR: 'it returns false'. Refute it at one input. -/
def natBitsWrong : ChangeSpec := { name := "natBits", fn := fun _ => fun
  | [d1, d2] => { results := [.lit (.bool false)], args := [d1, d2] }
  | _ => none }
def NatBitsWrongFalsely : Prop := natBitsRow.holds Try.pinned (OpenSpec.ofChange natBitsWrong)

/-- 'cedillalaw23.RadixProducts': WHATEVER THE INPUT: true; the input reads as it did. -/
def radixProductsSpec : ChangeSpec := { name := "radixProducts", fn := fun _ => fun
  | [d] => { results := [.lit (.bool true)], args := [d] }
  | _ => none }
def radixProductsRow : OpenClaim := { program := "ytcabmibcgedhhaa", sum := "6560662a0345390e589b37c25eaaa169d676ee249d7ba6cb48048c26eaa6f5fc", func := "cedilla/cedillalaw23.RadixProducts", spec := "radixProducts", unfollowed := true, recurses := true, apart := false }
def RadixProductsSaid : Prop := radixProductsRow.holds Try.pinned (OpenSpec.ofChange radixProductsSpec)

/-- ITS FALSE NEIGHBOUR: 'it returns false'. Refute it at one input. -/
def radixProductsWrong : ChangeSpec := { name := "radixProducts", fn := fun _ => fun
  | [d] => { results := [.lit (.bool false)], args := [d] }
  | _ => none }
def RadixProductsWrongFalsely : Prop := radixProductsRow.holds Try.pinned (OpenSpec.ofChange radixProductsWrong)

/-- 'cedillalaw01.NatCompares': WHATEVER THE INPUT: true; the input reads as it did. -/
def natComparesSpec : ChangeSpec := { name := "natCompares", fn := fun _ => fun
  | [d1, d2, d3] => { results := [.lit (.bool true)], args := [d1, d2, d3] }
  | _ => none }
def natComparesRow : OpenClaim := { program := "ytcabmibcgedhhaa", sum := "6560662a0345390e589b37c25eaaa169d676ee249d7ba6cb48048c26eaa6f5fc", func := "cedilla/cedillalaw01.NatCompares", spec := "natCompares", apart := false }
def NatComparesSaid : Prop := natComparesRow.holds Try.pinned (OpenSpec.ofChange natComparesSpec)

/-- ITS FALSE NEIGHBOUR: 'it returns false'. Refute it at one input. -/
def natComparesWrong : ChangeSpec := { name := "natCompares", fn := fun _ => fun
  | [d1, d2, d3] => { results := [.lit (.bool false)], args := [d1, d2, d3] }
  | _ => none }
def NatComparesWrongFalsely : Prop := natComparesRow.holds Try.pinned (OpenSpec.ofChange natComparesWrong)

/-- 'cedillalaw01.NatLimbs': WHATEVER THE INPUT: true; the input reads as it did. -/
def natLimbsSpec : ChangeSpec := { name := "natLimbs", fn := fun _ => fun
  | [d1, d2] => { results := [.lit (.bool true)], args := [d1, d2] }
  | _ => none }
def natLimbsRow : OpenClaim := { program := "ytcabmibcgedhhaa", sum := "6560662a0345390e589b37c25eaaa169d676ee249d7ba6cb48048c26eaa6f5fc", func := "cedilla/cedillalaw01.NatLimbs", spec := "natLimbs", apart := false }
def NatLimbsSaid : Prop := natLimbsRow.holds Try.pinned (OpenSpec.ofChange natLimbsSpec)

/-- ITS FALSE NEIGHBOUR: 'it returns false'. Refute it at one input. -/
def natLimbsWrong : ChangeSpec := { name := "natLimbs", fn := fun _ => fun
  | [d1, d2] => { results := [.lit (.bool false)], args := [d1, d2] }
  | _ => none }
def NatLimbsWrongFalsely : Prop := natLimbsRow.holds Try.pinned (OpenSpec.ofChange natLimbsWrong)

/-- 'cedillalaw01.NatAdds': WHATEVER THE INPUT: true; the input reads as it did. -/
def natAddsSpec : ChangeSpec := { name := "natAdds", fn := fun _ => fun
  | [d1, d2] => { results := [.lit (.bool true)], args := [d1, d2] }
  | _ => none }
def natAddsRow : OpenClaim := { program := "ytcabmibcgedhhaa", sum := "6560662a0345390e589b37c25eaaa169d676ee249d7ba6cb48048c26eaa6f5fc", func := "cedilla/cedillalaw01.NatAdds", spec := "natAdds", apart := false }
def NatAddsSaid : Prop := natAddsRow.holds Try.pinned (OpenSpec.ofChange natAddsSpec)

/-- ITS FALSE NEIGHBOUR: 'it returns false'. Refute it at one input. -/
def natAddsWrong : ChangeSpec := { name := "natAdds", fn := fun _ => fun
  | [d1, d2] => { results := [.lit (.bool false)], args := [d1, d2] }
  | _ => none }
def NatAddsWrongFalsely : Prop := natAddsRow.holds Try.pinned (OpenSpec.ofChange natAddsWrong)

/-- 'cedillalaw01.NatSmall': WHATEVER THE INPUT: true; the input reads as it did. -/
def natSmallSpec : ChangeSpec := { name := "natSmall", fn := fun _ => fun
  | [d1, d2] => { results := [.lit (.bool true)], args := [d1, d2] }
  | _ => none }
def natSmallRow : OpenClaim := { program := "ytcabmibcgedhhaa", sum := "6560662a0345390e589b37c25eaaa169d676ee249d7ba6cb48048c26eaa6f5fc", func := "cedilla/cedillalaw01.NatSmall", spec := "natSmall", apart := false }
def NatSmallSaid : Prop := natSmallRow.holds Try.pinned (OpenSpec.ofChange natSmallSpec)

/-- ITS FALSE NEIGHBOUR: 'it returns false'. Refute it at one input. -/
def natSmallWrong : ChangeSpec := { name := "natSmall", fn := fun _ => fun
  | [d1, d2] => { results := [.lit (.bool false)], args := [d1, d2] }
  | _ => none }
def NatSmallWrongFalsely : Prop := natSmallRow.holds Try.pinned (OpenSpec.ofChange natSmallWrong)

/-- 'cedillalaw02.ProdDivides': WHATEVER THE INPUT: true; the input reads as it did. -/
def prodDividesSpec : ChangeSpec := { name := "prodDivides", fn := fun _ => fun
  | [d1, d2] => { results := [.lit (.bool true)], args := [d1, d2] }
  | _ => none }
def prodDividesRow : OpenClaim := { program := "ytcabmibcgedhhaa", sum := "6560662a0345390e589b37c25eaaa169d676ee249d7ba6cb48048c26eaa6f5fc", func := "cedilla/cedillalaw02.ProdDivides", spec := "prodDivides", apart := false }
def ProdDividesSaid : Prop := prodDividesRow.holds Try.pinned (OpenSpec.ofChange prodDividesSpec)

/-- ITS FALSE NEIGHBOUR: 'it returns false'. Refute it at one input. -/
def prodDividesWrong : ChangeSpec := { name := "prodDivides", fn := fun _ => fun
  | [d1, d2] => { results := [.lit (.bool false)], args := [d1, d2] }
  | _ => none }
def ProdDividesWrongFalsely : Prop := prodDividesRow.holds Try.pinned (OpenSpec.ofChange prodDividesWrong)

/-- 'cedillalaw02.ProdPowers': WHATEVER THE INPUT: true; the input reads as it did. -/
def prodPowersSpec : ChangeSpec := { name := "prodPowers", fn := fun _ => fun
  | [d1, d2] => { results := [.lit (.bool true)], args := [d1, d2] }
  | _ => none }
def prodPowersRow : OpenClaim := { program := "ytcabmibcgedhhaa", sum := "6560662a0345390e589b37c25eaaa169d676ee249d7ba6cb48048c26eaa6f5fc", func := "cedilla/cedillalaw02.ProdPowers", spec := "prodPowers", apart := false }
def ProdPowersSaid : Prop := prodPowersRow.holds Try.pinned (OpenSpec.ofChange prodPowersSpec)

/-- ITS FALSE NEIGHBOUR: 'it returns false'. Refute it at one input. -/
def prodPowersWrong : ChangeSpec := { name := "prodPowers", fn := fun _ => fun
  | [d1, d2] => { results := [.lit (.bool false)], args := [d1, d2] }
  | _ => none }
def ProdPowersWrongFalsely : Prop := prodPowersRow.holds Try.pinned (OpenSpec.ofChange prodPowersWrong)

/-- 'cedillalaw02.ProdExact': WHATEVER THE INPUT: true; the input reads as it did. -/
def prodExactSpec : ChangeSpec := { name := "prodExact", fn := fun _ => fun
  | [d1, d2, d3] => { results := [.lit (.bool true)], args := [d1, d2, d3] }
  | _ => none }
def prodExactRow : OpenClaim := { program := "ytcabmibcgedhhaa", sum := "6560662a0345390e589b37c25eaaa169d676ee249d7ba6cb48048c26eaa6f5fc", func := "cedilla/cedillalaw02.ProdExact", spec := "prodExact", apart := false }
def ProdExactSaid : Prop := prodExactRow.holds Try.pinned (OpenSpec.ofChange prodExactSpec)

/-- ITS FALSE NEIGHBOUR: 'it returns false'. Refute it at one input. -/
def prodExactWrong : ChangeSpec := { name := "prodExact", fn := fun _ => fun
  | [d1, d2, d3] => { results := [.lit (.bool false)], args := [d1, d2, d3] }
  | _ => none }
def ProdExactWrongFalsely : Prop := prodExactRow.holds Try.pinned (OpenSpec.ofChange prodExactWrong)

/-- 'cedillalaw02.ProdMuls': WHATEVER THE INPUT: true; the input reads as it did. -/
def prodMulsSpec : ChangeSpec := { name := "prodMuls", fn := fun _ => fun
  | [d1, d2, d3] => { results := [.lit (.bool true)], args := [d1, d2, d3] }
  | _ => none }
def prodMulsRow : OpenClaim := { program := "ytcabmibcgedhhaa", sum := "6560662a0345390e589b37c25eaaa169d676ee249d7ba6cb48048c26eaa6f5fc", func := "cedilla/cedillalaw02.ProdMuls", spec := "prodMuls", apart := false }
def ProdMulsSaid : Prop := prodMulsRow.holds Try.pinned (OpenSpec.ofChange prodMulsSpec)

/-- ITS FALSE NEIGHBOUR: 'it returns false'. Refute it at one input. -/
def prodMulsWrong : ChangeSpec := { name := "prodMuls", fn := fun _ => fun
  | [d1, d2, d3] => { results := [.lit (.bool false)], args := [d1, d2, d3] }
  | _ => none }
def ProdMulsWrongFalsely : Prop := prodMulsRow.holds Try.pinned (OpenSpec.ofChange prodMulsWrong)

/-- 'cedillalaw07.StrsetParts': WHATEVER THE INPUT: true; the input reads as it did. -/
def strsetPartsSpec : ChangeSpec := { name := "strsetParts", fn := fun _ => fun
  | [d1, d2, d3] => { results := [.lit (.bool true)], args := [d1, d2, d3] }
  | _ => none }
def strsetPartsRow : OpenClaim := { program := "ytcabmibcgedhhaa", sum := "6560662a0345390e589b37c25eaaa169d676ee249d7ba6cb48048c26eaa6f5fc", func := "cedilla/cedillalaw07.StrsetParts", spec := "strsetParts", inPlace := ["internal/bytealg.abigen_runtime_cmpstring"], unfollowed := true, recurses := true, apart := false }
def StrsetPartsSaid : Prop := strsetPartsRow.holds Try.pinned (OpenSpec.ofChange strsetPartsSpec)

/-- ITS FALSE NEIGHBOUR: 'it returns false'. Refute it at one input. -/
def strsetPartsWrong : ChangeSpec := { name := "strsetParts", fn := fun _ => fun
  | [d1, d2, d3] => { results := [.lit (.bool false)], args := [d1, d2, d3] }
  | _ => none }
def StrsetPartsWrongFalsely : Prop := strsetPartsRow.holds Try.pinned (OpenSpec.ofChange strsetPartsWrong)

/-- 'cedillalaw07.StrsetPlaces': WHATEVER THE INPUT: true; the input reads as it did. -/
def strsetPlacesSpec : ChangeSpec := { name := "strsetPlaces", fn := fun _ => fun
  | [d1, d2, d3] => { results := [.lit (.bool true)], args := [d1, d2, d3] }
  | _ => none }
def strsetPlacesRow : OpenClaim := { program := "ytcabmibcgedhhaa", sum := "6560662a0345390e589b37c25eaaa169d676ee249d7ba6cb48048c26eaa6f5fc", func := "cedilla/cedillalaw07.StrsetPlaces", spec := "strsetPlaces", inPlace := ["internal/bytealg.abigen_runtime_cmpstring"], unfollowed := true, recurses := true, apart := false }
def StrsetPlacesSaid : Prop := strsetPlacesRow.holds Try.pinned (OpenSpec.ofChange strsetPlacesSpec)

/-- ITS FALSE NEIGHBOUR: 'it returns false'. Refute it at one input. -/
def strsetPlacesWrong : ChangeSpec := { name := "strsetPlaces", fn := fun _ => fun
  | [d1, d2, d3] => { results := [.lit (.bool false)], args := [d1, d2, d3] }
  | _ => none }
def StrsetPlacesWrongFalsely : Prop := strsetPlacesRow.holds Try.pinned (OpenSpec.ofChange strsetPlacesWrong)

/-- 'cedillalaw07.StrsetAlgebra': WHATEVER THE INPUT: true; the input reads as it did. -/
def strsetAlgebraSpec : ChangeSpec := { name := "strsetAlgebra", fn := fun _ => fun
  | [d1, d2] => { results := [.lit (.bool true)], args := [d1, d2] }
  | _ => none }
def strsetAlgebraRow : OpenClaim := { program := "ytcabmibcgedhhaa", sum := "6560662a0345390e589b37c25eaaa169d676ee249d7ba6cb48048c26eaa6f5fc", func := "cedilla/cedillalaw07.StrsetAlgebra", spec := "strsetAlgebra", inPlace := ["internal/bytealg.abigen_runtime_cmpstring"], unfollowed := true, recurses := true, apart := false }
def StrsetAlgebraSaid : Prop := strsetAlgebraRow.holds Try.pinned (OpenSpec.ofChange strsetAlgebraSpec)

/-- ITS FALSE NEIGHBOUR: 'it returns false'. Refute it at one input. -/
def strsetAlgebraWrong : ChangeSpec := { name := "strsetAlgebra", fn := fun _ => fun
  | [d1, d2] => { results := [.lit (.bool false)], args := [d1, d2] }
  | _ => none }
def StrsetAlgebraWrongFalsely : Prop := strsetAlgebraRow.holds Try.pinned (OpenSpec.ofChange strsetAlgebraWrong)

/- THE SECOND FORM. 'bulk': how many values and letters a reading holds, each counted each time it is reached (what is shared counts as often as it is met; a slice's spare places count too). A statement '..UptoSaid' is the law's where the arguments, and the package variables that the reading takes, are together of bulk at most 1048576: NARROWER than '..Said'. Prove '..Said' where nothing that the law and all that it calls make is longer than what came in: it says more and counts as full. Else prove '..UptoSaid'. A law counts once. -/
mutual
def uptoBulk {H : Type} : DataW H → Nat
  | .lit (.string bytes) => bytes.length + 1
  | .lit _ => 1
  | .nil => 1
  | .ptr d => uptoBulk d + 1
  | .slice elems spare => uptoBulkAll elems + uptoBulkAll spare + 1
  | .agg parts => uptoBulkAll parts + 1
  | .iface _ d => uptoBulk d + 1
  | .map entries => uptoBulkEntries entries + 1
  | .held _ => 1
def uptoBulkAll {H : Type} : List (DataW H) → Nat
  | [] => 0
  | d :: r => uptoBulk d + uptoBulkAll r
def uptoBulkEntries {H : Type} : List (Lit × DataW H) → Nat
  | [] => 0
  | x :: r => uptoBulkEntry x + uptoBulkEntries r
def uptoBulkEntry {H : Type} : Lit × DataW H → Nat
  | (.string bytes, d) => bytes.length + uptoBulk d + 1
  | (_, d) => uptoBulk d + 1
 end
def uptoSmall : (H : Type) → List (DataW H) → Bool := fun _ ds => decide (uptoBulkAll ds ≤ 1048576)
def OpenSpec.upto (s : _root_.Go.ChangeSpec) : _root_.Go.OpenSpec := { _root_.Go.OpenSpec.ofChange s with cond := some uptoSmall }

/-- 'cedillalaw23.RadixRefuses', WHERE WHAT IT READS IS OF BULK AT MOST 1048576: true; the input reads as it did. -/
def radixRefusesUptoRow : OpenClaim := { program := "ytcabmibcgedhhaa", sum := "6560662a0345390e589b37c25eaaa169d676ee249d7ba6cb48048c26eaa6f5fc", func := "cedilla/cedillalaw23.RadixRefuses", spec := "radixRefuses", unfollowed := true, recurses := true, apart := false, narrowed := true }
def RadixRefusesUptoSaid : Prop := radixRefusesUptoRow.holds Try.pinned (OpenSpec.upto radixRefusesSpec)

/-- 'cedillalaw23.RadixOrder', WHERE WHAT IT READS IS OF BULK AT MOST 1048576: true; the input reads as it did. -/
def radixOrderUptoRow : OpenClaim := { program := "ytcabmibcgedhhaa", sum := "6560662a0345390e589b37c25eaaa169d676ee249d7ba6cb48048c26eaa6f5fc", func := "cedilla/cedillalaw23.RadixOrder", spec := "radixOrder", unfollowed := true, recurses := true, apart := false, narrowed := true }
def RadixOrderUptoSaid : Prop := radixOrderUptoRow.holds Try.pinned (OpenSpec.upto radixOrderSpec)

/-- 'cedillalaw23.RadixNumbers', WHERE WHAT IT READS IS OF BULK AT MOST 1048576: true; the input reads as it did. -/
def radixNumbersUptoRow : OpenClaim := { program := "ytcabmibcgedhhaa", sum := "6560662a0345390e589b37c25eaaa169d676ee249d7ba6cb48048c26eaa6f5fc", func := "cedilla/cedillalaw23.RadixNumbers", spec := "radixNumbers", unfollowed := true, recurses := true, apart := false, narrowed := true }
def RadixNumbersUptoSaid : Prop := radixNumbersUptoRow.holds Try.pinned (OpenSpec.upto radixNumbersSpec)

/-- 'cedillalaw01.NatBits', WHERE WHAT IT READS IS OF BULK AT MOST 1048576: true; the input reads as it did. -/
def natBitsUptoRow : OpenClaim := { program := "ytcabmibcgedhhaa", sum := "6560662a0345390e589b37c25eaaa169d676ee249d7ba6cb48048c26eaa6f5fc", func := "cedilla/cedillalaw01.NatBits", spec := "natBits", apart := false, narrowed := true }
def NatBitsUptoSaid : Prop := natBitsUptoRow.holds Try.pinned (OpenSpec.upto natBitsSpec)

/-- 'cedillalaw23.RadixProducts', WHERE WHAT IT READS IS OF BULK AT MOST 1048576: true; the input reads as it did. -/
def radixProductsUptoRow : OpenClaim := { program := "ytcabmibcgedhhaa", sum := "6560662a0345390e589b37c25eaaa169d676ee249d7ba6cb48048c26eaa6f5fc", func := "cedilla/cedillalaw23.RadixProducts", spec := "radixProducts", unfollowed := true, recurses := true, apart := false, narrowed := true }
def RadixProductsUptoSaid : Prop := radixProductsUptoRow.holds Try.pinned (OpenSpec.upto radixProductsSpec)

/-- 'cedillalaw01.NatCompares', WHERE WHAT IT READS IS OF BULK AT MOST 1048576: true; the input reads as it did. -/
def natComparesUptoRow : OpenClaim := { program := "ytcabmibcgedhhaa", sum := "6560662a0345390e589b37c25eaaa169d676ee249d7ba6cb48048c26eaa6f5fc", func := "cedilla/cedillalaw01.NatCompares", spec := "natCompares", apart := false, narrowed := true }
def NatComparesUptoSaid : Prop := natComparesUptoRow.holds Try.pinned (OpenSpec.upto natComparesSpec)

/-- 'cedillalaw01.NatLimbs', WHERE WHAT IT READS IS OF BULK AT MOST 1048576: true; the input reads as it did. -/
def natLimbsUptoRow : OpenClaim := { program := "ytcabmibcgedhhaa", sum := "6560662a0345390e589b37c25eaaa169d676ee249d7ba6cb48048c26eaa6f5fc", func := "cedilla/cedillalaw01.NatLimbs", spec := "natLimbs", apart := false, narrowed := true }
def NatLimbsUptoSaid : Prop := natLimbsUptoRow.holds Try.pinned (OpenSpec.upto natLimbsSpec)

/-- 'cedillalaw01.NatAdds', WHERE WHAT IT READS IS OF BULK AT MOST 1048576: true; the input reads as it did. -/
def natAddsUptoRow : OpenClaim := { program := "ytcabmibcgedhhaa", sum := "6560662a0345390e589b37c25eaaa169d676ee249d7ba6cb48048c26eaa6f5fc", func := "cedilla/cedillalaw01.NatAdds", spec := "natAdds", apart := false, narrowed := true }
def NatAddsUptoSaid : Prop := natAddsUptoRow.holds Try.pinned (OpenSpec.upto natAddsSpec)

/-- 'cedillalaw01.NatSmall', WHERE WHAT IT READS IS OF BULK AT MOST 1048576: true; the input reads as it did. -/
def natSmallUptoRow : OpenClaim := { program := "ytcabmibcgedhhaa", sum := "6560662a0345390e589b37c25eaaa169d676ee249d7ba6cb48048c26eaa6f5fc", func := "cedilla/cedillalaw01.NatSmall", spec := "natSmall", apart := false, narrowed := true }
def NatSmallUptoSaid : Prop := natSmallUptoRow.holds Try.pinned (OpenSpec.upto natSmallSpec)

/-- 'cedillalaw02.ProdDivides', WHERE WHAT IT READS IS OF BULK AT MOST 1048576: true; the input reads as it did. -/
def prodDividesUptoRow : OpenClaim := { program := "ytcabmibcgedhhaa", sum := "6560662a0345390e589b37c25eaaa169d676ee249d7ba6cb48048c26eaa6f5fc", func := "cedilla/cedillalaw02.ProdDivides", spec := "prodDivides", apart := false, narrowed := true }
def ProdDividesUptoSaid : Prop := prodDividesUptoRow.holds Try.pinned (OpenSpec.upto prodDividesSpec)

/-- 'cedillalaw02.ProdPowers', WHERE WHAT IT READS IS OF BULK AT MOST 1048576: true; the input reads as it did. -/
def prodPowersUptoRow : OpenClaim := { program := "ytcabmibcgedhhaa", sum := "6560662a0345390e589b37c25eaaa169d676ee249d7ba6cb48048c26eaa6f5fc", func := "cedilla/cedillalaw02.ProdPowers", spec := "prodPowers", apart := false, narrowed := true }
def ProdPowersUptoSaid : Prop := prodPowersUptoRow.holds Try.pinned (OpenSpec.upto prodPowersSpec)

/-- 'cedillalaw02.ProdExact', WHERE WHAT IT READS IS OF BULK AT MOST 1048576: true; the input reads as it did. -/
def prodExactUptoRow : OpenClaim := { program := "ytcabmibcgedhhaa", sum := "6560662a0345390e589b37c25eaaa169d676ee249d7ba6cb48048c26eaa6f5fc", func := "cedilla/cedillalaw02.ProdExact", spec := "prodExact", apart := false, narrowed := true }
def ProdExactUptoSaid : Prop := prodExactUptoRow.holds Try.pinned (OpenSpec.upto prodExactSpec)

/-- 'cedillalaw02.ProdMuls', WHERE WHAT IT READS IS OF BULK AT MOST 1048576: true; the input reads as it did. -/
def prodMulsUptoRow : OpenClaim := { program := "ytcabmibcgedhhaa", sum := "6560662a0345390e589b37c25eaaa169d676ee249d7ba6cb48048c26eaa6f5fc", func := "cedilla/cedillalaw02.ProdMuls", spec := "prodMuls", apart := false, narrowed := true }
def ProdMulsUptoSaid : Prop := prodMulsUptoRow.holds Try.pinned (OpenSpec.upto prodMulsSpec)

/-- 'cedillalaw07.StrsetParts', WHERE WHAT IT READS IS OF BULK AT MOST 1048576: true; the input reads as it did. -/
def strsetPartsUptoRow : OpenClaim := { program := "ytcabmibcgedhhaa", sum := "6560662a0345390e589b37c25eaaa169d676ee249d7ba6cb48048c26eaa6f5fc", func := "cedilla/cedillalaw07.StrsetParts", spec := "strsetParts", inPlace := ["internal/bytealg.abigen_runtime_cmpstring"], unfollowed := true, recurses := true, apart := false, narrowed := true }
def StrsetPartsUptoSaid : Prop := strsetPartsUptoRow.holds Try.pinned (OpenSpec.upto strsetPartsSpec)

/-- 'cedillalaw07.StrsetPlaces', WHERE WHAT IT READS IS OF BULK AT MOST 1048576: true; the input reads as it did. -/
def strsetPlacesUptoRow : OpenClaim := { program := "ytcabmibcgedhhaa", sum := "6560662a0345390e589b37c25eaaa169d676ee249d7ba6cb48048c26eaa6f5fc", func := "cedilla/cedillalaw07.StrsetPlaces", spec := "strsetPlaces", inPlace := ["internal/bytealg.abigen_runtime_cmpstring"], unfollowed := true, recurses := true, apart := false, narrowed := true }
def StrsetPlacesUptoSaid : Prop := strsetPlacesUptoRow.holds Try.pinned (OpenSpec.upto strsetPlacesSpec)

/-- 'cedillalaw07.StrsetAlgebra', WHERE WHAT IT READS IS OF BULK AT MOST 1048576: true; the input reads as it did. -/
def strsetAlgebraUptoRow : OpenClaim := { program := "ytcabmibcgedhhaa", sum := "6560662a0345390e589b37c25eaaa169d676ee249d7ba6cb48048c26eaa6f5fc", func := "cedilla/cedillalaw07.StrsetAlgebra", spec := "strsetAlgebra", inPlace := ["internal/bytealg.abigen_runtime_cmpstring"], unfollowed := true, recurses := true, apart := false, narrowed := true }
def StrsetAlgebraUptoSaid : Prop := strsetAlgebraUptoRow.holds Try.pinned (OpenSpec.upto strsetAlgebraSpec)

end Rows
end Go.Proofs.Ytcabmibcgedhhaa
