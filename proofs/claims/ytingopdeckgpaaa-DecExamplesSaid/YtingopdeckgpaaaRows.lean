/-
  No cell of these rows narrows 'for every input' (looked for: loops, veiled, ifaces, maps, wideKeys, modest, calm, conditions, laid).
  DERIVED. THE GIVEN ROWS OF THIS SEAT. 12 by the template 'for every input the law returns true; each argument reads behind the call as it read before'; 0 by the template 'total and deterministic' (their statements: YtingopdeckgpaaaTotals.lean).
  GIVEN WITH THE SEED: the statements are not yours to turn. If you find one false, say at which input.
  Laid BY PROGRAM, IN A SANDBOX (cutbox-rows.mjs): the forced cells as the released guide's own fill.sh prints them over the translation 3c1971abedcffbc0… (all of the seat's roots in one cut). By AI agents, Wed Nov 11 2026. No macro, syntax, notation, axiom, sorry.
-/
import Derived.Test.YtingopdeckgpaaaChecked
import GoSem.Claim
import GoSem.ClaimJoined
import GoSem.ClaimMapViews
import Derived.JoinedTies
import Derived.KernelRfl
namespace Go.Proofs.Ytingopdeckgpaaa
/- THE CELL 'sum', in the pinned program and in every row, IS THE sha256 OF THE DUMP (.gsa) THAT YtingopdeckgpaaaProg.lean LOADS. Nothing in Lean hashes anything: it is a label: what it is worth is what the hold of that sum in a sandbox is worth. -/
noncomputable def Try.pinned : Pinned := { name := "ytingopdeckgpaaa", sum := "3c1971abedcffbc0dbd7943667a37934d9c55f231429166a2ceeb961da33ab21", checked := Try.checked }
namespace Rows
def none {H : Type} : Left H := { results := [], args := [] }

/-- 'louvrelaw01.DecSums': WHATEVER THE INPUT: true; the input reads as it did. -/
def decSumsSpec : ChangeSpec := { name := "decSums", fn := fun _ => fun
  | [d1, d2] => { results := [.lit (.bool true)], args := [d1, d2] }
  | _ => none }
def decSumsRow : OpenClaim := { program := "ytingopdeckgpaaa", sum := "3c1971abedcffbc0dbd7943667a37934d9c55f231429166a2ceeb961da33ab21", func := "louvre/louvrelaw01.DecSums", spec := "decSums", inPlace := ["math/bits.Add64", "math/bits.Sub64"], apart := false }
def DecSumsSaid : Prop := decSumsRow.holds Try.pinned (OpenSpec.ofChange decSumsSpec)

/-- ITS FALSE NEIGHBOUR: 'it returns false'. Refute it at one input. -/
def decSumsWrong : ChangeSpec := { name := "decSums", fn := fun _ => fun
  | [d1, d2] => { results := [.lit (.bool false)], args := [d1, d2] }
  | _ => none }
def DecSumsWrongFalsely : Prop := decSumsRow.holds Try.pinned (OpenSpec.ofChange decSumsWrong)

/-- 'louvrelaw01.DecProducts': WHATEVER THE INPUT: true; the input reads as it did. -/
def decProductsSpec : ChangeSpec := { name := "decProducts", fn := fun _ => fun
  | [d1, d2] => { results := [.lit (.bool true)], args := [d1, d2] }
  | _ => none }
def decProductsRow : OpenClaim := { program := "ytingopdeckgpaaa", sum := "3c1971abedcffbc0dbd7943667a37934d9c55f231429166a2ceeb961da33ab21", func := "louvre/louvrelaw01.DecProducts", spec := "decProducts", named := ["math/bits.divideError", "math/bits.overflowError"], apart := false }
def DecProductsSaid : Prop := decProductsRow.holds Try.pinned (OpenSpec.ofChange decProductsSpec)

/-- ITS FALSE NEIGHBOUR: 'it returns false'. Refute it at one input. -/
def decProductsWrong : ChangeSpec := { name := "decProducts", fn := fun _ => fun
  | [d1, d2] => { results := [.lit (.bool false)], args := [d1, d2] }
  | _ => none }
def DecProductsWrongFalsely : Prop := decProductsRow.holds Try.pinned (OpenSpec.ofChange decProductsWrong)

/-- 'louvrelaw01.DecMany': WHATEVER THE INPUT: true; the input reads as it did. -/
def decManySpec : ChangeSpec := { name := "decMany", fn := fun _ => fun
  | [d] => { results := [.lit (.bool true)], args := [d] }
  | _ => none }
def decManyRow : OpenClaim := { program := "ytingopdeckgpaaa", sum := "3c1971abedcffbc0dbd7943667a37934d9c55f231429166a2ceeb961da33ab21", func := "louvre/louvrelaw01.DecMany", spec := "decMany", inPlace := ["math/bits.Add64", "math/bits.Sub64"], named := ["math/bits.divideError", "math/bits.overflowError"], apart := false }
def DecManySaid : Prop := decManyRow.holds Try.pinned (OpenSpec.ofChange decManySpec)

/-- ITS FALSE NEIGHBOUR: 'it returns false'. Refute it at one input. -/
def decManyWrong : ChangeSpec := { name := "decMany", fn := fun _ => fun
  | [d] => { results := [.lit (.bool false)], args := [d] }
  | _ => none }
def DecManyWrongFalsely : Prop := decManyRow.holds Try.pinned (OpenSpec.ofChange decManyWrong)

/-- 'louvrelaw01.DecMeans': WHATEVER THE INPUT: true; the input reads as it did. -/
def decMeansSpec : ChangeSpec := { name := "decMeans", fn := fun _ => fun
  | [d1, d2, d3] => { results := [.lit (.bool true)], args := [d1, d2, d3] }
  | _ => none }
def decMeansRow : OpenClaim := { program := "ytingopdeckgpaaa", sum := "3c1971abedcffbc0dbd7943667a37934d9c55f231429166a2ceeb961da33ab21", func := "louvre/louvrelaw01.DecMeans", spec := "decMeans", inPlace := ["math/bits.Add64", "math/bits.Sub64"], named := ["math/bits.divideError", "math/bits.overflowError"], apart := false }
def DecMeansSaid : Prop := decMeansRow.holds Try.pinned (OpenSpec.ofChange decMeansSpec)

/-- ITS FALSE NEIGHBOUR: 'it returns false'. Refute it at one input. -/
def decMeansWrong : ChangeSpec := { name := "decMeans", fn := fun _ => fun
  | [d1, d2, d3] => { results := [.lit (.bool false)], args := [d1, d2, d3] }
  | _ => none }
def DecMeansWrongFalsely : Prop := decMeansRow.holds Try.pinned (OpenSpec.ofChange decMeansWrong)

/-- 'louvrelaw01.DecOrder': WHATEVER THE INPUT: true; the input reads as it did. -/
def decOrderSpec : ChangeSpec := { name := "decOrder", fn := fun _ => fun
  | [d1, d2] => { results := [.lit (.bool true)], args := [d1, d2] }
  | _ => none }
def decOrderRow : OpenClaim := { program := "ytingopdeckgpaaa", sum := "3c1971abedcffbc0dbd7943667a37934d9c55f231429166a2ceeb961da33ab21", func := "louvre/louvrelaw01.DecOrder", spec := "decOrder", inPlace := ["math/bits.Add64", "math/bits.Sub64"], named := ["math/bits.divideError", "math/bits.overflowError"], apart := false }
def DecOrderSaid : Prop := decOrderRow.holds Try.pinned (OpenSpec.ofChange decOrderSpec)

/-- ITS FALSE NEIGHBOUR: 'it returns false'. Refute it at one input. -/
def decOrderWrong : ChangeSpec := { name := "decOrder", fn := fun _ => fun
  | [d1, d2] => { results := [.lit (.bool false)], args := [d1, d2] }
  | _ => none }
def DecOrderWrongFalsely : Prop := decOrderRow.holds Try.pinned (OpenSpec.ofChange decOrderWrong)

/-- 'louvrelaw01.DecRoots': WHATEVER THE INPUT: true; the input reads as it did. -/
def decRootsSpec : ChangeSpec := { name := "decRoots", fn := fun _ => fun
  | [d] => { results := [.lit (.bool true)], args := [d] }
  | _ => none }
def decRootsRow : OpenClaim := { program := "ytingopdeckgpaaa", sum := "3c1971abedcffbc0dbd7943667a37934d9c55f231429166a2ceeb961da33ab21", func := "louvre/louvrelaw01.DecRoots", spec := "decRoots", inPlace := ["math/bits.Add64", "math/bits.Sub64"], named := ["math/bits.divideError", "math/bits.overflowError"], apart := false }
def DecRootsSaid : Prop := decRootsRow.holds Try.pinned (OpenSpec.ofChange decRootsSpec)

/-- ITS FALSE NEIGHBOUR: 'it returns false'. Refute it at one input. -/
def decRootsWrong : ChangeSpec := { name := "decRoots", fn := fun _ => fun
  | [d] => { results := [.lit (.bool false)], args := [d] }
  | _ => none }
def DecRootsWrongFalsely : Prop := decRootsRow.holds Try.pinned (OpenSpec.ofChange decRootsWrong)

/-- 'louvrelaw01.DecPowers': WHATEVER THE INPUT: true; the input reads as it did. -/
def decPowersSpec : ChangeSpec := { name := "decPowers", fn := fun _ => fun
  | [d1, d2] => { results := [.lit (.bool true)], args := [d1, d2] }
  | _ => none }
def decPowersRow : OpenClaim := { program := "ytingopdeckgpaaa", sum := "3c1971abedcffbc0dbd7943667a37934d9c55f231429166a2ceeb961da33ab21", func := "louvre/louvrelaw01.DecPowers", spec := "decPowers", inPlace := ["math/bits.Add64", "math/bits.Sub64"], recurses := true, named := ["math/bits.divideError", "math/bits.overflowError"], apart := false }
def DecPowersSaid : Prop := decPowersRow.holds Try.pinned (OpenSpec.ofChange decPowersSpec)

/-- ITS FALSE NEIGHBOUR: 'it returns false'. Refute it at one input. -/
def decPowersWrong : ChangeSpec := { name := "decPowers", fn := fun _ => fun
  | [d1, d2] => { results := [.lit (.bool false)], args := [d1, d2] }
  | _ => none }
def DecPowersWrongFalsely : Prop := decPowersRow.holds Try.pinned (OpenSpec.ofChange decPowersWrong)

/-- 'louvrelaw01.DecRounds': WHATEVER THE INPUT: true; the input reads as it did. -/
def decRoundsSpec : ChangeSpec := { name := "decRounds", fn := fun _ => fun
  | [d1, d2, d3] => { results := [.lit (.bool true)], args := [d1, d2, d3] }
  | _ => none }
def decRoundsRow : OpenClaim := { program := "ytingopdeckgpaaa", sum := "3c1971abedcffbc0dbd7943667a37934d9c55f231429166a2ceeb961da33ab21", func := "louvre/louvrelaw01.DecRounds", spec := "decRounds", inPlace := ["math/bits.Add64", "math/bits.Sub64"], recurses := true, named := ["math/bits.divideError", "math/bits.overflowError"], apart := false }
def DecRoundsSaid : Prop := decRoundsRow.holds Try.pinned (OpenSpec.ofChange decRoundsSpec)

/-- ITS FALSE NEIGHBOUR: 'it returns false'. Refute it at one input. -/
def decRoundsWrong : ChangeSpec := { name := "decRounds", fn := fun _ => fun
  | [d1, d2, d3] => { results := [.lit (.bool false)], args := [d1, d2, d3] }
  | _ => none }
def DecRoundsWrongFalsely : Prop := decRoundsRow.holds Try.pinned (OpenSpec.ofChange decRoundsWrong)

/-- 'louvrelaw01.DecPlaces': WHATEVER THE INPUT: true; the input reads as it did. -/
def decPlacesSpec : ChangeSpec := { name := "decPlaces", fn := fun _ => fun
  | [d1, d2] => { results := [.lit (.bool true)], args := [d1, d2] }
  | _ => none }
def decPlacesRow : OpenClaim := { program := "ytingopdeckgpaaa", sum := "3c1971abedcffbc0dbd7943667a37934d9c55f231429166a2ceeb961da33ab21", func := "louvre/louvrelaw01.DecPlaces", spec := "decPlaces", inPlace := ["math/bits.Add64", "math/bits.Sub64"], named := ["math/bits.divideError", "math/bits.overflowError"], apart := false }
def DecPlacesSaid : Prop := decPlacesRow.holds Try.pinned (OpenSpec.ofChange decPlacesSpec)

/-- ITS FALSE NEIGHBOUR: 'it returns false'. Refute it at one input. -/
def decPlacesWrong : ChangeSpec := { name := "decPlaces", fn := fun _ => fun
  | [d1, d2] => { results := [.lit (.bool false)], args := [d1, d2] }
  | _ => none }
def DecPlacesWrongFalsely : Prop := decPlacesRow.holds Try.pinned (OpenSpec.ofChange decPlacesWrong)

/-- 'louvrelaw01.DecTexts': WHATEVER THE INPUT: true; the input reads as it did. -/
def decTextsSpec : ChangeSpec := { name := "decTexts", fn := fun _ => fun
  | [d1, d2] => { results := [.lit (.bool true)], args := [d1, d2] }
  | _ => none }
def decTextsRow : OpenClaim := { program := "ytingopdeckgpaaa", sum := "3c1971abedcffbc0dbd7943667a37934d9c55f231429166a2ceeb961da33ab21", func := "louvre/louvrelaw01.DecTexts", spec := "decTexts", inPlace := ["math/bits.Add64", "math/bits.Sub64"], named := ["math/bits.divideError", "math/bits.overflowError"], apart := false }
def DecTextsSaid : Prop := decTextsRow.holds Try.pinned (OpenSpec.ofChange decTextsSpec)

/-- ITS FALSE NEIGHBOUR: 'it returns false'. Refute it at one input. -/
def decTextsWrong : ChangeSpec := { name := "decTexts", fn := fun _ => fun
  | [d1, d2] => { results := [.lit (.bool false)], args := [d1, d2] }
  | _ => none }
def DecTextsWrongFalsely : Prop := decTextsRow.holds Try.pinned (OpenSpec.ofChange decTextsWrong)

/-- 'louvrelaw01.DecBack': WHATEVER THE INPUT: true; the input reads as it did. -/
def decBackSpec : ChangeSpec := { name := "decBack", fn := fun _ => fun
  | [d1, d2] => { results := [.lit (.bool true)], args := [d1, d2] }
  | _ => none }
def decBackRow : OpenClaim := { program := "ytingopdeckgpaaa", sum := "3c1971abedcffbc0dbd7943667a37934d9c55f231429166a2ceeb961da33ab21", func := "louvre/louvrelaw01.DecBack", spec := "decBack", inPlace := ["math/bits.Add64", "math/bits.Sub64"], named := ["math/bits.divideError", "math/bits.overflowError"], apart := false }
def DecBackSaid : Prop := decBackRow.holds Try.pinned (OpenSpec.ofChange decBackSpec)

/-- ITS FALSE NEIGHBOUR: 'it returns false'. Refute it at one input. -/
def decBackWrong : ChangeSpec := { name := "decBack", fn := fun _ => fun
  | [d1, d2] => { results := [.lit (.bool false)], args := [d1, d2] }
  | _ => none }
def DecBackWrongFalsely : Prop := decBackRow.holds Try.pinned (OpenSpec.ofChange decBackWrong)

/-- 'louvrelaw01.DecExamples': WHATEVER THE INPUT: true; the input reads as it did. -/
def decExamplesSpec : ChangeSpec := { name := "decExamples", fn := fun _ => fun
  | [] => { results := [.lit (.bool true)], args := [] }
  | _ => none }
def decExamplesRow : OpenClaim := { program := "ytingopdeckgpaaa", sum := "3c1971abedcffbc0dbd7943667a37934d9c55f231429166a2ceeb961da33ab21", func := "louvre/louvrelaw01.DecExamples", spec := "decExamples", inPlace := ["math/bits.Add64", "math/bits.Sub64"], recurses := true, named := ["math/bits.divideError", "math/bits.overflowError"], apart := false }
def DecExamplesSaid : Prop := decExamplesRow.holds Try.pinned (OpenSpec.ofChange decExamplesSpec)

/-- ITS FALSE NEIGHBOUR: 'it returns false'. Refute it at one input. -/
def decExamplesWrong : ChangeSpec := { name := "decExamples", fn := fun _ => fun
  | [] => { results := [.lit (.bool false)], args := [] }
  | _ => none }
def DecExamplesWrongFalsely : Prop := decExamplesRow.holds Try.pinned (OpenSpec.ofChange decExamplesWrong)

/- THE SECOND FORM. 'bulk': how many values and letters a reading holds, each counted each time it is reached (what is shared counts as often as it is met; a slice's spare places count too). A statement '..UptoSaid' is the law's where the arguments, and the package variables that the reading takes, are together of bulk at most 1048576: NARROWER than '..Said'. Prove '..Said' where nothing that the law and all that it calls make is longer than what came in: it says more and counts as full. Else prove '..UptoSaid'. A law counts once. -/
mutual
def uptoBulk {H : Type} : DataW H → Nat
  | .lit (.string bytes) => bytes.length + 1
  | .lit _ => 1
  | .nil => 1
  | .ptr d => uptoBulk d + 1
  | .slice elems spare => uptoBulkAll elems + uptoBulkAll spare + 1
  | .agg parts => uptoBulkAll parts + 1
  | .iface _ d => uptoBulk d + 1
  | .map entries => uptoBulkEntries entries + 1
  | .held _ => 1
def uptoBulkAll {H : Type} : List (DataW H) → Nat
  | [] => 0
  | d :: r => uptoBulk d + uptoBulkAll r
def uptoBulkEntries {H : Type} : List (Lit × DataW H) → Nat
  | [] => 0
  | x :: r => uptoBulkEntry x + uptoBulkEntries r
def uptoBulkEntry {H : Type} : Lit × DataW H → Nat
  | (.string bytes, d) => bytes.length + uptoBulk d + 1
  | (_, d) => uptoBulk d + 1
 end
def uptoSmall : (H : Type) → List (DataW H) → Bool := fun _ ds => decide (uptoBulkAll ds ≤ 1048576)
def OpenSpec.upto (s : _root_.Go.ChangeSpec) : _root_.Go.OpenSpec := { _root_.Go.OpenSpec.ofChange s with cond := some uptoSmall }

/-- 'louvrelaw01.DecSums', WHERE WHAT IT READS IS OF BULK AT MOST 1048576: true; the input reads as it did. -/
def decSumsUptoRow : OpenClaim := { program := "ytingopdeckgpaaa", sum := "3c1971abedcffbc0dbd7943667a37934d9c55f231429166a2ceeb961da33ab21", func := "louvre/louvrelaw01.DecSums", spec := "decSums", inPlace := ["math/bits.Add64", "math/bits.Sub64"], apart := false, narrowed := true }
def DecSumsUptoSaid : Prop := decSumsUptoRow.holds Try.pinned (OpenSpec.upto decSumsSpec)

/-- 'louvrelaw01.DecProducts', WHERE WHAT IT READS IS OF BULK AT MOST 1048576: true; the input reads as it did. -/
def decProductsUptoRow : OpenClaim := { program := "ytingopdeckgpaaa", sum := "3c1971abedcffbc0dbd7943667a37934d9c55f231429166a2ceeb961da33ab21", func := "louvre/louvrelaw01.DecProducts", spec := "decProducts", named := ["math/bits.divideError", "math/bits.overflowError"], apart := false, narrowed := true }
def DecProductsUptoSaid : Prop := decProductsUptoRow.holds Try.pinned (OpenSpec.upto decProductsSpec)

/-- 'louvrelaw01.DecMany', WHERE WHAT IT READS IS OF BULK AT MOST 1048576: true; the input reads as it did. -/
def decManyUptoRow : OpenClaim := { program := "ytingopdeckgpaaa", sum := "3c1971abedcffbc0dbd7943667a37934d9c55f231429166a2ceeb961da33ab21", func := "louvre/louvrelaw01.DecMany", spec := "decMany", inPlace := ["math/bits.Add64", "math/bits.Sub64"], named := ["math/bits.divideError", "math/bits.overflowError"], apart := false, narrowed := true }
def DecManyUptoSaid : Prop := decManyUptoRow.holds Try.pinned (OpenSpec.upto decManySpec)

/-- 'louvrelaw01.DecMeans', WHERE WHAT IT READS IS OF BULK AT MOST 1048576: true; the input reads as it did. -/
def decMeansUptoRow : OpenClaim := { program := "ytingopdeckgpaaa", sum := "3c1971abedcffbc0dbd7943667a37934d9c55f231429166a2ceeb961da33ab21", func := "louvre/louvrelaw01.DecMeans", spec := "decMeans", inPlace := ["math/bits.Add64", "math/bits.Sub64"], named := ["math/bits.divideError", "math/bits.overflowError"], apart := false, narrowed := true }
def DecMeansUptoSaid : Prop := decMeansUptoRow.holds Try.pinned (OpenSpec.upto decMeansSpec)

/-- 'louvrelaw01.DecOrder', WHERE WHAT IT READS IS OF BULK AT MOST 1048576: true; the input reads as it did. -/
def decOrderUptoRow : OpenClaim := { program := "ytingopdeckgpaaa", sum := "3c1971abedcffbc0dbd7943667a37934d9c55f231429166a2ceeb961da33ab21", func := "louvre/louvrelaw01.DecOrder", spec := "decOrder", inPlace := ["math/bits.Add64", "math/bits.Sub64"], named := ["math/bits.divideError", "math/bits.overflowError"], apart := false, narrowed := true }
def DecOrderUptoSaid : Prop := decOrderUptoRow.holds Try.pinned (OpenSpec.upto decOrderSpec)

/-- 'louvrelaw01.DecRoots', WHERE WHAT IT READS IS OF BULK AT MOST 1048576: true; the input reads as it did. -/
def decRootsUptoRow : OpenClaim := { program := "ytingopdeckgpaaa", sum := "3c1971abedcffbc0dbd7943667a37934d9c55f231429166a2ceeb961da33ab21", func := "louvre/louvrelaw01.DecRoots", spec := "decRoots", inPlace := ["math/bits.Add64", "math/bits.Sub64"], named := ["math/bits.divideError", "math/bits.overflowError"], apart := false, narrowed := true }
def DecRootsUptoSaid : Prop := decRootsUptoRow.holds Try.pinned (OpenSpec.upto decRootsSpec)

/-- 'louvrelaw01.DecPowers', WHERE WHAT IT READS IS OF BULK AT MOST 1048576: true; the input reads as it did. -/
def decPowersUptoRow : OpenClaim := { program := "ytingopdeckgpaaa", sum := "3c1971abedcffbc0dbd7943667a37934d9c55f231429166a2ceeb961da33ab21", func := "louvre/louvrelaw01.DecPowers", spec := "decPowers", inPlace := ["math/bits.Add64", "math/bits.Sub64"], recurses := true, named := ["math/bits.divideError", "math/bits.overflowError"], apart := false, narrowed := true }
def DecPowersUptoSaid : Prop := decPowersUptoRow.holds Try.pinned (OpenSpec.upto decPowersSpec)

/-- 'louvrelaw01.DecRounds', WHERE WHAT IT READS IS OF BULK AT MOST 1048576: true; the input reads as it did. -/
def decRoundsUptoRow : OpenClaim := { program := "ytingopdeckgpaaa", sum := "3c1971abedcffbc0dbd7943667a37934d9c55f231429166a2ceeb961da33ab21", func := "louvre/louvrelaw01.DecRounds", spec := "decRounds", inPlace := ["math/bits.Add64", "math/bits.Sub64"], recurses := true, named := ["math/bits.divideError", "math/bits.overflowError"], apart := false, narrowed := true }
def DecRoundsUptoSaid : Prop := decRoundsUptoRow.holds Try.pinned (OpenSpec.upto decRoundsSpec)

/-- 'louvrelaw01.DecPlaces', WHERE WHAT IT READS IS OF BULK AT MOST 1048576: true; the input reads as it did. -/
def decPlacesUptoRow : OpenClaim := { program := "ytingopdeckgpaaa", sum := "3c1971abedcffbc0dbd7943667a37934d9c55f231429166a2ceeb961da33ab21", func := "louvre/louvrelaw01.DecPlaces", spec := "decPlaces", inPlace := ["math/bits.Add64", "math/bits.Sub64"], named := ["math/bits.divideError", "math/bits.overflowError"], apart := false, narrowed := true }
def DecPlacesUptoSaid : Prop := decPlacesUptoRow.holds Try.pinned (OpenSpec.upto decPlacesSpec)

/-- 'louvrelaw01.DecTexts', WHERE WHAT IT READS IS OF BULK AT MOST 1048576: true; the input reads as it did. -/
def decTextsUptoRow : OpenClaim := { program := "ytingopdeckgpaaa", sum := "3c1971abedcffbc0dbd7943667a37934d9c55f231429166a2ceeb961da33ab21", func := "louvre/louvrelaw01.DecTexts", spec := "decTexts", inPlace := ["math/bits.Add64", "math/bits.Sub64"], named := ["math/bits.divideError", "math/bits.overflowError"], apart := false, narrowed := true }
def DecTextsUptoSaid : Prop := decTextsUptoRow.holds Try.pinned (OpenSpec.upto decTextsSpec)

/-- 'louvrelaw01.DecBack', WHERE WHAT IT READS IS OF BULK AT MOST 1048576: true; the input reads as it did. -/
def decBackUptoRow : OpenClaim := { program := "ytingopdeckgpaaa", sum := "3c1971abedcffbc0dbd7943667a37934d9c55f231429166a2ceeb961da33ab21", func := "louvre/louvrelaw01.DecBack", spec := "decBack", inPlace := ["math/bits.Add64", "math/bits.Sub64"], named := ["math/bits.divideError", "math/bits.overflowError"], apart := false, narrowed := true }
def DecBackUptoSaid : Prop := decBackUptoRow.holds Try.pinned (OpenSpec.upto decBackSpec)

/-- 'louvrelaw01.DecExamples', WHERE WHAT IT READS IS OF BULK AT MOST 1048576: true; the input reads as it did. -/
def decExamplesUptoRow : OpenClaim := { program := "ytingopdeckgpaaa", sum := "3c1971abedcffbc0dbd7943667a37934d9c55f231429166a2ceeb961da33ab21", func := "louvre/louvrelaw01.DecExamples", spec := "decExamples", inPlace := ["math/bits.Add64", "math/bits.Sub64"], recurses := true, named := ["math/bits.divideError", "math/bits.overflowError"], apart := false, narrowed := true }
def DecExamplesUptoSaid : Prop := decExamplesUptoRow.holds Try.pinned (OpenSpec.upto decExamplesSpec)

end Rows
end Go.Proofs.Ytingopdeckgpaaa
