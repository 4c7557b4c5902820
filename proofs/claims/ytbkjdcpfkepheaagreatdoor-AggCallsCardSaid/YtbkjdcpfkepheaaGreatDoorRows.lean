/-
  NARROWER THAN 'FOR EVERY INPUT', by the rows' own cells (each row's printed sentence says how): AggCalls: laid · AggParts: laid · AggFinds: laid · AggNumbers: laid · AggExamples: laid · AggOrder: laid · AggRanks: laid.
  DERIVED. THE GIVEN ROWS OF THIS SEAT. 7 by the template 'for every input the law returns true; each argument reads behind the call as it read before'; 0 by the template 'total and deterministic' (their statements: YtbkjdcpfkepheaaGreatDoorTotals.lean).
  GIVEN WITH THE SEED: the statements are not yours to turn. If you find one false, say at which input.
  Laid BY PROGRAM, IN A SANDBOX (cutbox-rows.mjs): the forced cells as the released guide's own fill.sh prints them over the translation ae180285c5beeda8… (all of the seat's roots in one cut). By AI agents, Wed Nov 11 2026. No macro, syntax, notation, axiom, sorry.
-/
import Derived.Test.YtbkjdcpfkepheaaGreatDoorChecked
import GoSem.PinnedTables
import GoSem.Claim
import GoSem.ClaimJoined
import GoSem.ClaimMapViews
import Derived.JoinedTies
import Derived.KernelRfl
namespace Go.Proofs.YtbkjdcpfkepheaaGreatDoor
/- THE CELL 'sum', in the pinned program and in every row, IS THE sha256 OF THE DUMP (.gsa) THAT YtbkjdcpfkepheaaGreatDoorProg.lean LOADS. Nothing in Lean hashes anything: it is a label: what it is worth is what the hold of that sum in a sandbox is worth. -/
noncomputable def Tryz.pinned : Pinned := { name := "ytbkjdcpfkepheaagreatdoor", sum := "ae180285c5beeda8004b5103678b4da1c94e9119858a55269cc29d762cf6e4fc", checked := Tryz.checked }
namespace Rows
def none {H : Type} : Left H := { results := [], args := [] }

/- WHAT THE LISTED PACKAGE-LEVEL VARIABLES READ AS WHEN THE CALL BEGINS. Each datum BY PROGRAM (the guide's laid-datum.mjs) off the statement by which the dump's own 'gosem.cut.vars' lays the variable. In a bare row this is a premise. The card (YtbkjdcpfkepheaaGreatDoorCards.lean) ties it to the program's text. -/
def laid_unicode_utf8_acceptRanges {H : Type} : DataW H := .agg [.agg [.lit (.int .u8 128), .lit (.int .u8 191)], .agg [.lit (.int .u8 160), .lit (.int .u8 191)], .agg [.lit (.int .u8 128), .lit (.int .u8 159)], .agg [.lit (.int .u8 144), .lit (.int .u8 191)], .agg [.lit (.int .u8 128), .lit (.int .u8 143)], .agg [.lit (.int .u8 0), .lit (.int .u8 0)], .agg [.lit (.int .u8 0), .lit (.int .u8 0)], .agg [.lit (.int .u8 0), .lit (.int .u8 0)], .agg [.lit (.int .u8 0), .lit (.int .u8 0)], .agg [.lit (.int .u8 0), .lit (.int .u8 0)], .agg [.lit (.int .u8 0), .lit (.int .u8 0)], .agg [.lit (.int .u8 0), .lit (.int .u8 0)], .agg [.lit (.int .u8 0), .lit (.int .u8 0)], .agg [.lit (.int .u8 0), .lit (.int .u8 0)], .agg [.lit (.int .u8 0), .lit (.int .u8 0)], .agg [.lit (.int .u8 0), .lit (.int .u8 0)]]
/-- One of Go's own tables, pinned by name: the form's constant. -/
def laid_unicode_utf8_first : DataW Unit := Go.Pinned.utf8First

/-- 'louvrelaw16.AggCalls': WHATEVER THE INPUT: true; the input reads as it did. -/
def aggCallsSpec : ChangeSpec := { name := "aggCalls", fn := fun _ => fun
  | [d1, d2] => { results := [.lit (.bool true)], args := [d1, d2] }
  | _ => none }
def aggCallsRow : OpenClaim := { program := "ytbkjdcpfkepheaagreatdoor", sum := "ae180285c5beeda8004b5103678b4da1c94e9119858a55269cc29d762cf6e4fc", func := "louvre/louvrelaw16.AggCalls", spec := "aggCalls", inPlace := ["math/bits.Add64", "math/bits.Sub64", "internal/bytealg.CountString", "internal/bytealg.IndexByteString", "internal/bytealg.IndexString", "internal/abi.NoEscape", "internal/bytealg.MakeNoZero", "internal/bytealg.abigen_runtime_cmpstring"], unfollowed := true, recurses := true, named := ["math/bits.divideError", "math/bits.overflowError", "unicode/utf8.first", "unicode/utf8.acceptRanges", "internal/bytealg.MaxLen"], apart := false, laid := [("unicode/utf8.acceptRanges", laid_unicode_utf8_acceptRanges), ("unicode/utf8.first", laid_unicode_utf8_first)] }
def AggCallsSaid : Prop := aggCallsRow.holds Tryz.pinned (OpenSpec.ofChange aggCallsSpec)

/-- ITS FALSE NEIGHBOUR: 'it returns false'. Refute it at one input. -/
def aggCallsWrong : ChangeSpec := { name := "aggCalls", fn := fun _ => fun
  | [d1, d2] => { results := [.lit (.bool false)], args := [d1, d2] }
  | _ => none }
def AggCallsWrongFalsely : Prop := aggCallsRow.holds Tryz.pinned (OpenSpec.ofChange aggCallsWrong)

/-- 'louvrelaw16.AggParts': WHATEVER THE INPUT: true; the input reads as it did. -/
def aggPartsSpec : ChangeSpec := { name := "aggParts", fn := fun _ => fun
  | [d1, d2] => { results := [.lit (.bool true)], args := [d1, d2] }
  | _ => none }
def aggPartsRow : OpenClaim := { program := "ytbkjdcpfkepheaagreatdoor", sum := "ae180285c5beeda8004b5103678b4da1c94e9119858a55269cc29d762cf6e4fc", func := "louvre/louvrelaw16.AggParts", spec := "aggParts", inPlace := ["math/bits.Add64", "math/bits.Sub64", "internal/bytealg.CountString", "internal/bytealg.IndexByteString", "internal/bytealg.IndexString", "internal/abi.NoEscape", "internal/bytealg.MakeNoZero", "internal/bytealg.abigen_runtime_cmpstring"], unfollowed := true, recurses := true, named := ["math/bits.divideError", "math/bits.overflowError", "unicode/utf8.first", "unicode/utf8.acceptRanges", "internal/bytealg.MaxLen"], apart := false, laid := [("unicode/utf8.acceptRanges", laid_unicode_utf8_acceptRanges), ("unicode/utf8.first", laid_unicode_utf8_first)] }
def AggPartsSaid : Prop := aggPartsRow.holds Tryz.pinned (OpenSpec.ofChange aggPartsSpec)

/-- ITS FALSE NEIGHBOUR: 'it returns false'. Refute it at one input. -/
def aggPartsWrong : ChangeSpec := { name := "aggParts", fn := fun _ => fun
  | [d1, d2] => { results := [.lit (.bool false)], args := [d1, d2] }
  | _ => none }
def AggPartsWrongFalsely : Prop := aggPartsRow.holds Tryz.pinned (OpenSpec.ofChange aggPartsWrong)

/-- 'louvrelaw16.AggFinds': WHATEVER THE INPUT: true; the input reads as it did. -/
def aggFindsSpec : ChangeSpec := { name := "aggFinds", fn := fun _ => fun
  | [d1, d2, d3] => { results := [.lit (.bool true)], args := [d1, d2, d3] }
  | _ => none }
def aggFindsRow : OpenClaim := { program := "ytbkjdcpfkepheaagreatdoor", sum := "ae180285c5beeda8004b5103678b4da1c94e9119858a55269cc29d762cf6e4fc", func := "louvre/louvrelaw16.AggFinds", spec := "aggFinds", inPlace := ["math/bits.Add64", "math/bits.Sub64", "internal/bytealg.CountString", "internal/bytealg.IndexByteString", "internal/bytealg.IndexString", "internal/abi.NoEscape", "internal/bytealg.MakeNoZero", "internal/bytealg.abigen_runtime_cmpstring"], unfollowed := true, recurses := true, named := ["math/bits.divideError", "math/bits.overflowError", "unicode/utf8.first", "unicode/utf8.acceptRanges", "internal/bytealg.MaxLen"], apart := false, laid := [("unicode/utf8.acceptRanges", laid_unicode_utf8_acceptRanges), ("unicode/utf8.first", laid_unicode_utf8_first)] }
def AggFindsSaid : Prop := aggFindsRow.holds Tryz.pinned (OpenSpec.ofChange aggFindsSpec)

/-- ITS FALSE NEIGHBOUR: 'it returns false'. Refute it at one input. -/
def aggFindsWrong : ChangeSpec := { name := "aggFinds", fn := fun _ => fun
  | [d1, d2, d3] => { results := [.lit (.bool false)], args := [d1, d2, d3] }
  | _ => none }
def AggFindsWrongFalsely : Prop := aggFindsRow.holds Tryz.pinned (OpenSpec.ofChange aggFindsWrong)

/-- 'louvrelaw16.AggNumbers': WHATEVER THE INPUT: true; the input reads as it did. -/
def aggNumbersSpec : ChangeSpec := { name := "aggNumbers", fn := fun _ => fun
  | [d] => { results := [.lit (.bool true)], args := [d] }
  | _ => none }
def aggNumbersRow : OpenClaim := { program := "ytbkjdcpfkepheaagreatdoor", sum := "ae180285c5beeda8004b5103678b4da1c94e9119858a55269cc29d762cf6e4fc", func := "louvre/louvrelaw16.AggNumbers", spec := "aggNumbers", inPlace := ["internal/bytealg.CountString", "internal/bytealg.IndexByteString", "internal/bytealg.IndexString", "internal/abi.NoEscape", "internal/bytealg.MakeNoZero", "math/bits.Add64", "math/bits.Sub64", "internal/bytealg.abigen_runtime_cmpstring"], unfollowed := true, recurses := true, named := ["unicode/utf8.first", "unicode/utf8.acceptRanges", "internal/bytealg.MaxLen", "math/bits.divideError", "math/bits.overflowError"], apart := false, laid := [("unicode/utf8.acceptRanges", laid_unicode_utf8_acceptRanges), ("unicode/utf8.first", laid_unicode_utf8_first)] }
def AggNumbersSaid : Prop := aggNumbersRow.holds Tryz.pinned (OpenSpec.ofChange aggNumbersSpec)

/-- ITS FALSE NEIGHBOUR: 'it returns false'. Refute it at one input. -/
def aggNumbersWrong : ChangeSpec := { name := "aggNumbers", fn := fun _ => fun
  | [d] => { results := [.lit (.bool false)], args := [d] }
  | _ => none }
def AggNumbersWrongFalsely : Prop := aggNumbersRow.holds Tryz.pinned (OpenSpec.ofChange aggNumbersWrong)

/-- 'louvrelaw16.AggExamples': WHATEVER THE INPUT: true; the input reads as it did. -/
def aggExamplesSpec : ChangeSpec := { name := "aggExamples", fn := fun _ => fun
  | [] => { results := [.lit (.bool true)], args := [] }
  | _ => none }
def aggExamplesRow : OpenClaim := { program := "ytbkjdcpfkepheaagreatdoor", sum := "ae180285c5beeda8004b5103678b4da1c94e9119858a55269cc29d762cf6e4fc", func := "louvre/louvrelaw16.AggExamples", spec := "aggExamples", inPlace := ["math/bits.Add64", "math/bits.Sub64", "internal/bytealg.CountString", "internal/bytealg.IndexByteString", "internal/bytealg.IndexString", "internal/abi.NoEscape", "internal/bytealg.MakeNoZero", "internal/bytealg.abigen_runtime_cmpstring"], unfollowed := true, recurses := true, named := ["math/bits.divideError", "math/bits.overflowError", "unicode/utf8.first", "unicode/utf8.acceptRanges", "internal/bytealg.MaxLen"], apart := false, laid := [("unicode/utf8.acceptRanges", laid_unicode_utf8_acceptRanges), ("unicode/utf8.first", laid_unicode_utf8_first)] }
def AggExamplesSaid : Prop := aggExamplesRow.holds Tryz.pinned (OpenSpec.ofChange aggExamplesSpec)

/-- ITS FALSE NEIGHBOUR: 'it returns false'. Refute it at one input. -/
def aggExamplesWrong : ChangeSpec := { name := "aggExamples", fn := fun _ => fun
  | [] => { results := [.lit (.bool false)], args := [] }
  | _ => none }
def AggExamplesWrongFalsely : Prop := aggExamplesRow.holds Tryz.pinned (OpenSpec.ofChange aggExamplesWrong)

/-- 'louvrelaw16.AggOrder': WHATEVER THE INPUT: true; the input reads as it did. -/
def aggOrderSpec : ChangeSpec := { name := "aggOrder", fn := fun _ => fun
  | [d1, d2] => { results := [.lit (.bool true)], args := [d1, d2] }
  | _ => none }
def aggOrderRow : OpenClaim := { program := "ytbkjdcpfkepheaagreatdoor", sum := "ae180285c5beeda8004b5103678b4da1c94e9119858a55269cc29d762cf6e4fc", func := "louvre/louvrelaw16.AggOrder", spec := "aggOrder", inPlace := ["math/bits.Add64", "math/bits.Sub64", "internal/bytealg.CountString", "internal/bytealg.IndexByteString", "internal/bytealg.IndexString", "internal/abi.NoEscape", "internal/bytealg.MakeNoZero", "internal/bytealg.abigen_runtime_cmpstring"], unfollowed := true, recurses := true, named := ["math/bits.divideError", "math/bits.overflowError", "unicode/utf8.first", "unicode/utf8.acceptRanges", "internal/bytealg.MaxLen"], apart := false, laid := [("unicode/utf8.acceptRanges", laid_unicode_utf8_acceptRanges), ("unicode/utf8.first", laid_unicode_utf8_first)] }
def AggOrderSaid : Prop := aggOrderRow.holds Tryz.pinned (OpenSpec.ofChange aggOrderSpec)

/-- ITS FALSE NEIGHBOUR: 'it returns false'. Refute it at one input. -/
def aggOrderWrong : ChangeSpec := { name := "aggOrder", fn := fun _ => fun
  | [d1, d2] => { results := [.lit (.bool false)], args := [d1, d2] }
  | _ => none }
def AggOrderWrongFalsely : Prop := aggOrderRow.holds Tryz.pinned (OpenSpec.ofChange aggOrderWrong)

/-- 'louvrelaw16.AggRanks': WHATEVER THE INPUT: true; the input reads as it did. -/
def aggRanksSpec : ChangeSpec := { name := "aggRanks", fn := fun _ => fun
  | [d] => { results := [.lit (.bool true)], args := [d] }
  | _ => none }
def aggRanksRow : OpenClaim := { program := "ytbkjdcpfkepheaagreatdoor", sum := "ae180285c5beeda8004b5103678b4da1c94e9119858a55269cc29d762cf6e4fc", func := "louvre/louvrelaw16.AggRanks", spec := "aggRanks", inPlace := ["math/bits.Add64", "math/bits.Sub64", "internal/bytealg.CountString", "internal/bytealg.IndexByteString", "internal/bytealg.IndexString", "internal/abi.NoEscape", "internal/bytealg.MakeNoZero", "internal/bytealg.abigen_runtime_cmpstring"], unfollowed := true, recurses := true, named := ["math/bits.divideError", "math/bits.overflowError", "unicode/utf8.first", "unicode/utf8.acceptRanges", "internal/bytealg.MaxLen"], apart := false, laid := [("unicode/utf8.acceptRanges", laid_unicode_utf8_acceptRanges), ("unicode/utf8.first", laid_unicode_utf8_first)] }
def AggRanksSaid : Prop := aggRanksRow.holds Tryz.pinned (OpenSpec.ofChange aggRanksSpec)

/-- ITS FALSE NEIGHBOUR: 'it returns false'. Refute it at one input. -/
def aggRanksWrong : ChangeSpec := { name := "aggRanks", fn := fun _ => fun
  | [d] => { results := [.lit (.bool false)], args := [d] }
  | _ => none }
def AggRanksWrongFalsely : Prop := aggRanksRow.holds Tryz.pinned (OpenSpec.ofChange aggRanksWrong)

/- THE SECOND FORM. 'bulk': how many values and letters a reading holds, each counted each time it is reached (what is shared counts as often as it is met; a slice's spare places count too). A statement '..UptoSaid' is the law's where the arguments, and the package variables that the reading takes, are together of bulk at most 1048576: NARROWER than '..Said'. Prove '..Said' where nothing that the law and all that it calls make is longer than what came in: it says more and counts as full. Else prove '..UptoSaid'. A law counts once. -/
mutual
def uptoBulk {H : Type} : DataW H → Nat
  | .lit (.string bytes) => bytes.length + 1
  | .lit _ => 1
  | .nil => 1
  | .ptr d => uptoBulk d + 1
  | .slice elems spare => uptoBulkAll elems + uptoBulkAll spare + 1
  | .agg parts => uptoBulkAll parts + 1
  | .iface _ d => uptoBulk d + 1
  | .map entries => uptoBulkEntries entries + 1
  | .held _ => 1
def uptoBulkAll {H : Type} : List (DataW H) → Nat
  | [] => 0
  | d :: r => uptoBulk d + uptoBulkAll r
def uptoBulkEntries {H : Type} : List (Lit × DataW H) → Nat
  | [] => 0
  | x :: r => uptoBulkEntry x + uptoBulkEntries r
def uptoBulkEntry {H : Type} : Lit × DataW H → Nat
  | (.string bytes, d) => bytes.length + uptoBulk d + 1
  | (_, d) => uptoBulk d + 1
 end
def uptoSmall : (H : Type) → List (DataW H) → Bool := fun _ ds => decide (uptoBulkAll ds ≤ 1048576)
def OpenSpec.upto (s : _root_.Go.ChangeSpec) : _root_.Go.OpenSpec := { _root_.Go.OpenSpec.ofChange s with cond := some uptoSmall }

/-- 'louvrelaw16.AggCalls', WHERE WHAT IT READS IS OF BULK AT MOST 1048576: true; the input reads as it did. -/
def aggCallsUptoRow : OpenClaim := { program := "ytbkjdcpfkepheaagreatdoor", sum := "ae180285c5beeda8004b5103678b4da1c94e9119858a55269cc29d762cf6e4fc", func := "louvre/louvrelaw16.AggCalls", spec := "aggCalls", inPlace := ["math/bits.Add64", "math/bits.Sub64", "internal/bytealg.CountString", "internal/bytealg.IndexByteString", "internal/bytealg.IndexString", "internal/abi.NoEscape", "internal/bytealg.MakeNoZero", "internal/bytealg.abigen_runtime_cmpstring"], unfollowed := true, recurses := true, named := ["math/bits.divideError", "math/bits.overflowError", "unicode/utf8.first", "unicode/utf8.acceptRanges", "internal/bytealg.MaxLen"], apart := false, laid := [("unicode/utf8.acceptRanges", laid_unicode_utf8_acceptRanges), ("unicode/utf8.first", laid_unicode_utf8_first)], narrowed := true }
def AggCallsUptoSaid : Prop := aggCallsUptoRow.holds Tryz.pinned (OpenSpec.upto aggCallsSpec)

/-- 'louvrelaw16.AggParts', WHERE WHAT IT READS IS OF BULK AT MOST 1048576: true; the input reads as it did. -/
def aggPartsUptoRow : OpenClaim := { program := "ytbkjdcpfkepheaagreatdoor", sum := "ae180285c5beeda8004b5103678b4da1c94e9119858a55269cc29d762cf6e4fc", func := "louvre/louvrelaw16.AggParts", spec := "aggParts", inPlace := ["math/bits.Add64", "math/bits.Sub64", "internal/bytealg.CountString", "internal/bytealg.IndexByteString", "internal/bytealg.IndexString", "internal/abi.NoEscape", "internal/bytealg.MakeNoZero", "internal/bytealg.abigen_runtime_cmpstring"], unfollowed := true, recurses := true, named := ["math/bits.divideError", "math/bits.overflowError", "unicode/utf8.first", "unicode/utf8.acceptRanges", "internal/bytealg.MaxLen"], apart := false, laid := [("unicode/utf8.acceptRanges", laid_unicode_utf8_acceptRanges), ("unicode/utf8.first", laid_unicode_utf8_first)], narrowed := true }
def AggPartsUptoSaid : Prop := aggPartsUptoRow.holds Tryz.pinned (OpenSpec.upto aggPartsSpec)

/-- 'louvrelaw16.AggFinds', WHERE WHAT IT READS IS OF BULK AT MOST 1048576: true; the input reads as it did. -/
def aggFindsUptoRow : OpenClaim := { program := "ytbkjdcpfkepheaagreatdoor", sum := "ae180285c5beeda8004b5103678b4da1c94e9119858a55269cc29d762cf6e4fc", func := "louvre/louvrelaw16.AggFinds", spec := "aggFinds", inPlace := ["math/bits.Add64", "math/bits.Sub64", "internal/bytealg.CountString", "internal/bytealg.IndexByteString", "internal/bytealg.IndexString", "internal/abi.NoEscape", "internal/bytealg.MakeNoZero", "internal/bytealg.abigen_runtime_cmpstring"], unfollowed := true, recurses := true, named := ["math/bits.divideError", "math/bits.overflowError", "unicode/utf8.first", "unicode/utf8.acceptRanges", "internal/bytealg.MaxLen"], apart := false, laid := [("unicode/utf8.acceptRanges", laid_unicode_utf8_acceptRanges), ("unicode/utf8.first", laid_unicode_utf8_first)], narrowed := true }
def AggFindsUptoSaid : Prop := aggFindsUptoRow.holds Tryz.pinned (OpenSpec.upto aggFindsSpec)

/-- 'louvrelaw16.AggNumbers', WHERE WHAT IT READS IS OF BULK AT MOST 1048576: true; the input reads as it did. -/
def aggNumbersUptoRow : OpenClaim := { program := "ytbkjdcpfkepheaagreatdoor", sum := "ae180285c5beeda8004b5103678b4da1c94e9119858a55269cc29d762cf6e4fc", func := "louvre/louvrelaw16.AggNumbers", spec := "aggNumbers", inPlace := ["internal/bytealg.CountString", "internal/bytealg.IndexByteString", "internal/bytealg.IndexString", "internal/abi.NoEscape", "internal/bytealg.MakeNoZero", "math/bits.Add64", "math/bits.Sub64", "internal/bytealg.abigen_runtime_cmpstring"], unfollowed := true, recurses := true, named := ["unicode/utf8.first", "unicode/utf8.acceptRanges", "internal/bytealg.MaxLen", "math/bits.divideError", "math/bits.overflowError"], apart := false, laid := [("unicode/utf8.acceptRanges", laid_unicode_utf8_acceptRanges), ("unicode/utf8.first", laid_unicode_utf8_first)], narrowed := true }
def AggNumbersUptoSaid : Prop := aggNumbersUptoRow.holds Tryz.pinned (OpenSpec.upto aggNumbersSpec)

/-- 'louvrelaw16.AggExamples', WHERE WHAT IT READS IS OF BULK AT MOST 1048576: true; the input reads as it did. -/
def aggExamplesUptoRow : OpenClaim := { program := "ytbkjdcpfkepheaagreatdoor", sum := "ae180285c5beeda8004b5103678b4da1c94e9119858a55269cc29d762cf6e4fc", func := "louvre/louvrelaw16.AggExamples", spec := "aggExamples", inPlace := ["math/bits.Add64", "math/bits.Sub64", "internal/bytealg.CountString", "internal/bytealg.IndexByteString", "internal/bytealg.IndexString", "internal/abi.NoEscape", "internal/bytealg.MakeNoZero", "internal/bytealg.abigen_runtime_cmpstring"], unfollowed := true, recurses := true, named := ["math/bits.divideError", "math/bits.overflowError", "unicode/utf8.first", "unicode/utf8.acceptRanges", "internal/bytealg.MaxLen"], apart := false, laid := [("unicode/utf8.acceptRanges", laid_unicode_utf8_acceptRanges), ("unicode/utf8.first", laid_unicode_utf8_first)], narrowed := true }
def AggExamplesUptoSaid : Prop := aggExamplesUptoRow.holds Tryz.pinned (OpenSpec.upto aggExamplesSpec)

/-- 'louvrelaw16.AggOrder', WHERE WHAT IT READS IS OF BULK AT MOST 1048576: true; the input reads as it did. -/
def aggOrderUptoRow : OpenClaim := { program := "ytbkjdcpfkepheaagreatdoor", sum := "ae180285c5beeda8004b5103678b4da1c94e9119858a55269cc29d762cf6e4fc", func := "louvre/louvrelaw16.AggOrder", spec := "aggOrder", inPlace := ["math/bits.Add64", "math/bits.Sub64", "internal/bytealg.CountString", "internal/bytealg.IndexByteString", "internal/bytealg.IndexString", "internal/abi.NoEscape", "internal/bytealg.MakeNoZero", "internal/bytealg.abigen_runtime_cmpstring"], unfollowed := true, recurses := true, named := ["math/bits.divideError", "math/bits.overflowError", "unicode/utf8.first", "unicode/utf8.acceptRanges", "internal/bytealg.MaxLen"], apart := false, laid := [("unicode/utf8.acceptRanges", laid_unicode_utf8_acceptRanges), ("unicode/utf8.first", laid_unicode_utf8_first)], narrowed := true }
def AggOrderUptoSaid : Prop := aggOrderUptoRow.holds Tryz.pinned (OpenSpec.upto aggOrderSpec)

/-- 'louvrelaw16.AggRanks', WHERE WHAT IT READS IS OF BULK AT MOST 1048576: true; the input reads as it did. -/
def aggRanksUptoRow : OpenClaim := { program := "ytbkjdcpfkepheaagreatdoor", sum := "ae180285c5beeda8004b5103678b4da1c94e9119858a55269cc29d762cf6e4fc", func := "louvre/louvrelaw16.AggRanks", spec := "aggRanks", inPlace := ["math/bits.Add64", "math/bits.Sub64", "internal/bytealg.CountString", "internal/bytealg.IndexByteString", "internal/bytealg.IndexString", "internal/abi.NoEscape", "internal/bytealg.MakeNoZero", "internal/bytealg.abigen_runtime_cmpstring"], unfollowed := true, recurses := true, named := ["math/bits.divideError", "math/bits.overflowError", "unicode/utf8.first", "unicode/utf8.acceptRanges", "internal/bytealg.MaxLen"], apart := false, laid := [("unicode/utf8.acceptRanges", laid_unicode_utf8_acceptRanges), ("unicode/utf8.first", laid_unicode_utf8_first)], narrowed := true }
def AggRanksUptoSaid : Prop := aggRanksUptoRow.holds Tryz.pinned (OpenSpec.upto aggRanksSpec)

end Rows
end Go.Proofs.YtbkjdcpfkepheaaGreatDoor
