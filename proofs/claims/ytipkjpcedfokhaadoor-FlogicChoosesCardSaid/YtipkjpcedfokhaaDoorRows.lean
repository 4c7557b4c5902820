/-
  NARROWER THAN 'FOR EVERY INPUT', by the rows' own cells (each row's printed sentence says how): GlyphCompares: laid · GlyphTrims: laid · GlyphCapitals: laid · GlyphOrder: laid · GlyphBack: laid · GlyphTexts: laid · GlyphExamples: laid · ValCompares: laid · ValOrder: laid · FlogicCalls: laid · FlogicExamples: laid · FlogicChooses: laid · FlogicFolds: laid · FlogicErrors: laid · ValMakes: laid · ValConverts: laid · ValKinds: laid · ValExamples: laid · ValBack: laid.
  DERIVED. THE GIVEN ROWS OF THIS SEAT. 19 by the template 'for every input the law returns true; each argument reads behind the call as it read before'; 0 by the template 'total and deterministic' (their statements: YtipkjpcedfokhaaDoorTotals.lean).
  GIVEN WITH THE SEED: the statements are not yours to turn. If you find one false, say at which input.
  Laid BY PROGRAM, IN A SANDBOX (cutbox-rows.mjs): the forced cells as the released guide's own fill.sh prints them over the translation 063c5e8c7a31869f… (all of the seat's roots in one cut). By AI agents, Wed Nov 11 2026. No macro, syntax, notation, axiom, sorry.
-/
import Derived.Test.YtipkjpcedfokhaaDoorChecked
import GoSem.PinnedTables
import GoSem.Claim
import GoSem.ClaimJoined
import GoSem.ClaimMapViews
import Derived.JoinedTies
import Derived.KernelRfl
namespace Go.Proofs.YtipkjpcedfokhaaDoor
/- THE CELL 'sum', in the pinned program and in every row, IS THE sha256 OF THE DUMP (.gsa) THAT YtipkjpcedfokhaaDoorProg.lean LOADS. Nothing in Lean hashes anything: it is a label: what it is worth is what the hold of that sum in a sandbox is worth. -/
noncomputable def Tryd.pinned : Pinned := { name := "ytipkjpcedfokhaadoor", sum := "063c5e8c7a31869f2e0ea29cd1e276e9a8f86516d72ee49bb5671d741806bdac", checked := Tryd.checked }
namespace Rows
def none {H : Type} : Left H := { results := [], args := [] }

/- WHAT THE LISTED PACKAGE-LEVEL VARIABLES READ AS WHEN THE CALL BEGINS. Each datum BY PROGRAM (the guide's laid-datum.mjs) off the statement by which the dump's own 'gosem.cut.vars' lays the variable. In a bare row this is a premise. The card (YtipkjpcedfokhaaDoorCards.lean) ties it to the program's text. -/
def laid_unicode_utf8_acceptRanges {H : Type} : DataW H := .agg [.agg [.lit (.int .u8 128), .lit (.int .u8 191)], .agg [.lit (.int .u8 160), .lit (.int .u8 191)], .agg [.lit (.int .u8 128), .lit (.int .u8 159)], .agg [.lit (.int .u8 144), .lit (.int .u8 191)], .agg [.lit (.int .u8 128), .lit (.int .u8 143)], .agg [.lit (.int .u8 0), .lit (.int .u8 0)], .agg [.lit (.int .u8 0), .lit (.int .u8 0)], .agg [.lit (.int .u8 0), .lit (.int .u8 0)], .agg [.lit (.int .u8 0), .lit (.int .u8 0)], .agg [.lit (.int .u8 0), .lit (.int .u8 0)], .agg [.lit (.int .u8 0), .lit (.int .u8 0)], .agg [.lit (.int .u8 0), .lit (.int .u8 0)], .agg [.lit (.int .u8 0), .lit (.int .u8 0)], .agg [.lit (.int .u8 0), .lit (.int .u8 0)], .agg [.lit (.int .u8 0), .lit (.int .u8 0)], .agg [.lit (.int .u8 0), .lit (.int .u8 0)]]
/-- One of Go's own tables, pinned by name: the form's constant. -/
def laid_unicode_utf8_first : DataW Unit := Go.Pinned.utf8First
def laid_louvre_val_words {H : Type} : DataW H := .agg [.lit (.string []), .lit (.string [35, 68, 73, 86, 47, 48, 33]), .lit (.string [35, 86, 65, 76, 85, 69, 33]), .lit (.string [35, 78, 85, 77, 33]), .lit (.string [35, 78, 47, 65]), .lit (.string [35, 82, 69, 70, 33]), .lit (.string [35, 67, 89, 67, 76, 69, 33]), .lit (.string [35, 68, 69, 78, 73, 69, 68])]

/-- 'louvrelaw04.GlyphCompares': WHATEVER THE INPUT: true; the input reads as it did. -/
def glyphComparesSpec : ChangeSpec := { name := "glyphCompares", fn := fun _ => fun
  | [d1, d2] => { results := [.lit (.bool true)], args := [d1, d2] }
  | _ => none }
def glyphComparesRow : OpenClaim := { program := "ytipkjpcedfokhaadoor", sum := "063c5e8c7a31869f2e0ea29cd1e276e9a8f86516d72ee49bb5671d741806bdac", func := "louvre/louvrelaw04.GlyphCompares", spec := "glyphCompares", inPlace := ["internal/bytealg.CountString", "internal/bytealg.IndexByteString", "internal/bytealg.IndexString", "internal/abi.NoEscape", "internal/bytealg.MakeNoZero", "internal/bytealg.abigen_runtime_cmpstring"], unfollowed := true, recurses := true, named := ["internal/bytealg.MaxLen", "unicode/utf8.first", "unicode/utf8.acceptRanges"], apart := false, laid := [("unicode/utf8.acceptRanges", laid_unicode_utf8_acceptRanges), ("unicode/utf8.first", laid_unicode_utf8_first)] }
def GlyphComparesSaid : Prop := glyphComparesRow.holds Tryd.pinned (OpenSpec.ofChange glyphComparesSpec)

/-- ITS FALSE NEIGHBOUR: 'it returns false'. Refute it at one input. -/
def glyphComparesWrong : ChangeSpec := { name := "glyphCompares", fn := fun _ => fun
  | [d1, d2] => { results := [.lit (.bool false)], args := [d1, d2] }
  | _ => none }
def GlyphComparesWrongFalsely : Prop := glyphComparesRow.holds Tryd.pinned (OpenSpec.ofChange glyphComparesWrong)

/-- 'louvrelaw04.GlyphTrims': WHATEVER THE INPUT: true; the input reads as it did. -/
def glyphTrimsSpec : ChangeSpec := { name := "glyphTrims", fn := fun _ => fun
  | [d] => { results := [.lit (.bool true)], args := [d] }
  | _ => none }
def glyphTrimsRow : OpenClaim := { program := "ytipkjpcedfokhaadoor", sum := "063c5e8c7a31869f2e0ea29cd1e276e9a8f86516d72ee49bb5671d741806bdac", func := "louvre/louvrelaw04.GlyphTrims", spec := "glyphTrims", inPlace := ["internal/bytealg.CountString", "internal/bytealg.IndexByteString", "internal/bytealg.IndexString", "internal/abi.NoEscape", "internal/bytealg.MakeNoZero", "internal/bytealg.abigen_runtime_cmpstring"], unfollowed := true, recurses := true, named := ["internal/bytealg.MaxLen", "unicode/utf8.first", "unicode/utf8.acceptRanges"], apart := false, laid := [("unicode/utf8.acceptRanges", laid_unicode_utf8_acceptRanges), ("unicode/utf8.first", laid_unicode_utf8_first)] }
def GlyphTrimsSaid : Prop := glyphTrimsRow.holds Tryd.pinned (OpenSpec.ofChange glyphTrimsSpec)

/-- ITS FALSE NEIGHBOUR: 'it returns false'. Refute it at one input. -/
def glyphTrimsWrong : ChangeSpec := { name := "glyphTrims", fn := fun _ => fun
  | [d] => { results := [.lit (.bool false)], args := [d] }
  | _ => none }
def GlyphTrimsWrongFalsely : Prop := glyphTrimsRow.holds Tryd.pinned (OpenSpec.ofChange glyphTrimsWrong)

/-- 'louvrelaw04.GlyphCapitals': WHATEVER THE INPUT: true; the input reads as it did. -/
def glyphCapitalsSpec : ChangeSpec := { name := "glyphCapitals", fn := fun _ => fun
  | [d] => { results := [.lit (.bool true)], args := [d] }
  | _ => none }
def glyphCapitalsRow : OpenClaim := { program := "ytipkjpcedfokhaadoor", sum := "063c5e8c7a31869f2e0ea29cd1e276e9a8f86516d72ee49bb5671d741806bdac", func := "louvre/louvrelaw04.GlyphCapitals", spec := "glyphCapitals", inPlace := ["internal/bytealg.CountString", "internal/bytealg.IndexByteString", "internal/bytealg.IndexString", "internal/abi.NoEscape", "internal/bytealg.MakeNoZero", "internal/bytealg.abigen_runtime_cmpstring"], unfollowed := true, recurses := true, named := ["internal/bytealg.MaxLen", "unicode/utf8.first", "unicode/utf8.acceptRanges"], apart := false, laid := [("unicode/utf8.acceptRanges", laid_unicode_utf8_acceptRanges), ("unicode/utf8.first", laid_unicode_utf8_first)] }
def GlyphCapitalsSaid : Prop := glyphCapitalsRow.holds Tryd.pinned (OpenSpec.ofChange glyphCapitalsSpec)

/-- ITS FALSE NEIGHBOUR: 'it returns false'. Refute it at one input. -/
def glyphCapitalsWrong : ChangeSpec := { name := "glyphCapitals", fn := fun _ => fun
  | [d] => { results := [.lit (.bool false)], args := [d] }
  | _ => none }
def GlyphCapitalsWrongFalsely : Prop := glyphCapitalsRow.holds Tryd.pinned (OpenSpec.ofChange glyphCapitalsWrong)

/-- 'louvrelaw04.GlyphOrder': WHATEVER THE INPUT: true; the input reads as it did. -/
def glyphOrderSpec : ChangeSpec := { name := "glyphOrder", fn := fun _ => fun
  | [d1, d2, d3] => { results := [.lit (.bool true)], args := [d1, d2, d3] }
  | _ => none }
def glyphOrderRow : OpenClaim := { program := "ytipkjpcedfokhaadoor", sum := "063c5e8c7a31869f2e0ea29cd1e276e9a8f86516d72ee49bb5671d741806bdac", func := "louvre/louvrelaw04.GlyphOrder", spec := "glyphOrder", inPlace := ["internal/bytealg.CountString", "internal/bytealg.IndexByteString", "internal/bytealg.IndexString", "internal/abi.NoEscape", "internal/bytealg.MakeNoZero", "internal/bytealg.abigen_runtime_cmpstring"], unfollowed := true, recurses := true, named := ["internal/bytealg.MaxLen", "unicode/utf8.first", "unicode/utf8.acceptRanges"], apart := false, laid := [("unicode/utf8.acceptRanges", laid_unicode_utf8_acceptRanges), ("unicode/utf8.first", laid_unicode_utf8_first)] }
def GlyphOrderSaid : Prop := glyphOrderRow.holds Tryd.pinned (OpenSpec.ofChange glyphOrderSpec)

/-- ITS FALSE NEIGHBOUR: 'it returns false'. Refute it at one input. -/
def glyphOrderWrong : ChangeSpec := { name := "glyphOrder", fn := fun _ => fun
  | [d1, d2, d3] => { results := [.lit (.bool false)], args := [d1, d2, d3] }
  | _ => none }
def GlyphOrderWrongFalsely : Prop := glyphOrderRow.holds Tryd.pinned (OpenSpec.ofChange glyphOrderWrong)

/-- 'louvrelaw04.GlyphBack': WHATEVER THE INPUT: true; the input reads as it did. -/
def glyphBackSpec : ChangeSpec := { name := "glyphBack", fn := fun _ => fun
  | [d1, d2] => { results := [.lit (.bool true)], args := [d1, d2] }
  | _ => none }
def glyphBackRow : OpenClaim := { program := "ytipkjpcedfokhaadoor", sum := "063c5e8c7a31869f2e0ea29cd1e276e9a8f86516d72ee49bb5671d741806bdac", func := "louvre/louvrelaw04.GlyphBack", spec := "glyphBack", inPlace := ["internal/bytealg.CountString", "internal/bytealg.IndexByteString", "internal/bytealg.IndexString", "internal/abi.NoEscape", "internal/bytealg.MakeNoZero", "internal/bytealg.abigen_runtime_cmpstring"], unfollowed := true, recurses := true, named := ["internal/bytealg.MaxLen", "unicode/utf8.first", "unicode/utf8.acceptRanges"], apart := false, laid := [("unicode/utf8.acceptRanges", laid_unicode_utf8_acceptRanges), ("unicode/utf8.first", laid_unicode_utf8_first)] }
def GlyphBackSaid : Prop := glyphBackRow.holds Tryd.pinned (OpenSpec.ofChange glyphBackSpec)

/-- ITS FALSE NEIGHBOUR: 'it returns false'. Refute it at one input. -/
def glyphBackWrong : ChangeSpec := { name := "glyphBack", fn := fun _ => fun
  | [d1, d2] => { results := [.lit (.bool false)], args := [d1, d2] }
  | _ => none }
def GlyphBackWrongFalsely : Prop := glyphBackRow.holds Tryd.pinned (OpenSpec.ofChange glyphBackWrong)

/-- 'louvrelaw04.GlyphTexts': WHATEVER THE INPUT: true; the input reads as it did. -/
def glyphTextsSpec : ChangeSpec := { name := "glyphTexts", fn := fun _ => fun
  | [d] => { results := [.lit (.bool true)], args := [d] }
  | _ => none }
def glyphTextsRow : OpenClaim := { program := "ytipkjpcedfokhaadoor", sum := "063c5e8c7a31869f2e0ea29cd1e276e9a8f86516d72ee49bb5671d741806bdac", func := "louvre/louvrelaw04.GlyphTexts", spec := "glyphTexts", inPlace := ["internal/bytealg.CountString", "internal/bytealg.IndexByteString", "internal/bytealg.IndexString", "internal/abi.NoEscape", "internal/bytealg.MakeNoZero", "internal/bytealg.abigen_runtime_cmpstring"], unfollowed := true, recurses := true, named := ["internal/bytealg.MaxLen", "unicode/utf8.first", "unicode/utf8.acceptRanges"], apart := false, laid := [("unicode/utf8.acceptRanges", laid_unicode_utf8_acceptRanges), ("unicode/utf8.first", laid_unicode_utf8_first)] }
def GlyphTextsSaid : Prop := glyphTextsRow.holds Tryd.pinned (OpenSpec.ofChange glyphTextsSpec)

/-- ITS FALSE NEIGHBOUR: 'it returns false'. Refute it at one input. -/
def glyphTextsWrong : ChangeSpec := { name := "glyphTexts", fn := fun _ => fun
  | [d] => { results := [.lit (.bool false)], args := [d] }
  | _ => none }
def GlyphTextsWrongFalsely : Prop := glyphTextsRow.holds Tryd.pinned (OpenSpec.ofChange glyphTextsWrong)

/-- 'louvrelaw04.GlyphExamples': WHATEVER THE INPUT: true; the input reads as it did. -/
def glyphExamplesSpec : ChangeSpec := { name := "glyphExamples", fn := fun _ => fun
  | [] => { results := [.lit (.bool true)], args := [] }
  | _ => none }
def glyphExamplesRow : OpenClaim := { program := "ytipkjpcedfokhaadoor", sum := "063c5e8c7a31869f2e0ea29cd1e276e9a8f86516d72ee49bb5671d741806bdac", func := "louvre/louvrelaw04.GlyphExamples", spec := "glyphExamples", inPlace := ["internal/bytealg.abigen_runtime_cmpstring", "internal/bytealg.CountString", "internal/bytealg.IndexByteString", "internal/bytealg.IndexString", "internal/abi.NoEscape", "internal/bytealg.MakeNoZero"], unfollowed := true, recurses := true, named := ["unicode/utf8.first", "unicode/utf8.acceptRanges", "internal/bytealg.MaxLen"], apart := false, laid := [("unicode/utf8.acceptRanges", laid_unicode_utf8_acceptRanges), ("unicode/utf8.first", laid_unicode_utf8_first)] }
def GlyphExamplesSaid : Prop := glyphExamplesRow.holds Tryd.pinned (OpenSpec.ofChange glyphExamplesSpec)

/-- ITS FALSE NEIGHBOUR: 'it returns false'. Refute it at one input. -/
def glyphExamplesWrong : ChangeSpec := { name := "glyphExamples", fn := fun _ => fun
  | [] => { results := [.lit (.bool false)], args := [] }
  | _ => none }
def GlyphExamplesWrongFalsely : Prop := glyphExamplesRow.holds Tryd.pinned (OpenSpec.ofChange glyphExamplesWrong)

/-- 'louvrelaw05.ValCompares': WHATEVER THE INPUT: true; the input reads as it did. -/
def valComparesSpec : ChangeSpec := { name := "valCompares", fn := fun _ => fun
  | [d1, d2] => { results := [.lit (.bool true)], args := [d1, d2] }
  | _ => none }
def valComparesRow : OpenClaim := { program := "ytipkjpcedfokhaadoor", sum := "063c5e8c7a31869f2e0ea29cd1e276e9a8f86516d72ee49bb5671d741806bdac", func := "louvre/louvrelaw05.ValCompares", spec := "valCompares", inPlace := ["internal/bytealg.abigen_runtime_cmpstring", "internal/bytealg.CountString", "internal/bytealg.IndexByteString", "internal/bytealg.IndexString", "internal/abi.NoEscape", "internal/bytealg.MakeNoZero"], unfollowed := true, recurses := true, named := ["unicode/utf8.first", "unicode/utf8.acceptRanges", "internal/bytealg.MaxLen", "louvre/val.words"], apart := false, laid := [("unicode/utf8.acceptRanges", laid_unicode_utf8_acceptRanges), ("louvre/val.words", laid_louvre_val_words), ("unicode/utf8.first", laid_unicode_utf8_first)] }
def ValComparesSaid : Prop := valComparesRow.holds Tryd.pinned (OpenSpec.ofChange valComparesSpec)

/-- ITS FALSE NEIGHBOUR: 'it returns false'. Refute it at one input. -/
def valComparesWrong : ChangeSpec := { name := "valCompares", fn := fun _ => fun
  | [d1, d2] => { results := [.lit (.bool false)], args := [d1, d2] }
  | _ => none }
def ValComparesWrongFalsely : Prop := valComparesRow.holds Tryd.pinned (OpenSpec.ofChange valComparesWrong)

/-- 'louvrelaw05.ValOrder': WHATEVER THE INPUT: true; the input reads as it did. -/
def valOrderSpec : ChangeSpec := { name := "valOrder", fn := fun _ => fun
  | [d1, d2, d3] => { results := [.lit (.bool true)], args := [d1, d2, d3] }
  | _ => none }
def valOrderRow : OpenClaim := { program := "ytipkjpcedfokhaadoor", sum := "063c5e8c7a31869f2e0ea29cd1e276e9a8f86516d72ee49bb5671d741806bdac", func := "louvre/louvrelaw05.ValOrder", spec := "valOrder", inPlace := ["internal/bytealg.abigen_runtime_cmpstring", "internal/bytealg.CountString", "internal/bytealg.IndexByteString", "internal/bytealg.IndexString", "internal/abi.NoEscape", "internal/bytealg.MakeNoZero"], unfollowed := true, recurses := true, named := ["unicode/utf8.first", "unicode/utf8.acceptRanges", "internal/bytealg.MaxLen", "louvre/val.words"], apart := false, laid := [("unicode/utf8.acceptRanges", laid_unicode_utf8_acceptRanges), ("louvre/val.words", laid_louvre_val_words), ("unicode/utf8.first", laid_unicode_utf8_first)] }
def ValOrderSaid : Prop := valOrderRow.holds Tryd.pinned (OpenSpec.ofChange valOrderSpec)

/-- ITS FALSE NEIGHBOUR: 'it returns false'. Refute it at one input. -/
def valOrderWrong : ChangeSpec := { name := "valOrder", fn := fun _ => fun
  | [d1, d2, d3] => { results := [.lit (.bool false)], args := [d1, d2, d3] }
  | _ => none }
def ValOrderWrongFalsely : Prop := valOrderRow.holds Tryd.pinned (OpenSpec.ofChange valOrderWrong)

/-- 'louvrelaw15.FlogicCalls': WHATEVER THE INPUT: true; the input reads as it did. -/
def flogicCallsSpec : ChangeSpec := { name := "flogicCalls", fn := fun _ => fun
  | [d1, d2] => { results := [.lit (.bool true)], args := [d1, d2] }
  | _ => none }
def flogicCallsRow : OpenClaim := { program := "ytipkjpcedfokhaadoor", sum := "063c5e8c7a31869f2e0ea29cd1e276e9a8f86516d72ee49bb5671d741806bdac", func := "louvre/louvrelaw15.FlogicCalls", spec := "flogicCalls", inPlace := ["internal/bytealg.CountString", "internal/bytealg.IndexByteString", "internal/bytealg.IndexString", "internal/abi.NoEscape", "internal/bytealg.MakeNoZero"], unfollowed := true, recurses := true, named := ["unicode/utf8.first", "unicode/utf8.acceptRanges", "internal/bytealg.MaxLen"], apart := false, laid := [("unicode/utf8.acceptRanges", laid_unicode_utf8_acceptRanges), ("unicode/utf8.first", laid_unicode_utf8_first)] }
def FlogicCallsSaid : Prop := flogicCallsRow.holds Tryd.pinned (OpenSpec.ofChange flogicCallsSpec)

/-- ITS FALSE NEIGHBOUR: 'it returns false'. Refute it at one input. -/
def flogicCallsWrong : ChangeSpec := { name := "flogicCalls", fn := fun _ => fun
  | [d1, d2] => { results := [.lit (.bool false)], args := [d1, d2] }
  | _ => none }
def FlogicCallsWrongFalsely : Prop := flogicCallsRow.holds Tryd.pinned (OpenSpec.ofChange flogicCallsWrong)

/-- 'louvrelaw15.FlogicExamples': WHATEVER THE INPUT: true; the input reads as it did. -/
def flogicExamplesSpec : ChangeSpec := { name := "flogicExamples", fn := fun _ => fun
  | [] => { results := [.lit (.bool true)], args := [] }
  | _ => none }
def flogicExamplesRow : OpenClaim := { program := "ytipkjpcedfokhaadoor", sum := "063c5e8c7a31869f2e0ea29cd1e276e9a8f86516d72ee49bb5671d741806bdac", func := "louvre/louvrelaw15.FlogicExamples", spec := "flogicExamples", inPlace := ["internal/bytealg.CountString", "internal/bytealg.IndexByteString", "internal/bytealg.IndexString", "internal/abi.NoEscape", "internal/bytealg.MakeNoZero"], unfollowed := true, recurses := true, named := ["unicode/utf8.first", "unicode/utf8.acceptRanges", "internal/bytealg.MaxLen"], apart := false, laid := [("unicode/utf8.acceptRanges", laid_unicode_utf8_acceptRanges), ("unicode/utf8.first", laid_unicode_utf8_first)] }
def FlogicExamplesSaid : Prop := flogicExamplesRow.holds Tryd.pinned (OpenSpec.ofChange flogicExamplesSpec)

/-- ITS FALSE NEIGHBOUR: 'it returns false'. Refute it at one input. -/
def flogicExamplesWrong : ChangeSpec := { name := "flogicExamples", fn := fun _ => fun
  | [] => { results := [.lit (.bool false)], args := [] }
  | _ => none }
def FlogicExamplesWrongFalsely : Prop := flogicExamplesRow.holds Tryd.pinned (OpenSpec.ofChange flogicExamplesWrong)

/-- 'louvrelaw15.FlogicChooses': WHATEVER THE INPUT: true; the input reads as it did. -/
def flogicChoosesSpec : ChangeSpec := { name := "flogicChooses", fn := fun _ => fun
  | [d] => { results := [.lit (.bool true)], args := [d] }
  | _ => none }
def flogicChoosesRow : OpenClaim := { program := "ytipkjpcedfokhaadoor", sum := "063c5e8c7a31869f2e0ea29cd1e276e9a8f86516d72ee49bb5671d741806bdac", func := "louvre/louvrelaw15.FlogicChooses", spec := "flogicChooses", inPlace := ["internal/bytealg.CountString", "internal/bytealg.IndexByteString", "internal/bytealg.IndexString", "internal/abi.NoEscape", "internal/bytealg.MakeNoZero"], unfollowed := true, recurses := true, named := ["unicode/utf8.first", "unicode/utf8.acceptRanges", "internal/bytealg.MaxLen"], apart := false, laid := [("unicode/utf8.acceptRanges", laid_unicode_utf8_acceptRanges), ("unicode/utf8.first", laid_unicode_utf8_first)] }
def FlogicChoosesSaid : Prop := flogicChoosesRow.holds Tryd.pinned (OpenSpec.ofChange flogicChoosesSpec)

/-- ITS FALSE NEIGHBOUR: 'it returns false'. Refute it at one input. -/
def flogicChoosesWrong : ChangeSpec := { name := "flogicChooses", fn := fun _ => fun
  | [d] => { results := [.lit (.bool false)], args := [d] }
  | _ => none }
def FlogicChoosesWrongFalsely : Prop := flogicChoosesRow.holds Tryd.pinned (OpenSpec.ofChange flogicChoosesWrong)

/-- 'louvrelaw15.FlogicFolds': WHATEVER THE INPUT: true; the input reads as it did. -/
def flogicFoldsSpec : ChangeSpec := { name := "flogicFolds", fn := fun _ => fun
  | [d1, d2] => { results := [.lit (.bool true)], args := [d1, d2] }
  | _ => none }
def flogicFoldsRow : OpenClaim := { program := "ytipkjpcedfokhaadoor", sum := "063c5e8c7a31869f2e0ea29cd1e276e9a8f86516d72ee49bb5671d741806bdac", func := "louvre/louvrelaw15.FlogicFolds", spec := "flogicFolds", inPlace := ["internal/bytealg.CountString", "internal/bytealg.IndexByteString", "internal/bytealg.IndexString", "internal/abi.NoEscape", "internal/bytealg.MakeNoZero"], unfollowed := true, recurses := true, named := ["unicode/utf8.first", "unicode/utf8.acceptRanges", "internal/bytealg.MaxLen"], apart := false, laid := [("unicode/utf8.acceptRanges", laid_unicode_utf8_acceptRanges), ("unicode/utf8.first", laid_unicode_utf8_first)] }
def FlogicFoldsSaid : Prop := flogicFoldsRow.holds Tryd.pinned (OpenSpec.ofChange flogicFoldsSpec)

/-- ITS FALSE NEIGHBOUR: 'it returns false'. Refute it at one input. -/
def flogicFoldsWrong : ChangeSpec := { name := "flogicFolds", fn := fun _ => fun
  | [d1, d2] => { results := [.lit (.bool false)], args := [d1, d2] }
  | _ => none }
def FlogicFoldsWrongFalsely : Prop := flogicFoldsRow.holds Tryd.pinned (OpenSpec.ofChange flogicFoldsWrong)

/-- 'louvrelaw15.FlogicErrors': WHATEVER THE INPUT: true; the input reads as it did. -/
def flogicErrorsSpec : ChangeSpec := { name := "flogicErrors", fn := fun _ => fun
  | [d] => { results := [.lit (.bool true)], args := [d] }
  | _ => none }
def flogicErrorsRow : OpenClaim := { program := "ytipkjpcedfokhaadoor", sum := "063c5e8c7a31869f2e0ea29cd1e276e9a8f86516d72ee49bb5671d741806bdac", func := "louvre/louvrelaw15.FlogicErrors", spec := "flogicErrors", inPlace := ["internal/bytealg.CountString", "internal/bytealg.IndexByteString", "internal/bytealg.IndexString", "internal/abi.NoEscape", "internal/bytealg.MakeNoZero"], unfollowed := true, recurses := true, named := ["unicode/utf8.first", "unicode/utf8.acceptRanges", "internal/bytealg.MaxLen"], apart := false, laid := [("unicode/utf8.acceptRanges", laid_unicode_utf8_acceptRanges), ("unicode/utf8.first", laid_unicode_utf8_first)] }
def FlogicErrorsSaid : Prop := flogicErrorsRow.holds Tryd.pinned (OpenSpec.ofChange flogicErrorsSpec)

/-- ITS FALSE NEIGHBOUR: 'it returns false'. Refute it at one input. -/
def flogicErrorsWrong : ChangeSpec := { name := "flogicErrors", fn := fun _ => fun
  | [d] => { results := [.lit (.bool false)], args := [d] }
  | _ => none }
def FlogicErrorsWrongFalsely : Prop := flogicErrorsRow.holds Tryd.pinned (OpenSpec.ofChange flogicErrorsWrong)

/-- 'louvrelaw05.ValMakes': WHATEVER THE INPUT: true; the input reads as it did. -/
def valMakesSpec : ChangeSpec := { name := "valMakes", fn := fun _ => fun
  | [d1, d2, d3] => { results := [.lit (.bool true)], args := [d1, d2, d3] }
  | _ => none }
def valMakesRow : OpenClaim := { program := "ytipkjpcedfokhaadoor", sum := "063c5e8c7a31869f2e0ea29cd1e276e9a8f86516d72ee49bb5671d741806bdac", func := "louvre/louvrelaw05.ValMakes", spec := "valMakes", inPlace := ["internal/bytealg.abigen_runtime_cmpstring", "internal/bytealg.CountString", "internal/bytealg.IndexByteString", "internal/bytealg.IndexString", "internal/abi.NoEscape", "internal/bytealg.MakeNoZero"], unfollowed := true, recurses := true, named := ["unicode/utf8.first", "unicode/utf8.acceptRanges", "internal/bytealg.MaxLen", "louvre/val.words"], apart := false, laid := [("unicode/utf8.acceptRanges", laid_unicode_utf8_acceptRanges), ("louvre/val.words", laid_louvre_val_words), ("unicode/utf8.first", laid_unicode_utf8_first)] }
def ValMakesSaid : Prop := valMakesRow.holds Tryd.pinned (OpenSpec.ofChange valMakesSpec)

/-- ITS FALSE NEIGHBOUR: 'it returns false'. Refute it at one input. -/
def valMakesWrong : ChangeSpec := { name := "valMakes", fn := fun _ => fun
  | [d1, d2, d3] => { results := [.lit (.bool false)], args := [d1, d2, d3] }
  | _ => none }
def ValMakesWrongFalsely : Prop := valMakesRow.holds Tryd.pinned (OpenSpec.ofChange valMakesWrong)

/-- 'louvrelaw05.ValConverts': WHATEVER THE INPUT: true; the input reads as it did. -/
def valConvertsSpec : ChangeSpec := { name := "valConverts", fn := fun _ => fun
  | [d] => { results := [.lit (.bool true)], args := [d] }
  | _ => none }
def valConvertsRow : OpenClaim := { program := "ytipkjpcedfokhaadoor", sum := "063c5e8c7a31869f2e0ea29cd1e276e9a8f86516d72ee49bb5671d741806bdac", func := "louvre/louvrelaw05.ValConverts", spec := "valConverts", inPlace := ["internal/bytealg.abigen_runtime_cmpstring", "internal/bytealg.CountString", "internal/bytealg.IndexByteString", "internal/bytealg.IndexString", "internal/abi.NoEscape", "internal/bytealg.MakeNoZero"], unfollowed := true, recurses := true, named := ["unicode/utf8.first", "unicode/utf8.acceptRanges", "internal/bytealg.MaxLen", "louvre/val.words"], apart := false, laid := [("unicode/utf8.acceptRanges", laid_unicode_utf8_acceptRanges), ("louvre/val.words", laid_louvre_val_words), ("unicode/utf8.first", laid_unicode_utf8_first)] }
def ValConvertsSaid : Prop := valConvertsRow.holds Tryd.pinned (OpenSpec.ofChange valConvertsSpec)

/-- ITS FALSE NEIGHBOUR: 'it returns false'. Refute it at one input. -/
def valConvertsWrong : ChangeSpec := { name := "valConverts", fn := fun _ => fun
  | [d] => { results := [.lit (.bool false)], args := [d] }
  | _ => none }
def ValConvertsWrongFalsely : Prop := valConvertsRow.holds Tryd.pinned (OpenSpec.ofChange valConvertsWrong)

/-- 'louvrelaw05.ValKinds': WHATEVER THE INPUT: true; the input reads as it did. -/
def valKindsSpec : ChangeSpec := { name := "valKinds", fn := fun _ => fun
  | [d] => { results := [.lit (.bool true)], args := [d] }
  | _ => none }
def valKindsRow : OpenClaim := { program := "ytipkjpcedfokhaadoor", sum := "063c5e8c7a31869f2e0ea29cd1e276e9a8f86516d72ee49bb5671d741806bdac", func := "louvre/louvrelaw05.ValKinds", spec := "valKinds", inPlace := ["internal/bytealg.abigen_runtime_cmpstring", "internal/bytealg.CountString", "internal/bytealg.IndexByteString", "internal/bytealg.IndexString", "internal/abi.NoEscape", "internal/bytealg.MakeNoZero"], unfollowed := true, recurses := true, named := ["unicode/utf8.first", "unicode/utf8.acceptRanges", "internal/bytealg.MaxLen", "louvre/val.words"], apart := false, laid := [("unicode/utf8.acceptRanges", laid_unicode_utf8_acceptRanges), ("louvre/val.words", laid_louvre_val_words), ("unicode/utf8.first", laid_unicode_utf8_first)] }
def ValKindsSaid : Prop := valKindsRow.holds Tryd.pinned (OpenSpec.ofChange valKindsSpec)

/-- ITS FALSE NEIGHBOUR: 'it returns false'. Refute it at one input. -/
def valKindsWrong : ChangeSpec := { name := "valKinds", fn := fun _ => fun
  | [d] => { results := [.lit (.bool false)], args := [d] }
  | _ => none }
def ValKindsWrongFalsely : Prop := valKindsRow.holds Tryd.pinned (OpenSpec.ofChange valKindsWrong)

/-- 'louvrelaw05.ValExamples': WHATEVER THE INPUT: true; the input reads as it did. -/
def valExamplesSpec : ChangeSpec := { name := "valExamples", fn := fun _ => fun
  | [] => { results := [.lit (.bool true)], args := [] }
  | _ => none }
def valExamplesRow : OpenClaim := { program := "ytipkjpcedfokhaadoor", sum := "063c5e8c7a31869f2e0ea29cd1e276e9a8f86516d72ee49bb5671d741806bdac", func := "louvre/louvrelaw05.ValExamples", spec := "valExamples", inPlace := ["internal/bytealg.abigen_runtime_cmpstring", "internal/bytealg.CountString", "internal/bytealg.IndexByteString", "internal/bytealg.IndexString", "internal/abi.NoEscape", "internal/bytealg.MakeNoZero"], unfollowed := true, recurses := true, named := ["unicode/utf8.first", "unicode/utf8.acceptRanges", "internal/bytealg.MaxLen", "louvre/val.words"], apart := false, laid := [("unicode/utf8.acceptRanges", laid_unicode_utf8_acceptRanges), ("louvre/val.words", laid_louvre_val_words), ("unicode/utf8.first", laid_unicode_utf8_first)] }
def ValExamplesSaid : Prop := valExamplesRow.holds Tryd.pinned (OpenSpec.ofChange valExamplesSpec)

/-- ITS FALSE NEIGHBOUR: 'it returns false'. Refute it at one input. -/
def valExamplesWrong : ChangeSpec := { name := "valExamples", fn := fun _ => fun
  | [] => { results := [.lit (.bool false)], args := [] }
  | _ => none }
def ValExamplesWrongFalsely : Prop := valExamplesRow.holds Tryd.pinned (OpenSpec.ofChange valExamplesWrong)

/-- 'louvrelaw05.ValBack': WHATEVER THE INPUT: true; the input reads as it did. -/
def valBackSpec : ChangeSpec := { name := "valBack", fn := fun _ => fun
  | [d1, d2, d3] => { results := [.lit (.bool true)], args := [d1, d2, d3] }
  | _ => none }
def valBackRow : OpenClaim := { program := "ytipkjpcedfokhaadoor", sum := "063c5e8c7a31869f2e0ea29cd1e276e9a8f86516d72ee49bb5671d741806bdac", func := "louvre/louvrelaw05.ValBack", spec := "valBack", inPlace := ["internal/bytealg.abigen_runtime_cmpstring", "internal/bytealg.CountString", "internal/bytealg.IndexByteString", "internal/bytealg.IndexString", "internal/abi.NoEscape", "internal/bytealg.MakeNoZero"], unfollowed := true, recurses := true, named := ["unicode/utf8.first", "unicode/utf8.acceptRanges", "internal/bytealg.MaxLen", "louvre/val.words"], apart := false, laid := [("unicode/utf8.acceptRanges", laid_unicode_utf8_acceptRanges), ("louvre/val.words", laid_louvre_val_words), ("unicode/utf8.first", laid_unicode_utf8_first)] }
def ValBackSaid : Prop := valBackRow.holds Tryd.pinned (OpenSpec.ofChange valBackSpec)

/-- ITS FALSE NEIGHBOUR: 'it returns false'. Refute it at one input. -/
def valBackWrong : ChangeSpec := { name := "valBack", fn := fun _ => fun
  | [d1, d2, d3] => { results := [.lit (.bool false)], args := [d1, d2, d3] }
  | _ => none }
def ValBackWrongFalsely : Prop := valBackRow.holds Tryd.pinned (OpenSpec.ofChange valBackWrong)

/- THE SECOND FORM. 'bulk': how many values and letters a reading holds, each counted each time it is reached (what is shared counts as often as it is met; a slice's spare places count too). A statement '..UptoSaid' is the law's where the arguments, and the package variables that the reading takes, are together of bulk at most 1048576: NARROWER than '..Said'. Prove '..Said' where nothing that the law and all that it calls make is longer than what came in: it says more and counts as full. Else prove '..UptoSaid'. A law counts once. -/
mutual
def uptoBulk {H : Type} : DataW H → Nat
  | .lit (.string bytes) => bytes.length + 1
  | .lit _ => 1
  | .nil => 1
  | .ptr d => uptoBulk d + 1
  | .slice elems spare => uptoBulkAll elems + uptoBulkAll spare + 1
  | .agg parts => uptoBulkAll parts + 1
  | .iface _ d => uptoBulk d + 1
  | .map entries => uptoBulkEntries entries + 1
  | .held _ => 1
def uptoBulkAll {H : Type} : List (DataW H) → Nat
  | [] => 0
  | d :: r => uptoBulk d + uptoBulkAll r
def uptoBulkEntries {H : Type} : List (Lit × DataW H) → Nat
  | [] => 0
  | x :: r => uptoBulkEntry x + uptoBulkEntries r
def uptoBulkEntry {H : Type} : Lit × DataW H → Nat
  | (.string bytes, d) => bytes.length + uptoBulk d + 1
  | (_, d) => uptoBulk d + 1
 end
def uptoSmall : (H : Type) → List (DataW H) → Bool := fun _ ds => decide (uptoBulkAll ds ≤ 1048576)
def OpenSpec.upto (s : _root_.Go.ChangeSpec) : _root_.Go.OpenSpec := { _root_.Go.OpenSpec.ofChange s with cond := some uptoSmall }

/-- 'louvrelaw04.GlyphCompares', WHERE WHAT IT READS IS OF BULK AT MOST 1048576: true; the input reads as it did. -/
def glyphComparesUptoRow : OpenClaim := { program := "ytipkjpcedfokhaadoor", sum := "063c5e8c7a31869f2e0ea29cd1e276e9a8f86516d72ee49bb5671d741806bdac", func := "louvre/louvrelaw04.GlyphCompares", spec := "glyphCompares", inPlace := ["internal/bytealg.CountString", "internal/bytealg.IndexByteString", "internal/bytealg.IndexString", "internal/abi.NoEscape", "internal/bytealg.MakeNoZero", "internal/bytealg.abigen_runtime_cmpstring"], unfollowed := true, recurses := true, named := ["internal/bytealg.MaxLen", "unicode/utf8.first", "unicode/utf8.acceptRanges"], apart := false, laid := [("unicode/utf8.acceptRanges", laid_unicode_utf8_acceptRanges), ("unicode/utf8.first", laid_unicode_utf8_first)], narrowed := true }
def GlyphComparesUptoSaid : Prop := glyphComparesUptoRow.holds Tryd.pinned (OpenSpec.upto glyphComparesSpec)

/-- 'louvrelaw04.GlyphTrims', WHERE WHAT IT READS IS OF BULK AT MOST 1048576: true; the input reads as it did. -/
def glyphTrimsUptoRow : OpenClaim := { program := "ytipkjpcedfokhaadoor", sum := "063c5e8c7a31869f2e0ea29cd1e276e9a8f86516d72ee49bb5671d741806bdac", func := "louvre/louvrelaw04.GlyphTrims", spec := "glyphTrims", inPlace := ["internal/bytealg.CountString", "internal/bytealg.IndexByteString", "internal/bytealg.IndexString", "internal/abi.NoEscape", "internal/bytealg.MakeNoZero", "internal/bytealg.abigen_runtime_cmpstring"], unfollowed := true, recurses := true, named := ["internal/bytealg.MaxLen", "unicode/utf8.first", "unicode/utf8.acceptRanges"], apart := false, laid := [("unicode/utf8.acceptRanges", laid_unicode_utf8_acceptRanges), ("unicode/utf8.first", laid_unicode_utf8_first)], narrowed := true }
def GlyphTrimsUptoSaid : Prop := glyphTrimsUptoRow.holds Tryd.pinned (OpenSpec.upto glyphTrimsSpec)

/-- 'louvrelaw04.GlyphCapitals', WHERE WHAT IT READS IS OF BULK AT MOST 1048576: true; the input reads as it did. -/
def glyphCapitalsUptoRow : OpenClaim := { program := "ytipkjpcedfokhaadoor", sum := "063c5e8c7a31869f2e0ea29cd1e276e9a8f86516d72ee49bb5671d741806bdac", func := "louvre/louvrelaw04.GlyphCapitals", spec := "glyphCapitals", inPlace := ["internal/bytealg.CountString", "internal/bytealg.IndexByteString", "internal/bytealg.IndexString", "internal/abi.NoEscape", "internal/bytealg.MakeNoZero", "internal/bytealg.abigen_runtime_cmpstring"], unfollowed := true, recurses := true, named := ["internal/bytealg.MaxLen", "unicode/utf8.first", "unicode/utf8.acceptRanges"], apart := false, laid := [("unicode/utf8.acceptRanges", laid_unicode_utf8_acceptRanges), ("unicode/utf8.first", laid_unicode_utf8_first)], narrowed := true }
def GlyphCapitalsUptoSaid : Prop := glyphCapitalsUptoRow.holds Tryd.pinned (OpenSpec.upto glyphCapitalsSpec)

/-- 'louvrelaw04.GlyphOrder', WHERE WHAT IT READS IS OF BULK AT MOST 1048576: true; the input reads as it did. -/
def glyphOrderUptoRow : OpenClaim := { program := "ytipkjpcedfokhaadoor", sum := "063c5e8c7a31869f2e0ea29cd1e276e9a8f86516d72ee49bb5671d741806bdac", func := "louvre/louvrelaw04.GlyphOrder", spec := "glyphOrder", inPlace := ["internal/bytealg.CountString", "internal/bytealg.IndexByteString", "internal/bytealg.IndexString", "internal/abi.NoEscape", "internal/bytealg.MakeNoZero", "internal/bytealg.abigen_runtime_cmpstring"], unfollowed := true, recurses := true, named := ["internal/bytealg.MaxLen", "unicode/utf8.first", "unicode/utf8.acceptRanges"], apart := false, laid := [("unicode/utf8.acceptRanges", laid_unicode_utf8_acceptRanges), ("unicode/utf8.first", laid_unicode_utf8_first)], narrowed := true }
def GlyphOrderUptoSaid : Prop := glyphOrderUptoRow.holds Tryd.pinned (OpenSpec.upto glyphOrderSpec)

/-- 'louvrelaw04.GlyphBack', WHERE WHAT IT READS IS OF BULK AT MOST 1048576: true; the input reads as it did. -/
def glyphBackUptoRow : OpenClaim := { program := "ytipkjpcedfokhaadoor", sum := "063c5e8c7a31869f2e0ea29cd1e276e9a8f86516d72ee49bb5671d741806bdac", func := "louvre/louvrelaw04.GlyphBack", spec := "glyphBack", inPlace := ["internal/bytealg.CountString", "internal/bytealg.IndexByteString", "internal/bytealg.IndexString", "internal/abi.NoEscape", "internal/bytealg.MakeNoZero", "internal/bytealg.abigen_runtime_cmpstring"], unfollowed := true, recurses := true, named := ["internal/bytealg.MaxLen", "unicode/utf8.first", "unicode/utf8.acceptRanges"], apart := false, laid := [("unicode/utf8.acceptRanges", laid_unicode_utf8_acceptRanges), ("unicode/utf8.first", laid_unicode_utf8_first)], narrowed := true }
def GlyphBackUptoSaid : Prop := glyphBackUptoRow.holds Tryd.pinned (OpenSpec.upto glyphBackSpec)

/-- 'louvrelaw04.GlyphTexts', WHERE WHAT IT READS IS OF BULK AT MOST 1048576: true; the input reads as it did. -/
def glyphTextsUptoRow : OpenClaim := { program := "ytipkjpcedfokhaadoor", sum := "063c5e8c7a31869f2e0ea29cd1e276e9a8f86516d72ee49bb5671d741806bdac", func := "louvre/louvrelaw04.GlyphTexts", spec := "glyphTexts", inPlace := ["internal/bytealg.CountString", "internal/bytealg.IndexByteString", "internal/bytealg.IndexString", "internal/abi.NoEscape", "internal/bytealg.MakeNoZero", "internal/bytealg.abigen_runtime_cmpstring"], unfollowed := true, recurses := true, named := ["internal/bytealg.MaxLen", "unicode/utf8.first", "unicode/utf8.acceptRanges"], apart := false, laid := [("unicode/utf8.acceptRanges", laid_unicode_utf8_acceptRanges), ("unicode/utf8.first", laid_unicode_utf8_first)], narrowed := true }
def GlyphTextsUptoSaid : Prop := glyphTextsUptoRow.holds Tryd.pinned (OpenSpec.upto glyphTextsSpec)

/-- 'louvrelaw04.GlyphExamples', WHERE WHAT IT READS IS OF BULK AT MOST 1048576: true; the input reads as it did. -/
def glyphExamplesUptoRow : OpenClaim := { program := "ytipkjpcedfokhaadoor", sum := "063c5e8c7a31869f2e0ea29cd1e276e9a8f86516d72ee49bb5671d741806bdac", func := "louvre/louvrelaw04.GlyphExamples", spec := "glyphExamples", inPlace := ["internal/bytealg.abigen_runtime_cmpstring", "internal/bytealg.CountString", "internal/bytealg.IndexByteString", "internal/bytealg.IndexString", "internal/abi.NoEscape", "internal/bytealg.MakeNoZero"], unfollowed := true, recurses := true, named := ["unicode/utf8.first", "unicode/utf8.acceptRanges", "internal/bytealg.MaxLen"], apart := false, laid := [("unicode/utf8.acceptRanges", laid_unicode_utf8_acceptRanges), ("unicode/utf8.first", laid_unicode_utf8_first)], narrowed := true }
def GlyphExamplesUptoSaid : Prop := glyphExamplesUptoRow.holds Tryd.pinned (OpenSpec.upto glyphExamplesSpec)

/-- 'louvrelaw05.ValCompares', WHERE WHAT IT READS IS OF BULK AT MOST 1048576: true; the input reads as it did. -/
def valComparesUptoRow : OpenClaim := { program := "ytipkjpcedfokhaadoor", sum := "063c5e8c7a31869f2e0ea29cd1e276e9a8f86516d72ee49bb5671d741806bdac", func := "louvre/louvrelaw05.ValCompares", spec := "valCompares", inPlace := ["internal/bytealg.abigen_runtime_cmpstring", "internal/bytealg.CountString", "internal/bytealg.IndexByteString", "internal/bytealg.IndexString", "internal/abi.NoEscape", "internal/bytealg.MakeNoZero"], unfollowed := true, recurses := true, named := ["unicode/utf8.first", "unicode/utf8.acceptRanges", "internal/bytealg.MaxLen", "louvre/val.words"], apart := false, laid := [("unicode/utf8.acceptRanges", laid_unicode_utf8_acceptRanges), ("louvre/val.words", laid_louvre_val_words), ("unicode/utf8.first", laid_unicode_utf8_first)], narrowed := true }
def ValComparesUptoSaid : Prop := valComparesUptoRow.holds Tryd.pinned (OpenSpec.upto valComparesSpec)

/-- 'louvrelaw05.ValOrder', WHERE WHAT IT READS IS OF BULK AT MOST 1048576: true; the input reads as it did. -/
def valOrderUptoRow : OpenClaim := { program := "ytipkjpcedfokhaadoor", sum := "063c5e8c7a31869f2e0ea29cd1e276e9a8f86516d72ee49bb5671d741806bdac", func := "louvre/louvrelaw05.ValOrder", spec := "valOrder", inPlace := ["internal/bytealg.abigen_runtime_cmpstring", "internal/bytealg.CountString", "internal/bytealg.IndexByteString", "internal/bytealg.IndexString", "internal/abi.NoEscape", "internal/bytealg.MakeNoZero"], unfollowed := true, recurses := true, named := ["unicode/utf8.first", "unicode/utf8.acceptRanges", "internal/bytealg.MaxLen", "louvre/val.words"], apart := false, laid := [("unicode/utf8.acceptRanges", laid_unicode_utf8_acceptRanges), ("louvre/val.words", laid_louvre_val_words), ("unicode/utf8.first", laid_unicode_utf8_first)], narrowed := true }
def ValOrderUptoSaid : Prop := valOrderUptoRow.holds Tryd.pinned (OpenSpec.upto valOrderSpec)

/-- 'louvrelaw15.FlogicCalls', WHERE WHAT IT READS IS OF BULK AT MOST 1048576: true; the input reads as it did. -/
def flogicCallsUptoRow : OpenClaim := { program := "ytipkjpcedfokhaadoor", sum := "063c5e8c7a31869f2e0ea29cd1e276e9a8f86516d72ee49bb5671d741806bdac", func := "louvre/louvrelaw15.FlogicCalls", spec := "flogicCalls", inPlace := ["internal/bytealg.CountString", "internal/bytealg.IndexByteString", "internal/bytealg.IndexString", "internal/abi.NoEscape", "internal/bytealg.MakeNoZero"], unfollowed := true, recurses := true, named := ["unicode/utf8.first", "unicode/utf8.acceptRanges", "internal/bytealg.MaxLen"], apart := false, laid := [("unicode/utf8.acceptRanges", laid_unicode_utf8_acceptRanges), ("unicode/utf8.first", laid_unicode_utf8_first)], narrowed := true }
def FlogicCallsUptoSaid : Prop := flogicCallsUptoRow.holds Tryd.pinned (OpenSpec.upto flogicCallsSpec)

/-- 'louvrelaw15.FlogicExamples', WHERE WHAT IT READS IS OF BULK AT MOST 1048576: true; the input reads as it did. -/
def flogicExamplesUptoRow : OpenClaim := { program := "ytipkjpcedfokhaadoor", sum := "063c5e8c7a31869f2e0ea29cd1e276e9a8f86516d72ee49bb5671d741806bdac", func := "louvre/louvrelaw15.FlogicExamples", spec := "flogicExamples", inPlace := ["internal/bytealg.CountString", "internal/bytealg.IndexByteString", "internal/bytealg.IndexString", "internal/abi.NoEscape", "internal/bytealg.MakeNoZero"], unfollowed := true, recurses := true, named := ["unicode/utf8.first", "unicode/utf8.acceptRanges", "internal/bytealg.MaxLen"], apart := false, laid := [("unicode/utf8.acceptRanges", laid_unicode_utf8_acceptRanges), ("unicode/utf8.first", laid_unicode_utf8_first)], narrowed := true }
def FlogicExamplesUptoSaid : Prop := flogicExamplesUptoRow.holds Tryd.pinned (OpenSpec.upto flogicExamplesSpec)

/-- 'louvrelaw15.FlogicChooses', WHERE WHAT IT READS IS OF BULK AT MOST 1048576: true; the input reads as it did. -/
def flogicChoosesUptoRow : OpenClaim := { program := "ytipkjpcedfokhaadoor", sum := "063c5e8c7a31869f2e0ea29cd1e276e9a8f86516d72ee49bb5671d741806bdac", func := "louvre/louvrelaw15.FlogicChooses", spec := "flogicChooses", inPlace := ["internal/bytealg.CountString", "internal/bytealg.IndexByteString", "internal/bytealg.IndexString", "internal/abi.NoEscape", "internal/bytealg.MakeNoZero"], unfollowed := true, recurses := true, named := ["unicode/utf8.first", "unicode/utf8.acceptRanges", "internal/bytealg.MaxLen"], apart := false, laid := [("unicode/utf8.acceptRanges", laid_unicode_utf8_acceptRanges), ("unicode/utf8.first", laid_unicode_utf8_first)], narrowed := true }
def FlogicChoosesUptoSaid : Prop := flogicChoosesUptoRow.holds Tryd.pinned (OpenSpec.upto flogicChoosesSpec)

/-- 'louvrelaw15.FlogicFolds', WHERE WHAT IT READS IS OF BULK AT MOST 1048576: true; the input reads as it did. -/
def flogicFoldsUptoRow : OpenClaim := { program := "ytipkjpcedfokhaadoor", sum := "063c5e8c7a31869f2e0ea29cd1e276e9a8f86516d72ee49bb5671d741806bdac", func := "louvre/louvrelaw15.FlogicFolds", spec := "flogicFolds", inPlace := ["internal/bytealg.CountString", "internal/bytealg.IndexByteString", "internal/bytealg.IndexString", "internal/abi.NoEscape", "internal/bytealg.MakeNoZero"], unfollowed := true, recurses := true, named := ["unicode/utf8.first", "unicode/utf8.acceptRanges", "internal/bytealg.MaxLen"], apart := false, laid := [("unicode/utf8.acceptRanges", laid_unicode_utf8_acceptRanges), ("unicode/utf8.first", laid_unicode_utf8_first)], narrowed := true }
def FlogicFoldsUptoSaid : Prop := flogicFoldsUptoRow.holds Tryd.pinned (OpenSpec.upto flogicFoldsSpec)

/-- 'louvrelaw15.FlogicErrors', WHERE WHAT IT READS IS OF BULK AT MOST 1048576: true; the input reads as it did. -/
def flogicErrorsUptoRow : OpenClaim := { program := "ytipkjpcedfokhaadoor", sum := "063c5e8c7a31869f2e0ea29cd1e276e9a8f86516d72ee49bb5671d741806bdac", func := "louvre/louvrelaw15.FlogicErrors", spec := "flogicErrors", inPlace := ["internal/bytealg.CountString", "internal/bytealg.IndexByteString", "internal/bytealg.IndexString", "internal/abi.NoEscape", "internal/bytealg.MakeNoZero"], unfollowed := true, recurses := true, named := ["unicode/utf8.first", "unicode/utf8.acceptRanges", "internal/bytealg.MaxLen"], apart := false, laid := [("unicode/utf8.acceptRanges", laid_unicode_utf8_acceptRanges), ("unicode/utf8.first", laid_unicode_utf8_first)], narrowed := true }
def FlogicErrorsUptoSaid : Prop := flogicErrorsUptoRow.holds Tryd.pinned (OpenSpec.upto flogicErrorsSpec)

/-- 'louvrelaw05.ValMakes', WHERE WHAT IT READS IS OF BULK AT MOST 1048576: true; the input reads as it did. -/
def valMakesUptoRow : OpenClaim := { program := "ytipkjpcedfokhaadoor", sum := "063c5e8c7a31869f2e0ea29cd1e276e9a8f86516d72ee49bb5671d741806bdac", func := "louvre/louvrelaw05.ValMakes", spec := "valMakes", inPlace := ["internal/bytealg.abigen_runtime_cmpstring", "internal/bytealg.CountString", "internal/bytealg.IndexByteString", "internal/bytealg.IndexString", "internal/abi.NoEscape", "internal/bytealg.MakeNoZero"], unfollowed := true, recurses := true, named := ["unicode/utf8.first", "unicode/utf8.acceptRanges", "internal/bytealg.MaxLen", "louvre/val.words"], apart := false, laid := [("unicode/utf8.acceptRanges", laid_unicode_utf8_acceptRanges), ("louvre/val.words", laid_louvre_val_words), ("unicode/utf8.first", laid_unicode_utf8_first)], narrowed := true }
def ValMakesUptoSaid : Prop := valMakesUptoRow.holds Tryd.pinned (OpenSpec.upto valMakesSpec)

/-- 'louvrelaw05.ValConverts', WHERE WHAT IT READS IS OF BULK AT MOST 1048576: true; the input reads as it did. -/
def valConvertsUptoRow : OpenClaim := { program := "ytipkjpcedfokhaadoor", sum := "063c5e8c7a31869f2e0ea29cd1e276e9a8f86516d72ee49bb5671d741806bdac", func := "louvre/louvrelaw05.ValConverts", spec := "valConverts", inPlace := ["internal/bytealg.abigen_runtime_cmpstring", "internal/bytealg.CountString", "internal/bytealg.IndexByteString", "internal/bytealg.IndexString", "internal/abi.NoEscape", "internal/bytealg.MakeNoZero"], unfollowed := true, recurses := true, named := ["unicode/utf8.first", "unicode/utf8.acceptRanges", "internal/bytealg.MaxLen", "louvre/val.words"], apart := false, laid := [("unicode/utf8.acceptRanges", laid_unicode_utf8_acceptRanges), ("louvre/val.words", laid_louvre_val_words), ("unicode/utf8.first", laid_unicode_utf8_first)], narrowed := true }
def ValConvertsUptoSaid : Prop := valConvertsUptoRow.holds Tryd.pinned (OpenSpec.upto valConvertsSpec)

/-- 'louvrelaw05.ValKinds', WHERE WHAT IT READS IS OF BULK AT MOST 1048576: true; the input reads as it did. -/
def valKindsUptoRow : OpenClaim := { program := "ytipkjpcedfokhaadoor", sum := "063c5e8c7a31869f2e0ea29cd1e276e9a8f86516d72ee49bb5671d741806bdac", func := "louvre/louvrelaw05.ValKinds", spec := "valKinds", inPlace := ["internal/bytealg.abigen_runtime_cmpstring", "internal/bytealg.CountString", "internal/bytealg.IndexByteString", "internal/bytealg.IndexString", "internal/abi.NoEscape", "internal/bytealg.MakeNoZero"], unfollowed := true, recurses := true, named := ["unicode/utf8.first", "unicode/utf8.acceptRanges", "internal/bytealg.MaxLen", "louvre/val.words"], apart := false, laid := [("unicode/utf8.acceptRanges", laid_unicode_utf8_acceptRanges), ("louvre/val.words", laid_louvre_val_words), ("unicode/utf8.first", laid_unicode_utf8_first)], narrowed := true }
def ValKindsUptoSaid : Prop := valKindsUptoRow.holds Tryd.pinned (OpenSpec.upto valKindsSpec)

/-- 'louvrelaw05.ValExamples', WHERE WHAT IT READS IS OF BULK AT MOST 1048576: true; the input reads as it did. -/
def valExamplesUptoRow : OpenClaim := { program := "ytipkjpcedfokhaadoor", sum := "063c5e8c7a31869f2e0ea29cd1e276e9a8f86516d72ee49bb5671d741806bdac", func := "louvre/louvrelaw05.ValExamples", spec := "valExamples", inPlace := ["internal/bytealg.abigen_runtime_cmpstring", "internal/bytealg.CountString", "internal/bytealg.IndexByteString", "internal/bytealg.IndexString", "internal/abi.NoEscape", "internal/bytealg.MakeNoZero"], unfollowed := true, recurses := true, named := ["unicode/utf8.first", "unicode/utf8.acceptRanges", "internal/bytealg.MaxLen", "louvre/val.words"], apart := false, laid := [("unicode/utf8.acceptRanges", laid_unicode_utf8_acceptRanges), ("louvre/val.words", laid_louvre_val_words), ("unicode/utf8.first", laid_unicode_utf8_first)], narrowed := true }
def ValExamplesUptoSaid : Prop := valExamplesUptoRow.holds Tryd.pinned (OpenSpec.upto valExamplesSpec)

/-- 'louvrelaw05.ValBack', WHERE WHAT IT READS IS OF BULK AT MOST 1048576: true; the input reads as it did. -/
def valBackUptoRow : OpenClaim := { program := "ytipkjpcedfokhaadoor", sum := "063c5e8c7a31869f2e0ea29cd1e276e9a8f86516d72ee49bb5671d741806bdac", func := "louvre/louvrelaw05.ValBack", spec := "valBack", inPlace := ["internal/bytealg.abigen_runtime_cmpstring", "internal/bytealg.CountString", "internal/bytealg.IndexByteString", "internal/bytealg.IndexString", "internal/abi.NoEscape", "internal/bytealg.MakeNoZero"], unfollowed := true, recurses := true, named := ["unicode/utf8.first", "unicode/utf8.acceptRanges", "internal/bytealg.MaxLen", "louvre/val.words"], apart := false, laid := [("unicode/utf8.acceptRanges", laid_unicode_utf8_acceptRanges), ("louvre/val.words", laid_louvre_val_words), ("unicode/utf8.first", laid_unicode_utf8_first)], narrowed := true }
def ValBackUptoSaid : Prop := valBackUptoRow.holds Tryd.pinned (OpenSpec.upto valBackSpec)

end Rows
end Go.Proofs.YtipkjpcedfokhaaDoor
