/-
  DERIVED. GIVEN WITH THE SEED: THE CARDS: each row of YtipkjpcedfokhaaDoorRows.lean that lists a variable, with what it lists TIED to the program's text (the seventh form; the later family's looks); each row that meets fmt, with fmt's text TOLD by the authors' own Lean function (tested against real Go, not proved from fmt's source: count such statements apart). THE CARD IS WHAT COUNTS. Prove the row's statement (the work); the ties are given (YtipkjpcedfokhaaDoorTie.lean); close each card by the builder's one call (the guide's Derived/Test/ToyasCard.lean, 'card_holds'). Laid BY PROGRAM, IN A SANDBOX (cutbox-door.mjs). By AI agents, Wed Nov 11 2026. No macro, syntax, notation, axiom, sorry.
-/
import Derived.Test.YtipkjpcedfokhaaDoorRows
import GoSem.ClaimSeven
namespace Go.Proofs.YtipkjpcedfokhaaDoor
namespace Rows

/-- THE TIED CARD OF 'louvrelaw04.GlyphCompares'. -/
def glyphComparesCard : Claim7 := { stood := { row := glyphComparesRow, standIns := [], harness := (true, "e926cc5e3d0bcdcabbb3b564ba0e312d31d7650b98360f7228b2154a947ba908"), looks := false }, kinds := [], alts := [], laidByText := true, laidKinds := [.data, .pinned], laidTests := true, laidLooks := .later }
def GlyphComparesCardSaid : Prop := Claim7.holds Tryd.pinned (.plain (OpenSpec.ofChange glyphComparesSpec)) glyphComparesCard

/-- THE TIED CARD OF 'louvrelaw04.GlyphTrims'. -/
def glyphTrimsCard : Claim7 := { stood := { row := glyphTrimsRow, standIns := [], harness := (true, "e926cc5e3d0bcdcabbb3b564ba0e312d31d7650b98360f7228b2154a947ba908"), looks := false }, kinds := [], alts := [], laidByText := true, laidKinds := [.data, .pinned], laidTests := true, laidLooks := .later }
def GlyphTrimsCardSaid : Prop := Claim7.holds Tryd.pinned (.plain (OpenSpec.ofChange glyphTrimsSpec)) glyphTrimsCard

/-- THE TIED CARD OF 'louvrelaw04.GlyphCapitals'. -/
def glyphCapitalsCard : Claim7 := { stood := { row := glyphCapitalsRow, standIns := [], harness := (true, "e926cc5e3d0bcdcabbb3b564ba0e312d31d7650b98360f7228b2154a947ba908"), looks := false }, kinds := [], alts := [], laidByText := true, laidKinds := [.data, .pinned], laidTests := true, laidLooks := .later }
def GlyphCapitalsCardSaid : Prop := Claim7.holds Tryd.pinned (.plain (OpenSpec.ofChange glyphCapitalsSpec)) glyphCapitalsCard

/-- THE TIED CARD OF 'louvrelaw04.GlyphOrder'. -/
def glyphOrderCard : Claim7 := { stood := { row := glyphOrderRow, standIns := [], harness := (true, "e926cc5e3d0bcdcabbb3b564ba0e312d31d7650b98360f7228b2154a947ba908"), looks := false }, kinds := [], alts := [], laidByText := true, laidKinds := [.data, .pinned], laidTests := true, laidLooks := .later }
def GlyphOrderCardSaid : Prop := Claim7.holds Tryd.pinned (.plain (OpenSpec.ofChange glyphOrderSpec)) glyphOrderCard

/-- THE TIED CARD OF 'louvrelaw04.GlyphBack'. -/
def glyphBackCard : Claim7 := { stood := { row := glyphBackRow, standIns := [], harness := (true, "e926cc5e3d0bcdcabbb3b564ba0e312d31d7650b98360f7228b2154a947ba908"), looks := false }, kinds := [], alts := [], laidByText := true, laidKinds := [.data, .pinned], laidTests := true, laidLooks := .later }
def GlyphBackCardSaid : Prop := Claim7.holds Tryd.pinned (.plain (OpenSpec.ofChange glyphBackSpec)) glyphBackCard

/-- THE TIED CARD OF 'louvrelaw04.GlyphTexts'. -/
def glyphTextsCard : Claim7 := { stood := { row := glyphTextsRow, standIns := [], harness := (true, "e926cc5e3d0bcdcabbb3b564ba0e312d31d7650b98360f7228b2154a947ba908"), looks := false }, kinds := [], alts := [], laidByText := true, laidKinds := [.data, .pinned], laidTests := true, laidLooks := .later }
def GlyphTextsCardSaid : Prop := Claim7.holds Tryd.pinned (.plain (OpenSpec.ofChange glyphTextsSpec)) glyphTextsCard

/-- THE TIED CARD OF 'louvrelaw04.GlyphExamples'. -/
def glyphExamplesCard : Claim7 := { stood := { row := glyphExamplesRow, standIns := [], harness := (true, "e926cc5e3d0bcdcabbb3b564ba0e312d31d7650b98360f7228b2154a947ba908"), looks := false }, kinds := [], alts := [], laidByText := true, laidKinds := [.data, .pinned], laidTests := true, laidLooks := .later }
def GlyphExamplesCardSaid : Prop := Claim7.holds Tryd.pinned (.plain (OpenSpec.ofChange glyphExamplesSpec)) glyphExamplesCard

/-- THE TIED CARD OF 'louvrelaw05.ValCompares'. -/
def valComparesCard : Claim7 := { stood := { row := valComparesRow, standIns := [], harness := (true, "e926cc5e3d0bcdcabbb3b564ba0e312d31d7650b98360f7228b2154a947ba908"), looks := false }, kinds := [], alts := [], laidByText := true, laidKinds := [.data, .data, .pinned], laidTests := true, laidLooks := .later }
def ValComparesCardSaid : Prop := Claim7.holds Tryd.pinned (.plain (OpenSpec.ofChange valComparesSpec)) valComparesCard

/-- THE TIED CARD OF 'louvrelaw05.ValOrder'. -/
def valOrderCard : Claim7 := { stood := { row := valOrderRow, standIns := [], harness := (true, "e926cc5e3d0bcdcabbb3b564ba0e312d31d7650b98360f7228b2154a947ba908"), looks := false }, kinds := [], alts := [], laidByText := true, laidKinds := [.data, .data, .pinned], laidTests := true, laidLooks := .later }
def ValOrderCardSaid : Prop := Claim7.holds Tryd.pinned (.plain (OpenSpec.ofChange valOrderSpec)) valOrderCard

/-- THE TIED CARD OF 'louvrelaw15.FlogicCalls'. -/
def flogicCallsCard : Claim7 := { stood := { row := flogicCallsRow, standIns := [], harness := (true, "e926cc5e3d0bcdcabbb3b564ba0e312d31d7650b98360f7228b2154a947ba908"), looks := false }, kinds := [], alts := [], laidByText := true, laidKinds := [.data, .pinned], laidTests := true, laidLooks := .later }
def FlogicCallsCardSaid : Prop := Claim7.holds Tryd.pinned (.plain (OpenSpec.ofChange flogicCallsSpec)) flogicCallsCard

/-- THE TIED CARD OF 'louvrelaw15.FlogicExamples'. -/
def flogicExamplesCard : Claim7 := { stood := { row := flogicExamplesRow, standIns := [], harness := (true, "e926cc5e3d0bcdcabbb3b564ba0e312d31d7650b98360f7228b2154a947ba908"), looks := false }, kinds := [], alts := [], laidByText := true, laidKinds := [.data, .pinned], laidTests := true, laidLooks := .later }
def FlogicExamplesCardSaid : Prop := Claim7.holds Tryd.pinned (.plain (OpenSpec.ofChange flogicExamplesSpec)) flogicExamplesCard

/-- THE TIED CARD OF 'louvrelaw15.FlogicChooses'. -/
def flogicChoosesCard : Claim7 := { stood := { row := flogicChoosesRow, standIns := [], harness := (true, "e926cc5e3d0bcdcabbb3b564ba0e312d31d7650b98360f7228b2154a947ba908"), looks := false }, kinds := [], alts := [], laidByText := true, laidKinds := [.data, .pinned], laidTests := true, laidLooks := .later }
def FlogicChoosesCardSaid : Prop := Claim7.holds Tryd.pinned (.plain (OpenSpec.ofChange flogicChoosesSpec)) flogicChoosesCard

/-- THE TIED CARD OF 'louvrelaw15.FlogicFolds'. -/
def flogicFoldsCard : Claim7 := { stood := { row := flogicFoldsRow, standIns := [], harness := (true, "e926cc5e3d0bcdcabbb3b564ba0e312d31d7650b98360f7228b2154a947ba908"), looks := false }, kinds := [], alts := [], laidByText := true, laidKinds := [.data, .pinned], laidTests := true, laidLooks := .later }
def FlogicFoldsCardSaid : Prop := Claim7.holds Tryd.pinned (.plain (OpenSpec.ofChange flogicFoldsSpec)) flogicFoldsCard

/-- THE TIED CARD OF 'louvrelaw15.FlogicErrors'. -/
def flogicErrorsCard : Claim7 := { stood := { row := flogicErrorsRow, standIns := [], harness := (true, "e926cc5e3d0bcdcabbb3b564ba0e312d31d7650b98360f7228b2154a947ba908"), looks := false }, kinds := [], alts := [], laidByText := true, laidKinds := [.data, .pinned], laidTests := true, laidLooks := .later }
def FlogicErrorsCardSaid : Prop := Claim7.holds Tryd.pinned (.plain (OpenSpec.ofChange flogicErrorsSpec)) flogicErrorsCard

/-- THE TIED CARD OF 'louvrelaw05.ValMakes'. -/
def valMakesCard : Claim7 := { stood := { row := valMakesRow, standIns := [], harness := (true, "e926cc5e3d0bcdcabbb3b564ba0e312d31d7650b98360f7228b2154a947ba908"), looks := false }, kinds := [], alts := [], laidByText := true, laidKinds := [.data, .data, .pinned], laidTests := true, laidLooks := .later }
def ValMakesCardSaid : Prop := Claim7.holds Tryd.pinned (.plain (OpenSpec.ofChange valMakesSpec)) valMakesCard

/-- THE TIED CARD OF 'louvrelaw05.ValConverts'. -/
def valConvertsCard : Claim7 := { stood := { row := valConvertsRow, standIns := [], harness := (true, "e926cc5e3d0bcdcabbb3b564ba0e312d31d7650b98360f7228b2154a947ba908"), looks := false }, kinds := [], alts := [], laidByText := true, laidKinds := [.data, .data, .pinned], laidTests := true, laidLooks := .later }
def ValConvertsCardSaid : Prop := Claim7.holds Tryd.pinned (.plain (OpenSpec.ofChange valConvertsSpec)) valConvertsCard

/-- THE TIED CARD OF 'louvrelaw05.ValKinds'. -/
def valKindsCard : Claim7 := { stood := { row := valKindsRow, standIns := [], harness := (true, "e926cc5e3d0bcdcabbb3b564ba0e312d31d7650b98360f7228b2154a947ba908"), looks := false }, kinds := [], alts := [], laidByText := true, laidKinds := [.data, .data, .pinned], laidTests := true, laidLooks := .later }
def ValKindsCardSaid : Prop := Claim7.holds Tryd.pinned (.plain (OpenSpec.ofChange valKindsSpec)) valKindsCard

/-- THE TIED CARD OF 'louvrelaw05.ValExamples'. -/
def valExamplesCard : Claim7 := { stood := { row := valExamplesRow, standIns := [], harness := (true, "e926cc5e3d0bcdcabbb3b564ba0e312d31d7650b98360f7228b2154a947ba908"), looks := false }, kinds := [], alts := [], laidByText := true, laidKinds := [.data, .data, .pinned], laidTests := true, laidLooks := .later }
def ValExamplesCardSaid : Prop := Claim7.holds Tryd.pinned (.plain (OpenSpec.ofChange valExamplesSpec)) valExamplesCard

/-- THE TIED CARD OF 'louvrelaw05.ValBack'. -/
def valBackCard : Claim7 := { stood := { row := valBackRow, standIns := [], harness := (true, "e926cc5e3d0bcdcabbb3b564ba0e312d31d7650b98360f7228b2154a947ba908"), looks := false }, kinds := [], alts := [], laidByText := true, laidKinds := [.data, .data, .pinned], laidTests := true, laidLooks := .later }
def ValBackCardSaid : Prop := Claim7.holds Tryd.pinned (.plain (OpenSpec.ofChange valBackSpec)) valBackCard

/-- THE SECOND FORM's CARD OF 'louvrelaw04.GlyphCompares'. -/
def glyphComparesUptoCard : Claim7 := { stood := { row := glyphComparesUptoRow, standIns := [], harness := (true, "e926cc5e3d0bcdcabbb3b564ba0e312d31d7650b98360f7228b2154a947ba908"), looks := false }, kinds := [], alts := [], laidByText := true, laidKinds := [.data, .pinned], laidTests := true, laidLooks := .later }
def GlyphComparesUptoCardSaid : Prop := Claim7.holds Tryd.pinned (.plain (OpenSpec.upto glyphComparesSpec)) glyphComparesUptoCard

/-- THE SECOND FORM's CARD OF 'louvrelaw04.GlyphTrims'. -/
def glyphTrimsUptoCard : Claim7 := { stood := { row := glyphTrimsUptoRow, standIns := [], harness := (true, "e926cc5e3d0bcdcabbb3b564ba0e312d31d7650b98360f7228b2154a947ba908"), looks := false }, kinds := [], alts := [], laidByText := true, laidKinds := [.data, .pinned], laidTests := true, laidLooks := .later }
def GlyphTrimsUptoCardSaid : Prop := Claim7.holds Tryd.pinned (.plain (OpenSpec.upto glyphTrimsSpec)) glyphTrimsUptoCard

/-- THE SECOND FORM's CARD OF 'louvrelaw04.GlyphCapitals'. -/
def glyphCapitalsUptoCard : Claim7 := { stood := { row := glyphCapitalsUptoRow, standIns := [], harness := (true, "e926cc5e3d0bcdcabbb3b564ba0e312d31d7650b98360f7228b2154a947ba908"), looks := false }, kinds := [], alts := [], laidByText := true, laidKinds := [.data, .pinned], laidTests := true, laidLooks := .later }
def GlyphCapitalsUptoCardSaid : Prop := Claim7.holds Tryd.pinned (.plain (OpenSpec.upto glyphCapitalsSpec)) glyphCapitalsUptoCard

/-- THE SECOND FORM's CARD OF 'louvrelaw04.GlyphOrder'. -/
def glyphOrderUptoCard : Claim7 := { stood := { row := glyphOrderUptoRow, standIns := [], harness := (true, "e926cc5e3d0bcdcabbb3b564ba0e312d31d7650b98360f7228b2154a947ba908"), looks := false }, kinds := [], alts := [], laidByText := true, laidKinds := [.data, .pinned], laidTests := true, laidLooks := .later }
def GlyphOrderUptoCardSaid : Prop := Claim7.holds Tryd.pinned (.plain (OpenSpec.upto glyphOrderSpec)) glyphOrderUptoCard

/-- THE SECOND FORM's CARD OF 'louvrelaw04.GlyphBack'. -/
def glyphBackUptoCard : Claim7 := { stood := { row := glyphBackUptoRow, standIns := [], harness := (true, "e926cc5e3d0bcdcabbb3b564ba0e312d31d7650b98360f7228b2154a947ba908"), looks := false }, kinds := [], alts := [], laidByText := true, laidKinds := [.data, .pinned], laidTests := true, laidLooks := .later }
def GlyphBackUptoCardSaid : Prop := Claim7.holds Tryd.pinned (.plain (OpenSpec.upto glyphBackSpec)) glyphBackUptoCard

/-- THE SECOND FORM's CARD OF 'louvrelaw04.GlyphTexts'. -/
def glyphTextsUptoCard : Claim7 := { stood := { row := glyphTextsUptoRow, standIns := [], harness := (true, "e926cc5e3d0bcdcabbb3b564ba0e312d31d7650b98360f7228b2154a947ba908"), looks := false }, kinds := [], alts := [], laidByText := true, laidKinds := [.data, .pinned], laidTests := true, laidLooks := .later }
def GlyphTextsUptoCardSaid : Prop := Claim7.holds Tryd.pinned (.plain (OpenSpec.upto glyphTextsSpec)) glyphTextsUptoCard

/-- THE SECOND FORM's CARD OF 'louvrelaw04.GlyphExamples'. -/
def glyphExamplesUptoCard : Claim7 := { stood := { row := glyphExamplesUptoRow, standIns := [], harness := (true, "e926cc5e3d0bcdcabbb3b564ba0e312d31d7650b98360f7228b2154a947ba908"), looks := false }, kinds := [], alts := [], laidByText := true, laidKinds := [.data, .pinned], laidTests := true, laidLooks := .later }
def GlyphExamplesUptoCardSaid : Prop := Claim7.holds Tryd.pinned (.plain (OpenSpec.upto glyphExamplesSpec)) glyphExamplesUptoCard

/-- THE SECOND FORM's CARD OF 'louvrelaw05.ValCompares'. -/
def valComparesUptoCard : Claim7 := { stood := { row := valComparesUptoRow, standIns := [], harness := (true, "e926cc5e3d0bcdcabbb3b564ba0e312d31d7650b98360f7228b2154a947ba908"), looks := false }, kinds := [], alts := [], laidByText := true, laidKinds := [.data, .data, .pinned], laidTests := true, laidLooks := .later }
def ValComparesUptoCardSaid : Prop := Claim7.holds Tryd.pinned (.plain (OpenSpec.upto valComparesSpec)) valComparesUptoCard

/-- THE SECOND FORM's CARD OF 'louvrelaw05.ValOrder'. -/
def valOrderUptoCard : Claim7 := { stood := { row := valOrderUptoRow, standIns := [], harness := (true, "e926cc5e3d0bcdcabbb3b564ba0e312d31d7650b98360f7228b2154a947ba908"), looks := false }, kinds := [], alts := [], laidByText := true, laidKinds := [.data, .data, .pinned], laidTests := true, laidLooks := .later }
def ValOrderUptoCardSaid : Prop := Claim7.holds Tryd.pinned (.plain (OpenSpec.upto valOrderSpec)) valOrderUptoCard

/-- THE SECOND FORM's CARD OF 'louvrelaw15.FlogicCalls'. -/
def flogicCallsUptoCard : Claim7 := { stood := { row := flogicCallsUptoRow, standIns := [], harness := (true, "e926cc5e3d0bcdcabbb3b564ba0e312d31d7650b98360f7228b2154a947ba908"), looks := false }, kinds := [], alts := [], laidByText := true, laidKinds := [.data, .pinned], laidTests := true, laidLooks := .later }
def FlogicCallsUptoCardSaid : Prop := Claim7.holds Tryd.pinned (.plain (OpenSpec.upto flogicCallsSpec)) flogicCallsUptoCard

/-- THE SECOND FORM's CARD OF 'louvrelaw15.FlogicExamples'. -/
def flogicExamplesUptoCard : Claim7 := { stood := { row := flogicExamplesUptoRow, standIns := [], harness := (true, "e926cc5e3d0bcdcabbb3b564ba0e312d31d7650b98360f7228b2154a947ba908"), looks := false }, kinds := [], alts := [], laidByText := true, laidKinds := [.data, .pinned], laidTests := true, laidLooks := .later }
def FlogicExamplesUptoCardSaid : Prop := Claim7.holds Tryd.pinned (.plain (OpenSpec.upto flogicExamplesSpec)) flogicExamplesUptoCard

/-- THE SECOND FORM's CARD OF 'louvrelaw15.FlogicChooses'. -/
def flogicChoosesUptoCard : Claim7 := { stood := { row := flogicChoosesUptoRow, standIns := [], harness := (true, "e926cc5e3d0bcdcabbb3b564ba0e312d31d7650b98360f7228b2154a947ba908"), looks := false }, kinds := [], alts := [], laidByText := true, laidKinds := [.data, .pinned], laidTests := true, laidLooks := .later }
def FlogicChoosesUptoCardSaid : Prop := Claim7.holds Tryd.pinned (.plain (OpenSpec.upto flogicChoosesSpec)) flogicChoosesUptoCard

/-- THE SECOND FORM's CARD OF 'louvrelaw15.FlogicFolds'. -/
def flogicFoldsUptoCard : Claim7 := { stood := { row := flogicFoldsUptoRow, standIns := [], harness := (true, "e926cc5e3d0bcdcabbb3b564ba0e312d31d7650b98360f7228b2154a947ba908"), looks := false }, kinds := [], alts := [], laidByText := true, laidKinds := [.data, .pinned], laidTests := true, laidLooks := .later }
def FlogicFoldsUptoCardSaid : Prop := Claim7.holds Tryd.pinned (.plain (OpenSpec.upto flogicFoldsSpec)) flogicFoldsUptoCard

/-- THE SECOND FORM's CARD OF 'louvrelaw15.FlogicErrors'. -/
def flogicErrorsUptoCard : Claim7 := { stood := { row := flogicErrorsUptoRow, standIns := [], harness := (true, "e926cc5e3d0bcdcabbb3b564ba0e312d31d7650b98360f7228b2154a947ba908"), looks := false }, kinds := [], alts := [], laidByText := true, laidKinds := [.data, .pinned], laidTests := true, laidLooks := .later }
def FlogicErrorsUptoCardSaid : Prop := Claim7.holds Tryd.pinned (.plain (OpenSpec.upto flogicErrorsSpec)) flogicErrorsUptoCard

/-- THE SECOND FORM's CARD OF 'louvrelaw05.ValMakes'. -/
def valMakesUptoCard : Claim7 := { stood := { row := valMakesUptoRow, standIns := [], harness := (true, "e926cc5e3d0bcdcabbb3b564ba0e312d31d7650b98360f7228b2154a947ba908"), looks := false }, kinds := [], alts := [], laidByText := true, laidKinds := [.data, .data, .pinned], laidTests := true, laidLooks := .later }
def ValMakesUptoCardSaid : Prop := Claim7.holds Tryd.pinned (.plain (OpenSpec.upto valMakesSpec)) valMakesUptoCard

/-- THE SECOND FORM's CARD OF 'louvrelaw05.ValConverts'. -/
def valConvertsUptoCard : Claim7 := { stood := { row := valConvertsUptoRow, standIns := [], harness := (true, "e926cc5e3d0bcdcabbb3b564ba0e312d31d7650b98360f7228b2154a947ba908"), looks := false }, kinds := [], alts := [], laidByText := true, laidKinds := [.data, .data, .pinned], laidTests := true, laidLooks := .later }
def ValConvertsUptoCardSaid : Prop := Claim7.holds Tryd.pinned (.plain (OpenSpec.upto valConvertsSpec)) valConvertsUptoCard

/-- THE SECOND FORM's CARD OF 'louvrelaw05.ValKinds'. -/
def valKindsUptoCard : Claim7 := { stood := { row := valKindsUptoRow, standIns := [], harness := (true, "e926cc5e3d0bcdcabbb3b564ba0e312d31d7650b98360f7228b2154a947ba908"), looks := false }, kinds := [], alts := [], laidByText := true, laidKinds := [.data, .data, .pinned], laidTests := true, laidLooks := .later }
def ValKindsUptoCardSaid : Prop := Claim7.holds Tryd.pinned (.plain (OpenSpec.upto valKindsSpec)) valKindsUptoCard

/-- THE SECOND FORM's CARD OF 'louvrelaw05.ValExamples'. -/
def valExamplesUptoCard : Claim7 := { stood := { row := valExamplesUptoRow, standIns := [], harness := (true, "e926cc5e3d0bcdcabbb3b564ba0e312d31d7650b98360f7228b2154a947ba908"), looks := false }, kinds := [], alts := [], laidByText := true, laidKinds := [.data, .data, .pinned], laidTests := true, laidLooks := .later }
def ValExamplesUptoCardSaid : Prop := Claim7.holds Tryd.pinned (.plain (OpenSpec.upto valExamplesSpec)) valExamplesUptoCard

/-- THE SECOND FORM's CARD OF 'louvrelaw05.ValBack'. -/
def valBackUptoCard : Claim7 := { stood := { row := valBackUptoRow, standIns := [], harness := (true, "e926cc5e3d0bcdcabbb3b564ba0e312d31d7650b98360f7228b2154a947ba908"), looks := false }, kinds := [], alts := [], laidByText := true, laidKinds := [.data, .data, .pinned], laidTests := true, laidLooks := .later }
def ValBackUptoCardSaid : Prop := Claim7.holds Tryd.pinned (.plain (OpenSpec.upto valBackSpec)) valBackUptoCard
end Rows
end Go.Proofs.YtipkjpcedfokhaaDoor
