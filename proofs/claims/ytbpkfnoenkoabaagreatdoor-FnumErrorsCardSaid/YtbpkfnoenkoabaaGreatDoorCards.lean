/-
  DERIVED. GIVEN WITH THE SEED: THE CARDS: each row of YtbpkfnoenkoabaaGreatDoorRows.lean that lists a variable, with what it lists TIED to the program's text (the seventh form; the later family's looks); each row that meets fmt, with fmt's text TOLD by the authors' own Lean function (tested against real Go, not proved from fmt's source: count such statements apart). THE CARD IS WHAT COUNTS. Prove the row's statement (the work); the ties are given (YtbpkfnoenkoabaaGreatDoorTie.lean); close each card by the builder's one call (the guide's Derived/Test/ToyasCard.lean, 'card_holds'). Laid BY PROGRAM, IN A SANDBOX (cutbox-door.mjs). By AI agents, Wed Nov 11 2026. No macro, syntax, notation, axiom, sorry.
-/
import Derived.Test.YtbpkfnoenkoabaaGreatDoorRows
import GoSem.ClaimSeven
namespace Go.Proofs.YtbpkfnoenkoabaaGreatDoor
namespace Rows

/-- THE TIED CARD OF 'louvrelaw14.FtextCalls'. -/
def ftextCallsCard : Claim7 := { stood := { row := ftextCallsRow, standIns := [], harness := (true, "30c6a06cc591ecf64db396f563d12e8e74dc28a00db673817544fd851996db2c"), looks := false }, kinds := [], alts := [], laidByText := true, laidKinds := [.data, .pinned], laidTests := true, laidLooks := .later }
def FtextCallsCardSaid : Prop := Claim7.holds Tryz.pinned (.plain (OpenSpec.ofChange ftextCallsSpec)) ftextCallsCard

/-- THE TIED CARD OF 'louvrelaw14.FtextExamples'. -/
def ftextExamplesCard : Claim7 := { stood := { row := ftextExamplesRow, standIns := [], harness := (true, "30c6a06cc591ecf64db396f563d12e8e74dc28a00db673817544fd851996db2c"), looks := false }, kinds := [], alts := [], laidByText := true, laidKinds := [.data, .pinned], laidTests := true, laidLooks := .later }
def FtextExamplesCardSaid : Prop := Claim7.holds Tryz.pinned (.plain (OpenSpec.ofChange ftextExamplesSpec)) ftextExamplesCard

/-- THE TIED CARD OF 'louvrelaw13.FnumCalls'. -/
def fnumCallsCard : Claim7 := { stood := { row := fnumCallsRow, standIns := [], harness := (true, "30c6a06cc591ecf64db396f563d12e8e74dc28a00db673817544fd851996db2c"), looks := false }, kinds := [], alts := [], laidByText := true, laidKinds := [.data, .pinned], laidTests := true, laidLooks := .later }
def FnumCallsCardSaid : Prop := Claim7.holds Tryz.pinned (.plain (OpenSpec.ofChange fnumCallsSpec)) fnumCallsCard

/-- THE TIED CARD OF 'louvrelaw13.FnumBinaries'. -/
def fnumBinariesCard : Claim7 := { stood := { row := fnumBinariesRow, standIns := [], harness := (true, "30c6a06cc591ecf64db396f563d12e8e74dc28a00db673817544fd851996db2c"), looks := false }, kinds := [], alts := [], laidByText := true, laidKinds := [.data, .pinned], laidTests := true, laidLooks := .later }
def FnumBinariesCardSaid : Prop := Claim7.holds Tryz.pinned (.plain (OpenSpec.ofChange fnumBinariesSpec)) fnumBinariesCard

/-- THE TIED CARD OF 'louvrelaw13.FnumSigns'. -/
def fnumSignsCard : Claim7 := { stood := { row := fnumSignsRow, standIns := [], harness := (true, "30c6a06cc591ecf64db396f563d12e8e74dc28a00db673817544fd851996db2c"), looks := false }, kinds := [], alts := [], laidByText := true, laidKinds := [.data, .pinned], laidTests := true, laidLooks := .later }
def FnumSignsCardSaid : Prop := Claim7.holds Tryz.pinned (.plain (OpenSpec.ofChange fnumSignsSpec)) fnumSignsCard

/-- THE TIED CARD OF 'louvrelaw13.FnumExamples'. -/
def fnumExamplesCard : Claim7 := { stood := { row := fnumExamplesRow, standIns := [], harness := (true, "30c6a06cc591ecf64db396f563d12e8e74dc28a00db673817544fd851996db2c"), looks := false }, kinds := [], alts := [], laidByText := true, laidKinds := [.data, .pinned], laidTests := true, laidLooks := .later }
def FnumExamplesCardSaid : Prop := Claim7.holds Tryz.pinned (.plain (OpenSpec.ofChange fnumExamplesSpec)) fnumExamplesCard

/-- THE TIED CARD OF 'louvrelaw13.FnumErrors'. -/
def fnumErrorsCard : Claim7 := { stood := { row := fnumErrorsRow, standIns := [], harness := (true, "30c6a06cc591ecf64db396f563d12e8e74dc28a00db673817544fd851996db2c"), looks := false }, kinds := [], alts := [], laidByText := true, laidKinds := [.data, .pinned], laidTests := true, laidLooks := .later }
def FnumErrorsCardSaid : Prop := Claim7.holds Tryz.pinned (.plain (OpenSpec.ofChange fnumErrorsSpec)) fnumErrorsCard

/-- THE TIED CARD OF 'louvrelaw13.FnumOrder'. -/
def fnumOrderCard : Claim7 := { stood := { row := fnumOrderRow, standIns := [], harness := (true, "30c6a06cc591ecf64db396f563d12e8e74dc28a00db673817544fd851996db2c"), looks := false }, kinds := [], alts := [], laidByText := true, laidKinds := [.data, .pinned], laidTests := true, laidLooks := .later }
def FnumOrderCardSaid : Prop := Claim7.holds Tryz.pinned (.plain (OpenSpec.ofChange fnumOrderSpec)) fnumOrderCard

/-- THE TIED CARD OF 'louvrelaw13.FnumMods'. -/
def fnumModsCard : Claim7 := { stood := { row := fnumModsRow, standIns := [], harness := (true, "30c6a06cc591ecf64db396f563d12e8e74dc28a00db673817544fd851996db2c"), looks := false }, kinds := [], alts := [], laidByText := true, laidKinds := [.data, .pinned], laidTests := true, laidLooks := .later }
def FnumModsCardSaid : Prop := Claim7.holds Tryz.pinned (.plain (OpenSpec.ofChange fnumModsSpec)) fnumModsCard

/-- THE TIED CARD OF 'louvrelaw13.FnumRounds'. -/
def fnumRoundsCard : Claim7 := { stood := { row := fnumRoundsRow, standIns := [], harness := (true, "30c6a06cc591ecf64db396f563d12e8e74dc28a00db673817544fd851996db2c"), looks := false }, kinds := [], alts := [], laidByText := true, laidKinds := [.data, .pinned], laidTests := true, laidLooks := .later }
def FnumRoundsCardSaid : Prop := Claim7.holds Tryz.pinned (.plain (OpenSpec.ofChange fnumRoundsSpec)) fnumRoundsCard

/-- THE TIED CARD OF 'louvrelaw16.AggCalls'. -/
def aggCallsCard : Claim7 := { stood := { row := aggCallsRow, standIns := [], harness := (true, "30c6a06cc591ecf64db396f563d12e8e74dc28a00db673817544fd851996db2c"), looks := false }, kinds := [], alts := [], laidByText := true, laidKinds := [.data, .pinned], laidTests := true, laidLooks := .later }
def AggCallsCardSaid : Prop := Claim7.holds Tryz.pinned (.plain (OpenSpec.ofChange aggCallsSpec)) aggCallsCard

/-- THE TIED CARD OF 'louvrelaw16.AggParts'. -/
def aggPartsCard : Claim7 := { stood := { row := aggPartsRow, standIns := [], harness := (true, "30c6a06cc591ecf64db396f563d12e8e74dc28a00db673817544fd851996db2c"), looks := false }, kinds := [], alts := [], laidByText := true, laidKinds := [.data, .pinned], laidTests := true, laidLooks := .later }
def AggPartsCardSaid : Prop := Claim7.holds Tryz.pinned (.plain (OpenSpec.ofChange aggPartsSpec)) aggPartsCard

/-- THE TIED CARD OF 'louvrelaw16.AggFinds'. -/
def aggFindsCard : Claim7 := { stood := { row := aggFindsRow, standIns := [], harness := (true, "30c6a06cc591ecf64db396f563d12e8e74dc28a00db673817544fd851996db2c"), looks := false }, kinds := [], alts := [], laidByText := true, laidKinds := [.data, .pinned], laidTests := true, laidLooks := .later }
def AggFindsCardSaid : Prop := Claim7.holds Tryz.pinned (.plain (OpenSpec.ofChange aggFindsSpec)) aggFindsCard

/-- THE TIED CARD OF 'louvrelaw16.AggNumbers'. -/
def aggNumbersCard : Claim7 := { stood := { row := aggNumbersRow, standIns := [], harness := (true, "30c6a06cc591ecf64db396f563d12e8e74dc28a00db673817544fd851996db2c"), looks := false }, kinds := [], alts := [], laidByText := true, laidKinds := [.data, .pinned], laidTests := true, laidLooks := .later }
def AggNumbersCardSaid : Prop := Claim7.holds Tryz.pinned (.plain (OpenSpec.ofChange aggNumbersSpec)) aggNumbersCard

/-- THE TIED CARD OF 'louvrelaw16.AggExamples'. -/
def aggExamplesCard : Claim7 := { stood := { row := aggExamplesRow, standIns := [], harness := (true, "30c6a06cc591ecf64db396f563d12e8e74dc28a00db673817544fd851996db2c"), looks := false }, kinds := [], alts := [], laidByText := true, laidKinds := [.data, .pinned], laidTests := true, laidLooks := .later }
def AggExamplesCardSaid : Prop := Claim7.holds Tryz.pinned (.plain (OpenSpec.ofChange aggExamplesSpec)) aggExamplesCard

/-- THE TIED CARD OF 'louvrelaw16.AggOrder'. -/
def aggOrderCard : Claim7 := { stood := { row := aggOrderRow, standIns := [], harness := (true, "30c6a06cc591ecf64db396f563d12e8e74dc28a00db673817544fd851996db2c"), looks := false }, kinds := [], alts := [], laidByText := true, laidKinds := [.data, .pinned], laidTests := true, laidLooks := .later }
def AggOrderCardSaid : Prop := Claim7.holds Tryz.pinned (.plain (OpenSpec.ofChange aggOrderSpec)) aggOrderCard

/-- THE TIED CARD OF 'louvrelaw16.AggRanks'. -/
def aggRanksCard : Claim7 := { stood := { row := aggRanksRow, standIns := [], harness := (true, "30c6a06cc591ecf64db396f563d12e8e74dc28a00db673817544fd851996db2c"), looks := false }, kinds := [], alts := [], laidByText := true, laidKinds := [.data, .pinned], laidTests := true, laidLooks := .later }
def AggRanksCardSaid : Prop := Claim7.holds Tryz.pinned (.plain (OpenSpec.ofChange aggRanksSpec)) aggRanksCard

/-- THE SECOND FORM's CARD OF 'louvrelaw14.FtextCalls'. -/
def ftextCallsUptoCard : Claim7 := { stood := { row := ftextCallsUptoRow, standIns := [], harness := (true, "30c6a06cc591ecf64db396f563d12e8e74dc28a00db673817544fd851996db2c"), looks := false }, kinds := [], alts := [], laidByText := true, laidKinds := [.data, .pinned], laidTests := true, laidLooks := .later }
def FtextCallsUptoCardSaid : Prop := Claim7.holds Tryz.pinned (.plain (OpenSpec.upto ftextCallsSpec)) ftextCallsUptoCard

/-- THE SECOND FORM's CARD OF 'louvrelaw14.FtextExamples'. -/
def ftextExamplesUptoCard : Claim7 := { stood := { row := ftextExamplesUptoRow, standIns := [], harness := (true, "30c6a06cc591ecf64db396f563d12e8e74dc28a00db673817544fd851996db2c"), looks := false }, kinds := [], alts := [], laidByText := true, laidKinds := [.data, .pinned], laidTests := true, laidLooks := .later }
def FtextExamplesUptoCardSaid : Prop := Claim7.holds Tryz.pinned (.plain (OpenSpec.upto ftextExamplesSpec)) ftextExamplesUptoCard

/-- THE SECOND FORM's CARD OF 'louvrelaw13.FnumCalls'. -/
def fnumCallsUptoCard : Claim7 := { stood := { row := fnumCallsUptoRow, standIns := [], harness := (true, "30c6a06cc591ecf64db396f563d12e8e74dc28a00db673817544fd851996db2c"), looks := false }, kinds := [], alts := [], laidByText := true, laidKinds := [.data, .pinned], laidTests := true, laidLooks := .later }
def FnumCallsUptoCardSaid : Prop := Claim7.holds Tryz.pinned (.plain (OpenSpec.upto fnumCallsSpec)) fnumCallsUptoCard

/-- THE SECOND FORM's CARD OF 'louvrelaw13.FnumBinaries'. -/
def fnumBinariesUptoCard : Claim7 := { stood := { row := fnumBinariesUptoRow, standIns := [], harness := (true, "30c6a06cc591ecf64db396f563d12e8e74dc28a00db673817544fd851996db2c"), looks := false }, kinds := [], alts := [], laidByText := true, laidKinds := [.data, .pinned], laidTests := true, laidLooks := .later }
def FnumBinariesUptoCardSaid : Prop := Claim7.holds Tryz.pinned (.plain (OpenSpec.upto fnumBinariesSpec)) fnumBinariesUptoCard

/-- THE SECOND FORM's CARD OF 'louvrelaw13.FnumSigns'. -/
def fnumSignsUptoCard : Claim7 := { stood := { row := fnumSignsUptoRow, standIns := [], harness := (true, "30c6a06cc591ecf64db396f563d12e8e74dc28a00db673817544fd851996db2c"), looks := false }, kinds := [], alts := [], laidByText := true, laidKinds := [.data, .pinned], laidTests := true, laidLooks := .later }
def FnumSignsUptoCardSaid : Prop := Claim7.holds Tryz.pinned (.plain (OpenSpec.upto fnumSignsSpec)) fnumSignsUptoCard

/-- THE SECOND FORM's CARD OF 'louvrelaw13.FnumExamples'. -/
def fnumExamplesUptoCard : Claim7 := { stood := { row := fnumExamplesUptoRow, standIns := [], harness := (true, "30c6a06cc591ecf64db396f563d12e8e74dc28a00db673817544fd851996db2c"), looks := false }, kinds := [], alts := [], laidByText := true, laidKinds := [.data, .pinned], laidTests := true, laidLooks := .later }
def FnumExamplesUptoCardSaid : Prop := Claim7.holds Tryz.pinned (.plain (OpenSpec.upto fnumExamplesSpec)) fnumExamplesUptoCard

/-- THE SECOND FORM's CARD OF 'louvrelaw13.FnumErrors'. -/
def fnumErrorsUptoCard : Claim7 := { stood := { row := fnumErrorsUptoRow, standIns := [], harness := (true, "30c6a06cc591ecf64db396f563d12e8e74dc28a00db673817544fd851996db2c"), looks := false }, kinds := [], alts := [], laidByText := true, laidKinds := [.data, .pinned], laidTests := true, laidLooks := .later }
def FnumErrorsUptoCardSaid : Prop := Claim7.holds Tryz.pinned (.plain (OpenSpec.upto fnumErrorsSpec)) fnumErrorsUptoCard

/-- THE SECOND FORM's CARD OF 'louvrelaw13.FnumOrder'. -/
def fnumOrderUptoCard : Claim7 := { stood := { row := fnumOrderUptoRow, standIns := [], harness := (true, "30c6a06cc591ecf64db396f563d12e8e74dc28a00db673817544fd851996db2c"), looks := false }, kinds := [], alts := [], laidByText := true, laidKinds := [.data, .pinned], laidTests := true, laidLooks := .later }
def FnumOrderUptoCardSaid : Prop := Claim7.holds Tryz.pinned (.plain (OpenSpec.upto fnumOrderSpec)) fnumOrderUptoCard

/-- THE SECOND FORM's CARD OF 'louvrelaw13.FnumMods'. -/
def fnumModsUptoCard : Claim7 := { stood := { row := fnumModsUptoRow, standIns := [], harness := (true, "30c6a06cc591ecf64db396f563d12e8e74dc28a00db673817544fd851996db2c"), looks := false }, kinds := [], alts := [], laidByText := true, laidKinds := [.data, .pinned], laidTests := true, laidLooks := .later }
def FnumModsUptoCardSaid : Prop := Claim7.holds Tryz.pinned (.plain (OpenSpec.upto fnumModsSpec)) fnumModsUptoCard

/-- THE SECOND FORM's CARD OF 'louvrelaw13.FnumRounds'. -/
def fnumRoundsUptoCard : Claim7 := { stood := { row := fnumRoundsUptoRow, standIns := [], harness := (true, "30c6a06cc591ecf64db396f563d12e8e74dc28a00db673817544fd851996db2c"), looks := false }, kinds := [], alts := [], laidByText := true, laidKinds := [.data, .pinned], laidTests := true, laidLooks := .later }
def FnumRoundsUptoCardSaid : Prop := Claim7.holds Tryz.pinned (.plain (OpenSpec.upto fnumRoundsSpec)) fnumRoundsUptoCard

/-- THE SECOND FORM's CARD OF 'louvrelaw16.AggCalls'. -/
def aggCallsUptoCard : Claim7 := { stood := { row := aggCallsUptoRow, standIns := [], harness := (true, "30c6a06cc591ecf64db396f563d12e8e74dc28a00db673817544fd851996db2c"), looks := false }, kinds := [], alts := [], laidByText := true, laidKinds := [.data, .pinned], laidTests := true, laidLooks := .later }
def AggCallsUptoCardSaid : Prop := Claim7.holds Tryz.pinned (.plain (OpenSpec.upto aggCallsSpec)) aggCallsUptoCard

/-- THE SECOND FORM's CARD OF 'louvrelaw16.AggParts'. -/
def aggPartsUptoCard : Claim7 := { stood := { row := aggPartsUptoRow, standIns := [], harness := (true, "30c6a06cc591ecf64db396f563d12e8e74dc28a00db673817544fd851996db2c"), looks := false }, kinds := [], alts := [], laidByText := true, laidKinds := [.data, .pinned], laidTests := true, laidLooks := .later }
def AggPartsUptoCardSaid : Prop := Claim7.holds Tryz.pinned (.plain (OpenSpec.upto aggPartsSpec)) aggPartsUptoCard

/-- THE SECOND FORM's CARD OF 'louvrelaw16.AggFinds'. -/
def aggFindsUptoCard : Claim7 := { stood := { row := aggFindsUptoRow, standIns := [], harness := (true, "30c6a06cc591ecf64db396f563d12e8e74dc28a00db673817544fd851996db2c"), looks := false }, kinds := [], alts := [], laidByText := true, laidKinds := [.data, .pinned], laidTests := true, laidLooks := .later }
def AggFindsUptoCardSaid : Prop := Claim7.holds Tryz.pinned (.plain (OpenSpec.upto aggFindsSpec)) aggFindsUptoCard

/-- THE SECOND FORM's CARD OF 'louvrelaw16.AggNumbers'. -/
def aggNumbersUptoCard : Claim7 := { stood := { row := aggNumbersUptoRow, standIns := [], harness := (true, "30c6a06cc591ecf64db396f563d12e8e74dc28a00db673817544fd851996db2c"), looks := false }, kinds := [], alts := [], laidByText := true, laidKinds := [.data, .pinned], laidTests := true, laidLooks := .later }
def AggNumbersUptoCardSaid : Prop := Claim7.holds Tryz.pinned (.plain (OpenSpec.upto aggNumbersSpec)) aggNumbersUptoCard

/-- THE SECOND FORM's CARD OF 'louvrelaw16.AggExamples'. -/
def aggExamplesUptoCard : Claim7 := { stood := { row := aggExamplesUptoRow, standIns := [], harness := (true, "30c6a06cc591ecf64db396f563d12e8e74dc28a00db673817544fd851996db2c"), looks := false }, kinds := [], alts := [], laidByText := true, laidKinds := [.data, .pinned], laidTests := true, laidLooks := .later }
def AggExamplesUptoCardSaid : Prop := Claim7.holds Tryz.pinned (.plain (OpenSpec.upto aggExamplesSpec)) aggExamplesUptoCard

/-- THE SECOND FORM's CARD OF 'louvrelaw16.AggOrder'. -/
def aggOrderUptoCard : Claim7 := { stood := { row := aggOrderUptoRow, standIns := [], harness := (true, "30c6a06cc591ecf64db396f563d12e8e74dc28a00db673817544fd851996db2c"), looks := false }, kinds := [], alts := [], laidByText := true, laidKinds := [.data, .pinned], laidTests := true, laidLooks := .later }
def AggOrderUptoCardSaid : Prop := Claim7.holds Tryz.pinned (.plain (OpenSpec.upto aggOrderSpec)) aggOrderUptoCard

/-- THE SECOND FORM's CARD OF 'louvrelaw16.AggRanks'. -/
def aggRanksUptoCard : Claim7 := { stood := { row := aggRanksUptoRow, standIns := [], harness := (true, "30c6a06cc591ecf64db396f563d12e8e74dc28a00db673817544fd851996db2c"), looks := false }, kinds := [], alts := [], laidByText := true, laidKinds := [.data, .pinned], laidTests := true, laidLooks := .later }
def AggRanksUptoCardSaid : Prop := Claim7.holds Tryz.pinned (.plain (OpenSpec.upto aggRanksSpec)) aggRanksUptoCard
end Rows
end Go.Proofs.YtbpkfnoenkoabaaGreatDoor
