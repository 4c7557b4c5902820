/-
  DERIVED. GIVEN WITH THE SEED: THE CARDS: each row of YtbkjdcpfkepheaaGreatDoorRows.lean that lists a variable, with what it lists TIED to the program's text (the seventh form; the later family's looks); each row that meets fmt, with fmt's text TOLD by the authors' own Lean function (tested against real Go, not proved from fmt's source: count such statements apart). THE CARD IS WHAT COUNTS. Prove the row's statement (the work); the ties are given (YtbkjdcpfkepheaaGreatDoorTie.lean); close each card by the builder's one call (the guide's Derived/Test/ToyasCard.lean, 'card_holds'). Laid BY PROGRAM, IN A SANDBOX (cutbox-door.mjs). By AI agents, Wed Nov 11 2026. No macro, syntax, notation, axiom, sorry.
-/
import Derived.Test.YtbkjdcpfkepheaaGreatDoorRows
import GoSem.ClaimSeven
namespace Go.Proofs.YtbkjdcpfkepheaaGreatDoor
namespace Rows

/-- THE TIED CARD OF 'louvrelaw16.AggCalls'. -/
def aggCallsCard : Claim7 := { stood := { row := aggCallsRow, standIns := [], harness := (true, "52ad84f54f18c672dabbd8f9703a819174e834668a0cbf91661f9eb63f4e0eb5"), looks := false }, kinds := [], alts := [], laidByText := true, laidKinds := [.data, .pinned], laidTests := true, laidLooks := .later }
def AggCallsCardSaid : Prop := Claim7.holds Tryz.pinned (.plain (OpenSpec.ofChange aggCallsSpec)) aggCallsCard

/-- THE TIED CARD OF 'louvrelaw16.AggParts'. -/
def aggPartsCard : Claim7 := { stood := { row := aggPartsRow, standIns := [], harness := (true, "52ad84f54f18c672dabbd8f9703a819174e834668a0cbf91661f9eb63f4e0eb5"), looks := false }, kinds := [], alts := [], laidByText := true, laidKinds := [.data, .pinned], laidTests := true, laidLooks := .later }
def AggPartsCardSaid : Prop := Claim7.holds Tryz.pinned (.plain (OpenSpec.ofChange aggPartsSpec)) aggPartsCard

/-- THE TIED CARD OF 'louvrelaw16.AggFinds'. -/
def aggFindsCard : Claim7 := { stood := { row := aggFindsRow, standIns := [], harness := (true, "52ad84f54f18c672dabbd8f9703a819174e834668a0cbf91661f9eb63f4e0eb5"), looks := false }, kinds := [], alts := [], laidByText := true, laidKinds := [.data, .pinned], laidTests := true, laidLooks := .later }
def AggFindsCardSaid : Prop := Claim7.holds Tryz.pinned (.plain (OpenSpec.ofChange aggFindsSpec)) aggFindsCard

/-- THE TIED CARD OF 'louvrelaw16.AggNumbers'. -/
def aggNumbersCard : Claim7 := { stood := { row := aggNumbersRow, standIns := [], harness := (true, "52ad84f54f18c672dabbd8f9703a819174e834668a0cbf91661f9eb63f4e0eb5"), looks := false }, kinds := [], alts := [], laidByText := true, laidKinds := [.data, .pinned], laidTests := true, laidLooks := .later }
def AggNumbersCardSaid : Prop := Claim7.holds Tryz.pinned (.plain (OpenSpec.ofChange aggNumbersSpec)) aggNumbersCard

/-- THE TIED CARD OF 'louvrelaw16.AggExamples'. -/
def aggExamplesCard : Claim7 := { stood := { row := aggExamplesRow, standIns := [], harness := (true, "52ad84f54f18c672dabbd8f9703a819174e834668a0cbf91661f9eb63f4e0eb5"), looks := false }, kinds := [], alts := [], laidByText := true, laidKinds := [.data, .pinned], laidTests := true, laidLooks := .later }
def AggExamplesCardSaid : Prop := Claim7.holds Tryz.pinned (.plain (OpenSpec.ofChange aggExamplesSpec)) aggExamplesCard

/-- THE TIED CARD OF 'louvrelaw16.AggOrder'. -/
def aggOrderCard : Claim7 := { stood := { row := aggOrderRow, standIns := [], harness := (true, "52ad84f54f18c672dabbd8f9703a819174e834668a0cbf91661f9eb63f4e0eb5"), looks := false }, kinds := [], alts := [], laidByText := true, laidKinds := [.data, .pinned], laidTests := true, laidLooks := .later }
def AggOrderCardSaid : Prop := Claim7.holds Tryz.pinned (.plain (OpenSpec.ofChange aggOrderSpec)) aggOrderCard

/-- THE TIED CARD OF 'louvrelaw16.AggRanks'. -/
def aggRanksCard : Claim7 := { stood := { row := aggRanksRow, standIns := [], harness := (true, "52ad84f54f18c672dabbd8f9703a819174e834668a0cbf91661f9eb63f4e0eb5"), looks := false }, kinds := [], alts := [], laidByText := true, laidKinds := [.data, .pinned], laidTests := true, laidLooks := .later }
def AggRanksCardSaid : Prop := Claim7.holds Tryz.pinned (.plain (OpenSpec.ofChange aggRanksSpec)) aggRanksCard

/-- THE SECOND FORM's CARD OF 'louvrelaw16.AggCalls'. -/
def aggCallsUptoCard : Claim7 := { stood := { row := aggCallsUptoRow, standIns := [], harness := (true, "52ad84f54f18c672dabbd8f9703a819174e834668a0cbf91661f9eb63f4e0eb5"), looks := false }, kinds := [], alts := [], laidByText := true, laidKinds := [.data, .pinned], laidTests := true, laidLooks := .later }
def AggCallsUptoCardSaid : Prop := Claim7.holds Tryz.pinned (.plain (OpenSpec.upto aggCallsSpec)) aggCallsUptoCard

/-- THE SECOND FORM's CARD OF 'louvrelaw16.AggParts'. -/
def aggPartsUptoCard : Claim7 := { stood := { row := aggPartsUptoRow, standIns := [], harness := (true, "52ad84f54f18c672dabbd8f9703a819174e834668a0cbf91661f9eb63f4e0eb5"), looks := false }, kinds := [], alts := [], laidByText := true, laidKinds := [.data, .pinned], laidTests := true, laidLooks := .later }
def AggPartsUptoCardSaid : Prop := Claim7.holds Tryz.pinned (.plain (OpenSpec.upto aggPartsSpec)) aggPartsUptoCard

/-- THE SECOND FORM's CARD OF 'louvrelaw16.AggFinds'. -/
def aggFindsUptoCard : Claim7 := { stood := { row := aggFindsUptoRow, standIns := [], harness := (true, "52ad84f54f18c672dabbd8f9703a819174e834668a0cbf91661f9eb63f4e0eb5"), looks := false }, kinds := [], alts := [], laidByText := true, laidKinds := [.data, .pinned], laidTests := true, laidLooks := .later }
def AggFindsUptoCardSaid : Prop := Claim7.holds Tryz.pinned (.plain (OpenSpec.upto aggFindsSpec)) aggFindsUptoCard

/-- THE SECOND FORM's CARD OF 'louvrelaw16.AggNumbers'. -/
def aggNumbersUptoCard : Claim7 := { stood := { row := aggNumbersUptoRow, standIns := [], harness := (true, "52ad84f54f18c672dabbd8f9703a819174e834668a0cbf91661f9eb63f4e0eb5"), looks := false }, kinds := [], alts := [], laidByText := true, laidKinds := [.data, .pinned], laidTests := true, laidLooks := .later }
def AggNumbersUptoCardSaid : Prop := Claim7.holds Tryz.pinned (.plain (OpenSpec.upto aggNumbersSpec)) aggNumbersUptoCard

/-- THE SECOND FORM's CARD OF 'louvrelaw16.AggExamples'. -/
def aggExamplesUptoCard : Claim7 := { stood := { row := aggExamplesUptoRow, standIns := [], harness := (true, "52ad84f54f18c672dabbd8f9703a819174e834668a0cbf91661f9eb63f4e0eb5"), looks := false }, kinds := [], alts := [], laidByText := true, laidKinds := [.data, .pinned], laidTests := true, laidLooks := .later }
def AggExamplesUptoCardSaid : Prop := Claim7.holds Tryz.pinned (.plain (OpenSpec.upto aggExamplesSpec)) aggExamplesUptoCard

/-- THE SECOND FORM's CARD OF 'louvrelaw16.AggOrder'. -/
def aggOrderUptoCard : Claim7 := { stood := { row := aggOrderUptoRow, standIns := [], harness := (true, "52ad84f54f18c672dabbd8f9703a819174e834668a0cbf91661f9eb63f4e0eb5"), looks := false }, kinds := [], alts := [], laidByText := true, laidKinds := [.data, .pinned], laidTests := true, laidLooks := .later }
def AggOrderUptoCardSaid : Prop := Claim7.holds Tryz.pinned (.plain (OpenSpec.upto aggOrderSpec)) aggOrderUptoCard

/-- THE SECOND FORM's CARD OF 'louvrelaw16.AggRanks'. -/
def aggRanksUptoCard : Claim7 := { stood := { row := aggRanksUptoRow, standIns := [], harness := (true, "52ad84f54f18c672dabbd8f9703a819174e834668a0cbf91661f9eb63f4e0eb5"), looks := false }, kinds := [], alts := [], laidByText := true, laidKinds := [.data, .pinned], laidTests := true, laidLooks := .later }
def AggRanksUptoCardSaid : Prop := Claim7.holds Tryz.pinned (.plain (OpenSpec.upto aggRanksSpec)) aggRanksUptoCard
end Rows
end Go.Proofs.YtbkjdcpfkepheaaGreatDoor
