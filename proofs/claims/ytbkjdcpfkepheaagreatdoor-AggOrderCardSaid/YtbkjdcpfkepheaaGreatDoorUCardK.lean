/- Closed facts that every tied card of this seat asks: the main module, the looks, the program's own. -/
import Derived.Test.YtbkjdcpfkepheaaGreatDoorCards
import Derived.Test.YtbkjdcpfkepheaaGreatDoorRows
import Derived.JoinedOf
import Derived.ProofKit
namespace Go.Proofs.YtbkjdcpfkepheaaGreatDoor
open Go.ChangeShapes Go.WideShapes Go.ChangeAt Go.RowKit
theorem card_main : Tryz.pinned.checked.prog.mainIs = some ((true, "52ad84f54f18c672dabbd8f9703a819174e834668a0cbf91661f9eb63f4e0eb5").1, (true, "52ad84f54f18c672dabbd8f9703a819174e834668a0cbf91661f9eb63f4e0eb5").2.toList) := by kernel_rfl
theorem card_looks : false = Tryz.prog.looks [] := by kernel_rfl
theorem card_and {a b : Bool} (h : a = true) (g : b = true) : (a && b) = true := by rw [h, g]; rfl
theorem card_k2 : (laidOutB Tryz.pinned.checked.prog) = true := by kernel_rfl
theorem card_k3 : (mapsRowed Tryz.pinned.checked.prog) = true := by kernel_rfl
theorem card_k7 : ((Tryz.pinned.checked.prog.stops == [])) = true := by kernel_rfl
theorem card_k9 : ((Tryz.pinned.checked.prog.stopKnobs == [])) = true := by kernel_rfl
theorem card_k23 : ((Rows.aggCallsRow.plainKeys == Tryz.pinned.checked.prog.plainKeys)) = true := by kernel_rfl
theorem card_k25 : (Tryz.pinned.checked.prog.stopsHeard) = true := by kernel_rfl
theorem card_k26 : (Tryz.pinned.checked.prog.mayEnter) = true := by kernel_rfl
theorem card_k27 : ((Rows.aggCallsRow.lifted == Tryz.pinned.checked.prog.liftsFinal)) = true := by kernel_rfl
theorem card_k28 : ((Tryz.pinned.checked.prog.make == some Rows.aggCallsRow.make)) = true := by kernel_rfl
end Go.Proofs.YtbkjdcpfkepheaaGreatDoor
