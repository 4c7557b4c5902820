/- Closed facts that every tied card of this seat asks: the main module, the looks, the program's own. -/
import Derived.Test.YtbkjdcpfkepheaaGreatDoorCards
import Derived.Test.YtbkjdcpfkepheaaGreatDoorRows
import Derived.JoinedOf
import Derived.ProofKit
namespace Go.Proofs.YtbkjdcpfkepheaaGreatDoor
section
open Go.ChangeShapes Go.WideShapes Go.ChangeAt Go.RowKit
theorem xj : Tryz.pinned.checked.prog.mainIs = some ((true, "52ad84f54f18c672dabbd8f9703a819174e834668a0cbf91661f9eb63f4e0eb5").1, (true, "52ad84f54f18c672dabbd8f9703a819174e834668a0cbf91661f9eb63f4e0eb5").2.toList) := by kernel_rfl
theorem vr : false = Tryz.prog.looks [] := by kernel_rfl
theorem bl {a b : Bool} (h : a = true) (g : b = true) : (a && b) = true := by rw [h, g]; rfl
theorem DX : (laidOutB Tryz.pinned.checked.prog) = true := by kernel_rfl
theorem DY : (mapsRowed Tryz.pinned.checked.prog) = true := by kernel_rfl
theorem DZ : ((Tryz.pinned.checked.prog.stops == [])) = true := by kernel_rfl
theorem D0 : ((Tryz.pinned.checked.prog.stopKnobs == [])) = true := by kernel_rfl
theorem Be : ((Rows.aggCallsRow.plainKeys == Tryz.pinned.checked.prog.plainKeys)) = true := by kernel_rfl
theorem Bf : (Tryz.pinned.checked.prog.stopsHeard) = true := by kernel_rfl
theorem Bg : (Tryz.pinned.checked.prog.mayEnter) = true := by kernel_rfl
theorem Bh : ((Rows.aggCallsRow.lifted == Tryz.pinned.checked.prog.liftsFinal)) = true := by kernel_rfl
theorem Bi : ((Tryz.pinned.checked.prog.make == some Rows.aggCallsRow.make)) = true := by kernel_rfl
