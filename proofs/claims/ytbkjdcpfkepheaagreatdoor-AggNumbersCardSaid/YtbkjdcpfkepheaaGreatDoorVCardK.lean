/- Closed facts that every tied card of this seat asks: the main module, the looks, the program's own. -/
import Derived.Test.YtbkjdcpfkepheaaGreatDoorCards
import Derived.Test.YtbkjdcpfkepheaaGreatDoorRows
import Derived.JoinedOf
import Derived.ProofKit
namespace Go.Proofs.YtbkjdcpfkepheaaGreatDoor
section
open Go.ChangeShapes Go.WideShapes Go.ChangeAt Go.RowKit
theorem tK : Tryz.pinned.checked.prog.mainIs = some ((true, "52ad84f54f18c672dabbd8f9703a819174e834668a0cbf91661f9eb63f4e0eb5").1, (true, "52ad84f54f18c672dabbd8f9703a819174e834668a0cbf91661f9eb63f4e0eb5").2.toList) := by kernel_rfl
theorem sj : false = Tryz.prog.looks [] := by kernel_rfl
theorem aQ {a b : Bool} (h : a = true) (g : b = true) : (a && b) = true := by rw [h, g]; rfl
theorem zF : (laidOutB Tryz.pinned.checked.prog) = true := by kernel_rfl
theorem zG : (mapsRowed Tryz.pinned.checked.prog) = true := by kernel_rfl
theorem zH : ((Tryz.pinned.checked.prog.stops == [])) = true := by kernel_rfl
theorem zI : ((Tryz.pinned.checked.prog.stopKnobs == [])) = true := by kernel_rfl
theorem xq : ((Rows.aggCallsRow.plainKeys == Tryz.pinned.checked.prog.plainKeys)) = true := by kernel_rfl
theorem xr : (Tryz.pinned.checked.prog.stopsHeard) = true := by kernel_rfl
theorem xt : (Tryz.pinned.checked.prog.mayEnter) = true := by kernel_rfl
theorem xu : ((Rows.aggCallsRow.lifted == Tryz.pinned.checked.prog.liftsFinal)) = true := by kernel_rfl
theorem xv : ((Tryz.pinned.checked.prog.make == some Rows.aggCallsRow.make)) = true := by kernel_rfl
