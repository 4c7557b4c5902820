/- Closed facts that every tied card of this seat asks: the main module, the looks, the program's own. -/
import Derived.Test.YtbpkfnoenkoabaaGreatDoorCards
import Derived.Test.YtbpkfnoenkoabaaGreatDoorRows
import Derived.JoinedOf
import Derived.ProofKit
namespace Go.Proofs.YtbpkfnoenkoabaaGreatDoor
open Go.ChangeShapes Go.WideShapes Go.ChangeAt Go.RowKit
theorem card_main : Tryz.pinned.checked.prog.mainIs = some ((true, "30c6a06cc591ecf64db396f563d12e8e74dc28a00db673817544fd851996db2c").1, (true, "30c6a06cc591ecf64db396f563d12e8e74dc28a00db673817544fd851996db2c").2.toList) := by kernel_rfl
theorem card_looks : false = Tryz.prog.looks [] := by kernel_rfl
theorem card_and {a b : Bool} (h : a = true) (g : b = true) : (a && b) = true := by rw [h, g]; rfl
theorem card_k2 : (laidOutB Tryz.pinned.checked.prog) = true := by kernel_rfl
theorem card_k3 : (mapsRowed Tryz.pinned.checked.prog) = true := by kernel_rfl
theorem card_k7 : ((Tryz.pinned.checked.prog.stops == [])) = true := by kernel_rfl
theorem card_k9 : ((Tryz.pinned.checked.prog.stopKnobs == [])) = true := by kernel_rfl
theorem card_k23 : ((Rows.ftextCallsRow.plainKeys == Tryz.pinned.checked.prog.plainKeys)) = true := by kernel_rfl
theorem card_k25 : (Tryz.pinned.checked.prog.stopsHeard) = true := by kernel_rfl
theorem card_k26 : (Tryz.pinned.checked.prog.mayEnter) = true := by kernel_rfl
theorem card_k27 : ((Rows.ftextCallsRow.lifted == Tryz.pinned.checked.prog.liftsFinal)) = true := by kernel_rfl
theorem card_k28 : ((Tryz.pinned.checked.prog.make == some Rows.ftextCallsRow.make)) = true := by kernel_rfl
end Go.Proofs.YtbpkfnoenkoabaaGreatDoor
