/- Closed facts that every tied card of this seat asks: the main module, the looks, the program's own. -/
import Derived.Test.YtbpkfnoenkoabaaDoorCards
import Derived.Test.YtbpkfnoenkoabaaDoorRows
import Derived.JoinedOf
import Derived.ProofKit
namespace Go.Proofs.YtbpkfnoenkoabaaDoor
open Go.ChangeShapes Go.WideShapes Go.ChangeAt Go.RowKit
theorem card_main : Tryd.pinned.checked.prog.mainIs = some ((true, "b0da766cad95af2c7676d5f9767815b49833987296a09893aefd2874d4688b2c").1, (true, "b0da766cad95af2c7676d5f9767815b49833987296a09893aefd2874d4688b2c").2.toList) := by kernel_rfl
theorem card_looks : false = Tryd.prog.looks [] := by kernel_rfl
theorem card_and {a b : Bool} (h : a = true) (g : b = true) : (a && b) = true := by rw [h, g]; rfl
theorem card_k2 : (laidOutB Tryd.pinned.checked.prog) = true := by kernel_rfl
theorem card_k3 : (mapsRowed Tryd.pinned.checked.prog) = true := by kernel_rfl
theorem card_k7 : ((Tryd.pinned.checked.prog.stops == [])) = true := by kernel_rfl
theorem card_k9 : ((Tryd.pinned.checked.prog.stopKnobs == [])) = true := by kernel_rfl
theorem card_k23 : ((Rows.ftextPiecesRow.plainKeys == Tryd.pinned.checked.prog.plainKeys)) = true := by kernel_rfl
theorem card_k25 : (Tryd.pinned.checked.prog.stopsHeard) = true := by kernel_rfl
theorem card_k26 : (Tryd.pinned.checked.prog.mayEnter) = true := by kernel_rfl
theorem card_k27 : ((Rows.ftextPiecesRow.lifted == Tryd.pinned.checked.prog.liftsFinal)) = true := by kernel_rfl
theorem card_k28 : ((Tryd.pinned.checked.prog.make == some Rows.ftextPiecesRow.make)) = true := by kernel_rfl
end Go.Proofs.YtbpkfnoenkoabaaDoor
