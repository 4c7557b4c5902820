/- Few, of values that lie in a block of the call's own. -/
import Derived.Test.YtbpkfnoenkoabaaGreatDoorFgGAwake13
import Derived.Test.YtbpkfnoenkoabaaGreatDoorFgMixAT
namespace Go.Proofs.YtbpkfnoenkoabaaGreatDoor
set_option linter.unusedVariables false
set_option linter.unusedSimpArgs false
open Go.RowKit Lv
theorem rowV_own {w : World} {base n c : Nat} {A : Option Addr} {l : List Vl} (h : w.ownsRow base 25 3 (.slice A n c) l.length (flatV l)) : RowV w A l := by
  obtain ⟨A2, c2, e, r, _⟩ := OwnV.row (l := l) h
  cases e
  exact r
theorem few_own (g : Nat) (l : List Vl) (w : World) (h : w.heap[g]? = some (rowObj l)) (hw : ∀ v ∈ l, Wide v) (hl : l.length ≤ 20) : Calls Tryz.prog 20 #[.slice (some ⟨g, 0, none⟩) l.length l.length] w fun e w' => ∃ v, e = .returned v ∧ w'.ownsRow w.heap.size 25 3 v (few l).length (flatV (few l)) ∧ Kept w w' :=
  few_any (some ⟨g, 0, none⟩) l.length l.length l w ⟨rowObj_row h, rfl, Nat.le_refl _, Nat.le_trans hl (by decide), hw, (fun e => by cases e), (fun a e _ => by cases e; exact ⟨g, 0, rfl⟩)⟩
theorem cut_small {v : Vl} (h : Wide v) : Small (cut300 v) := ⟨h.2.1, Nat.le_trans (by show (v.t.take 300).length ≤ 300; rw [List.length_take]; omega) (by decide)⟩
theorem en_louvrelaw13_Few : En 20 := by intro args w; go_simp
theorem en_louvrelaw13_awake : En 29 := by intro args w; go_simp
end Go.Proofs.YtbpkfnoenkoabaaGreatDoor
