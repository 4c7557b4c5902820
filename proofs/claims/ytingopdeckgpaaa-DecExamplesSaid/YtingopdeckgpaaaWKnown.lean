/- The fixed numbers that the statements check beside: known() is true. -/
import Derived.Test.YtingopdeckgpaaaWText2
import Derived.Test.YtingopdeckgpaaaWSum4
namespace Go.Proofs.Ytingopdeckgpaaa
set_option linter.unusedVariables false
set_option linter.unusedSimpArgs false
open Go.RowKit Lv

theorem known_any (w : World) : Calls Try.prog 25 #[] w fun e w' => e = .returned (.bool true) ∧ Kept w w' := by
  have M := fun w => mul_any 25000 30000 w ⟨by omega, by omega⟩ ⟨by omega, by omega⟩
  rw [show dMul 25000 30000 = (75000, true) from by decide] at M
  have h64 : All64 [10000, 30000] := by
    intro x hx
    simp at hx
    rcases hx with rfl | rfl <;> exact ⟨by omega, by omega⟩
  have N : ∀ A cap w, Row w A [10000, 30000] → Calls Try.prog 28 #[.slice A 2 cap] w fun e w' => e = .returned (.tuple #[.int .i64 (dMean [10000, 30000]).1, .bool (dMean [10000, 30000]).2]) ∧ Kept w w' := fun A cap w hr => mean_any A cap [10000, 30000] w hr h64 (by simp)
  rw [show dMean [10000, 30000] = (20000, true) from by decide] at N
  have F := fun w => format_any 12500 w ⟨by omega, by omega⟩
  rw [fmt_12500] at F
  have HM := Lib.hid M
  have HN := Lib.hid N
  have HF := Lib.hid F
  clear M N F h64
  go_enter Try.func25, Try.ntmps25
  go_wp2_with fail
  refine (HM.out _).mono ?_
  rintro e w' ⟨rfl, n, rfl⟩
  go_wp2_with fail
  refine (HN.out _ _ _ ?hr).mono ?_
  case hr =>
    refine Row.box (g := w.heap.size) (t := 2) (cs := #[.int .i64 10000, .int .i64 30000]) (by repeat (first | with_reducible assumption | (with_reducible refine Box.newAt ?_ _ _; (simp; done)) | with_reducible apply Box.drew | with_reducible apply Box.drewN | (with_reducible refine Box.alloc ?_ _) | (with_reducible apply Box.s20) | (with_reducible apply Box.s21) | (with_reducible apply Box.s1) | (with_reducible apply Box.s40) | (with_reducible apply Box.s41) | (with_reducible apply Box.s42) | (with_reducible apply Box.s43) | (with_reducible refine Box.farX ?_ ?_ _; focus (first | (simp; done) | (simp; omega))))) ?_
    intro i hi
    match i, hi with
    | 0, _ => rfl
    | 1, _ => rfl
  rintro e w1 ⟨rfl, k1⟩
  go_wp2_with fail
  refine (HF.out _).mono ?_
  rintro e w' ⟨rfl, k2⟩
  go_wp2_with fail
  go_ret
  exact ⟨rfl, (by repeat (first | with_reducible exact Kept.refl _ | with_reducible apply Kept.drew | with_reducible apply Kept.drewN | with_reducible apply Kept.alloc | (with_reducible refine Kept.setCellX ?_ ?_ _; focus (first | (simp; done) | (simp; omega))) | (with_reducible refine Kept.trans ?_ (by assumption))))⟩
end Go.Proofs.Ytingopdeckgpaaa
