/- The law DecRoots, walked. -/
import Derived.Test.YtingopdeckgpaaaWAbove
import Derived.Test.YtingopdeckgpaaaWSqrt
import Derived.Test.YtingopdeckgpaaaWArgs
namespace Go.Proofs.Ytingopdeckgpaaa
set_option linter.unusedVariables false
set_option linter.unusedSimpArgs false
open Go.RowKit Lv

set_option maxHeartbeats 400000 in
theorem DecRoots_walk (a0 : Int) (w0 : (Lit.int .i64 a0).wf = true) (w : World) :
    Calls Try.prog 8 #[.int .i64 a0] w fun e w' => e = .returned (.bool true) ∧ Below w.heap.size w w' := by
  have h0 := i64_of_lit w0
  clear w0
  have K := Lib.hid known_any
  have Q := fun w => sqrt_any a0 w h0
  by_cases c : a0 < 0
  · rw [show dSqrt a0 = (0, false) from if_pos c] at Q
    have HQ := Lib.hid Q
    clear Q
    obtain ⟨h1, h2⟩ := h0
    go_enter Try.func8, Try.ntmps8
    go_wp2_with fail
    refine (HQ.out _).mono ?_
    rintro e w' ⟨rfl, rfl⟩
    go_wp2_with fail
    refine (K.out _).mono ?_
    rintro e w' ⟨rfl, k1⟩
    go_wp2_with fail
    go_ret
    exact ⟨rfl, (by repeat (first | with_reducible exact Kept.refl _ | with_reducible apply Kept.drew | with_reducible apply Kept.drewN | with_reducible apply Kept.alloc | (with_reducible refine Kept.setCellX ?_ ?_ _; focus (first | (simp; done) | (simp; omega))) | (with_reducible refine Kept.trans ?_ (by assumption))))⟩
  · rw [show dSqrt a0 = ((root a0 : Int), true) from if_neg c] at Q
    have sp := root_spec (a := a0) (by omega)
    have le := root_le h0 (by omega)
    obtain ⟨h1, h2⟩ := h0
    have g0 : 0 ≤ (root a0 : Int) := by omega
    generalize (root a0 : Int) = r at *
    have A1 := fun w => above_any r a0 w g0 (by omega) (by omega) (by omega)
    have A2 := fun w => above_any (r + 1) a0 w (by omega) (by omega) (by omega) (by omega)
    rw [show decide (a0 * 10000 < r * r) = false from decide_eq_false (by have := sp.1; omega)] at A1
    rw [show decide (a0 * 10000 < (r + 1) * (r + 1)) = true from decide_eq_true sp.2] at A2
    have HQ := Lib.hid Q
    have H1 := Lib.hid A1
    have H2 := Lib.hid A2
    clear Q A1 A2 sp
    go_enter Try.func8, Try.ntmps8
    go_wp2_with fail
    refine (HQ.out _).mono ?_
    rintro e w' ⟨rfl, rfl⟩
    go_wp2_with fail
    refine (H1.out _).mono ?_
    rintro e w' ⟨rfl, rfl⟩
    go_wp2_with fail
    refine (H2.out _).mono ?_
    rintro e w' ⟨rfl, rfl⟩
    go_wp2_with fail
    refine (K.out _).mono ?_
    rintro e w' ⟨rfl, k1⟩
    go_wp2_with fail
    go_ret
    exact ⟨rfl, (by repeat (first | with_reducible exact Kept.refl _ | with_reducible apply Kept.drew | with_reducible apply Kept.drewN | with_reducible apply Kept.alloc | (with_reducible refine Kept.setCellX ?_ ?_ _; focus (first | (simp; done) | (simp; omega))) | (with_reducible refine Kept.trans ?_ (by assumption))))⟩
end Go.Proofs.Ytingopdeckgpaaa
