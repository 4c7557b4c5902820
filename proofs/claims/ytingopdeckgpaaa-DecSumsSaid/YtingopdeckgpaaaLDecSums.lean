/- The law DecSums, walked: Add, Sub and Neg return what the reference returns. -/
import Derived.Test.YtingopdeckgpaaaWRef4
namespace Go.Proofs.Ytingopdeckgpaaa
set_option linter.unusedVariables false
set_option linter.unusedSimpArgs false
open Go.RowKit Lv

theorem i64_of_wf' {a : Int} (h : (Lit.int .i64 a).wf = true) : i64 a := by
  have := Go.bounds_i64 h
  unfold i64; omega

theorem DecSums_walk (a0 : Int) (a1 : Int) (w0 : (Lit.int .i64 a0).wf = true) (w1 : (Lit.int .i64 a1).wf = true) (w : World) :
    Calls Try.prog 3 #[.int .i64 a0, .int .i64 a1] w fun e w' => e = .returned (.bool true) ∧ Below w.heap.size w w' := by
  have h0 := i64_of_wf' w0
  have h1 := i64_of_wf' w1
  have M := Lib.hid (fun w => add2_any a0 a1 w h0 h1)
  have M' := Lib.hid (fun w => radd2_any a0 a1 w h0 h1)
  have Q := Lib.hid (fun w => sub2_any a0 a1 w h0 h1)
  have Q' := Lib.hid (fun w => rsub_any a0 a1 w h0 h1)
  have N := Lib.hid (fun w => neg_any a0 w h0)
  have N' := Lib.hid (fun w => rneg_any a0 w h0)
  have e1 : ((dSum [a0, a1]).1 != (dSum [a0, a1]).1) = false := by simp
  have e2 : ((dSum [a0, a1]).2 != (dSum [a0, a1]).2) = false := by simp
  have e3 : ((fit (a0 - a1)).1 != (fit (a0 - a1)).1) = false := by simp
  have e4 : ((fit (a0 - a1)).2 != (fit (a0 - a1)).2) = false := by simp
  have e5 : ((dNeg a0).1 == (dNeg a0).1) = true := by simp
  have e6 : ((dNeg a0).2 == (dNeg a0).2) = true := by simp
  generalize dSum [a0, a1] = p at *
  generalize fit (a0 - a1) = q at *
  generalize dNeg a0 = r at *
  clear w0 w1 h0 h1
  go_enter Try.func3, Try.ntmps3
  go_wp2_with fail
  refine (M.out _).mono ?_
  rintro e w' ⟨rfl, k1⟩
  go_wp2_with fail
  refine (M'.out _).mono ?_
  rintro e w' ⟨rfl, k2⟩
  go_wp2_with fail
  refine (Q.out _).mono ?_
  rintro e w' ⟨rfl, k3⟩
  go_wp2_with fail
  refine (Q'.out _).mono ?_
  rintro e w' ⟨rfl, k4⟩
  go_wp2_with fail
  refine (N.out _).mono ?_
  rintro e w' ⟨rfl, n, rfl⟩
  go_wp2_with fail
  refine (N'.out _).mono ?_
  rintro e w' ⟨rfl, k5⟩
  go_wp2_with fail
  go_ret
  exact ⟨rfl, (by repeat (first | with_reducible exact Kept.refl _ | with_reducible apply Kept.drew | with_reducible apply Kept.drewN | with_reducible apply Kept.alloc | (with_reducible refine Kept.setCellX ?_ ?_ _; focus (first | (simp; done) | (simp; omega))) | (with_reducible refine Kept.trans ?_ (by assumption))))⟩
end Go.Proofs.Ytingopdeckgpaaa
