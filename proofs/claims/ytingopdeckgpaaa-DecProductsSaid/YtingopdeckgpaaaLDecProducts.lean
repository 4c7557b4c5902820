/- The law DecProducts, walked: Mul and Quo return what the reference returns. -/
import Derived.Test.YtingopdeckgpaaaWRef2
namespace Go.Proofs.Ytingopdeckgpaaa
set_option linter.unusedVariables false
set_option linter.unusedSimpArgs false
open Go.RowKit Lv

theorem i64_of_wf {a : Int} (h : (Lit.int .i64 a).wf = true) : i64 a := by
  have := Go.bounds_i64 h
  unfold i64; omega
theorem beq_self_ (a : Int) : (a != a) = false := by simp
theorem bbeq_self_ (a : Bool) : (a != a) = false := by simp

theorem DecProducts_walk (a0 : Int) (a1 : Int) (w0 : (Lit.int .i64 a0).wf = true) (w1 : (Lit.int .i64 a1).wf = true) (w : World) :
    Calls Try.prog 4 #[.int .i64 a0, .int .i64 a1] w fun e w' => e = .returned (.bool true) ∧ Below w.heap.size w w' := by
  have h0 := i64_of_wf w0
  have h1 := i64_of_wf w1
  have M := Lib.hid (fun w => mul_any a0 a1 w h0 h1)
  have M' := Lib.hid (fun w => rmul_any a0 a1 w h0 h1)
  have Q := Lib.hid (fun w => quo_any a0 a1 w h0 h1)
  have Q' := Lib.hid (fun w => rquo_any a0 a1 w h0 h1)
  have e1 := beq_self_ (dMul a0 a1).1
  have e2 := bbeq_self_ (dMul a0 a1).2
  have e3 : ((dQuo a0 a1).1 == (dQuo a0 a1).1) = true := by simp
  have e4 : ((dQuo a0 a1).2 == (dQuo a0 a1).2) = true := by simp
  generalize dMul a0 a1 = p at *
  generalize dQuo a0 a1 = q at *
  clear w0 w1 h0 h1
  go_enter Try.func4, Try.ntmps4
  go_wp2_with fail
  refine (M.out _).mono ?_
  rintro e w' ⟨rfl, n, rfl⟩
  go_wp2_with fail
  refine (M'.out _).mono ?_
  rintro e w1 ⟨rfl, hk1⟩
  obtain ⟨hk1c, hk1f⟩ := bcell hk1
  have hk1z := Below.size hk1
  try simp only [World.size_alloc, World.size_setCell] at hk1z hk1c hk1f
  try have hk1x : w.heap.size ≤ w1.heap.size := by omega
  try have hk1y := Nat.lt_of_succ_le hk1z
  try have hk1x2 : w.heap.size < w1.heap.size := by omega
  go_wp2_with fail
  refine (Q.out _).mono ?_
  rintro e w' ⟨rfl, n2, rfl⟩
  go_wp2_with fail
  refine (Q'.out _).mono ?_
  rintro e w2 ⟨rfl, hk2⟩
  obtain ⟨hk2c, hk2f⟩ := bcell hk2
  have hk2z := Below.size hk2
  try simp only [World.size_alloc, World.size_setCell] at hk2z hk2c hk2f
  try have hk2x : w.heap.size ≤ w2.heap.size := by omega
  try have hk2y := Nat.lt_of_succ_le hk2z
  try have hk2x2 : w.heap.size < w2.heap.size := by omega
  go_wp2_with fail
  go_ret
  exact ⟨rfl, (by repeat (first | with_reducible exact Kept.refl _ | with_reducible apply Kept.drew | with_reducible apply Kept.drewN | with_reducible apply Kept.alloc | (with_reducible refine Kept.setCellX ?_ ?_ _; focus (first | (simp; done) | (simp; omega))) | (with_reducible refine Kept.trans ?_ (by assumption))))⟩
end Go.Proofs.Ytingopdeckgpaaa
