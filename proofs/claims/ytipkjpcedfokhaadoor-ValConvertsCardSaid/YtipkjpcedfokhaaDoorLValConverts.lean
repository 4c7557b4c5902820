/- The law ValConverts, walked. -/
import Derived.Test.YtipkjpcedfokhaaDoorBunC
namespace Go.Proofs.YtipkjpcedfokhaaDoor
set_option linter.unusedVariables false
set_option linter.unusedSimpArgs false
open Go.RowKit Lv

set_option maxHeartbeats 2000000 in
set_option maxRecDepth 100000 in
theorem ValConverts_walk (a0 : Vl) (w0 : i64 a0.n ∧ a0.t.length ≤ maxLen) (w : World) (mx : Int) (hm : Mx w mx) (wd : Wd w) :
    Calls Tryd.prog 18 #[aggV a0] w fun e w' => e = .returned (.bool true) ∧ Below w.heap.size w w' := by
  obtain ⟨k, n, t⟩ := a0
  obtain ⟨n1, t1⟩ := w0
  simp only at n1 t1
  unfold maxLen at t1
  have LA := Lib.hid (fun w => long_v k n t w (by omega))
  have K := Lib.hid (fun w h h' => known5_any w mx h h')
  have HM := Lib.hid hm
  have WD := Lib.hid wd
  clear hm wd
  by_cases c1 : 2000 < t.length
  · rw [decide_eq_true c1] at LA
    clear n1 t1 c1
    go_enter Tryd.func18, Tryd.ntmps18
    go_wp2_with fail
    refine (LA.out _).mono ?_
    rintro e w1 ⟨rfl, k1⟩
    have kk := ((Kept.refl w).alloc _).trans k1
    go_wp2_with fail
    refine (K.out _ (HM.out.kept kk) (WD.out.kept kk)).mono ?_
    rintro e w2 ⟨rfl, k2⟩
    go_wp2_with fail
    go_ret
    exact ⟨rfl, kk.trans k2⟩
  · rw [decide_eq_false c1] at LA
    have U1 : Hid (∀ w, Mx w mx → Calls Tryd.prog 65 #[aggV ⟨k, n, t⟩] w fun e w' => e = .returned (aggV (vNum ⟨k, n, t⟩)) ∧ Kept w w') := fun w h => tonum_any ⟨k, n, t⟩ w mx h n1 (by simp only; omega)
    have U2 := Lib.hid (fun w => rtonum_any ⟨k, n, t⟩ w n1 (by simp only; omega))
    have U3 := Lib.hid (fun w => totxt_any ⟨k, n, t⟩ w n1 (by simp only; omega))
    have U4 := Lib.hid (fun w => rtotxt_any ⟨k, n, t⟩ w n1 (by simp only; omega))
    have U5 := Lib.hid (fun w => tobool_any ⟨k, n, t⟩ w n1 (by simp only; omega))
    have U6 := Lib.hid (fun w => rtobool_any ⟨k, n, t⟩ w n1 (by simp only; omega))
    have B0 : Hid (∀ w : World, Box (w.alloc (.cells (cellsV ⟨k, n, t⟩) 35)) w.heap.size 35 (cellsV ⟨k, n, t⟩)) := fun w => Box.new w _ _
    generalize vNum ⟨k, n, t⟩ = x at *
    generalize vTxt ⟨k, n, t⟩ = y at *
    generalize vBool ⟨k, n, t⟩ = z at *
    clear n1 t1 c1 K WD
    go_enter Tryd.func18, Tryd.ntmps18
    go_wp2_with fail
    refine (LA.out _).mono ?_
    rintro e w1 ⟨rfl, k1⟩
    have kk := ((Kept.refl w).alloc _).trans k1
    have bx := (B0.out w).kept k1
    have HX : Hid (∀ d os, Mx (Go.Sort.grow (redrawn w1 d) os) mx) := fun d os => (HM.out.kept kk).kept (below_regrown w1 d os)
    have s0 : w1.cell? ⟨w.heap.size, 0, none⟩ = some (.int .u8 k) := bx.cell 0
    have s1 : w1.cell? ⟨w.heap.size, 1, none⟩ = some (.int .i64 n) := bx.cell 1
    have s2 : w1.cell? ⟨w.heap.size, 2, none⟩ = some (.string ⟨t.toArray⟩) := bx.cell 2
    clear bx
    go_wp2_with fail
    have A0 := cell_regrown s0; have A1 := cell_regrown s1; have A2 := cell_regrown s2
    refine wp_region_quiet_below (w := w1) (by kernel_rfl) (by kernel_rfl) ?_
    repeat (quiet_step (first | with_reducible exact Calls.regrown_of (U1.out _ (HX.out _ _)) | with_reducible exact Calls.regrown_of (U2.out _) | with_reducible exact Calls.regrown_of (U3.out _) | with_reducible exact Calls.regrown_of (U4.out _) | with_reducible exact Calls.regrown_of (U5.out _) | with_reducible exact Calls.regrown_of (U6.out _)))
    refine wpQuiet_nil ?_
    intro _ hw'; obtain ⟨⟨dq, osq⟩, hw''⟩ := hw'; subst hw''
    have kq : Kept w1 (Go.Sort.grow (redrawn w1 dq) osq) := below_regrown w1 dq osq
    generalize Go.Sort.grow (redrawn w1 dq) osq = w1q at *
    go_wp2_with fail
    go_ret
    exact ⟨rfl, kk.trans kq⟩
end Go.Proofs.YtipkjpcedfokhaaDoor
