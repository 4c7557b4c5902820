/- Layer 5: Show of the program and of the reference, of every value. -/
import Derived.Test.YtipkjpcedfokhaaDoorBunC
namespace Go.Proofs.YtipkjpcedfokhaaDoor
set_option linter.unusedVariables false
set_option linter.unusedSimpArgs false
open Go.RowKit Lv

set_option maxHeartbeats 2000000 in
set_option maxRecDepth 100000 in
theorem show4_denied (w : World) (wd : Wd w) : Calls Tryd.prog 63 #[.agg #[.int .u8 4, .int .i64 7, .string ⟨#[]⟩]] w fun e w' => e = .returned (.string ⟨(name 7).toArray⟩) ∧ Kept w w' := by
  have F : Hid (∀ w, Calls Tryd.prog 61 #[.int .i64 7] w fun e w' => e = .returned (.agg #[.int .u8 4, .int .i64 7, .string ⟨#[]⟩]) ∧ Kept w w') := fun w => vfail_any 7 w
  have bx : Box (w.alloc (.cells #[.int .u8 4, .int .i64 7, .string ⟨#[]⟩] 35)) w.heap.size 35 #[.int .u8 4, .int .i64 7, .string ⟨#[]⟩] := Box.new w _ _
  have kk : Kept w (w.alloc (.cells #[.int .u8 4, .int .i64 7, .string ⟨#[]⟩] 35)) := (by repeat (first | with_reducible exact Kept.refl _ | with_reducible apply Kept.drew | with_reducible apply Kept.drewN | with_reducible apply Kept.alloc | (with_reducible refine Kept.setCellX ?_ ?_ _; focus (first | (simp; done) | (simp; omega))) | (with_reducible refine Kept.trans ?_ (by assumption))))
  have BX := Lib.hid bx
  have WD := Lib.hid wd
  have C : Hid (∀ w, Calls Tryd.prog 51 #[.agg #[.int .u8 4, .int .i64 7, .string ⟨#[]⟩]] w fun e w' => e = .returned (.int .i64 2) ∧ Kept w w') := fun w => by
    have := vcheck5_any ⟨4, 7, []⟩ w ⟨by simp only; omega, by simp only; omega⟩ (by simp)
    rwa [chk_no (by rw [ok4]; rfl)] at this
  clear bx wd
  go_enter Tryd.func63, Tryd.ntmps63
  go_wp2_with fail
  generalize (w.alloc (.cells #[.int .u8 4, .int .i64 7, .string ⟨#[]⟩] 35)) = wa at *
  have A0 := cell_regrown (BX.out.cell 0); have A1 := cell_regrown (BX.out.cell 1); have A2 := cell_regrown (BX.out.cell 2)
  refine wp_region_quiet_below (w := wa) (by kernel_rfl) (by kernel_rfl) ?_
  repeat (quiet_step (first | with_reducible exact Calls.regrown_of (F.out _) | with_reducible exact Calls.regrown_of (C.out _)))
  refine wpQuiet_nil ?_
  intro _ hw'; obtain ⟨⟨dq, osq⟩, hw''⟩ := hw'; subst hw''
  have kq : Kept wa (Go.Sort.grow (redrawn wa dq) osq) := below_regrown wa dq osq
  generalize Go.Sort.grow (redrawn wa dq) osq = waq at *
  have kk := kk.trans kq
  have bq := BX.out.kept kq
  have x1 := bq.cell 1
  have y1 : waq.cell? ⟨0, 7, none⟩ = some (.string ⟨(name 7).toArray⟩) := (WD.out.kept kk).at_ (n := 7) (by omega) (by omega)
  clear A0 A1 A2 bq
  go_wp2_with fail
  go_ret
  exact ⟨rfl, kk⟩

set_option maxHeartbeats 2000000 in
set_option maxRecDepth 100000 in
theorem show4_bad7 (a : UInt8) (r : List UInt8) (w : World) (h : (a :: r).length ≤ 1000000) : Calls Tryd.prog 63 #[.agg #[.int .u8 4, .int .i64 7, .string ⟨(a :: r).toArray⟩]] w fun e w' => e = .returned (.string ⟨#[]⟩) ∧ Kept w w' := by
  have F : Hid (∀ w, Calls Tryd.prog 61 #[.int .i64 7] w fun e w' => e = .returned (.agg #[.int .u8 4, .int .i64 7, .string ⟨#[]⟩]) ∧ Kept w w') := fun w => vfail_any 7 w
  have BX : Hid (∀ x, Box (w.alloc (.cells #[.int .u8 4, .int .i64 7, x] 35)) w.heap.size 35 #[.int .u8 4, .int .i64 7, x]) := fun x => Box.new w _ _
  have kk : ∀ x, Kept w (w.alloc (.cells #[.int .u8 4, .int .i64 7, x] 35)) := fun x => (by repeat (first | with_reducible exact Kept.refl _ | with_reducible apply Kept.drew | with_reducible apply Kept.drewN | with_reducible apply Kept.alloc | (with_reducible refine Kept.setCellX ?_ ?_ _; focus (first | (simp; done) | (simp; omega))) | (with_reducible refine Kept.trans ?_ (by assumption))))
  have KK := Lib.hid kk
  have C : Hid (∀ w, Calls Tryd.prog 51 #[.agg #[.int .u8 4, .int .i64 7, .string ⟨(a :: r).toArray⟩]] w fun e w' => e = .returned (.int .i64 2) ∧ Kept w w') := fun w => by
    have := vcheck5_any ⟨4, 7, a :: r⟩ w ⟨by simp only; omega, by simp only; omega⟩ h
    rwa [chk_no (by rw [ok4]; simp)] at this
  have BX := Lib.hid (BX.out (.string ⟨(a :: r).toArray⟩))
  have kk := KK.out (.string ⟨(a :: r).toArray⟩)
  clear h KK
  go_enter Tryd.func63, Tryd.ntmps63
  go_wp2_with fail
  generalize (w.alloc (.cells #[.int .u8 4, .int .i64 7, .string ⟨(a :: r).toArray⟩] 35)) = wa at *
  have A0 := cell_regrown (BX.out.cell 0); have A1 := cell_regrown (BX.out.cell 1); have A2 := cell_regrown (BX.out.cell 2)
  refine wp_region_quiet_below (w := wa) (by kernel_rfl) (by kernel_rfl) ?_
  repeat (quiet_step (first | with_reducible exact Calls.regrown_of (F.out _) | with_reducible exact Calls.regrown_of (C.out _)))
  refine wpQuiet_nil ?_
  intro _ hw'; obtain ⟨⟨dq, osq⟩, hw''⟩ := hw'; subst hw''
  have kq : Kept wa (Go.Sort.grow (redrawn wa dq) osq) := below_regrown wa dq osq
  generalize Go.Sort.grow (redrawn wa dq) osq = waq at *
  have kk := kk.trans kq
  have bq := BX.out.kept kq
  have x0 := bq.cell 0; have x1 := bq.cell 1; have x2 := bq.cell 2
  clear A0 A1 A2 bq
  go_wp2_with fail
  refine (C.out _).mono ?_
  rintro e w' ⟨rfl, k1⟩
  go_wp2_with fail
  go_ret
  exact ⟨rfl, kk.trans k1⟩

set_option maxHeartbeats 2000000 in
set_option maxRecDepth 100000 in
theorem show_no (k n : Int) (s : ByteArray) (w : World) (C : ∀ w, Calls Tryd.prog 51 #[.agg #[.int .u8 k, .int .i64 n, .string s]] w fun e w' => e = .returned (.int .i64 2) ∧ Kept w w')
    (h : k ≠ 4 ∨ n ≠ 7) : Calls Tryd.prog 63 #[.agg #[.int .u8 k, .int .i64 n, .string s]] w fun e w' => e = .returned (.string ⟨#[]⟩) ∧ Kept w w' := by
  have F : Hid (∀ w, Calls Tryd.prog 61 #[.int .i64 7] w fun e w' => e = .returned (.agg #[.int .u8 4, .int .i64 7, .string ⟨#[]⟩]) ∧ Kept w w') := fun w => vfail_any 7 w
  have bx : Box (w.alloc (.cells #[.int .u8 k, .int .i64 n, .string s] 35)) w.heap.size 35 #[.int .u8 k, .int .i64 n, .string s] := Box.new w _ _
  have kk : Kept w (w.alloc (.cells #[.int .u8 k, .int .i64 n, .string s] 35)) := (by repeat (first | with_reducible exact Kept.refl _ | with_reducible apply Kept.drew | with_reducible apply Kept.drewN | with_reducible apply Kept.alloc | (with_reducible refine Kept.setCellX ?_ ?_ _; focus (first | (simp; done) | (simp; omega))) | (with_reducible refine Kept.trans ?_ (by assumption))))
  have BX := Lib.hid bx
  have C := Lib.hid C
  clear bx
  by_cases k4 : k = 4
  · have n7 : (n == 7) = false := by rw [beq_eq_false_iff_ne]; omega
    subst k4
    clear h
    go_enter Tryd.func63, Tryd.ntmps63
    go_wp2_with fail
    generalize (w.alloc (.cells #[.int .u8 4, .int .i64 n, .string s] 35)) = wa at *
    have A0 := cell_regrown (BX.out.cell 0); have A1 := cell_regrown (BX.out.cell 1); have A2 := cell_regrown (BX.out.cell 2)
    refine wp_region_quiet_below (w := wa) (by kernel_rfl) (by kernel_rfl) ?_
    repeat (quiet_step (first | with_reducible exact Calls.regrown_of (F.out _) | with_reducible exact Calls.regrown_of (C.out _)))
    refine wpQuiet_nil ?_
    intro _ hw'; obtain ⟨⟨dq, osq⟩, hw''⟩ := hw'; subst hw''
    have kq : Kept wa (Go.Sort.grow (redrawn wa dq) osq) := below_regrown wa dq osq
    generalize Go.Sort.grow (redrawn wa dq) osq = waq at *
    have kk := kk.trans kq
    have bq := BX.out.kept kq
    have x0 := bq.cell 0; have x1 := bq.cell 1; have x2 := bq.cell 2
    clear A0 A1 A2 bq
    go_wp2_with fail
    refine (C.out _).mono ?_
    rintro e w' ⟨rfl, k1⟩
    go_wp2_with fail
    go_ret
    exact ⟨rfl, kk.trans k1⟩
  · have n4 : (k == 4) = false := by rw [beq_eq_false_iff_ne]; exact k4
    clear h k4
    go_enter Tryd.func63, Tryd.ntmps63
    go_wp2_with fail
    generalize (w.alloc (.cells #[.int .u8 k, .int .i64 n, .string s] 35)) = wa at *
    have A0 := cell_regrown (BX.out.cell 0); have A1 := cell_regrown (BX.out.cell 1); have A2 := cell_regrown (BX.out.cell 2)
    refine wp_region_quiet_below (w := wa) (by kernel_rfl) (by kernel_rfl) ?_
    repeat (quiet_step (first | with_reducible exact Calls.regrown_of (F.out _) | with_reducible exact Calls.regrown_of (C.out _)))
    refine wpQuiet_nil ?_
    intro _ hw'; obtain ⟨⟨dq, osq⟩, hw''⟩ := hw'; subst hw''
    have kq : Kept wa (Go.Sort.grow (redrawn wa dq) osq) := below_regrown wa dq osq
    generalize Go.Sort.grow (redrawn wa dq) osq = waq at *
    have kk := kk.trans kq
    have bq := BX.out.kept kq
    have x0 := bq.cell 0; have x1 := bq.cell 1; have x2 := bq.cell 2
    clear A0 A1 A2 bq
    go_wp2_with fail
    refine (C.out _).mono ?_
    rintro e w' ⟨rfl, k1⟩
    go_wp2_with fail
    go_ret
    exact ⟨rfl, kk.trans k1⟩

set_option maxHeartbeats 2000000 in
set_option maxRecDepth 100000 in
theorem show_yes (k n : Int) (s : ByteArray) (xk xn : Int) (xt : ByteArray) (w : World) (C : ∀ w, Calls Tryd.prog 51 #[.agg #[.int .u8 k, .int .i64 n, .string s]] w fun e w' => e = .returned (.int .i64 0) ∧ Kept w w')
    (T : ∀ w, Calls Tryd.prog 67 #[.agg #[.int .u8 k, .int .i64 n, .string s]] w fun e w' => e = .returned (.agg #[.int .u8 xk, .int .i64 xn, .string xt]) ∧ Kept w w')
    (k4 : k ≠ 4) : Calls Tryd.prog 63 #[.agg #[.int .u8 k, .int .i64 n, .string s]] w fun e w' => e = .returned (.string xt) ∧ Kept w w' := by
  have F : Hid (∀ w, Calls Tryd.prog 61 #[.int .i64 7] w fun e w' => e = .returned (.agg #[.int .u8 4, .int .i64 7, .string ⟨#[]⟩]) ∧ Kept w w') := fun w => vfail_any 7 w
  have bx : Box (w.alloc (.cells #[.int .u8 k, .int .i64 n, .string s] 35)) w.heap.size 35 #[.int .u8 k, .int .i64 n, .string s] := Box.new w _ _
  have kk : Kept w (w.alloc (.cells #[.int .u8 k, .int .i64 n, .string s] 35)) := (by repeat (first | with_reducible exact Kept.refl _ | with_reducible apply Kept.drew | with_reducible apply Kept.drewN | with_reducible apply Kept.alloc | (with_reducible refine Kept.setCellX ?_ ?_ _; focus (first | (simp; done) | (simp; omega))) | (with_reducible refine Kept.trans ?_ (by assumption))))
  have BX := Lib.hid bx
  have C := Lib.hid C
  have T := Lib.hid T
  have n4 : (k == 4) = false := by rw [beq_eq_false_iff_ne]; exact k4
  have hfd : ∀ w : World, (Instr.field 35 (.agg #[.int .u8 xk, .int .i64 xn, .string xt]) 2).run Tryd.prog w = .ok (.string xt) w := fun _ => by kernel_rfl
  clear bx k4
  go_enter Tryd.func63, Tryd.ntmps63
  go_wp2_with fail
  generalize (w.alloc (.cells #[.int .u8 k, .int .i64 n, .string s] 35)) = wa at *
  have A0 := cell_regrown (BX.out.cell 0); have A1 := cell_regrown (BX.out.cell 1); have A2 := cell_regrown (BX.out.cell 2)
  refine wp_region_quiet_below (w := wa) (by kernel_rfl) (by kernel_rfl) ?_
  repeat (quiet_step (first | with_reducible exact Calls.regrown_of (F.out _) | with_reducible exact Calls.regrown_of (C.out _)))
  refine wpQuiet_nil ?_
  intro _ hw'; obtain ⟨⟨dq, osq⟩, hw''⟩ := hw'; subst hw''
  have kq : Kept wa (Go.Sort.grow (redrawn wa dq) osq) := below_regrown wa dq osq
  generalize Go.Sort.grow (redrawn wa dq) osq = waq at *
  have kk := kk.trans kq
  have bq := BX.out.kept kq
  have BQ := Lib.hid bq
  have x0 := bq.cell 0; have x1 := bq.cell 1; have x2 := bq.cell 2
  clear A0 A1 A2 bq
  go_wp2_with fail
  refine (C.out _).mono ?_
  rintro e w1 ⟨rfl, k1⟩
  have bq := BQ.out.kept k1
  have x0 := bq.cell 0; have x1 := bq.cell 1; have x2 := bq.cell 2
  clear bq
  go_wp2_with fail
  refine (T.out _).mono ?_
  rintro e w2 ⟨rfl, k2⟩
  go_wp2_with fail
  go_ret
  exact ⟨rfl, kk.trans (k1.trans k2)⟩

theorem vshow_any (v : Vl) (w : World) (wd : Wd w) (hn : i64 v.n) (ht : v.t.length ≤ 2000) : Calls Tryd.prog 63 #[aggV v] w fun e w' => e = .returned (.string ⟨(vShow v).toArray⟩) ∧ Kept w w' := by
  have C : ∀ w, Calls Tryd.prog 51 #[aggV v] w fun e w' => e = .returned (.int .i64 (vChk v)) ∧ Kept w w' := fun w => vcheck5_any v w hn (by omega)
  have T : ∀ w, Calls Tryd.prog 67 #[aggV v] w fun e w' => e = .returned (aggV (vTxt v)) ∧ Kept w w' := fun w => totxt_any v w hn (by omega)
  by_cases d : v.k = 4 ∧ v.n = 7 ∧ v.t = []
  · obtain ⟨k, n, t⟩ := v
    obtain ⟨rfl, rfl, rfl⟩ := d
    exact show4_denied w wd
  · by_cases o : vOk v = true
    · by_cases k4 : v.k = 4
      · rcases ok_cases o with rfl | ⟨n, hn, rfl⟩ | rfl | rfl | ⟨t, ht, rfl⟩ | ⟨c, h1, h2, rfl⟩
        · cases k4
        · cases k4
        · cases k4
        · cases k4
        · cases k4
        · rw [show_error ⟨h1, h2⟩]; exact show4_ok c w wd h1 h2
      · rw [show_text o k4]
        rw [chk_yes o] at C
        exact show_yes v.k v.n ⟨v.t.toArray⟩ (vTxt v).k (vTxt v).n ⟨(vTxt v).t.toArray⟩ w C T (by omega)
    · have o : vOk v = false := by simpa using o
      rw [show_bad o d]
      rw [chk_no o] at C
      by_cases k4 : v.k = 4 ∧ v.n = 7
      · obtain ⟨k, n, t⟩ := v
        obtain ⟨rfl, rfl⟩ := k4
        cases t with
        | nil => exact absurd ⟨rfl, rfl, rfl⟩ d
        | cons a r => exact show4_bad7 a r w (by simp only at ht; omega)
      · exact show_no v.k v.n ⟨v.t.toArray⟩ w C (by omega)
end Go.Proofs.YtipkjpcedfokhaaDoor
