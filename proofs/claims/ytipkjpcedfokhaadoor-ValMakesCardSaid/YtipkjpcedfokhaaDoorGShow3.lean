/- Layer 5: Name, Show and Code of the reference. -/
import Derived.Test.YtipkjpcedfokhaaDoorBunC
import Derived.Test.YtipkjpcedfokhaaDoorGShow2
import Derived.Test.YtipkjpcedfokhaaDoorGCode
namespace Go.Proofs.YtipkjpcedfokhaaDoor
set_option linter.unusedVariables false
set_option linter.unusedSimpArgs false
open Go.RowKit Lv

theorem name_else {c : Int} (h : ¬ (1 ≤ c ∧ c ≤ 7)) : name c = [] := by
  unfold name
  rw [if_neg (by omega), if_neg (by omega), if_neg (by omega), if_neg (by omega), if_neg (by omega), if_neg (by omega), if_neg (by omega)]
set_option maxHeartbeats 1000000 in
theorem rname_any (c : Int) (w : World) : Calls Tryd.prog 100 #[.int .i64 c] w fun e w' => e = .returned (.string ⟨(name c).toArray⟩) ∧ Kept w w' := by
  by_cases h : 1 ≤ c ∧ c ≤ 7
  · have : c = 1 ∨ c = 2 ∨ c = 3 ∨ c = 4 ∨ c = 5 ∨ c = 6 ∨ c = 7 := by omega
    rcases this with rfl | rfl | rfl | rfl | rfl | rfl | rfl
    all_goals
      clear h
      go_enter Tryd.func100, Tryd.ntmps100
      go_wp2_with fail
      go_ret
      exact ⟨rfl, (by repeat (first | with_reducible exact Kept.refl _ | with_reducible apply Kept.drew | with_reducible apply Kept.drewN | with_reducible apply Kept.alloc | (with_reducible refine Kept.setCellX ?_ ?_ _; focus (first | (simp; done) | (simp; omega))) | (with_reducible refine Kept.trans ?_ (by assumption))))⟩
  · rw [name_else h]
    have e1 : (c == 1) = false := by rw [beq_eq_false_iff_ne]; omega
    have e2 : (c == 2) = false := by rw [beq_eq_false_iff_ne]; omega
    have e3 : (c == 3) = false := by rw [beq_eq_false_iff_ne]; omega
    have e4 : (c == 4) = false := by rw [beq_eq_false_iff_ne]; omega
    have e5 : (c == 5) = false := by rw [beq_eq_false_iff_ne]; omega
    have e6 : (c == 6) = false := by rw [beq_eq_false_iff_ne]; omega
    have e7 : (c == 7) = false := by rw [beq_eq_false_iff_ne]; omega
    clear h
    go_enter Tryd.func100, Tryd.ntmps100
    go_wp2_with fail
    go_ret
    exact ⟨rfl, (by repeat (first | with_reducible exact Kept.refl _ | with_reducible apply Kept.drew | with_reducible apply Kept.drewN | with_reducible apply Kept.alloc | (with_reducible refine Kept.setCellX ?_ ?_ _; focus (first | (simp; done) | (simp; omega))) | (with_reducible refine Kept.trans ?_ (by assumption))))⟩

set_option maxHeartbeats 2000000 in
set_option maxRecDepth 100000 in
theorem rshow4_denied (w : World) : Calls Tryd.prog 64 #[.agg #[.int .u8 4, .int .i64 7, .string ⟨#[]⟩]] w fun e w' => e = .returned (.string ⟨(name 7).toArray⟩) ∧ Kept w w' := by
  have F : Hid (∀ w, Calls Tryd.prog 62 #[.int .i64 7] w fun e w' => e = .returned (.agg #[.int .u8 4, .int .i64 7, .string ⟨#[]⟩]) ∧ Kept w w') := fun w => rfail_any 7 w
  have bx : Box (w.alloc (.cells #[.int .u8 4, .int .i64 7, .string ⟨#[]⟩] 35)) w.heap.size 35 #[.int .u8 4, .int .i64 7, .string ⟨#[]⟩] := Box.new w _ _
  have kk : Kept w (w.alloc (.cells #[.int .u8 4, .int .i64 7, .string ⟨#[]⟩] 35)) := (by repeat (first | with_reducible exact Kept.refl _ | with_reducible apply Kept.drew | with_reducible apply Kept.drewN | with_reducible apply Kept.alloc | (with_reducible refine Kept.setCellX ?_ ?_ _; focus (first | (simp; done) | (simp; omega))) | (with_reducible refine Kept.trans ?_ (by assumption))))
  have BX := Lib.hid bx
  have NM := Lib.hid (fun w => rname_any 7 w)
  clear bx
  go_enter Tryd.func64, Tryd.ntmps64
  go_wp2_with fail
  generalize (w.alloc (.cells #[.int .u8 4, .int .i64 7, .string ⟨#[]⟩] 35)) = wa at *
  have A0 := cell_regrown (BX.out.cell 0); have A1 := cell_regrown (BX.out.cell 1); have A2 := cell_regrown (BX.out.cell 2)
  refine wp_region_quiet_below (w := wa) (by kernel_rfl) (by kernel_rfl) ?_
  repeat (quiet_step (first | with_reducible exact Calls.regrown_of (F.out _)))
  refine wpQuiet_nil ?_
  intro _ hw'; obtain ⟨⟨dq, osq⟩, hw''⟩ := hw'; subst hw''
  have kq : Kept wa (Go.Sort.grow (redrawn wa dq) osq) := below_regrown wa dq osq
  generalize Go.Sort.grow (redrawn wa dq) osq = waq at *
  have kk := kk.trans kq
  clear A0 A1 A2 BX
  go_wp2_with fail
  refine (NM.out _).mono ?_
  rintro e w' ⟨rfl, k1⟩
  go_wp2_with fail
  go_ret
  exact ⟨rfl, kk.trans k1⟩

set_option maxHeartbeats 2000000 in
set_option maxRecDepth 100000 in
theorem rshow4_bad7 (a : UInt8) (r : List UInt8) (w : World) (h : (a :: r).length ≤ 1000000) : Calls Tryd.prog 64 #[.agg #[.int .u8 4, .int .i64 7, .string ⟨(a :: r).toArray⟩]] w fun e w' => e = .returned (.string ⟨#[]⟩) ∧ Kept w w' := by
  have F : Hid (∀ w, Calls Tryd.prog 62 #[.int .i64 7] w fun e w' => e = .returned (.agg #[.int .u8 4, .int .i64 7, .string ⟨#[]⟩]) ∧ Kept w w') := fun w => rfail_any 7 w
  have BX : Hid (∀ x, Box (w.alloc (.cells #[.int .u8 4, .int .i64 7, x] 35)) w.heap.size 35 #[.int .u8 4, .int .i64 7, x]) := fun x => Box.new w _ _
  have kk : ∀ x, Kept w (w.alloc (.cells #[.int .u8 4, .int .i64 7, x] 35)) := fun x => (by repeat (first | with_reducible exact Kept.refl _ | with_reducible apply Kept.drew | with_reducible apply Kept.drewN | with_reducible apply Kept.alloc | (with_reducible refine Kept.setCellX ?_ ?_ _; focus (first | (simp; done) | (simp; omega))) | (with_reducible refine Kept.trans ?_ (by assumption))))
  have KK := Lib.hid kk
  have C : Hid (∀ w, Calls Tryd.prog 56 #[.agg #[.int .u8 4, .int .i64 7, .string ⟨(a :: r).toArray⟩]] w fun e w' => e = .returned (.int .i64 2) ∧ Kept w w') := fun w => by
    have := rcheck5_any ⟨4, 7, a :: r⟩ w ⟨by simp only; omega, by simp only; omega⟩ h
    rwa [chk_no (by rw [ok4]; simp)] at this
  have BX := Lib.hid (BX.out (.string ⟨(a :: r).toArray⟩))
  have kk := KK.out (.string ⟨(a :: r).toArray⟩)
  clear h KK
  go_enter Tryd.func64, Tryd.ntmps64
  go_wp2_with fail
  generalize (w.alloc (.cells #[.int .u8 4, .int .i64 7, .string ⟨(a :: r).toArray⟩] 35)) = wa at *
  have A0 := cell_regrown (BX.out.cell 0); have A1 := cell_regrown (BX.out.cell 1); have A2 := cell_regrown (BX.out.cell 2)
  refine wp_region_quiet_below (w := wa) (by kernel_rfl) (by kernel_rfl) ?_
  repeat (quiet_step (first | with_reducible exact Calls.regrown_of (F.out _)))
  refine wpQuiet_nil ?_
  intro _ hw'; obtain ⟨⟨dq, osq⟩, hw''⟩ := hw'; subst hw''
  have kq : Kept wa (Go.Sort.grow (redrawn wa dq) osq) := below_regrown wa dq osq
  generalize Go.Sort.grow (redrawn wa dq) osq = waq at *
  have kk := kk.trans kq
  have bq := BX.out.kept kq
  have x0 := bq.cell 0; have x1 := bq.cell 1; have x2 := bq.cell 2
  clear A0 A1 A2 bq
  go_wp2_with fail
  refine (C.out _).mono ?_
  rintro e w' ⟨rfl, k1⟩
  go_wp2_with fail
  go_ret
  exact ⟨rfl, kk.trans k1⟩

set_option maxHeartbeats 2000000 in
set_option maxRecDepth 100000 in
theorem rshow_no (k n : Int) (s : ByteArray) (w : World) (C : ∀ w, Calls Tryd.prog 56 #[.agg #[.int .u8 k, .int .i64 n, .string s]] w fun e w' => e = .returned (.int .i64 2) ∧ Kept w w')
    (h : k ≠ 4 ∨ n ≠ 7) : Calls Tryd.prog 64 #[.agg #[.int .u8 k, .int .i64 n, .string s]] w fun e w' => e = .returned (.string ⟨#[]⟩) ∧ Kept w w' := by
  have F : Hid (∀ w, Calls Tryd.prog 62 #[.int .i64 7] w fun e w' => e = .returned (.agg #[.int .u8 4, .int .i64 7, .string ⟨#[]⟩]) ∧ Kept w w') := fun w => rfail_any 7 w
  have bx : Box (w.alloc (.cells #[.int .u8 k, .int .i64 n, .string s] 35)) w.heap.size 35 #[.int .u8 k, .int .i64 n, .string s] := Box.new w _ _
  have kk : Kept w (w.alloc (.cells #[.int .u8 k, .int .i64 n, .string s] 35)) := (by repeat (first | with_reducible exact Kept.refl _ | with_reducible apply Kept.drew | with_reducible apply Kept.drewN | with_reducible apply Kept.alloc | (with_reducible refine Kept.setCellX ?_ ?_ _; focus (first | (simp; done) | (simp; omega))) | (with_reducible refine Kept.trans ?_ (by assumption))))
  have BX := Lib.hid bx
  have C := Lib.hid C
  clear bx
  by_cases k4 : k = 4
  · have n7 : (n == 7) = false := by rw [beq_eq_false_iff_ne]; omega
    subst k4
    clear h
    go_enter Tryd.func64, Tryd.ntmps64
    go_wp2_with fail
    generalize (w.alloc (.cells #[.int .u8 4, .int .i64 n, .string s] 35)) = wa at *
    have A0 := cell_regrown (BX.out.cell 0); have A1 := cell_regrown (BX.out.cell 1); have A2 := cell_regrown (BX.out.cell 2)
    refine wp_region_quiet_below (w := wa) (by kernel_rfl) (by kernel_rfl) ?_
    repeat (quiet_step (first | with_reducible exact Calls.regrown_of (F.out _)))
    refine wpQuiet_nil ?_
    intro _ hw'; obtain ⟨⟨dq, osq⟩, hw''⟩ := hw'; subst hw''
    have kq : Kept wa (Go.Sort.grow (redrawn wa dq) osq) := below_regrown wa dq osq
    generalize Go.Sort.grow (redrawn wa dq) osq = waq at *
    have kk := kk.trans kq
    have bq := BX.out.kept kq
    have x0 := bq.cell 0; have x1 := bq.cell 1; have x2 := bq.cell 2
    clear A0 A1 A2 bq
    go_wp2_with fail
    refine (C.out _).mono ?_
    rintro e w' ⟨rfl, k1⟩
    go_wp2_with fail
    go_ret
    exact ⟨rfl, kk.trans k1⟩
  · have n4 : (k == 4) = false := by rw [beq_eq_false_iff_ne]; exact k4
    clear h k4
    go_enter Tryd.func64, Tryd.ntmps64
    go_wp2_with fail
    generalize (w.alloc (.cells #[.int .u8 k, .int .i64 n, .string s] 35)) = wa at *
    have A0 := cell_regrown (BX.out.cell 0); have A1 := cell_regrown (BX.out.cell 1); have A2 := cell_regrown (BX.out.cell 2)
    refine wp_region_quiet_below (w := wa) (by kernel_rfl) (by kernel_rfl) ?_
    repeat (quiet_step (first | with_reducible exact Calls.regrown_of (F.out _)))
    refine wpQuiet_nil ?_
    intro _ hw'; obtain ⟨⟨dq, osq⟩, hw''⟩ := hw'; subst hw''
    have kq : Kept wa (Go.Sort.grow (redrawn wa dq) osq) := below_regrown wa dq osq
    generalize Go.Sort.grow (redrawn wa dq) osq = waq at *
    have kk := kk.trans kq
    have bq := BX.out.kept kq
    have x0 := bq.cell 0; have x1 := bq.cell 1; have x2 := bq.cell 2
    clear A0 A1 A2 bq
    go_wp2_with fail
    refine (C.out _).mono ?_
    rintro e w' ⟨rfl, k1⟩
    go_wp2_with fail
    go_ret
    exact ⟨rfl, kk.trans k1⟩

set_option maxHeartbeats 2000000 in
set_option maxRecDepth 100000 in
theorem rshow_yes (k n : Int) (s : ByteArray) (xk xn : Int) (xt : ByteArray) (w : World) (C : ∀ w, Calls Tryd.prog 56 #[.agg #[.int .u8 k, .int .i64 n, .string s]] w fun e w' => e = .returned (.int .i64 0) ∧ Kept w w')
    (T : ∀ w, Calls Tryd.prog 68 #[.agg #[.int .u8 k, .int .i64 n, .string s]] w fun e w' => e = .returned (.agg #[.int .u8 xk, .int .i64 xn, .string xt]) ∧ Kept w w')
    (k4 : k ≠ 4) : Calls Tryd.prog 64 #[.agg #[.int .u8 k, .int .i64 n, .string s]] w fun e w' => e = .returned (.string xt) ∧ Kept w w' := by
  have F : Hid (∀ w, Calls Tryd.prog 62 #[.int .i64 7] w fun e w' => e = .returned (.agg #[.int .u8 4, .int .i64 7, .string ⟨#[]⟩]) ∧ Kept w w') := fun w => rfail_any 7 w
  have bx : Box (w.alloc (.cells #[.int .u8 k, .int .i64 n, .string s] 35)) w.heap.size 35 #[.int .u8 k, .int .i64 n, .string s] := Box.new w _ _
  have kk : Kept w (w.alloc (.cells #[.int .u8 k, .int .i64 n, .string s] 35)) := (by repeat (first | with_reducible exact Kept.refl _ | with_reducible apply Kept.drew | with_reducible apply Kept.drewN | with_reducible apply Kept.alloc | (with_reducible refine Kept.setCellX ?_ ?_ _; focus (first | (simp; done) | (simp; omega))) | (with_reducible refine Kept.trans ?_ (by assumption))))
  have BX := Lib.hid bx
  have C := Lib.hid C
  have T := Lib.hid T
  have n4 : (k == 4) = false := by rw [beq_eq_false_iff_ne]; exact k4
  have hfd : ∀ w : World, (Instr.field 35 (.agg #[.int .u8 xk, .int .i64 xn, .string xt]) 2).run Tryd.prog w = .ok (.string xt) w := fun _ => by kernel_rfl
  clear bx k4
  go_enter Tryd.func64, Tryd.ntmps64
  go_wp2_with fail
  generalize (w.alloc (.cells #[.int .u8 k, .int .i64 n, .string s] 35)) = wa at *
  have A0 := cell_regrown (BX.out.cell 0); have A1 := cell_regrown (BX.out.cell 1); have A2 := cell_regrown (BX.out.cell 2)
  refine wp_region_quiet_below (w := wa) (by kernel_rfl) (by kernel_rfl) ?_
  repeat (quiet_step (first | with_reducible exact Calls.regrown_of (F.out _)))
  refine wpQuiet_nil ?_
  intro _ hw'; obtain ⟨⟨dq, osq⟩, hw''⟩ := hw'; subst hw''
  have kq : Kept wa (Go.Sort.grow (redrawn wa dq) osq) := below_regrown wa dq osq
  generalize Go.Sort.grow (redrawn wa dq) osq = waq at *
  have kk := kk.trans kq
  have bq := BX.out.kept kq
  have BQ := Lib.hid bq
  have x0 := bq.cell 0; have x1 := bq.cell 1; have x2 := bq.cell 2
  clear A0 A1 A2 bq
  go_wp2_with fail
  refine (C.out _).mono ?_
  rintro e w1 ⟨rfl, k1⟩
  have bq := BQ.out.kept k1
  have x0 := bq.cell 0; have x1 := bq.cell 1; have x2 := bq.cell 2
  clear bq
  go_wp2_with fail
  refine (T.out _).mono ?_
  rintro e w2 ⟨rfl, k2⟩
  go_wp2_with fail
  go_ret
  exact ⟨rfl, kk.trans (k1.trans k2)⟩

set_option maxHeartbeats 2000000 in
set_option maxRecDepth 100000 in
theorem rshow4_ok (n : Int) (w : World) (h1 : 1 ≤ n) (h2 : n ≤ 6) : Calls Tryd.prog 64 #[.agg #[.int .u8 4, .int .i64 n, .string ⟨#[]⟩]] w fun e w' => e = .returned (.string ⟨(name n).toArray⟩) ∧ Kept w w' := by
  have F : Hid (∀ w, Calls Tryd.prog 62 #[.int .i64 7] w fun e w' => e = .returned (.agg #[.int .u8 4, .int .i64 7, .string ⟨#[]⟩]) ∧ Kept w w') := fun w => rfail_any 7 w
  have C : Hid (∀ w, Calls Tryd.prog 56 #[.agg #[.int .u8 4, .int .i64 n, .string ⟨#[]⟩]] w fun e w' => e = .returned (.int .i64 0) ∧ Kept w w') := fun w => by
    have := rcheck5_any ⟨4, n, []⟩ w ⟨by simp only; omega, by simp only; omega⟩ (by simp)
    rwa [chk_yes (by rw [ok4, decide_eq_true (by exact ⟨rfl, h1, h2⟩)])] at this
  have NM := Lib.hid (fun w => rname_any n w)
  have n7 : (n == 7) = false := by rw [beq_eq_false_iff_ne]; omega
  have bx : Box (w.alloc (.cells #[.int .u8 4, .int .i64 n, .string ⟨#[]⟩] 35)) w.heap.size 35 #[.int .u8 4, .int .i64 n, .string ⟨#[]⟩] := Box.new w _ _
  have kk : Kept w (w.alloc (.cells #[.int .u8 4, .int .i64 n, .string ⟨#[]⟩] 35)) := (by repeat (first | with_reducible exact Kept.refl _ | with_reducible apply Kept.drew | with_reducible apply Kept.drewN | with_reducible apply Kept.alloc | (with_reducible refine Kept.setCellX ?_ ?_ _; focus (first | (simp; done) | (simp; omega))) | (with_reducible refine Kept.trans ?_ (by assumption))))
  have BX := Lib.hid bx
  clear bx
  go_enter Tryd.func64, Tryd.ntmps64
  go_wp2_with fail
  generalize (w.alloc (.cells #[.int .u8 4, .int .i64 n, .string ⟨#[]⟩] 35)) = wa at *
  have A0 := cell_regrown (BX.out.cell 0); have A1 := cell_regrown (BX.out.cell 1); have A2 := cell_regrown (BX.out.cell 2)
  refine wp_region_quiet_below (w := wa) (by kernel_rfl) (by kernel_rfl) ?_
  repeat (quiet_step (first | with_reducible exact Calls.regrown_of (F.out _)))
  refine wpQuiet_nil ?_
  intro _ hw'; obtain ⟨⟨dq, osq⟩, hw''⟩ := hw'; subst hw''
  have kq : Kept wa (Go.Sort.grow (redrawn wa dq) osq) := below_regrown wa dq osq
  generalize Go.Sort.grow (redrawn wa dq) osq = waq at *
  have kk := kk.trans kq
  have bq := BX.out.kept kq
  have BQ := Lib.hid bq
  have x0 := bq.cell 0; have x1 := bq.cell 1; have x2 := bq.cell 2
  clear A0 A1 A2 bq
  go_wp2_with fail
  refine (C.out _).mono ?_
  rintro e w1 ⟨rfl, k1⟩
  have bq := BQ.out.kept k1
  have x0 := bq.cell 0; have x1 := bq.cell 1; have x2 := bq.cell 2
  clear bq
  go_wp2_with fail
  refine (NM.out _).mono ?_
  rintro e w2 ⟨rfl, k2⟩
  go_wp2_with fail
  go_ret
  exact ⟨rfl, kk.trans (k1.trans k2)⟩

theorem rshow_any (v : Vl) (w : World) (hn : i64 v.n) (ht : v.t.length ≤ 2000) : Calls Tryd.prog 64 #[aggV v] w fun e w' => e = .returned (.string ⟨(vShow v).toArray⟩) ∧ Kept w w' := by
  have C : ∀ w, Calls Tryd.prog 56 #[aggV v] w fun e w' => e = .returned (.int .i64 (vChk v)) ∧ Kept w w' := fun w => rcheck5_any v w hn (by omega)
  have T : ∀ w, Calls Tryd.prog 68 #[aggV v] w fun e w' => e = .returned (aggV (vTxt v)) ∧ Kept w w' := fun w => rtotxt_any v w hn (by omega)
  by_cases d : v.k = 4 ∧ v.n = 7 ∧ v.t = []
  · obtain ⟨k, n, t⟩ := v
    obtain ⟨rfl, rfl, rfl⟩ := d
    exact rshow4_denied w
  · by_cases o : vOk v = true
    · by_cases k4 : v.k = 4
      · rcases ok_cases o with rfl | ⟨n, hn, rfl⟩ | rfl | rfl | ⟨t, ht, rfl⟩ | ⟨c, h1, h2, rfl⟩
        · cases k4
        · cases k4
        · cases k4
        · cases k4
        · cases k4
        · rw [show_error ⟨h1, h2⟩]; exact rshow4_ok c w h1 h2
      · rw [show_text o k4]
        rw [chk_yes o] at C
        exact rshow_yes v.k v.n ⟨v.t.toArray⟩ (vTxt v).k (vTxt v).n ⟨(vTxt v).t.toArray⟩ w C T (by omega)
    · have o : vOk v = false := by simpa using o
      rw [show_bad o d]
      rw [chk_no o] at C
      by_cases k4 : v.k = 4 ∧ v.n = 7
      · obtain ⟨k, n, t⟩ := v
        obtain ⟨rfl, rfl⟩ := k4
        cases t with
        | nil => exact absurd ⟨rfl, rfl, rfl⟩ d
        | cons a r => exact rshow4_bad7 a r w (by simp only at ht; omega)
      · exact rshow_no v.k v.n ⟨v.t.toArray⟩ w C (by omega)

set_option maxHeartbeats 2000000 in
set_option maxRecDepth 100000 in
theorem rcode_any (s : List UInt8) (w : World) (hs : s.length ≤ 1000000) : Calls Tryd.prog 55 #[.string ⟨s.toArray⟩] w fun e w' => e = .returned (.tuple #[.int .i64 (vCode s).1, .int .i64 (vCode s).2]) ∧ Kept w w' := by
  have U := Lib.hid (fun w => rupper_any s w hs)
  have NM := Lib.hid rname_any
  have CA : Hid (∀ k : Nat, NotYet (upper s) k → 1 ≤ k → k ≤ 7 → upper s = name k → vCode s = ((k : Int), 0)) := fun k => code_at
  have CN : Hid (NotYet (upper s) 8 → vCode s = (0, 4)) := code_none
  have NS : Hid (∀ k : Nat, NotYet (upper s) k → k = 0 ∨ upper s ≠ name k → NotYet (upper s) (k + 1)) := fun k => NotYet.succ
  have N0 : Hid (NotYet (upper s) 1) := fun j h1 h2 => by omega
  generalize upper s = u at *
  generalize vCode s = c at *
  obtain ⟨c1, c2⟩ := c
  clear hs
  go_enter Tryd.func55, Tryd.ntmps55
  go_wp2_with fail
  go_loopw [4] (fun i wr => ∃ k : Nat, 1 ≤ k ∧ k ≤ 8 ∧ i = .int .i64 k ∧ Kept w wr ∧ NotYet u k) (fun i _ => 8 - (intOf i).toNat)
  case atStart => exact ⟨1, by omega, by omega, rfl, (by repeat (first | with_reducible exact Kept.refl _ | with_reducible apply Kept.drew | with_reducible apply Kept.drewN | with_reducible apply Kept.alloc | (with_reducible refine Kept.setCellX ?_ ?_ _; focus (first | (simp; done) | (simp; omega))) | (with_reducible refine Kept.trans ?_ (by assumption)))), N0.out⟩
  case round =>
    obtain ⟨k, h1, hk, rfl, kw, ny⟩ := hrel
    have NY := Lib.hid ny
    clear ny
    by_cases h8 : k = 8
    · subst h8
      have ce := CN.out NY.out
      have CE := Lib.hid ce
      clear ce
      go_wp2_with fail
      go_ret2
      exact ⟨ret_two CE.out.symm, kw⟩
    · have hk : k < 8 := by omega
      clear h8
      go_wp2_with fail
      refine (NM.out _ _).mono ?_
      rintro e w1 ⟨rfl, k1⟩
      go_wp2_with fail
      refine (U.out _).mono ?_
      rintro e w2 ⟨rfl, k2⟩
      have kw := (kw.trans k1).trans k2
      clear k1 k2
      by_cases e : u = name k
      · have ce := CA.out _ NY.out h1 (by omega) e
        have CE := Lib.hid ce
        have e1 : (name k == u) = true := by rw [beq_iff_eq]; exact e.symm
        clear ce e
        generalize name k = x at *
        go_wp2_with fail
        go_ret2
        exact ⟨ret_two CE.out.symm, kw⟩
      · have N1 := Lib.hid (NS.out _ NY.out (Or.inr e))
        have e1 : (name k == u) = false := by rw [beq_eq_false_iff_ne]; exact fun x => e x.symm
        clear e
        go_wp2_with fail
        go_roundw
        case rel => exact ⟨k + 1, by omega, by omega, by go_num, kw, N1.out⟩
        case measure => (simp [intOf]; try omega)
end Go.Proofs.YtipkjpcedfokhaaDoor
