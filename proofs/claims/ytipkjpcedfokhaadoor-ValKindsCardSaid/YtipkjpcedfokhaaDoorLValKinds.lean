/- The law ValKinds, walked (printed by wip/mkkinds.py). -/
import Derived.Test.YtipkjpcedfokhaaDoorBunC
import Derived.Test.YtipkjpcedfokhaaDoorMVal3
namespace Go.Proofs.YtipkjpcedfokhaaDoor
set_option linter.unusedVariables false
set_option linter.unusedSimpArgs false
open Go.RowKit Lv

/-- four blocks of a value each -/
structure Four (w : World) (p g0 g1 g2 : Nat) (a x y z : Vl) : Prop where
  A : Box w p 35 (cellsV a)
  X : Box w g0 35 (cellsV x)
  Y : Box w g1 35 (cellsV y)
  Z : Box w g2 35 (cellsV z)
theorem Four.kept {w w' : World} {p g0 g1 g2 : Nat} {a x y z : Vl} (h : Four w p g0 g1 g2 a x y z) (k : Kept w w') : Four w' p g0 g1 g2 a x y z := ⟨h.A.kept k, h.X.kept k, h.Y.kept k, h.Z.kept k⟩
theorem Box.facts3 {w : World} {p : Nat} {a : Vl} (h : Box w p 35 (cellsV a)) : p < w.heap.size ∧ w.cell? ⟨p, 0, none⟩ = some (.int .u8 a.k) ∧ w.cell? ⟨p, 1, none⟩ = some (.int .i64 a.n) ∧ w.cell? ⟨p, 2, none⟩ = some (.string ⟨a.t.toArray⟩) ∧ (∀ o, w.frozen? ⟨p, o, none⟩ = false) :=
  ⟨h.inside, h.cell 0, h.cell 1, h.cell 2, fun o => h.loose o⟩
/-- three of them stored -/
theorem Four.stored {w1q : World} {p g0 g1 g2 : Nat} {a b c d x y z : Vl} (h : Four w1q p g0 g1 g2 a b c d) (n0 : p ≠ g0) (n1 : p ≠ g1) (n2 : p ≠ g2) (n3 : g0 ≠ g1) (n4 : g0 ≠ g2) (n5 : g1 ≠ g2) :
    Four (((((((((w1q.setCell ⟨g0, 0, none⟩ (.int .u8 x.k)).setCell ⟨g0, 1, none⟩ (.int .i64 x.n)).setCell ⟨g0, 2, none⟩ (.string ⟨x.t.toArray⟩)).setCell ⟨g1, 0, none⟩ (.int .u8 y.k)).setCell ⟨g1, 1, none⟩ (.int .i64 y.n)).setCell ⟨g1, 2, none⟩ (.string ⟨y.t.toArray⟩)).setCell ⟨g2, 0, none⟩ (.int .u8 z.k)).setCell ⟨g2, 1, none⟩ (.int .i64 z.n)).setCell ⟨g2, 2, none⟩ (.string ⟨z.t.toArray⟩)) p g0 g1 g2 a x y z :=
  ⟨Box.far3 (Box.far3 (Box.far3 h.A n0) n1) n2, Box.far3 (Box.far3 (Box.set3 h.X) n3) n4, Box.far3 (Box.set3 (Box.far3 h.Y (fun e => n3 e.symm))) n5, Box.set3 (Box.far3 (Box.far3 h.Z (fun e => n4 e.symm)) (fun e => n5 e.symm))⟩

set_option maxHeartbeats 8000000 in
set_option maxRecDepth 100000 in
theorem kinds_main (k : Nat) (n : Int) (t : List UInt8) (w : World) (mx : Int) (hm : Mx w mx) (wd : Wd w) (x y z : Vl) (c : Int)
    (LA : Hid (∀ w, Calls Tryd.prog 39 #[.agg #[.int .u8 k, .int .i64 n, .string ⟨t.toArray⟩]] w fun e w' => e = .returned (.bool false) ∧ Kept w w'))
    (U1 : Hid (∀ w, Mx w mx → Calls Tryd.prog 65 #[.agg #[.int .u8 k, .int .i64 n, .string ⟨t.toArray⟩]] w fun e w' => e = .returned (aggV x) ∧ Kept w w'))
    (U2 : Hid (∀ w, Calls Tryd.prog 67 #[.agg #[.int .u8 k, .int .i64 n, .string ⟨t.toArray⟩]] w fun e w' => e = .returned (aggV y) ∧ Kept w w'))
    (U3 : Hid (∀ w, Calls Tryd.prog 53 #[.agg #[.int .u8 k, .int .i64 n, .string ⟨t.toArray⟩]] w fun e w' => e = .returned (aggV z) ∧ Kept w w'))
    (V1 : Hid (∀ w, Mx w mx → Calls Tryd.prog 65 #[aggV x] w fun e w' => e = .returned (aggV x) ∧ Kept w w'))
    (V2 : Hid (∀ w, Calls Tryd.prog 67 #[aggV y] w fun e w' => e = .returned (aggV y) ∧ Kept w w'))
    (V3 : Hid (∀ w, Calls Tryd.prog 53 #[aggV z] w fun e w' => e = .returned (aggV z) ∧ Kept w w'))
    (C1 : Hid (∀ w, Calls Tryd.prog 51 #[aggV x] w fun e w' => e = .returned (.int .i64 0) ∧ Kept w w'))
    (C2 : Hid (∀ w, Calls Tryd.prog 51 #[aggV y] w fun e w' => e = .returned (.int .i64 0) ∧ Kept w w'))
    (C3 : Hid (∀ w, Calls Tryd.prog 51 #[aggV z] w fun e w' => e = .returned (.int .i64 0) ∧ Kept w w'))
    (C0 : Hid (∀ w, Calls Tryd.prog 51 #[.agg #[.int .u8 k, .int .i64 n, .string ⟨t.toArray⟩]] w fun e w' => e = .returned (.int .i64 c) ∧ Kept w w'))
    (kx : ((x.k : Int) != 1) = false ∨ (((x.k : Int) != 1) = true ∧ ((x.k : Int) != 4) = false)) (ky : ((y.k : Int) != 3) = false ∨ (((y.k : Int) != 3) = true ∧ ((y.k : Int) != 4) = false)) (kz : ((z.k : Int) != 2) = false ∨ (((z.k : Int) != 2) = true ∧ ((z.k : Int) != 4) = false))
    (fin : ((k : Int) == 4) = false ∨ (((k : Int) == 4) = true ∧ (c == 0) = false) ∨ (((k : Int) == 4) = true ∧ c = 0 ∧ x = ⟨k, n, t⟩ ∧ y = ⟨k, n, t⟩ ∧ z = ⟨k, n, t⟩)) :
    Calls Tryd.prog 19 #[.agg #[.int .u8 k, .int .i64 n, .string ⟨t.toArray⟩]] w fun e w' => e = .returned (.bool true) ∧ Kept w w' := by
  have K := Lib.hid (fun w h h' => known5_any w mx h h')
  have HM := Lib.hid hm
  have WD := Lib.hid wd
  have B0 : Hid (∀ w : World, Box (w.alloc (.cells (cellsV ⟨k, n, t⟩) 35)) w.heap.size 35 (cellsV ⟨k, n, t⟩)) := fun w => Box.new w _ _
  have KX := Lib.hid kx; have KY := Lib.hid ky; have KZ := Lib.hid kz; have FIN := Lib.hid fin
  clear hm wd kx ky kz fin
  go_enter Tryd.func19, Tryd.ntmps19
  go_wp2_with fail
  refine (LA.out _).mono ?_
  rintro e w1 ⟨rfl, k1⟩
  have kk := ((Kept.refl w).alloc _).trans k1
  have bx := (B0.out w).kept k1
  have HX : Hid (∀ d os, Mx (Go.Sort.grow (redrawn w1 d) os) mx) := fun d os => (HM.out.kept kk).kept (below_regrown w1 d os)
  obtain ⟨i0, s0, s1, s2, sf⟩ := bx.facts3
  go_wp2_with fail
  have A0 := cell_regrown s0; have A1 := cell_regrown s1; have A2 := cell_regrown s2
  refine region_alloc_tail 6 9 (fun _ => zeroV) (by kernel_rfl) (by kernel_rfl) (by omega) (fun i h1 h2 => by
    obtain rfl | rfl | rfl : i = 6 ∨ i = 7 ∨ i = 8 := by omega
    all_goals exact ⟨_, rfl, mkV rfl rfl⟩) ?_
  simp only [List.take_succ_cons, List.take_zero, List.drop_succ_cons, List.drop_zero]
  repeat (refine walkK_step (fun K hK => ?_); go_simp; first | (refine hK _ ?_; clear hK K) | (apply Exists.intro; refine ⟨fun dz oz => ?_, hK _ ?_⟩; (first | with_reducible exact (U1.out _ (HX.out _ _)) | with_reducible exact (U2.out _) | with_reducible exact (U3.out _)); clear hK K))
  refine walkK_nil ?_
  intro g0 g1 g2 w1q hmade
  obtain ⟨kq, b0, b1, b2, ne⟩ := Made.vars3 hmade
  clear hmade
  have kk0 := kk
  have kk := kk.trans kq
  have ws : w.heap.size ≤ w1.heap.size := kk0.size
  obtain ⟨n3, n4, n5⟩ := ne
  have F0 : Four w1q w.heap.size g0 g1 g2 ⟨k, n, t⟩ ⟨0, 0, []⟩ ⟨0, 0, []⟩ ⟨0, 0, []⟩ := ⟨bx.kept kq, b0.1, b1.1, b2.1⟩
  have n0 : w.heap.size ≠ g0 := by omega
  have n1 : w.heap.size ≠ g1 := by omega
  have n2 : w.heap.size ≠ g2 := by omega
  have F1 := F0.stored (x := x) (y := y) (z := z) n0 n1 n2 n3 n4 n5
  have kk1 : Kept w (((((((((w1q.setCell ⟨g0, 0, none⟩ (.int .u8 x.k)).setCell ⟨g0, 1, none⟩ (.int .i64 x.n)).setCell ⟨g0, 2, none⟩ (.string ⟨x.t.toArray⟩)).setCell ⟨g1, 0, none⟩ (.int .u8 y.k)).setCell ⟨g1, 1, none⟩ (.int .i64 y.n)).setCell ⟨g1, 2, none⟩ (.string ⟨y.t.toArray⟩)).setCell ⟨g2, 0, none⟩ (.int .u8 z.k)).setCell ⟨g2, 1, none⟩ (.int .i64 z.n)).setCell ⟨g2, 2, none⟩ (.string ⟨z.t.toArray⟩)) := ((kk.set3 (by omega)).set3 (by omega)).set3 (by omega)
  have X3 := F0.X.facts3; have Y3 := F0.Y.facts3; have Z3 := F0.Z.facts3
  obtain ⟨j0, x0, x1, x2, xf⟩ := X3
  obtain ⟨j1, y0, y1, y2, yf⟩ := Y3
  obtain ⟨j2, z0, z1, z2, zf⟩ := Z3
  have e3 : (g0 == g1) = false := by rw [beq_eq_false_iff_ne]; exact n3
  clear A0 A1 A2 s0 s1 s2 sf F0 b0 b1 b2 bx kq
  go_wp2_with fail
  generalize ((((((((w1q.setCell ⟨g0, 0, none⟩ (.int .u8 x.k)).setCell ⟨g0, 1, none⟩ (.int .i64 x.n)).setCell ⟨g0, 2, none⟩ (.string ⟨x.t.toArray⟩)).setCell ⟨g1, 0, none⟩ (.int .u8 y.k)).setCell ⟨g1, 1, none⟩ (.int .i64 y.n)).setCell ⟨g1, 2, none⟩ (.string ⟨y.t.toArray⟩)).setCell ⟨g2, 0, none⟩ (.int .u8 z.k)).setCell ⟨g2, 1, none⟩ (.int .i64 z.n)).setCell ⟨g2, 2, none⟩ (.string ⟨z.t.toArray⟩) = w2 at *
  clear x0 x1 x2 xf y0 y1 y2 yf z0 z1 z2 zf e3 n0 n1 n2 n3 n4 n5 j0 j1 j2 i0
  refine (C1.out _).mono ?_
  rintro e w3 ⟨rfl, kz⟩
  have F1 := F1.kept kz
  have kk1 := kk1.trans kz
  clear kz
  try clear x0 x1 x2 y0 y1 y2 z0 z1 z2 a0 a1 a2 j0 j1 j2 j3 xf yf zf af
  have AX := F1.A.facts3; have XX := F1.X.facts3; have YY := F1.Y.facts3; have ZZ := F1.Z.facts3
  obtain ⟨j3, a0, a1, a2, af⟩ := AX
  obtain ⟨j0, x0, x1, x2, xf⟩ := XX
  obtain ⟨j1, y0, y1, y2, yf⟩ := YY
  obtain ⟨j2, z0, z1, z2, zf⟩ := ZZ
  go_wp2_with fail
  refine (C2.out _).mono ?_
  rintro e w4 ⟨rfl, kz⟩
  have F1 := F1.kept kz
  have kk1 := kk1.trans kz
  clear kz
  try clear x0 x1 x2 y0 y1 y2 z0 z1 z2 a0 a1 a2 j0 j1 j2 j3 xf yf zf af
  have AX := F1.A.facts3; have XX := F1.X.facts3; have YY := F1.Y.facts3; have ZZ := F1.Z.facts3
  obtain ⟨j3, a0, a1, a2, af⟩ := AX
  obtain ⟨j0, x0, x1, x2, xf⟩ := XX
  obtain ⟨j1, y0, y1, y2, yf⟩ := YY
  obtain ⟨j2, z0, z1, z2, zf⟩ := ZZ
  go_wp2_with fail
  refine (C3.out _).mono ?_
  rintro e w5 ⟨rfl, kz⟩
  have F1 := F1.kept kz
  have kk1 := kk1.trans kz
  clear kz x0 x1 x2 y0 y1 y2 z0 z1 z2 a0 a1 a2 j0 j1 j2 j3 xf yf zf af
  have AX := F1.A.facts3; have XX := F1.X.facts3; have YY := F1.Y.facts3; have ZZ := F1.Z.facts3
  obtain ⟨j3, a0, a1, a2, af⟩ := AX
  obtain ⟨j0, x0, x1, x2, xf⟩ := XX
  obtain ⟨j1, y0, y1, y2, yf⟩ := YY
  obtain ⟨j2, z0, z1, z2, zf⟩ := ZZ
  have HY : Hid (∀ d os, Mx (Go.Sort.grow (redrawn w5 d) os) mx) := fun d os => (HM.out.kept kk1).kept (below_regrown w5 d os)
  have fx := KX.out; have fy := KY.out; have fz := KZ.out
  rcases fx with fx | ⟨fx, fx2⟩ <;> rcases fy with fy | ⟨fy, fy2⟩ <;> rcases fz with fz | ⟨fz, fz2⟩
  all_goals
    go_wp2_with fail
    have R0 := cell_regrown x0; have R1 := cell_regrown x1; have R2 := cell_regrown x2
    have Q0 := cell_regrown y0; have Q1 := cell_regrown y1; have Q2 := cell_regrown y2
    have P0 := cell_regrown z0; have P1 := cell_regrown z1; have P2 := cell_regrown z2
    refine wp_region_quiet_below (w := w5) (by kernel_rfl) (by kernel_rfl) ?_
    repeat (quiet_step (first | with_reducible exact Calls.regrown_of (V1.out _ (HY.out _ _)) | with_reducible exact Calls.regrown_of (V2.out _) | with_reducible exact Calls.regrown_of (V3.out _)))
    refine wpQuiet_nil ?_
    intro _ hw'; obtain ⟨⟨dq, osq⟩, hw''⟩ := hw'; subst hw''
    have kq : Kept w5 (Go.Sort.grow (redrawn w5 dq) osq) := below_regrown w5 dq osq
    generalize Go.Sort.grow (redrawn w5 dq) osq = w5q at *
    have F2 := F1.kept kq
    have kk2 := kk1.trans kq
    clear R0 R1 R2 Q0 Q1 Q2 P0 P1 P2 x0 x1 x2 y0 y1 y2 z0 z1 z2 a0 a1 a2 j0 j1 j2 j3 xf yf zf af kq HY
    have AX := F2.A.facts3; have XX := F2.X.facts3; have YY := F2.Y.facts3; have ZZ := F2.Z.facts3
    obtain ⟨j3, a0, a1, a2, af⟩ := AX
    obtain ⟨j0, x0, x1, x2, xf⟩ := XX
    obtain ⟨j1, y0, y1, y2, yf⟩ := YY
    obtain ⟨j2, z0, z1, z2, zf⟩ := ZZ
    have ff := FIN.out
    rcases ff with f1 | ⟨f1, f2⟩ | ⟨f1, f2, f3, f4, f5⟩
    · go_wp2_with fail
      refine (K.out _ (HM.out.kept kk2) (WD.out.kept kk2)).mono ?_
      rintro e w9 ⟨rfl, k9⟩
      go_wp2_with fail
      go_ret
      exact ⟨rfl, kk2.trans k9⟩
    · go_wp2_with fail
      refine (C0.out _).mono ?_
      rintro e w8 ⟨rfl, k8⟩
      have kk3 := kk2.trans k8
      go_wp2_with fail
      refine (K.out _ (HM.out.kept kk3) (WD.out.kept kk3)).mono ?_
      rintro e w9 ⟨rfl, k9⟩
      go_wp2_with fail
      go_ret
      exact ⟨rfl, kk3.trans k9⟩
    · subst f2 f3 f4 f5
      go_wp2_with fail
      refine (C0.out _).mono ?_
      rintro e w8 ⟨rfl, k8⟩
      have F3 := F2.kept k8
      have kk3 := kk2.trans k8
      clear x0 x1 x2 y0 y1 y2 z0 z1 z2 a0 a1 a2 j0 j1 j2 j3 xf yf zf af
      have AX := F3.A.facts3; have XX := F3.X.facts3; have YY := F3.Y.facts3; have ZZ := F3.Z.facts3
      obtain ⟨j3, a0, a1, a2, af⟩ := AX
      obtain ⟨j0, x0, x1, x2, xf⟩ := XX
      obtain ⟨j1, y0, y1, y2, yf⟩ := YY
      obtain ⟨j2, z0, z1, z2, zf⟩ := ZZ
      go_wp2_with fail
      refine (K.out _ (HM.out.kept kk3) (WD.out.kept kk3)).mono ?_
      rintro e w9 ⟨rfl, k9⟩
      go_wp2_with fail
      go_ret
      exact ⟨rfl, kk3.trans k9⟩

theorem kind_way {k : Nat} {a : Nat} (h : k = a ∨ k = 4) : ((k : Int) != (a : Int)) = false ∨ (((k : Int) != (a : Int)) = true ∧ ((k : Int) != 4) = false) := by
  by_cases e : k = a
  · subst e; exact Or.inl (by simp)
  · have f : k = 4 := by omega
    subst f
    exact Or.inr ⟨by rw [bne_iff_ne]; intro g; exact e (Int.ofNat_inj.1 g), by decide⟩
set_option maxRecDepth 100000 in
theorem ValKinds_walk (a0 : Vl) (w0 : i64 a0.n ∧ a0.t.length ≤ maxLen) (w : World) (mx : Int) (hm : Mx w mx) (wd : Wd w) :
    Calls Tryd.prog 19 #[aggV a0] w fun e w' => e = .returned (.bool true) ∧ Below w.heap.size w w' := by
  obtain ⟨k, n, t⟩ := a0
  obtain ⟨n1, t1⟩ := w0
  simp only at n1 t1
  unfold maxLen at t1
  have LA := Lib.hid (fun w => long_v k n t w (by omega))
  by_cases c1 : 2000 < t.length
  · rw [decide_eq_true c1] at LA
    have K := Lib.hid (fun w h h' => known5_any w mx h h')
    have HM := Lib.hid hm
    have WD := Lib.hid wd
    clear n1 t1 c1 hm wd
    go_enter Tryd.func19, Tryd.ntmps19
    go_wp2_with fail
    refine (LA.out _).mono ?_
    rintro e w1 ⟨rfl, k1⟩
    have kk := ((Kept.refl w).alloc _).trans k1
    go_wp2_with fail
    refine (K.out _ (HM.out.kept kk) (WD.out.kept kk)).mono ?_
    rintro e w2 ⟨rfl, k2⟩
    go_wp2_with fail
    go_ret
    exact ⟨rfl, kk.trans k2⟩
  · rw [decide_eq_false c1] at LA
    have sm : Small ⟨k, n, t⟩ := ⟨n1, by simp only; omega⟩
    have sx := small_num sm; have sy := small_txt sm; have sz := small_bool sm
    have nn : (⟨k, n, t⟩ : Vl).n.natAbs ≤ 9223372036854775808 := by have := n1.1; have := n1.2; simp only; omega
    have qx := num_kinds ⟨k, n, t⟩; have qy := txt_kinds ⟨k, n, t⟩ nn; have qz := bool_kinds ⟨k, n, t⟩
    have V1 : Hid (∀ w, Mx w mx → Calls Tryd.prog 65 #[aggV (vNum ⟨k, n, t⟩)] w fun e w' => e = .returned (aggV (vNum ⟨k, n, t⟩)) ∧ Kept w w') := fun w h => by
      have r := tonum_any (vNum ⟨k, n, t⟩) w mx h sx.1 sx.2
      rwa [num_num] at r
    have V2 : Hid (∀ w, Calls Tryd.prog 67 #[aggV (vTxt ⟨k, n, t⟩)] w fun e w' => e = .returned (aggV (vTxt ⟨k, n, t⟩)) ∧ Kept w w') := fun w => by
      have r := totxt_any (vTxt ⟨k, n, t⟩) w sy.1 sy.2
      rwa [txt_txt _ nn] at r
    have V3 : Hid (∀ w, Calls Tryd.prog 53 #[aggV (vBool ⟨k, n, t⟩)] w fun e w' => e = .returned (aggV (vBool ⟨k, n, t⟩)) ∧ Kept w w') := fun w => by
      have r := tobool_any (vBool ⟨k, n, t⟩) w sz.1 sz.2
      rwa [bool_bool] at r
    have ck : ∀ v : Vl, Small v → vOk v = true → Hid (∀ w, Calls Tryd.prog 51 #[aggV v] w fun e w' => e = .returned (.int .i64 0) ∧ Kept w w') := fun v s o w => by
      have r := vcheck5_any v w s.1 (by have := s.2; omega)
      rwa [chk_yes o] at r
    refine kinds_main k n t w mx hm wd _ _ _ (vChk ⟨k, n, t⟩) LA (fun w h => tonum_any ⟨k, n, t⟩ w mx h sm.1 sm.2) (fun w => totxt_any ⟨k, n, t⟩ w sm.1 sm.2) (fun w => tobool_any ⟨k, n, t⟩ w sm.1 sm.2) V1 V2 V3
      (ck _ sx qx.1) (ck _ sy qy.1) (ck _ sz qz.1) (fun w => vcheck5_any ⟨k, n, t⟩ w sm.1 (by have := sm.2; omega)) (kind_way qx.2) (kind_way qy.2) (kind_way qz.2) ?_
    by_cases e : k = 4
    · refine Or.inr ?_
      have e4 : ((k : Int) == 4) = true := by rw [beq_iff_eq]; omega
      by_cases o : vOk ⟨k, n, t⟩ = true
      · exact Or.inr ⟨e4, chk_yes o, num_stay o (Or.inr e), txt_stay o (Or.inr e), bool_stay o (Or.inr e)⟩
      · exact Or.inl ⟨e4, by rw [chk_no (by simpa using o)]; rfl⟩
    · exact Or.inl (by rw [beq_eq_false_iff_ne]; omega)
end Go.Proofs.YtipkjpcedfokhaaDoor
