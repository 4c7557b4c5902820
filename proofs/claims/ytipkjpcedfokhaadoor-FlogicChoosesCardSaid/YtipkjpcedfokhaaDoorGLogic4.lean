/- Layer 15: choice of a number. -/
import Derived.Test.YtipkjpcedfokhaaDoorGLogic3
namespace Go.Proofs.YtipkjpcedfokhaaDoor
set_option linter.unusedVariables false
set_option linter.unusedSimpArgs false
open Go.RowKit Lv

set_option maxHeartbeats 2000000 in
set_option maxRecDepth 100000 in
theorem choiceN_any (b off cap : Nat) (a : Vl) (r : List Vl) (y : Vl) (w : World) (hr : RowV w (some ⟨b, off, none⟩) (a :: r)) (hl : r.length + 1 ≤ 100) (hn : 1 ≤ r.length) (hc : r.length + 1 ≤ cap)
    (hf : ∀ w', Kept w w' → Calls Tryd.prog 65 #[aggV a] w' fun e w'' => e = .returned (aggV y) ∧ Kept w' w'') :
    Calls Tryd.prog 124 #[.slice (some ⟨b, off, none⟩) (r.length + 1) cap, .func (.func 65) #[] #[]] w fun e w' => e = .returned (chosenE y (firstE r)) ∧ Kept w w' := by
  obtain ⟨b', off', e, hb, x0, x1, x2⟩ := hr 0 (by simp)
  cases e
  simp only [Nat.zero_mul, Nat.add_zero, List.getD_cons_zero] at x0 x1 x2
  have rt := (RowV.drop hr 1)
  simp only [Nat.one_mul, List.drop_succ_cons, List.drop_zero] at rt
  have RT := Lib.hid rt
  have FV : Hid (∀ w, RowV w (some ⟨b, off + 3, none⟩) r → Calls Tryd.prog 144 #[.slice (some ⟨b, off + 3, none⟩) r.length (cap - 1), .func (.func 145) #[] #[], aggV y, .func (.func 146) #[] #[]] w
    fun e w' => e = .returned (foldE (aggV y) (aggV (r.getLastD y)) (firstE r)) ∧ Kept w w') := fun w h => foldV_any _ _ r y w h (by omega)
  have TB := Lib.hid hf
  have b0 : Box ((w.alloc (.cells #[.int .u8 0, .int .i64 0, .string ⟨#[]⟩] 35)).alloc (.cells #[.int .u8 0, .int .i64 0, .string ⟨#[]⟩] 35)) w.heap.size 35 (cellsV blankV) := (Box.new w _ _).alloc _
  have b1 : Box ((w.alloc (.cells #[.int .u8 0, .int .i64 0, .string ⟨#[]⟩] 35)).alloc (.cells #[.int .u8 0, .int .i64 0, .string ⟨#[]⟩] 35)) (w.heap.size + 1) 35 (cellsV blankV) := Box.newAt (by simp) _ _
  have B0 := Lib.hid b0
  have B1 := Lib.hid b1
  clear hr hf rt b0 b1
  cases he : isE y with
  | true =>
    have yk : ((y.k : Int) == 4) = true := by have := isE_iff.1 he; rw [beq_iff_eq]; omega
    have EF : Hid (chosenE y (firstE r) = .tuple #[aggV blankV, aggV y, .bool false]) := by
      show _ = _
      unfold chosenE; rw [he]; rfl
    clear he
    go_enter Tryd.func124, Tryd.ntmps124
    go_wp2_with fail
    refine (TB.out _ (by repeat (first | with_reducible exact Kept.refl _ | with_reducible apply Kept.drew | with_reducible apply Kept.drewN | with_reducible apply Kept.alloc | (with_reducible refine Kept.setCellX ?_ ?_ _; focus (first | (simp; done) | (simp; omega))) | (with_reducible refine Kept.trans ?_ (by assumption))))).mono ?_
    rintro e w1 ⟨rfl, k1⟩
    have c0 := B0.out.kept k1
    have c1 := B1.out.kept k1
    have kk : Kept w w1 := Kept.trans (by repeat (first | with_reducible exact Kept.refl _ | with_reducible apply Kept.drew | with_reducible apply Kept.drewN | with_reducible apply Kept.alloc | (with_reducible refine Kept.setCellX ?_ ?_ _; focus (first | (simp; done) | (simp; omega))) | (with_reducible refine Kept.trans ?_ (by assumption)))) k1
    obtain ⟨i0, p0, p1, p2, f0, f1, f2⟩ := c0.three
    obtain ⟨i1, q0, q1, q2, g0, g1, g2⟩ := c1.three
    have KK := Lib.hid kk
    have C0 := Lib.hid c0
    have C1 := Lib.hid c1
    clear c0 c1 kk k1
    go_wp2_with fail
    refine ret_world (fun wf => Box wf w.heap.size 35 #[.int .u8 0, .int .i64 0, .string ⟨#[]⟩] ∧ Box wf (w.heap.size + 1) 35 (cellsV y) ∧ Kept w wf)
      ⟨Box.far3 (Box.set3 (Box.set3 C0.out)) (by omega), Box.set3 (Box.far3 (Box.far3 C1.out (by omega)) (by omega)), ((KK.out.set3 (Nat.le_refl _)).set3 (Nat.le_refl _)).set3 (by omega)⟩ ?_
    rintro wf ⟨z0, z1, kf⟩
    obtain ⟨r0, r1, r2⟩ := z0.cells3
    obtain ⟨s0, s1, s2⟩ := z1.cells3
    exact bodyPost_ret (v := .tuple #[.agg #[.int .u8 0, .int .i64 0, .string ⟨#[]⟩], aggV y, .bool false]) (by simp [results, Tryd.results124, go_sem, r0, r1, r2, s0, s1, s2]) rfl ⟨congrArg Ending.returned EF.out.symm, kf⟩
  | false =>
    have yk : ((y.k : Int) == 4) = false := by rw [beq_eq_false_iff_ne]; intro h; rw [isE_iff.2 (by omega)] at he; cases he
    obtain ⟨out, z, ok, h1, h2⟩ : ∃ out z ok, foldE (aggV y) (aggV (r.getLastD y)) (firstE r) = .tuple #[aggV out, aggV z, .bool ok] ∧ chosenE y (firstE r) = .tuple #[aggV y, aggV z, .bool ok] := by
      unfold chosenE
      rw [he]
      cases firstE r with
      | some e => exact ⟨_, _, _, rfl, rfl⟩
      | none => exact ⟨_, _, _, rfl, rfl⟩
    rw [h1] at FV
    have EF := Lib.hid h2
    clear h1 h2
    clear he
    go_enter Tryd.func124, Tryd.ntmps124
    go_wp2_with fail
    refine (TB.out _ (by repeat (first | with_reducible exact Kept.refl _ | with_reducible apply Kept.drew | with_reducible apply Kept.drewN | with_reducible apply Kept.alloc | (with_reducible refine Kept.setCellX ?_ ?_ _; focus (first | (simp; done) | (simp; omega))) | (with_reducible refine Kept.trans ?_ (by assumption))))).mono ?_
    rintro e w1 ⟨rfl, k1⟩
    have c0 := B0.out.kept k1
    have c1 := B1.out.kept k1
    have kk : Kept w w1 := Kept.trans (by repeat (first | with_reducible exact Kept.refl _ | with_reducible apply Kept.drew | with_reducible apply Kept.drewN | with_reducible apply Kept.alloc | (with_reducible refine Kept.setCellX ?_ ?_ _; focus (first | (simp; done) | (simp; omega))) | (with_reducible refine Kept.trans ?_ (by assumption)))) k1
    obtain ⟨i0, p0, p1, p2, f0, f1, f2⟩ := c0.three
    have KK := Lib.hid kk
    have C0 := Lib.hid c0
    have C1 := Lib.hid c1
    have K1 := Lib.hid k1
    clear c0 c1 kk k1
    go_wp2_with fail
    refine wp_world (fun wf => RowV wf (some ⟨b, off + 3, none⟩) r ∧ Box wf w.heap.size 35 (cellsV y) ∧ Box wf (w.heap.size + 1) 35 (cellsV blankV) ∧ Kept w wf)
      ⟨RT.out.kept (KK.out.set3 (Nat.le_refl _)), Box.set3 C0.out, Box.far3 C1.out (by omega), KK.out.set3 (Nat.le_refl _)⟩ ?_
    rintro w3 ⟨rt, z0, z1, kf⟩
    have RT := Lib.hid rt
    have Z0 := Lib.hid z0
    have Z1 := Lib.hid z1
    have KF := Lib.hid kf
    obtain ⟨_, r0, r1, r2, _⟩ := z0.three
    clear rt z0 z1 kf C0 C1 K1 KK p0 p1 p2 f0 f1 f2 x0 x1 x2
    have A0 := cell_regrown r0; have A1 := cell_regrown r1; have A2 := cell_regrown r2
    have cne : ¬ cap = 1 := by omega
    have HX : Hid (∀ d os, RowV (Go.Sort.grow (redrawn w3 d) os) (some ⟨b, off + 3, none⟩) r) := fun d os => RT.out.kept (below_regrown w3 d os)
    obtain ⟨_, s0, s1, s2, t0, t1, t2⟩ := Z1.out.three
    go_region_with (go_at_call 144; refine (FV.out _ (by first | exact RT.out | exact RT.out.kept ((Kept.refl _).drew))).mono ?_; rintro e w4 ⟨rfl, k4⟩; obtain ⟨_, y0, y1, y2, v0, v1, v2⟩ := ((Z1.out.drew).kept k4).three; obtain ⟨_, y0', y1', y2', v0', v1', v2'⟩ := ((Z0.out.drew).kept k4).three)
    all_goals go_wp2_with fail
    all_goals
      refine wp_world (fun wf => Box wf w.heap.size 35 (cellsV y) ∧ Box wf (w.heap.size + 1) 35 (cellsV z) ∧ Kept w wf)
        ⟨Box.far3 ((Z0.out.drew).kept k4) (by omega), Box.set3 ((Z1.out.drew).kept k4), ((KF.out.drew).trans k4).set3 (by omega)⟩ ?_
      rintro w5 ⟨z0, z1, kf⟩
      obtain ⟨j0, p0, p1, p2, f0, f1, f2⟩ := z0.three
      obtain ⟨j1, q0, q1, q2, g0, g1, g2⟩ := z1.three
      have KF5 := Lib.hid kf
      have Z05 := Lib.hid z0
      have Z15 := Lib.hid z1
      clear z0 z1 kf r0 r1 r2 A0 A1 A2 s0 s1 s2 t0 t1 t2 y0 y1 y2 v0 v1 v2 y0' y1' y2' v0' v1' v2' k4
      go_region
      all_goals go_wp2_with fail
      all_goals
        refine ret_world (fun wf => Box wf w.heap.size 35 (cellsV y) ∧ Box wf (w.heap.size + 1) 35 (cellsV z) ∧ Kept w wf)
          ⟨(Box.far3 (Box.set3 Z05.out) (by omega)).drew, (Box.set3 (Box.far3 Z15.out (by omega))).drew, ((KF5.out.set3 (Nat.le_refl _)).set3 (by omega)).drew⟩ ?_
        rintro wf ⟨z0, z1, kf⟩
        obtain ⟨e0, e1, e2⟩ := z0.cells3
        obtain ⟨d0, d1, d2⟩ := z1.cells3
        exact bodyPost_ret (v := .tuple #[aggV y, aggV z, .bool ok]) (by simp [results, Tryd.results124, go_sem, e0, e1, e2, d0, d1, d2]) rfl ⟨congrArg Ending.returned EF.out.symm, kf⟩

end Go.Proofs.YtipkjpcedfokhaaDoor
