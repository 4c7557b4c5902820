/- Values made valid. -/
import Derived.Test.YtipkjpcedfokhaaDoorGFew
import Derived.Test.YtipkjpcedfokhaaDoorGLogic6
namespace Go.Proofs.YtipkjpcedfokhaaDoor
set_option linter.unusedVariables false
set_option linter.unusedSimpArgs false
open Go.RowKit Lv

theorem cut_text (t : List UInt8) {j : Nat} (hj : min (t.length : Int) 300 = (j : Int)) : (ByteArray.mk t.toArray).extract 0 j = ⟨(t.take 300).toArray⟩ := by
  rw [ba_extract, List.drop_zero]
  congr 2
  by_cases c : t.length ≤ 300
  · rw [List.take_of_length_le (by omega), List.take_of_length_le (by omega)]
  · rw [show j = 300 by omega]
theorem tmod_two (n : Int) : -2 < Int.tmod n 2 ∧ Int.tmod n 2 < 2 := by
  have h1 := Int.tmod_lt_of_pos n (b := 2) (by omega)
  have h2 := Int.tmod_lt_of_pos (-n) (b := 2) (by omega)
  rw [Int.neg_tmod] at h2
  omega
theorem tmod_five (n : Int) : -5 < Int.tmod n 5 ∧ Int.tmod n 5 < 5 := by
  have h1 := Int.tmod_lt_of_pos n (b := 5) (by omega)
  have h2 := Int.tmod_lt_of_pos (-n) (b := 5) (by omega)
  rw [Int.neg_tmod] at h2
  omega

set_option maxHeartbeats 4000000 in
set_option maxRecDepth 100000 in
theorem good_any (v : Vl) (w : World) (hw : Wide v) : Calls Tryd.prog 49 #[aggV v] w fun e w' => e = .returned (aggV (vGood v)) ∧ Kept w w' := by
  obtain ⟨k, n, t⟩ := v
  obtain ⟨hk, ⟨n1, n2⟩, ht⟩ := hw
  simp only at hk n1 n2 ht
  have ml : maxLen ≤ 9223372036854775807 := by decide
  have tl : t.length ≤ 9223372036854775807 := Nat.le_trans ht ml
  obtain ⟨j, hj⟩ : ∃ j : Nat, min (t.length : Int) 300 = (j : Int) := ⟨min t.length 300, by omega⟩
  have jl : j ≤ t.length := by omega
  have hx := cut_text t hj
  have CK := Lib.hid (fun w => rcheck5_any ⟨k, n, t.take 300⟩ w ⟨n1, n2⟩ (by simp; omega))
  have lu : (t.take 300).length ≤ 300 := by rw [List.length_take]; omega
  have Z := ba_size
  have B1 : Hid (Box ((w.alloc (.cells (cellsV ⟨k, n, t.take 300⟩) 35)).alloc (.cells #[.int .u8 0, .int .i64 0, .string ⟨#[]⟩] 35)) (w.heap.size + 1) 35 (cellsV blankV)) := Lib.hid (Box.newAt (by simp) _ _)
  have B0 : Hid (Box ((w.alloc (.cells (cellsV ⟨k, n, t.take 300⟩) 35)).alloc (.cells #[.int .u8 0, .int .i64 0, .string ⟨#[]⟩] 35)) w.heap.size 35 (cellsV ⟨k, n, t.take 300⟩)) := Lib.hid ((Box.new w _ _).alloc _)
  clear ht ml
  have cut : cut300 ⟨k, n, t⟩ = ⟨k, n, t.take 300⟩ := rfl
  cases ok : vOk ⟨k, n, t.take 300⟩ with
  | true =>
    rw [chk_yes ok] at CK
    have EF : Hid (vGood ⟨k, n, t⟩ = ⟨k, n, t.take 300⟩) := by
      show _ = _
      exact (by unfold vGood; rw [cut, if_pos ok] : vGood ⟨k, n, t⟩ = ⟨k, n, t.take 300⟩)
    clear ok cut
    go_enter Tryd.func49, Tryd.ntmps49
    go_wp2_with fail
    refine (CK.out _).mono ?_
    rintro e w1 ⟨rfl, k1⟩
    obtain ⟨i0, p0, p1, p2, _⟩ := (B0.out.kept k1).three
    have C1 := Lib.hid (B1.out.kept k1)
    obtain ⟨j0, q0, q1, q2, g0, g1, g2⟩ := C1.out.three
    have KK : Hid (Kept w w1) := Lib.hid (Kept.trans (by repeat (first | with_reducible exact Kept.refl _ | with_reducible apply Kept.drew | with_reducible apply Kept.drewN | with_reducible apply Kept.alloc | (with_reducible refine Kept.setCellX ?_ ?_ _; focus (first | (simp; done) | (simp; omega))) | (with_reducible refine Kept.trans ?_ (by assumption)))) k1)
    clear k1
    go_wp2_with fail
    refine ret_world (fun wf => Box wf (w.heap.size + 1) 35 (cellsV ⟨k, n, t.take 300⟩) ∧ Kept w wf) ⟨Box.set3 C1.out, KK.out.set3 (by omega)⟩ ?_
    rintro wf ⟨z0, kf⟩
    obtain ⟨e0, e1, e2⟩ := z0.cells3
    exact bodyPost_ret (v := aggV ⟨k, n, t.take 300⟩) (by simp [results, Tryd.results49, go_sem, e0, e1, e2]) rfl ⟨congrArg (fun z => Ending.returned (aggV z)) EF.out.symm, kf⟩
  | false =>
    rw [chk_no ok] at CK
    have EG : Hid (vGood ⟨k, n, t⟩ = if k % 5 = 2 then vTruth (decide (Int.tmod n 2 ≠ 0)) else if k % 5 = 3 then ⟨3, 0, [120]⟩ else if k % 5 = 4 then vFail (1 + Int.tmod (Int.tmod n 5 + 5) 5) else if k % 5 = 0 then ⟨0, 0, []⟩ else vMake (max n (-9223372036854775807))) := by
      show _ = _
      unfold vGood; rw [cut, if_neg (by rw [ok]; exact Bool.false_ne_true)]
    clear ok cut
    obtain ⟨q, hq⟩ : ∃ q : Nat, q = k % 5 := ⟨_, rfl⟩
    have q5 : q < 5 := by omega
    have km : (k : Int) % 5 = (q : Int) := by omega
    rw [← hq] at EG
    clear hq
    match q, q5 with
    | 0, _ =>
      have EF : Hid (vGood ⟨k, n, t⟩ = ⟨0, 0, []⟩) := EG
      have km : (k : Int) % 5 = 0 := km
      clear EG
      go_enter Tryd.func49, Tryd.ntmps49
      go_wp2_with fail
      refine (CK.out _).mono ?_
      rintro e w1 ⟨rfl, k1⟩
      obtain ⟨i0, p0, p1, p2, _⟩ := (B0.out.kept k1).three
      have C1 := Lib.hid (B1.out.kept k1)
      obtain ⟨j0, q0, q1, q2, g0, g1, g2⟩ := C1.out.three
      have KK : Hid (Kept w w1) := Lib.hid (Kept.trans (by repeat (first | with_reducible exact Kept.refl _ | with_reducible apply Kept.drew | with_reducible apply Kept.drewN | with_reducible apply Kept.alloc | (with_reducible refine Kept.setCellX ?_ ?_ _; focus (first | (simp; done) | (simp; omega))) | (with_reducible refine Kept.trans ?_ (by assumption)))) k1)
      clear k1
      go_wp2_with fail
      refine ret_world (fun wf => Box wf (w.heap.size + 1) 35 (cellsV (⟨0, 0, []⟩ : Vl)) ∧ Kept w wf) ⟨Box.set3 C1.out, KK.out.set3 (by omega)⟩ ?_
      rintro wf ⟨z0, kf⟩
      obtain ⟨e0, e1, e2⟩ := z0.cells3
      exact bodyPost_ret (v := aggV (⟨0, 0, []⟩ : Vl)) (by simp [results, Tryd.results49, go_sem, e0, e1, e2]) rfl ⟨congrArg (fun z => Ending.returned (aggV z)) EF.out.symm, kf⟩
    | 1, _ =>
      have EF : Hid (vGood ⟨k, n, t⟩ = vMake (max n (-9223372036854775807))) := EG
      have km : (k : Int) % 5 = 1 := km
      obtain ⟨z, hz⟩ : ∃ z, max n (-9223372036854775807) = z := ⟨_, rfl⟩
      rw [hz] at EF
      have z1 : -9223372036854775808 ≤ z := by omega
      have z2 : z ≤ 9223372036854775807 := by omega
      have T := Lib.hid (fun w => rmake_any z w z1 z2)
      generalize vMake z = y at *
      clear EG
      go_enter Tryd.func49, Tryd.ntmps49
      go_wp2_with fail
      refine (CK.out _).mono ?_
      rintro e w1 ⟨rfl, k1⟩
      obtain ⟨i0, p0, p1, p2, _⟩ := (B0.out.kept k1).three
      have C1 := Lib.hid (B1.out.kept k1)
      obtain ⟨j0, q0, q1, q2, g0, g1, g2⟩ := C1.out.three
      have KK : Hid (Kept w w1) := Lib.hid (Kept.trans (by repeat (first | with_reducible exact Kept.refl _ | with_reducible apply Kept.drew | with_reducible apply Kept.drewN | with_reducible apply Kept.alloc | (with_reducible refine Kept.setCellX ?_ ?_ _; focus (first | (simp; done) | (simp; omega))) | (with_reducible refine Kept.trans ?_ (by assumption)))) k1)
      clear k1
      go_wp2_with fail
      refine (T.out _).mono ?_
      rintro e w2 ⟨rfl, k2⟩
      have C1 := Lib.hid (C1.out.kept k2)
      have KK := Lib.hid (KK.out.trans k2)
      obtain ⟨j0, q0, q1, q2, g0, g1, g2⟩ := C1.out.three
      clear k2
      go_wp2_with fail
      refine ret_world (fun wf => Box wf (w.heap.size + 1) 35 (cellsV y) ∧ Kept w wf) ⟨Box.set3 C1.out, KK.out.set3 (by omega)⟩ ?_
      rintro wf ⟨z0, kf⟩
      obtain ⟨e0, e1, e2⟩ := z0.cells3
      exact bodyPost_ret (v := aggV y) (by simp [results, Tryd.results49, go_sem, e0, e1, e2]) rfl ⟨congrArg (fun z => Ending.returned (aggV z)) EF.out.symm, kf⟩
    | 2, _ =>
      have km : (k : Int) % 5 = 2 := km
      obtain ⟨bb, hb⟩ : ∃ bb, (Int.tmod n 2 != 0) = bb := ⟨_, rfl⟩
      have EF : Hid (vGood ⟨k, n, t⟩ = vTruth bb) := by
        show _ = _
        rw [EG.out, if_pos rfl, ← hb]
        congr 1
        by_cases c : Int.tmod n 2 = 0
        · rw [c]; rfl
        · rw [decide_eq_true c]; symm; rw [bne_iff_ne]; exact c
      have T := Lib.hid (fun w => rtruth_any bb w)
      clear EG
      go_enter Tryd.func49, Tryd.ntmps49
      go_wp2_with fail
      refine (CK.out _).mono ?_
      rintro e w1 ⟨rfl, k1⟩
      obtain ⟨i0, p0, p1, p2, _⟩ := (B0.out.kept k1).three
      have C1 := Lib.hid (B1.out.kept k1)
      obtain ⟨j0, q0, q1, q2, g0, g1, g2⟩ := C1.out.three
      have KK : Hid (Kept w w1) := Lib.hid (Kept.trans (by repeat (first | with_reducible exact Kept.refl _ | with_reducible apply Kept.drew | with_reducible apply Kept.drewN | with_reducible apply Kept.alloc | (with_reducible refine Kept.setCellX ?_ ?_ _; focus (first | (simp; done) | (simp; omega))) | (with_reducible refine Kept.trans ?_ (by assumption)))) k1)
      clear k1
      go_wp2_with fail
      refine (T.out _).mono ?_
      rintro e w2 ⟨rfl, k2⟩
      have C1 := Lib.hid (C1.out.kept k2)
      have KK := Lib.hid (KK.out.trans k2)
      obtain ⟨j0, q0, q1, q2, g0, g1, g2⟩ := C1.out.three
      clear k2
      go_wp2_with fail
      refine ret_world (fun wf => Box wf (w.heap.size + 1) 35 (cellsV (vTruth bb)) ∧ Kept w wf) ⟨Box.set3 C1.out, KK.out.set3 (by omega)⟩ ?_
      rintro wf ⟨z0, kf⟩
      obtain ⟨e0, e1, e2⟩ := z0.cells3
      exact bodyPost_ret (v := aggV (vTruth bb)) (by simp [results, Tryd.results49, go_sem, e0, e1, e2]) rfl ⟨congrArg (fun z => Ending.returned (aggV z)) EF.out.symm, kf⟩
    | 3, _ =>
      have EF : Hid (vGood ⟨k, n, t⟩ = ⟨3, 0, [120]⟩) := EG
      have km : (k : Int) % 5 = 3 := km
      clear EG
      go_enter Tryd.func49, Tryd.ntmps49
      go_wp2_with fail
      refine (CK.out _).mono ?_
      rintro e w1 ⟨rfl, k1⟩
      obtain ⟨i0, p0, p1, p2, _⟩ := (B0.out.kept k1).three
      have C1 := Lib.hid (B1.out.kept k1)
      obtain ⟨j0, q0, q1, q2, g0, g1, g2⟩ := C1.out.three
      have KK : Hid (Kept w w1) := Lib.hid (Kept.trans (by repeat (first | with_reducible exact Kept.refl _ | with_reducible apply Kept.drew | with_reducible apply Kept.drewN | with_reducible apply Kept.alloc | (with_reducible refine Kept.setCellX ?_ ?_ _; focus (first | (simp; done) | (simp; omega))) | (with_reducible refine Kept.trans ?_ (by assumption)))) k1)
      clear k1
      go_wp2_with fail
      refine ret_world (fun wf => Box wf (w.heap.size + 1) 35 (cellsV (⟨3, 0, [120]⟩ : Vl)) ∧ Kept w wf) ⟨Box.set3 C1.out, KK.out.set3 (by omega)⟩ ?_
      rintro wf ⟨z0, kf⟩
      obtain ⟨e0, e1, e2⟩ := z0.cells3
      exact bodyPost_ret (v := aggV (⟨3, 0, [120]⟩ : Vl)) (by simp [results, Tryd.results49, go_sem, e0, e1, e2]) rfl ⟨congrArg (fun z => Ending.returned (aggV z)) EF.out.symm, kf⟩
    | 4, _ =>
      have EF : Hid (vGood ⟨k, n, t⟩ = vFail (1 + Int.tmod (Int.tmod n 5 + 5) 5)) := EG
      have km : (k : Int) % 5 = 4 := km
      have t5 := tmod_five n
      obtain ⟨t51, t52⟩ := t5
      obtain ⟨z, hz⟩ : ∃ z, Int.tmod n 5 = z := ⟨_, rfl⟩
      rw [hz] at EF t51 t52
      have u5 := tmod_five (z + 5)
      obtain ⟨u51, u52⟩ := u5
      obtain ⟨y, hy⟩ : ∃ y, Int.tmod (z + 5) 5 = y := ⟨_, rfl⟩
      rw [hy] at EF u51 u52
      have T := Lib.hid (fun w => rfail_any (1 + y) w)
      generalize vFail (1 + y) = f at *
      clear EG
      go_enter Tryd.func49, Tryd.ntmps49
      go_wp2_with fail
      refine (CK.out _).mono ?_
      rintro e w1 ⟨rfl, k1⟩
      obtain ⟨i0, p0, p1, p2, _⟩ := (B0.out.kept k1).three
      have C1 := Lib.hid (B1.out.kept k1)
      obtain ⟨j0, q0, q1, q2, g0, g1, g2⟩ := C1.out.three
      have KK : Hid (Kept w w1) := Lib.hid (Kept.trans (by repeat (first | with_reducible exact Kept.refl _ | with_reducible apply Kept.drew | with_reducible apply Kept.drewN | with_reducible apply Kept.alloc | (with_reducible refine Kept.setCellX ?_ ?_ _; focus (first | (simp; done) | (simp; omega))) | (with_reducible refine Kept.trans ?_ (by assumption)))) k1)
      clear k1
      go_wp2_with fail
      refine (T.out _).mono ?_
      rintro e w2 ⟨rfl, k2⟩
      have C1 := Lib.hid (C1.out.kept k2)
      have KK := Lib.hid (KK.out.trans k2)
      obtain ⟨j0, q0, q1, q2, g0, g1, g2⟩ := C1.out.three
      clear k2
      go_wp2_with fail
      refine ret_world (fun wf => Box wf (w.heap.size + 1) 35 (cellsV f) ∧ Kept w wf) ⟨Box.set3 C1.out, KK.out.set3 (by omega)⟩ ?_
      rintro wf ⟨z0, kf⟩
      obtain ⟨e0, e1, e2⟩ := z0.cells3
      exact bodyPost_ret (v := aggV f) (by simp [results, Tryd.results49, go_sem, e0, e1, e2]) rfl ⟨congrArg (fun z => Ending.returned (aggV z)) EF.out.symm, kf⟩
    | q + 5, h => exact absurd h (by omega)
end Go.Proofs.YtipkjpcedfokhaaDoor
