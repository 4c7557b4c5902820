/- The reference of layer 1: Trunc, Floor, Power, Round, Sqrt. -/
import Derived.Test.YtingopdeckgpaaaWRef4
import Derived.Test.YtingopdeckgpaaaWRoot
import Derived.Deep.RegionHeld3
namespace Go.Proofs.Ytingopdeckgpaaa
set_option linter.unusedVariables false
set_option linter.unusedSimpArgs false
open Go.RowKit Lv

theorem rtrunc_any (a : Int) (w : World) (h : i64 a) : Calls Try.prog 36 #[.int .i64 a] w fun e w' => e = .returned (.int .i64 (dTrunc a)) ∧ w = w' := by
  obtain ⟨h1, h2⟩ := h
  have tb := tmod_bounds a
  have b1 : -9223372036854775808 ≤ a - a.tmod 10000 := by omega
  have b2 : a - a.tmod 10000 ≤ 9223372036854775807 := by omega
  by_cases c : 0 ≤ a
  · have e : a.tmod 10000 = a % 10000 := Int.tmod_eq_emod_of_nonneg c
    have E : Hid (a - a % 10000 = dTrunc a) := by unfold dTrunc; rw [e]; rfl
    clear e
    go_enter Try.func36, Try.ntmps36
    go_wp2_with fail
    go_ret
    exact ⟨ret_int E.out, rfl⟩
  · go_enter Try.func36, Try.ntmps36
    go_wp2_with fail
    go_ret
    exact ⟨ret_int rfl, rfl⟩

theorem dTrunc_near (a : Int) : (0 ≤ a → dTrunc a ≤ a) ∧ (a < 0 → a ≤ dTrunc a) ∧ (dTrunc a - a < 10000) ∧ (a - dTrunc a < 10000) := by have tb := tmod_bounds a; unfold dTrunc; omega
theorem dTrunc_fit {a : Int} (h : i64 a) : fit (dTrunc a) = (dTrunc a, true) := by
  obtain ⟨h1, h2⟩ := h
  have tb := tmod_bounds a
  have e : dTrunc a % 10000 = 0 := by
    unfold dTrunc
    by_cases c : 0 ≤ a
    · rw [tmod_nonneg c]; omega
    · rw [tmod_neg (by omega)]; omega
  have e2 : dTrunc a = a - a.tmod 10000 := rfl
  exact fit_in (by omega) (by omega)

theorem rfloor_any (a : Int) (w : World) (h : i64 a) : Calls Try.prog 38 #[.int .i64 a] w fun e w' => e = .returned (.tuple #[.int .i64 (dFloor a).1, .bool (dFloor a).2]) ∧ Kept w w' := by
  have T := Lib.hid (fun w => rtrunc_any a w h)
  have tn := dTrunc_near a
  obtain ⟨t1, t2, _, _⟩ := tn
  have ti := dTrunc_i64 h
  by_cases c : a < dTrunc a
  · have a0 : a < 0 := by
      by_cases c2 : a < 0
      · exact c2
      · have := t1 (by omega); omega
    have S := Lib.hid (fun w => rsub_any (dTrunc a) 10000 w ti ⟨by omega, by omega⟩)
    have E : Hid (dFloor a = fit (dTrunc a - 10000)) := if_pos c
    have ne : (dTrunc a != a) = true := by rw [bne_iff_ne]; omega
    obtain ⟨h1, h2⟩ := h
    clear t1 t2 ti
    generalize fit (dTrunc a - 10000) = r at *
    generalize dTrunc a = t at *
    go_enter Try.func38, Try.ntmps38
    go_wp2_with fail
    refine (T.out _).mono ?_
    rintro e w' ⟨rfl, rfl⟩
    go_wp2_with fail
    refine (S.out _).mono ?_
    rintro e w' ⟨rfl, k1⟩
    go_wp2_with fail
    go_ret2
    exact ⟨ret_p E.out, (by repeat (first | with_reducible exact Kept.refl _ | with_reducible apply Kept.drew | with_reducible apply Kept.drewN | with_reducible apply Kept.alloc | (with_reducible refine Kept.setCellX ?_ ?_ _; focus (first | (simp; done) | (simp; omega))) | (with_reducible refine Kept.trans ?_ (by assumption))))⟩
  · have Z := Lib.hid (fun w => rsize_any (dTrunc a) w ti)
    have S := fun w => rsigned_any 0 (Lv.abs (dTrunc a)) (decide (dTrunc a < 0)) w ⟨by omega, by omega⟩ (abs_u64 ti)
    rw [show wd 0 (Lv.abs (dTrunc a)) = Lv.abs (dTrunc a) by unfold wd; omega, show sg (decide (dTrunc a < 0)) (Lv.abs (dTrunc a)) = dTrunc a from sg_neg_abs _, dTrunc_fit h] at S
    have HS := Lib.hid S
    have E : Hid (dFloor a = (dTrunc a, true)) := if_neg c
    by_cases a0 : a < 0
    · have ne : (dTrunc a != a) = false := by
        have := t2 a0
        have : dTrunc a = a := by omega
        rw [this]; simp
      obtain ⟨h1, h2⟩ := h
      clear t1 t2 S
      have ti1 := ti.1; have ti2 := ti.2
      generalize Lv.abs (dTrunc a) = s at *
      generalize dTrunc a = t at *
      go_enter Try.func38, Try.ntmps38
      go_wp2_with fail
      refine (T.out _).mono ?_
      rintro e w' ⟨rfl, rfl⟩
      go_wp2_with fail
      refine (Z.out _).mono ?_
      rintro e w' ⟨rfl, rfl⟩
      go_wp2_with fail
      refine (HS.out _).mono ?_
      rintro e w' ⟨rfl, k1⟩
      go_wp2_with fail
      go_ret2
      exact ⟨ret_p E.out, (by repeat (first | with_reducible exact Kept.refl _ | with_reducible apply Kept.drew | with_reducible apply Kept.drewN | with_reducible apply Kept.alloc | (with_reducible refine Kept.setCellX ?_ ?_ _; focus (first | (simp; done) | (simp; omega))) | (with_reducible refine Kept.trans ?_ (by assumption))))⟩
    · obtain ⟨h1, h2⟩ := h
      clear t1 t2 S
      have ti1 := ti.1; have ti2 := ti.2
      generalize Lv.abs (dTrunc a) = s at *
      generalize dTrunc a = t at *
      go_enter Try.func38, Try.ntmps38
      go_wp2_with fail
      refine (T.out _).mono ?_
      rintro e w' ⟨rfl, rfl⟩
      go_wp2_with fail
      refine (Z.out _).mono ?_
      rintro e w' ⟨rfl, rfl⟩
      go_wp2_with fail
      refine (HS.out _).mono ?_
      rintro e w' ⟨rfl, k1⟩
      go_wp2_with fail
      go_ret2
      exact ⟨ret_p E.out, (by repeat (first | with_reducible exact Kept.refl _ | with_reducible apply Kept.drew | with_reducible apply Kept.drewN | with_reducible apply Kept.alloc | (with_reducible refine Kept.setCellX ?_ ?_ _; focus (first | (simp; done) | (simp; omega))) | (with_reducible refine Kept.trans ?_ (by assumption))))⟩

set_option maxHeartbeats 400000 in
theorem rpower_any (a n : Int) (w : World) (h : i64 a) (hn : i64 n) : Calls Try.prog 40 #[.int .i64 a, .int .i64 n] w fun e w' => e = .returned (.tuple #[.int .i64 (dPow a n).1, .bool (dPow a n).2]) ∧ Kept w w' := by
  obtain ⟨n1, n2⟩ := hn
  by_cases c1 : n < -1000 ∨ 1000 < n
  · have E : Hid (dPow a n = (0, false)) := if_pos c1
    by_cases c2 : n < -1000
    · go_enter Try.func40, Try.ntmps40
      go_wp2_with fail
      go_ret2
      exact ⟨ret_p E.out, (by repeat (first | with_reducible exact Kept.refl _ | with_reducible apply Kept.drew | with_reducible apply Kept.drewN | with_reducible apply Kept.alloc | (with_reducible refine Kept.setCellX ?_ ?_ _; focus (first | (simp; done) | (simp; omega))) | (with_reducible refine Kept.trans ?_ (by assumption))))⟩
    · have c3 : 1000 < n := by omega
      clear c1
      go_enter Try.func40, Try.ntmps40
      go_wp2_with fail
      go_ret2
      exact ⟨ret_p E.out, (by repeat (first | with_reducible exact Kept.refl _ | with_reducible apply Kept.drew | with_reducible apply Kept.drewN | with_reducible apply Kept.alloc | (with_reducible refine Kept.setCellX ?_ ?_ _; focus (first | (simp; done) | (simp; omega))) | (with_reducible refine Kept.trans ?_ (by assumption))))⟩
  · have n3 : -1000 ≤ n := by omega
    have n4 : n ≤ 1000 := by omega
    by_cases c2 : n < 0
    · have E : Hid (dPow a n = if (pw a (-n).toNat).2 = true then dQuo 10000 (pw a (-n).toNat).1 else (0, false)) := by unfold dPow; rw [if_neg c1, if_pos c2]; rfl
      obtain ⟨m, hm⟩ : ∃ m : Nat, m = (-n).toNat := ⟨_, rfl⟩
      rw [← hm] at E
      have hn : n = -(m : Int) := by omega
      have hm1 : 1 ≤ m := by omega
      subst hn
      clear c1 hm c2 n1 n2
      go_enter Try.func40, Try.ntmps40
      go_wp2_with fail
      go_loopw [6, 7, 8] (fun x y i wr => ∃ k : Nat, k ≤ m ∧ i = .int .i64 k ∧ x = .int .i64 (pw a k).1 ∧ y = .bool (pw a k).2 ∧ Kept w wr) (fun _ _ i _ => m - (intOf i).toNat)
      case atStart => exact ⟨0, by omega, rfl, rfl, rfl, Kept.refl w⟩
      case round =>
        obtain ⟨k, hk, rfl, rfl, rfl, hkept⟩ := hrel
        by_cases d : (pw a k).2 = true
        · have D := Lib.hid d
          by_cases c : k < m
          · have M := Lib.hid (fun w => rmul_any (pw a k).1 a w (pw_i64 a k) h)
            have E1 : Hid (pw a (k + 1) = dMul (pw a k).1 a) := by show (if (pw a k).2 = true then _ else _) = _; rw [if_pos d]
            rw [d]
            clear d
            generalize (pw a k).1 = x at *
            go_wp2_with fail
            refine (M.out _).mono ?_
            rintro e w' ⟨rfl, k1⟩
            go_wp2_with fail
            go_roundw
            case rel => exact ⟨k + 1, by omega, by go_num, by rw [E1.out], by rw [E1.out], (by repeat (first | with_reducible exact Kept.refl _ | with_reducible apply Kept.drew | with_reducible apply Kept.drewN | with_reducible apply Kept.alloc | (with_reducible refine Kept.setCellX ?_ ?_ _; focus (first | (simp; done) | (simp; omega))) | (with_reducible refine Kept.trans ?_ (by assumption))))⟩
            case measure => simp [intOf]; omega
          · obtain rfl : k = m := by omega
            rw [d]
            clear d
            have Q := Lib.hid (fun w => rquo_any 10000 (pw a k).1 w ⟨by omega, by omega⟩ (pw_i64 a k))
            have E2 : Hid (dPow a (-(k : Int)) = dQuo 10000 (pw a k).1) := by rw [E.out, if_pos D.out]; rfl
            generalize (pw a k).1 = x at *
            generalize dQuo 10000 x = y at *
            go_wp2_with fail
            refine (Q.out _).mono ?_
            rintro e w' ⟨rfl, k1⟩
            go_wp2_with fail
            go_ret2
            exact ⟨ret_p E2.out, (by repeat (first | with_reducible exact Kept.refl _ | with_reducible apply Kept.drew | with_reducible apply Kept.drewN | with_reducible apply Kept.alloc | (with_reducible refine Kept.setCellX ?_ ?_ _; focus (first | (simp; done) | (simp; omega))) | (with_reducible refine Kept.trans ?_ (by assumption))))⟩
        · have d' : (pw a k).2 = false := by simpa using d
          have P0 := pw_stays d' 0
          have PM := pw_stays d' (m - k)
          rw [Nat.add_zero] at P0
          rw [show k + (m - k) = m by omega] at PM
          have E2 : Hid (dPow a (-(m : Int)) = (0, false)) := by rw [E.out, PM]; rfl
          rw [P0]
          clear d d' P0 PM
          go_wp2_with fail
          go_ret2
          exact ⟨ret_p E2.out, (by repeat (first | with_reducible exact Kept.refl _ | with_reducible apply Kept.drew | with_reducible apply Kept.drewN | with_reducible apply Kept.alloc | (with_reducible refine Kept.setCellX ?_ ?_ _; focus (first | (simp; done) | (simp; omega))) | (with_reducible refine Kept.trans ?_ (by assumption))))⟩
    · obtain ⟨m, rfl⟩ := Int.eq_ofNat_of_zero_le (show 0 ≤ n by omega)
      have E : Hid (dPow a m = pw a m) := by unfold dPow; rw [if_neg c1, if_neg c2, Int.toNat_natCast]; rfl
      clear c1 n1 n2
      go_enter Try.func40, Try.ntmps40
      go_wp2_with fail
      go_loopw [6, 7, 8] (fun x y i wr => ∃ k : Nat, k ≤ m ∧ i = .int .i64 k ∧ x = .int .i64 (pw a k).1 ∧ y = .bool (pw a k).2 ∧ Kept w wr) (fun _ _ i _ => m - (intOf i).toNat)
      case atStart => exact ⟨0, by omega, rfl, rfl, rfl, Kept.refl w⟩
      case round =>
        obtain ⟨k, hk, rfl, rfl, rfl, hkept⟩ := hrel
        by_cases d : (pw a k).2 = true
        · have D := Lib.hid d
          by_cases c : k < m
          · have M := Lib.hid (fun w => rmul_any (pw a k).1 a w (pw_i64 a k) h)
            have E1 : Hid (pw a (k + 1) = dMul (pw a k).1 a) := by show (if (pw a k).2 = true then _ else _) = _; rw [if_pos d]
            rw [d]
            clear d
            generalize (pw a k).1 = x at *
            go_wp2_with fail
            refine (M.out _).mono ?_
            rintro e w' ⟨rfl, k1⟩
            go_wp2_with fail
            go_roundw
            case rel => exact ⟨k + 1, by omega, by go_num, by rw [E1.out], by rw [E1.out], (by repeat (first | with_reducible exact Kept.refl _ | with_reducible apply Kept.drew | with_reducible apply Kept.drewN | with_reducible apply Kept.alloc | (with_reducible refine Kept.setCellX ?_ ?_ _; focus (first | (simp; done) | (simp; omega))) | (with_reducible refine Kept.trans ?_ (by assumption))))⟩
            case measure => simp [intOf]; omega
          · obtain rfl : k = m := by omega
            rw [d]
            clear d
            have E2 : Hid (dPow a k = ((pw a k).1, true)) := by rw [E.out]; exact Prod.ext rfl D.out
            generalize (pw a k).1 = x at *
            go_wp2_with fail
            go_ret2
            exact ⟨ret_p E2.out, (by repeat (first | with_reducible exact Kept.refl _ | with_reducible apply Kept.drew | with_reducible apply Kept.drewN | with_reducible apply Kept.alloc | (with_reducible refine Kept.setCellX ?_ ?_ _; focus (first | (simp; done) | (simp; omega))) | (with_reducible refine Kept.trans ?_ (by assumption))))⟩
        · have d' : (pw a k).2 = false := by simpa using d
          have P0 := pw_stays d' 0
          have PM := pw_stays d' (m - k)
          rw [Nat.add_zero] at P0
          rw [show k + (m - k) = m by omega] at PM
          have E2 : Hid (dPow a (m : Int) = (0, false)) := by rw [E.out, PM]; rfl
          rw [P0]
          clear d d' P0 PM
          go_wp2_with fail
          go_ret2
          exact ⟨ret_p E2.out, (by repeat (first | with_reducible exact Kept.refl _ | with_reducible apply Kept.drew | with_reducible apply Kept.drewN | with_reducible apply Kept.alloc | (with_reducible refine Kept.setCellX ?_ ?_ _; focus (first | (simp; done) | (simp; omega))) | (with_reducible refine Kept.trans ?_ (by assumption))))⟩
end Go.Proofs.Ytingopdeckgpaaa
