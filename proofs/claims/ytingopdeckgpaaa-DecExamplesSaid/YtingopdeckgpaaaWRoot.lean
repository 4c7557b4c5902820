/- Layer 1: Sqrt, Power, Round, Trunc, Floor, walked. -/
import Derived.Test.YtingopdeckgpaaaWSum4
import Derived.Test.YtingopdeckgpaaaMRoot
namespace Go.Proofs.Ytingopdeckgpaaa
set_option linter.unusedVariables false
set_option linter.unusedSimpArgs false
open Go.RowKit Lv

theorem trunc_any (a : Int) (w : World) (h : i64 a) : Calls Try.prog 35 #[.int .i64 a] w fun e w' => e = .returned (.int .i64 (dTrunc a)) ∧ w = w' := by
  obtain ⟨h1, h2⟩ := h
  have tb := tmod_bounds a
  have b1 : -9223372036854775808 ≤ a - a.tmod 10000 := by omega
  have b2 : a - a.tmod 10000 ≤ 9223372036854775807 := by omega
  by_cases c : 0 ≤ a
  · have e : a.tmod 10000 = a % 10000 := Int.tmod_eq_emod_of_nonneg c
    have E : Hid (a - a % 10000 = dTrunc a) := by unfold dTrunc; rw [e]; rfl
    clear e
    go_enter Try.func35, Try.ntmps35
    go_wp2_with fail
    go_ret
    exact ⟨ret_int E.out, rfl⟩
  · go_enter Try.func35, Try.ntmps35
    go_wp2_with fail
    go_ret
    exact ⟨ret_int rfl, rfl⟩

theorem dTrunc_i64 {a : Int} (h : i64 a) : i64 (dTrunc a) := by
  obtain ⟨h1, h2⟩ := h
  have tb := tmod_bounds a
  unfold dTrunc i64
  omega

theorem floor_any (a : Int) (w : World) (h : i64 a) : Calls Try.prog 37 #[.int .i64 a] w fun e w' => e = .returned (.tuple #[.int .i64 (dFloor a).1, .bool (dFloor a).2]) ∧ Kept w w' := by
  have T := Lib.hid (fun w => trunc_any a w h)
  have S := Lib.hid (fun w => sub2_any (dTrunc a) 10000 w (dTrunc_i64 h) ⟨by omega, by omega⟩)
  by_cases c : a < dTrunc a
  · have E : Hid (dFloor a = fit (dTrunc a - 10000)) := if_pos c
    obtain ⟨h1, h2⟩ := h
    generalize fit (dTrunc a - 10000) = r at *
    generalize dTrunc a = t at *
    go_enter Try.func37, Try.ntmps37
    go_wp2_with fail
    refine (T.out _).mono ?_
    rintro e w' ⟨rfl, rfl⟩
    go_wp2_with fail
    refine (S.out _).mono ?_
    rintro e w' ⟨rfl, k1⟩
    go_wp2_with fail
    go_ret2
    exact ⟨ret_p E.out, (by repeat (first | with_reducible exact Kept.refl _ | with_reducible apply Kept.drew | with_reducible apply Kept.drewN | with_reducible apply Kept.alloc | (with_reducible refine Kept.setCellX ?_ ?_ _; focus (first | (simp; done) | (simp; omega))) | (with_reducible refine Kept.trans ?_ (by assumption))))⟩
  · have E : Hid (dFloor a = (dTrunc a, true)) := if_neg c
    obtain ⟨h1, h2⟩ := h
    generalize dTrunc a = t at *
    go_enter Try.func37, Try.ntmps37
    go_wp2_with fail
    refine (T.out _).mono ?_
    rintro e w' ⟨rfl, rfl⟩
    go_wp2_with fail
    go_ret2
    exact ⟨ret_p E.out, (by repeat (first | with_reducible exact Kept.refl _ | with_reducible apply Kept.drew | with_reducible apply Kept.drewN | with_reducible apply Kept.alloc | (with_reducible refine Kept.setCellX ?_ ?_ _; focus (first | (simp; done) | (simp; omega))) | (with_reducible refine Kept.trans ?_ (by assumption))))⟩

set_option maxHeartbeats 400000 in
theorem power_nat (a : Int) (n : Nat) (w : World) (h : i64 a) (hn : n ≤ 1000) : Calls Try.prog 32 #[.int .i64 a, .int .i64 n] w fun e w' => e = .returned (.tuple #[.int .i64 (pw a n).1, .bool (pw a n).2]) ∧ Kept w w' := by
  go_enter Try.func32, Try.ntmps32
  go_wp2_with fail
  go_loopw [8, 9, 32] (fun x y i wr => ∃ k : Nat, k ≤ n ∧ i = .int .i64 k ∧ x = .int .i64 (pw a k).1 ∧ y = .bool true ∧ (pw a k).2 = true ∧ Kept w wr) (fun _ _ i _ => n - (intOf i).toNat)
  case atStart => exact ⟨0, by omega, rfl, rfl, rfl, rfl, Kept.refl w⟩
  case round =>
    obtain ⟨k, hk, rfl, rfl, rfl, hp, hkept⟩ := hrel
    by_cases c : k < n
    · have M := Lib.hid (fun w => mul_any (pw a k).1 a w (pw_i64 a k) h)
      have E : Hid (pw a (k + 1) = dMul (pw a k).1 a) := by show (if (pw a k).2 = true then _ else _) = _; rw [if_pos hp]
      have HP := Lib.hid hp
      clear hp
      by_cases d : (dMul (pw a k).1 a).2 = true
      · have D := Lib.hid d
        rw [d] at M
        clear d
        generalize (pw a k).1 = x at *
        go_wp2_with fail
        refine (M.out _).mono ?_
        rintro e w' ⟨rfl, m, rfl⟩
        go_wp2_with fail
        go_roundw
        case rel => exact ⟨k + 1, by omega, by go_num, by rw [E.out], rfl, by rw [E.out]; exact D.out, (by repeat (first | with_reducible exact Kept.refl _ | with_reducible apply Kept.drew | with_reducible apply Kept.drewN | with_reducible apply Kept.alloc | (with_reducible refine Kept.setCellX ?_ ?_ _; focus (first | (simp; done) | (simp; omega))) | (with_reducible refine Kept.trans ?_ (by assumption))))⟩
        case measure => simp [intOf]; omega
      · have d' : (dMul (pw a k).1 a).2 = false := by simpa using d
        have e2 : Hid (pw a n = (0, false)) := by
          have := pw_stays (a := a) (n := k + 1) (by rw [E.out]; exact d') (n - (k + 1))
          rwa [show k + 1 + (n - (k + 1)) = n by omega] at this
        rw [d'] at M
        clear d d'
        generalize (pw a k).1 = x at *
        go_wp2_with fail
        refine (M.out _).mono ?_
        rintro e w' ⟨rfl, m, rfl⟩
        go_wp2_with fail
        go_ret2
        exact ⟨ret_p e2.out, (by repeat (first | with_reducible exact Kept.refl _ | with_reducible apply Kept.drew | with_reducible apply Kept.drewN | with_reducible apply Kept.alloc | (with_reducible refine Kept.setCellX ?_ ?_ _; focus (first | (simp; done) | (simp; omega))) | (with_reducible refine Kept.trans ?_ (by assumption))))⟩
    · obtain rfl : k = n := by omega
      have HP := Lib.hid hp
      clear hp
      go_wp2_with fail
      go_ret2
      exact ⟨ret_p (Prod.ext rfl HP.out), (by repeat (first | with_reducible exact Kept.refl _ | with_reducible apply Kept.drew | with_reducible apply Kept.drewN | with_reducible apply Kept.alloc | (with_reducible refine Kept.setCellX ?_ ?_ _; focus (first | (simp; done) | (simp; omega))) | (with_reducible refine Kept.trans ?_ (by assumption))))⟩

set_option maxHeartbeats 400000 in
theorem power_any (a n : Int) (w : World) (h : i64 a) (hn : i64 n) : Calls Try.prog 32 #[.int .i64 a, .int .i64 n] w fun e w' => e = .returned (.tuple #[.int .i64 (dPow a n).1, .bool (dPow a n).2]) ∧ Kept w w' := by
  obtain ⟨n1, n2⟩ := hn
  by_cases c1 : n < -1000 ∨ 1000 < n
  · have E : Hid (dPow a n = (0, false)) := if_pos c1
    by_cases c2 : n < -1000
    · go_enter Try.func32, Try.ntmps32
      go_wp2_with fail
      go_ret2
      exact ⟨ret_p E.out, (by repeat (first | with_reducible exact Kept.refl _ | with_reducible apply Kept.drew | with_reducible apply Kept.drewN | with_reducible apply Kept.alloc | (with_reducible refine Kept.setCellX ?_ ?_ _; focus (first | (simp; done) | (simp; omega))) | (with_reducible refine Kept.trans ?_ (by assumption))))⟩
    · have c3 : 1000 < n := by omega
      clear c1
      go_enter Try.func32, Try.ntmps32
      go_wp2_with fail
      go_ret2
      exact ⟨ret_p E.out, (by repeat (first | with_reducible exact Kept.refl _ | with_reducible apply Kept.drew | with_reducible apply Kept.drewN | with_reducible apply Kept.alloc | (with_reducible refine Kept.setCellX ?_ ?_ _; focus (first | (simp; done) | (simp; omega))) | (with_reducible refine Kept.trans ?_ (by assumption))))⟩
  · have n3 : -1000 ≤ n := by omega
    have n4 : n ≤ 1000 := by omega
    by_cases c2 : n < 0
    · have E : Hid (dPow a n = if (pw a (-n).toNat).2 = true then dQuo 10000 (pw a (-n).toNat).1 else (0, false)) := by unfold dPow; rw [if_neg c1, if_pos c2]; rfl
      have P := fun w => power_nat a (-n).toNat w h (by omega)
      rw [show (((-n).toNat : Nat) : Int) = -n by omega] at P
      have Q := Lib.hid (fun w => quo_any 10000 (pw a (-n).toNat).1 w ⟨by omega, by omega⟩ (pw_i64 a _))
      by_cases d : (pw a (-n).toNat).2 = true
      · have e := E.out
        rw [if_pos d] at e
        have E2 := Lib.hid e
        rw [d] at P
        have HP := Lib.hid P
        clear P d e E c1
        generalize (pw a (-n).toNat).1 = x at *
        generalize dQuo 10000 x = y at *
        go_enter Try.func32, Try.ntmps32
        go_wp2_with fail
        refine (HP.out _).mono ?_
        rintro e w' ⟨rfl, k1⟩
        go_wp2_with fail
        refine (Q.out _).mono ?_
        rintro e w' ⟨rfl, m, rfl⟩
        go_wp2_with fail
        go_ret2
        exact ⟨ret_p E2.out, (by repeat (first | with_reducible exact Kept.refl _ | with_reducible apply Kept.drew | with_reducible apply Kept.drewN | with_reducible apply Kept.alloc | (with_reducible refine Kept.setCellX ?_ ?_ _; focus (first | (simp; done) | (simp; omega))) | (with_reducible refine Kept.trans ?_ (by assumption))))⟩
      · have e := E.out
        rw [if_neg d] at e
        have E2 := Lib.hid e
        have d' : (pw a (-n).toNat).2 = false := by simpa using d
        rw [d'] at P
        have HP := Lib.hid P
        clear P d d' e E c1
        generalize (pw a (-n).toNat).1 = x at *
        go_enter Try.func32, Try.ntmps32
        go_wp2_with fail
        refine (HP.out _).mono ?_
        rintro e w' ⟨rfl, k1⟩
        go_wp2_with fail
        go_ret2
        exact ⟨ret_p E2.out, (by repeat (first | with_reducible exact Kept.refl _ | with_reducible apply Kept.drew | with_reducible apply Kept.drewN | with_reducible apply Kept.alloc | (with_reducible refine Kept.setCellX ?_ ?_ _; focus (first | (simp; done) | (simp; omega))) | (with_reducible refine Kept.trans ?_ (by assumption))))⟩
    · have E : dPow a n = pw a n.toNat := by unfold dPow; rw [if_neg c1, if_neg c2]
      have P := power_nat a n.toNat w h (by omega)
      rw [show ((n.toNat : Nat) : Int) = n by omega, ← E] at P
      exact P

theorem mul64_any (x y : Int) (w : World) (hx : u64 x) (hy : u64 y) : Calls Try.prog 62 #[.int .u64 x, .int .u64 y] w fun e w' => e = .returned (.tuple #[.int .u64 (x * y / 18446744073709551616), .int .u64 (x * y % 18446744073709551616)]) ∧ w = w' := by
  obtain ⟨x, rfl⟩ := Int.eq_ofNat_of_zero_le hx.1
  obtain ⟨y, rfl⟩ := Int.eq_ofNat_of_zero_le hy.1
  have h1 := hx.2
  have h2 := hy.2
  refine (Try.bits_Mul64 x y (by omega) (by omega) w).mono ?_
  rintro e w' ⟨rfl, rfl⟩
  exact ⟨ret_ii (by simp) (by simp), rfl⟩

set_option maxHeartbeats 400000 in
theorem round_any (a p : Int) (w : World) (h : i64 a) (hp : i64 p) : Calls Try.prog 33 #[.int .i64 a, .int .i64 p] w fun e w' => e = .returned (.tuple #[.int .i64 (dRound a p).1, .bool (dRound a p).2]) ∧ Kept w w' := by
  obtain ⟨p1, p2⟩ := hp
  have Z := Lib.hid (fun w => size_any a w h)
  by_cases c1 : 4 ≤ p
  · have E : Hid (dRound a p = fit a) := if_pos c1
    have S := fun w => signed_any 0 (Lv.abs a) (decide (a < 0)) w ⟨by omega, by omega⟩ (abs_u64 h)
    rw [Int.zero_mul, Int.zero_add, show sg (decide (a < 0)) (Lv.abs a) = a from sg_neg_abs a] at S
    have HS := Lib.hid S
    obtain ⟨h1, h2⟩ := h
    clear S
    generalize fit a = r at *
    generalize Lv.abs a = s at *
    go_enter Try.func33, Try.ntmps33
    go_wp2_with fail
    refine (Z.out _).mono ?_
    rintro e w' ⟨rfl, rfl⟩
    go_wp2_with fail
    refine (HS.out _).mono ?_
    rintro e w' ⟨rfl, rfl⟩
    go_wp2_with fail
    go_ret2
    exact ⟨ret_p E.out, (by repeat (first | with_reducible exact Kept.refl _ | with_reducible apply Kept.drew | with_reducible apply Kept.drewN | with_reducible apply Kept.alloc | (with_reducible refine Kept.setCellX ?_ ?_ _; focus (first | (simp; done) | (simp; omega))) | (with_reducible refine Kept.trans ?_ (by assumption))))⟩
  · by_cases c2 : p < -15
    · have E : Hid (dRound a p = (0, true)) := by unfold dRound; rw [if_neg c1, if_pos c2]; rfl
      go_enter Try.func33, Try.ntmps33
      go_wp2_with fail
      go_ret2
      exact ⟨ret_p E.out, (by repeat (first | with_reducible exact Kept.refl _ | with_reducible apply Kept.drew | with_reducible apply Kept.drewN | with_reducible apply Kept.alloc | (with_reducible refine Kept.setCellX ?_ ?_ _; focus (first | (simp; done) | (simp; omega))) | (with_reducible refine Kept.trans ?_ (by assumption))))⟩
    · have E : Hid (dRound a p = fit (sg (decide (a < 0)) (rnd (Lv.abs a) (unitOf p) * unitOf p))) := by unfold dRound; rw [if_neg c1, if_neg c2]; rfl
      obtain ⟨m, hm⟩ : ∃ m : Nat, m = (4 - p).toNat := ⟨_, rfl⟩
      have hm1 : (m : Int) = 4 - p := by omega
      have U : unitOf p = 10 ^ m := by unfold unitOf; rw [hm]
      have u1 := pow10_bounds (k := m) (by omega)
      have au := abs_u64 h
      have al := abs_le h
      have u10 : (10 : Int) ≤ 10 ^ m := by
        have := pow10_bounds (k := m - 1) (by omega)
        have e : (10 : Int) ^ m = 10 ^ (m - 1) * 10 := by rw [← Int.pow_succ]; congr 1; omega
        omega
      have q0 : 0 ≤ Lv.abs a / 10 ^ m := Int.ediv_nonneg au.1 (by omega)
      have q1 : Lv.abs a / 10 ^ m ≤ 9223372036854775807 := by
        have : Lv.abs a / 10 ^ m < 9223372036854775808 := Int.ediv_lt_of_lt_mul (by omega) (by omega)
        omega
      have N := fun w => nearest_any 0 (Lv.abs a) (10 ^ m) w ⟨by omega, by omega⟩ au ⟨by omega, by omega⟩
      rw [Int.zero_mul, Int.zero_add, show near (Lv.abs a) (10 ^ m) = (rnd (Lv.abs a) (10 ^ m), true) from if_pos ⟨by omega, q1⟩] at N
      have rb := rnd_bounds (Lv.abs a) (10 ^ m)
      rw [U] at E
      have Mu := fun w => mul64_any (rnd (Lv.abs a) (10 ^ m)) (10 ^ m) w ⟨by omega, by omega⟩ ⟨by omega, by omega⟩
      have x0 : 0 ≤ rnd (Lv.abs a) (10 ^ m) * 10 ^ m := Int.mul_nonneg (by omega) (by omega)
      have x1 : rnd (Lv.abs a) (10 ^ m) * 10 ^ m < 340282366920938463463374607431768211456 := by
        have := Int.mul_le_mul (show rnd (Lv.abs a) (10 ^ m) ≤ 9223372036854775808 by omega) u1.2 (by omega) (by omega)
        omega
      have S := fun w => signed_any (rnd (Lv.abs a) (10 ^ m) * 10 ^ m / 18446744073709551616) (rnd (Lv.abs a) (10 ^ m) * 10 ^ m % 18446744073709551616) (decide (a < 0)) w ⟨by omega, by omega⟩ ⟨by omega, by omega⟩
      rw [show rnd (Lv.abs a) (10 ^ m) * 10 ^ m / 18446744073709551616 * 18446744073709551616 + rnd (Lv.abs a) (10 ^ m) * 10 ^ m % 18446744073709551616 = rnd (Lv.abs a) (10 ^ m) * 10 ^ m by omega] at S
      have HN := Lib.hid N
      have HM := Lib.hid Mu
      have HS := Lib.hid S
      have ub : ∀ k : Nat, k ≤ m → 1 ≤ (10 : Int) ^ k ∧ (10 : Int) ^ k ≤ 10000000000000000000 := fun k hk => pow10_bounds (by omega)
      have UB := Lib.hid ub
      have HM1 := Lib.hid hm1
      have hm19 : m ≤ 19 := by omega
      clear N Mu S x0 x1 rb q0 q1 U u10 u1 au al hm ub
      obtain rfl : p = 4 - (m : Int) := by omega
      have hm4 : 1 ≤ m := by omega
      clear c1 c2 p1 p2 hm1 HM1
      generalize fit (sg (decide (a < 0)) (rnd (Lv.abs a) (10 ^ m) * 10 ^ m)) = res at *
      obtain ⟨h1, h2⟩ := h
      go_enter Try.func33, Try.ntmps33
      go_wp2_with fail
      go_loop [6, 24] (fun x i => ∃ k : Nat, k ≤ m ∧ i = .int .i64 k ∧ x = .int .u64 (10 ^ k)) (fun _ i => m - (intOf i).toNat)
      case atStart => exact ⟨0, by omega, rfl, by simp⟩
      case round =>
        obtain ⟨k, hk, rfl, rfl⟩ := hrel
        by_cases c : k < m
        · have u2 := (UB.out (k + 1) (by omega)).2
          have u3 := (UB.out k (by omega)).1
          have u4 : (10 : Int) ^ (k + 1) = 10 ^ k * 10 := Int.pow_succ ..
          have U4 := Lib.hid u4
          have u5 : (10 : Int) ^ k * 10 ≤ 18446744073709551615 := by omega
          clear u4 u2
          go_wp2_with fail
          go_round
          case rel => exact ⟨k + 1, by omega, by go_num, by rw [U4.out]⟩
          case measure => simp [intOf]; omega
        · obtain rfl : k = m := by omega
          go_wp2_with fail
          refine (Z.out _).mono ?_
          rintro e w' ⟨rfl, rfl⟩
          go_wp2_with fail
          refine (HN.out _).mono ?_
          rintro e w' ⟨rfl, n, rfl⟩
          go_wp2_with fail
          refine (HM.out _).mono ?_
          rintro e w' ⟨rfl, rfl⟩
          go_wp2_with fail
          refine (HS.out _).mono ?_
          rintro e w' ⟨rfl, rfl⟩
          go_wp2_with fail
          go_ret2
          exact ⟨ret_p E.out, (by repeat (first | with_reducible exact Kept.refl _ | with_reducible apply Kept.drew | with_reducible apply Kept.drewN | with_reducible apply Kept.alloc | (with_reducible refine Kept.setCellX ?_ ?_ _; focus (first | (simp; done) | (simp; omega))) | (with_reducible refine Kept.trans ?_ (by assumption))))⟩
end Go.Proofs.Ytingopdeckgpaaa
