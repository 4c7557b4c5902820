/- The law DecPlaces, walked. -/
import Derived.Test.YtingopdeckgpaaaWAbove
import Derived.Test.YtingopdeckgpaaaWRoot
import Derived.Test.YtingopdeckgpaaaMPlaces
import Derived.Test.YtingopdeckgpaaaWArgs
namespace Go.Proofs.Ytingopdeckgpaaa
set_option linter.unusedVariables false
set_option linter.unusedSimpArgs false
open Go.RowKit Lv

theorem neg_form (b : Int) : (0 : Int) ≤ Lv.abs b := abs_nonneg b

set_option maxHeartbeats 2000000 in
theorem DecPlaces_walk (a0 : Int) (a1 : Int) (w0 : (Lit.int .i64 a0).wf = true) (w1 : (Lit.int .i64 a1).wf = true) (w : World) :
    Calls Try.prog 11 #[.int .i64 a0, .int .i64 a1] w fun e w' => e = .returned (.bool true) ∧ Below w.heap.size w w' := by
  have h0 := i64_of_lit w0
  have h1 := i64_of_lit w1
  clear w0 w1
  have K := Lib.hid known_any
  obtain ⟨h1a, h1b⟩ := h1
  by_cases c1 : a1 < -14
  · go_enter Try.func11, Try.ntmps11
    go_wp2_with fail
    refine (K.out _).mono ?_
    rintro e w' ⟨rfl, k5⟩
    go_wp2_with fail
    go_ret
    exact ⟨rfl, (by repeat (first | with_reducible exact Kept.refl _ | with_reducible apply Kept.drew | with_reducible apply Kept.drewN | with_reducible apply Kept.alloc | (with_reducible refine Kept.setCellX ?_ ?_ _; focus (first | (simp; done) | (simp; omega))) | (with_reducible refine Kept.trans ?_ (by assumption))))⟩
  by_cases c2 : 4 < a1
  · go_enter Try.func11, Try.ntmps11
    go_wp2_with fail
    refine (K.out _).mono ?_
    rintro e w' ⟨rfl, k5⟩
    go_wp2_with fail
    go_ret
    exact ⟨rfl, (by repeat (first | with_reducible exact Kept.refl _ | with_reducible apply Kept.drew | with_reducible apply Kept.drewN | with_reducible apply Kept.alloc | (with_reducible refine Kept.setCellX ?_ ?_ _; focus (first | (simp; done) | (simp; omega))) | (with_reducible refine Kept.trans ?_ (by assumption))))⟩
  by_cases c3 : a0 < -9223372036854775807
  · go_enter Try.func11, Try.ntmps11
    go_wp2_with fail
    refine (K.out _).mono ?_
    rintro e w' ⟨rfl, k5⟩
    go_wp2_with fail
    go_ret
    exact ⟨rfl, (by repeat (first | with_reducible exact Kept.refl _ | with_reducible apply Kept.drew | with_reducible apply Kept.drewN | with_reducible apply Kept.alloc | (with_reducible refine Kept.setCellX ?_ ?_ _; focus (first | (simp; done) | (simp; omega))) | (with_reducible refine Kept.trans ?_ (by assumption))))⟩
  obtain ⟨m, hm⟩ : ∃ m : Nat, m = (4 - a1).toNat := ⟨_, rfl⟩
  have hm1 : (m : Int) = 4 - a1 := by omega
  obtain rfl : a1 = 4 - (m : Int) := by omega
  have hm18 : m ≤ 18 := by omega
  have U : unitOf (4 - (m : Int)) = 10 ^ m := by unfold unitOf; congr 1; omega
  have RL := round_laws (a := a0) (p := 4 - (m : Int)) (by omega) (by omega)
  rw [U] at RL
  have ub : ∀ k : Nat, k ≤ m → 1 ≤ (10 : Int) ^ k ∧ (10 : Int) ^ k ≤ 1000000000000000000 := fun k hk => by
    have h1 : (10 : Nat) ^ k ≤ 10 ^ 18 := Nat.pow_le_pow_right (by omega) (by omega)
    have h2 : ((10 ^ k : Nat) : Int) ≤ ((10 ^ 18 : Nat) : Int) := Int.ofNat_le.2 h1
    have h3 : (0 : Int) < 10 ^ k := Int.pow_pos (by omega)
    refine ⟨by omega, by simpa using h2⟩
  have UB := Lib.hid ub
  have FL := floor_laws h0
  obtain ⟨t1, t2, t3, t4, t5, t6, t7⟩ := trunc_laws a0
  have ti := dTrunc_i64 h0
  have T := Lib.hid (fun w => trunc_any a0 w h0)
  have T2 := fun w => trunc_any (dTrunc a0) w ti
  rw [t3] at T2
  have HT2 := Lib.hid T2
  have D1 := Lib.hid (fun w => distance_any a0 (dTrunc a0) w h0 ti)
  have t8 : (dTrunc a0 != dTrunc a0) = false := by simp
  have R := Lib.hid (fun w => round_any a0 (4 - (m : Int)) w h0 ⟨by omega, by omega⟩)
  have F := Lib.hid (fun w => floor_any a0 w h0)
  have n1 := abs_nonneg (a0 - dTrunc a0)
  clear T2 t3 ub c1 c2 hm hm1 h1a h1b U
  have i0 := h0
  obtain ⟨h0a, h0b⟩ := h0
  have ti1 := ti.1
  have ti2 := ti.2
  have sgn : (0 < a0 ∧ dTrunc a0 ≤ a0 ∧ 0 ≤ dTrunc a0) ∨ (a0 = 0 ∧ dTrunc a0 = 0) ∨ (a0 < 0 ∧ a0 ≤ dTrunc a0) := by
    have tb := tmod_bounds a0; unfold dTrunc; omega
  clear t5 t6 t7 ti
  generalize dTrunc a0 = t at *
  generalize Lv.abs (a0 - t) = dt at *
  rcases RL with ⟨r, e1, e2, ri, r1, r2, r3⟩ | e1
  · have R2 := fun w => round_any r (4 - (m : Int)) w ri ⟨by omega, by omega⟩
    rw [e2] at R2
    rw [e1] at R
    have D2 := Lib.hid (fun w => distance_any r a0 w ri i0)
    have HR2 := Lib.hid R2
    have n2 := abs_nonneg (r - a0)
    have r4 : (r != r) = false := by simp
    clear R2 e1 e2
    obtain ⟨ri1, ri2⟩ := ri
    generalize Lv.abs (r - a0) = dr at *
    rcases FL with ⟨f, e1, e2, fi, f1, f2, f3, f4⟩ | ⟨e1, f1⟩
    · have F2 := fun w => floor_any f w fi
      rw [e2] at F2
      rw [e1] at F
      have D3 := Lib.hid (fun w => distance_any a0 f w i0 fi)
      have HF2 := Lib.hid F2
      have n3 := abs_nonneg (a0 - f)
      have f5 : (f != f) = false := by simp
      clear F2 e1 e2 i0
      obtain ⟨fi1, fi2⟩ := fi
      generalize Lv.abs (a0 - f) = df at *
      rcases sgn with ⟨s1, s2, s3⟩ | ⟨rfl, rfl⟩ | ⟨s1, s2⟩
      · go_enter Try.func11, Try.ntmps11
        go_wp2_with fail
        go_loop [5, 6] (fun x i => ∃ k : Nat, k ≤ m ∧ i = .int .i64 (4 - (k : Int)) ∧ x = .int .i64 (10 ^ k)) (fun _ i => (intOf i - (4 - (m : Int))).toNat)
        case atStart => exact ⟨0, by omega, by simp, by simp⟩
        case round =>
          obtain ⟨k, hk, rfl, rfl⟩ := hrel
          by_cases c : k < m
          · have u2 := (UB.out (k + 1) (by omega)).2
            have u3 := (UB.out k (by omega)).1
            have u4 : (10 : Int) ^ (k + 1) = 10 ^ k * 10 := Int.pow_succ ..
            have U4 := Lib.hid u4
            have u5 : (10 : Int) ^ k * 10 ≤ 9223372036854775807 := by omega
            clear u4 u2
            go_wp2_with fail
            go_round
            case rel => exact ⟨k + 1, by omega, by congr 1; omega, by rw [U4.out]⟩
            case measure => simp [intOf]; omega
          · obtain rfl : k = m := by omega
            have uu := UB.out k (by omega)
            obtain ⟨uu1, uu2⟩ := uu
            have uu3 : ((10 : Int) ^ k == 0) = false := by rw [beq_eq_false_iff_ne]; omega
            go_wp2_with fail
            refine (R.out _).mono ?_
            rintro e w' ⟨rfl, k1⟩
            go_wp2_with fail
            refine (HR2.out _).mono ?_
            rintro e w' ⟨rfl, k2⟩
            go_wp2_with fail
            refine (D2.out _).mono ?_
            rintro e w' ⟨rfl, rfl⟩
            go_wp2_with fail
            refine (T.out _).mono ?_
            rintro e w' ⟨rfl, rfl⟩
            go_wp2_with fail
            refine (HT2.out _).mono ?_
            rintro e w' ⟨rfl, rfl⟩
            go_wp2_with fail
            refine (D1.out _).mono ?_
            rintro e w' ⟨rfl, rfl⟩
            go_wp2_with fail
            refine (F.out _).mono ?_
            rintro e w' ⟨rfl, k3⟩
            go_wp2_with fail
            refine (HF2.out _).mono ?_
            rintro e w' ⟨rfl, k4⟩
            go_wp2_with fail
            refine (D3.out _).mono ?_
            rintro e w' ⟨rfl, rfl⟩
            go_wp2_with fail
            refine (K.out _).mono ?_
            rintro e w' ⟨rfl, k5⟩
            go_wp2_with fail
            go_ret
            exact ⟨rfl, (by repeat (first | with_reducible exact Kept.refl _ | with_reducible apply Kept.drew | with_reducible apply Kept.drewN | with_reducible apply Kept.alloc | (with_reducible refine Kept.setCellX ?_ ?_ _; focus (first | (simp; done) | (simp; omega))) | (with_reducible refine Kept.trans ?_ (by assumption))))⟩
      · go_enter Try.func11, Try.ntmps11
        go_wp2_with fail
        go_loop [5, 6] (fun x i => ∃ k : Nat, k ≤ m ∧ i = .int .i64 (4 - (k : Int)) ∧ x = .int .i64 (10 ^ k)) (fun _ i => (intOf i - (4 - (m : Int))).toNat)
        case atStart => exact ⟨0, by omega, by simp, by simp⟩
        case round =>
          obtain ⟨k, hk, rfl, rfl⟩ := hrel
          by_cases c : k < m
          · have u2 := (UB.out (k + 1) (by omega)).2
            have u3 := (UB.out k (by omega)).1
            have u4 : (10 : Int) ^ (k + 1) = 10 ^ k * 10 := Int.pow_succ ..
            have U4 := Lib.hid u4
            have u5 : (10 : Int) ^ k * 10 ≤ 9223372036854775807 := by omega
            clear u4 u2
            go_wp2_with fail
            go_round
            case rel => exact ⟨k + 1, by omega, by congr 1; omega, by rw [U4.out]⟩
            case measure => simp [intOf]; omega
          · obtain rfl : k = m := by omega
            have uu := UB.out k (by omega)
            obtain ⟨uu1, uu2⟩ := uu
            have uu3 : ((10 : Int) ^ k == 0) = false := by rw [beq_eq_false_iff_ne]; omega
            go_wp2_with fail
            refine (R.out _).mono ?_
            rintro e w' ⟨rfl, k1⟩
            go_wp2_with fail
            refine (HR2.out _).mono ?_
            rintro e w' ⟨rfl, k2⟩
            go_wp2_with fail
            refine (D2.out _).mono ?_
            rintro e w' ⟨rfl, rfl⟩
            go_wp2_with fail
            refine (T.out _).mono ?_
            rintro e w' ⟨rfl, rfl⟩
            go_wp2_with fail
            refine (HT2.out _).mono ?_
            rintro e w' ⟨rfl, rfl⟩
            go_wp2_with fail
            refine (D1.out _).mono ?_
            rintro e w' ⟨rfl, rfl⟩
            go_wp2_with fail
            refine (F.out _).mono ?_
            rintro e w' ⟨rfl, k3⟩
            go_wp2_with fail
            refine (HF2.out _).mono ?_
            rintro e w' ⟨rfl, k4⟩
            go_wp2_with fail
            refine (D3.out _).mono ?_
            rintro e w' ⟨rfl, rfl⟩
            go_wp2_with fail
            refine (K.out _).mono ?_
            rintro e w' ⟨rfl, k5⟩
            go_wp2_with fail
            go_ret
            exact ⟨rfl, (by repeat (first | with_reducible exact Kept.refl _ | with_reducible apply Kept.drew | with_reducible apply Kept.drewN | with_reducible apply Kept.alloc | (with_reducible refine Kept.setCellX ?_ ?_ _; focus (first | (simp; done) | (simp; omega))) | (with_reducible refine Kept.trans ?_ (by assumption))))⟩
      · go_enter Try.func11, Try.ntmps11
        go_wp2_with fail
        go_loop [5, 6] (fun x i => ∃ k : Nat, k ≤ m ∧ i = .int .i64 (4 - (k : Int)) ∧ x = .int .i64 (10 ^ k)) (fun _ i => (intOf i - (4 - (m : Int))).toNat)
        case atStart => exact ⟨0, by omega, by simp, by simp⟩
        case round =>
          obtain ⟨k, hk, rfl, rfl⟩ := hrel
          by_cases c : k < m
          · have u2 := (UB.out (k + 1) (by omega)).2
            have u3 := (UB.out k (by omega)).1
            have u4 : (10 : Int) ^ (k + 1) = 10 ^ k * 10 := Int.pow_succ ..
            have U4 := Lib.hid u4
            have u5 : (10 : Int) ^ k * 10 ≤ 9223372036854775807 := by omega
            clear u4 u2
            go_wp2_with fail
            go_round
            case rel => exact ⟨k + 1, by omega, by congr 1; omega, by rw [U4.out]⟩
            case measure => simp [intOf]; omega
          · obtain rfl : k = m := by omega
            have uu := UB.out k (by omega)
            obtain ⟨uu1, uu2⟩ := uu
            have uu3 : ((10 : Int) ^ k == 0) = false := by rw [beq_eq_false_iff_ne]; omega
            go_wp2_with fail
            refine (R.out _).mono ?_
            rintro e w' ⟨rfl, k1⟩
            go_wp2_with fail
            refine (HR2.out _).mono ?_
            rintro e w' ⟨rfl, k2⟩
            go_wp2_with fail
            refine (D2.out _).mono ?_
            rintro e w' ⟨rfl, rfl⟩
            go_wp2_with fail
            refine (T.out _).mono ?_
            rintro e w' ⟨rfl, rfl⟩
            go_wp2_with fail
            refine (HT2.out _).mono ?_
            rintro e w' ⟨rfl, rfl⟩
            go_wp2_with fail
            refine (D1.out _).mono ?_
            rintro e w' ⟨rfl, rfl⟩
            go_wp2_with fail
            refine (F.out _).mono ?_
            rintro e w' ⟨rfl, k3⟩
            go_wp2_with fail
            refine (HF2.out _).mono ?_
            rintro e w' ⟨rfl, k4⟩
            go_wp2_with fail
            refine (D3.out _).mono ?_
            rintro e w' ⟨rfl, rfl⟩
            go_wp2_with fail
            refine (K.out _).mono ?_
            rintro e w' ⟨rfl, k5⟩
            go_wp2_with fail
            go_ret
            exact ⟨rfl, (by repeat (first | with_reducible exact Kept.refl _ | with_reducible apply Kept.drew | with_reducible apply Kept.drewN | with_reducible apply Kept.alloc | (with_reducible refine Kept.setCellX ?_ ?_ _; focus (first | (simp; done) | (simp; omega))) | (with_reducible refine Kept.trans ?_ (by assumption))))⟩
    · rw [e1] at F
      have s1 : a0 < 0 := by omega
      have s2 : a0 ≤ t := by omega
      clear e1 sgn i0
      go_enter Try.func11, Try.ntmps11
      go_wp2_with fail
      go_loop [5, 6] (fun x i => ∃ k : Nat, k ≤ m ∧ i = .int .i64 (4 - (k : Int)) ∧ x = .int .i64 (10 ^ k)) (fun _ i => (intOf i - (4 - (m : Int))).toNat)
      case atStart => exact ⟨0, by omega, by simp, by simp⟩
      case round =>
        obtain ⟨k, hk, rfl, rfl⟩ := hrel
        by_cases c : k < m
        · have u2 := (UB.out (k + 1) (by omega)).2
          have u3 := (UB.out k (by omega)).1
          have u4 : (10 : Int) ^ (k + 1) = 10 ^ k * 10 := Int.pow_succ ..
          have U4 := Lib.hid u4
          have u5 : (10 : Int) ^ k * 10 ≤ 9223372036854775807 := by omega
          clear u4 u2
          go_wp2_with fail
          go_round
          case rel => exact ⟨k + 1, by omega, by congr 1; omega, by rw [U4.out]⟩
          case measure => simp [intOf]; omega
        · obtain rfl : k = m := by omega
          have uu := UB.out k (by omega)
          obtain ⟨uu1, uu2⟩ := uu
          have uu3 : ((10 : Int) ^ k == 0) = false := by rw [beq_eq_false_iff_ne]; omega
          go_wp2_with fail
          refine (R.out _).mono ?_
          rintro e w' ⟨rfl, k1⟩
          go_wp2_with fail
          refine (HR2.out _).mono ?_
          rintro e w' ⟨rfl, k2⟩
          go_wp2_with fail
          refine (D2.out _).mono ?_
          rintro e w' ⟨rfl, rfl⟩
          go_wp2_with fail
          refine (T.out _).mono ?_
          rintro e w' ⟨rfl, rfl⟩
          go_wp2_with fail
          refine (HT2.out _).mono ?_
          rintro e w' ⟨rfl, rfl⟩
          go_wp2_with fail
          refine (D1.out _).mono ?_
          rintro e w' ⟨rfl, rfl⟩
          go_wp2_with fail
          refine (F.out _).mono ?_
          rintro e w' ⟨rfl, k3⟩
          go_wp2_with fail
          refine (K.out _).mono ?_
          rintro e w' ⟨rfl, k5⟩
          go_wp2_with fail
          go_ret
          exact ⟨rfl, (by repeat (first | with_reducible exact Kept.refl _ | with_reducible apply Kept.drew | with_reducible apply Kept.drewN | with_reducible apply Kept.alloc | (with_reducible refine Kept.setCellX ?_ ?_ _; focus (first | (simp; done) | (simp; omega))) | (with_reducible refine Kept.trans ?_ (by assumption))))⟩
  · rw [e1] at R
    clear e1
    rcases FL with ⟨f, e1, e2, fi, f1, f2, f3, f4⟩ | ⟨e1, f1⟩
    · have F2 := fun w => floor_any f w fi
      rw [e2] at F2
      rw [e1] at F
      have D3 := Lib.hid (fun w => distance_any a0 f w i0 fi)
      have HF2 := Lib.hid F2
      have n3 := abs_nonneg (a0 - f)
      have f5 : (f != f) = false := by simp
      clear F2 e1 e2 i0
      obtain ⟨fi1, fi2⟩ := fi
      generalize Lv.abs (a0 - f) = df at *
      rcases sgn with ⟨s1, s2, s3⟩ | ⟨rfl, rfl⟩ | ⟨s1, s2⟩
      · go_enter Try.func11, Try.ntmps11
        go_wp2_with fail
        go_loop [5, 6] (fun x i => ∃ k : Nat, k ≤ m ∧ i = .int .i64 (4 - (k : Int)) ∧ x = .int .i64 (10 ^ k)) (fun _ i => (intOf i - (4 - (m : Int))).toNat)
        case atStart => exact ⟨0, by omega, by simp, by simp⟩
        case round =>
          obtain ⟨k, hk, rfl, rfl⟩ := hrel
          by_cases c : k < m
          · have u2 := (UB.out (k + 1) (by omega)).2
            have u3 := (UB.out k (by omega)).1
            have u4 : (10 : Int) ^ (k + 1) = 10 ^ k * 10 := Int.pow_succ ..
            have U4 := Lib.hid u4
            have u5 : (10 : Int) ^ k * 10 ≤ 9223372036854775807 := by omega
            clear u4 u2
            go_wp2_with fail
            go_round
            case rel => exact ⟨k + 1, by omega, by congr 1; omega, by rw [U4.out]⟩
            case measure => simp [intOf]; omega
          · obtain rfl : k = m := by omega
            have uu := UB.out k (by omega)
            obtain ⟨uu1, uu2⟩ := uu
            have uu3 : ((10 : Int) ^ k == 0) = false := by rw [beq_eq_false_iff_ne]; omega
            go_wp2_with fail
            refine (R.out _).mono ?_
            rintro e w' ⟨rfl, k1⟩
            go_wp2_with fail
            refine (T.out _).mono ?_
            rintro e w' ⟨rfl, rfl⟩
            go_wp2_with fail
            refine (HT2.out _).mono ?_
            rintro e w' ⟨rfl, rfl⟩
            go_wp2_with fail
            refine (D1.out _).mono ?_
            rintro e w' ⟨rfl, rfl⟩
            go_wp2_with fail
            refine (F.out _).mono ?_
            rintro e w' ⟨rfl, k3⟩
            go_wp2_with fail
            refine (HF2.out _).mono ?_
            rintro e w' ⟨rfl, k4⟩
            go_wp2_with fail
            refine (D3.out _).mono ?_
            rintro e w' ⟨rfl, rfl⟩
            go_wp2_with fail
            refine (K.out _).mono ?_
            rintro e w' ⟨rfl, k5⟩
            go_wp2_with fail
            go_ret
            exact ⟨rfl, (by repeat (first | with_reducible exact Kept.refl _ | with_reducible apply Kept.drew | with_reducible apply Kept.drewN | with_reducible apply Kept.alloc | (with_reducible refine Kept.setCellX ?_ ?_ _; focus (first | (simp; done) | (simp; omega))) | (with_reducible refine Kept.trans ?_ (by assumption))))⟩
      · go_enter Try.func11, Try.ntmps11
        go_wp2_with fail
        go_loop [5, 6] (fun x i => ∃ k : Nat, k ≤ m ∧ i = .int .i64 (4 - (k : Int)) ∧ x = .int .i64 (10 ^ k)) (fun _ i => (intOf i - (4 - (m : Int))).toNat)
        case atStart => exact ⟨0, by omega, by simp, by simp⟩
        case round =>
          obtain ⟨k, hk, rfl, rfl⟩ := hrel
          by_cases c : k < m
          · have u2 := (UB.out (k + 1) (by omega)).2
            have u3 := (UB.out k (by omega)).1
            have u4 : (10 : Int) ^ (k + 1) = 10 ^ k * 10 := Int.pow_succ ..
            have U4 := Lib.hid u4
            have u5 : (10 : Int) ^ k * 10 ≤ 9223372036854775807 := by omega
            clear u4 u2
            go_wp2_with fail
            go_round
            case rel => exact ⟨k + 1, by omega, by congr 1; omega, by rw [U4.out]⟩
            case measure => simp [intOf]; omega
          · obtain rfl : k = m := by omega
            have uu := UB.out k (by omega)
            obtain ⟨uu1, uu2⟩ := uu
            have uu3 : ((10 : Int) ^ k == 0) = false := by rw [beq_eq_false_iff_ne]; omega
            go_wp2_with fail
            refine (R.out _).mono ?_
            rintro e w' ⟨rfl, k1⟩
            go_wp2_with fail
            refine (T.out _).mono ?_
            rintro e w' ⟨rfl, rfl⟩
            go_wp2_with fail
            refine (HT2.out _).mono ?_
            rintro e w' ⟨rfl, rfl⟩
            go_wp2_with fail
            refine (D1.out _).mono ?_
            rintro e w' ⟨rfl, rfl⟩
            go_wp2_with fail
            refine (F.out _).mono ?_
            rintro e w' ⟨rfl, k3⟩
            go_wp2_with fail
            refine (HF2.out _).mono ?_
            rintro e w' ⟨rfl, k4⟩
            go_wp2_with fail
            refine (D3.out _).mono ?_
            rintro e w' ⟨rfl, rfl⟩
            go_wp2_with fail
            refine (K.out _).mono ?_
            rintro e w' ⟨rfl, k5⟩
            go_wp2_with fail
            go_ret
            exact ⟨rfl, (by repeat (first | with_reducible exact Kept.refl _ | with_reducible apply Kept.drew | with_reducible apply Kept.drewN | with_reducible apply Kept.alloc | (with_reducible refine Kept.setCellX ?_ ?_ _; focus (first | (simp; done) | (simp; omega))) | (with_reducible refine Kept.trans ?_ (by assumption))))⟩
      · go_enter Try.func11, Try.ntmps11
        go_wp2_with fail
        go_loop [5, 6] (fun x i => ∃ k : Nat, k ≤ m ∧ i = .int .i64 (4 - (k : Int)) ∧ x = .int .i64 (10 ^ k)) (fun _ i => (intOf i - (4 - (m : Int))).toNat)
        case atStart => exact ⟨0, by omega, by simp, by simp⟩
        case round =>
          obtain ⟨k, hk, rfl, rfl⟩ := hrel
          by_cases c : k < m
          · have u2 := (UB.out (k + 1) (by omega)).2
            have u3 := (UB.out k (by omega)).1
            have u4 : (10 : Int) ^ (k + 1) = 10 ^ k * 10 := Int.pow_succ ..
            have U4 := Lib.hid u4
            have u5 : (10 : Int) ^ k * 10 ≤ 9223372036854775807 := by omega
            clear u4 u2
            go_wp2_with fail
            go_round
            case rel => exact ⟨k + 1, by omega, by congr 1; omega, by rw [U4.out]⟩
            case measure => simp [intOf]; omega
          · obtain rfl : k = m := by omega
            have uu := UB.out k (by omega)
            obtain ⟨uu1, uu2⟩ := uu
            have uu3 : ((10 : Int) ^ k == 0) = false := by rw [beq_eq_false_iff_ne]; omega
            go_wp2_with fail
            refine (R.out _).mono ?_
            rintro e w' ⟨rfl, k1⟩
            go_wp2_with fail
            refine (T.out _).mono ?_
            rintro e w' ⟨rfl, rfl⟩
            go_wp2_with fail
            refine (HT2.out _).mono ?_
            rintro e w' ⟨rfl, rfl⟩
            go_wp2_with fail
            refine (D1.out _).mono ?_
            rintro e w' ⟨rfl, rfl⟩
            go_wp2_with fail
            refine (F.out _).mono ?_
            rintro e w' ⟨rfl, k3⟩
            go_wp2_with fail
            refine (HF2.out _).mono ?_
            rintro e w' ⟨rfl, k4⟩
            go_wp2_with fail
            refine (D3.out _).mono ?_
            rintro e w' ⟨rfl, rfl⟩
            go_wp2_with fail
            refine (K.out _).mono ?_
            rintro e w' ⟨rfl, k5⟩
            go_wp2_with fail
            go_ret
            exact ⟨rfl, (by repeat (first | with_reducible exact Kept.refl _ | with_reducible apply Kept.drew | with_reducible apply Kept.drewN | with_reducible apply Kept.alloc | (with_reducible refine Kept.setCellX ?_ ?_ _; focus (first | (simp; done) | (simp; omega))) | (with_reducible refine Kept.trans ?_ (by assumption))))⟩
    · rw [e1] at F
      have s1 : a0 < 0 := by omega
      have s2 : a0 ≤ t := by omega
      clear e1 sgn i0
      go_enter Try.func11, Try.ntmps11
      go_wp2_with fail
      go_loop [5, 6] (fun x i => ∃ k : Nat, k ≤ m ∧ i = .int .i64 (4 - (k : Int)) ∧ x = .int .i64 (10 ^ k)) (fun _ i => (intOf i - (4 - (m : Int))).toNat)
      case atStart => exact ⟨0, by omega, by simp, by simp⟩
      case round =>
        obtain ⟨k, hk, rfl, rfl⟩ := hrel
        by_cases c : k < m
        · have u2 := (UB.out (k + 1) (by omega)).2
          have u3 := (UB.out k (by omega)).1
          have u4 : (10 : Int) ^ (k + 1) = 10 ^ k * 10 := Int.pow_succ ..
          have U4 := Lib.hid u4
          have u5 : (10 : Int) ^ k * 10 ≤ 9223372036854775807 := by omega
          clear u4 u2
          go_wp2_with fail
          go_round
          case rel => exact ⟨k + 1, by omega, by congr 1; omega, by rw [U4.out]⟩
          case measure => simp [intOf]; omega
        · obtain rfl : k = m := by omega
          have uu := UB.out k (by omega)
          obtain ⟨uu1, uu2⟩ := uu
          have uu3 : ((10 : Int) ^ k == 0) = false := by rw [beq_eq_false_iff_ne]; omega
          go_wp2_with fail
          refine (R.out _).mono ?_
          rintro e w' ⟨rfl, k1⟩
          go_wp2_with fail
          refine (T.out _).mono ?_
          rintro e w' ⟨rfl, rfl⟩
          go_wp2_with fail
          refine (HT2.out _).mono ?_
          rintro e w' ⟨rfl, rfl⟩
          go_wp2_with fail
          refine (D1.out _).mono ?_
          rintro e w' ⟨rfl, rfl⟩
          go_wp2_with fail
          refine (F.out _).mono ?_
          rintro e w' ⟨rfl, k3⟩
          go_wp2_with fail
          refine (K.out _).mono ?_
          rintro e w' ⟨rfl, k5⟩
          go_wp2_with fail
          go_ret
          exact ⟨rfl, (by repeat (first | with_reducible exact Kept.refl _ | with_reducible apply Kept.drew | with_reducible apply Kept.drewN | with_reducible apply Kept.alloc | (with_reducible refine Kept.setCellX ?_ ?_ _; focus (first | (simp; done) | (simp; omega))) | (with_reducible refine Kept.trans ?_ (by assumption))))⟩
end Go.Proofs.Ytingopdeckgpaaa
