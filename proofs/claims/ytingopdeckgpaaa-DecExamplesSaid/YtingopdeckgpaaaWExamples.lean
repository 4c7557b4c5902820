/- Layer 1: what the functions return at the chapter's examples (printed by wip/mkexamples.py). -/
import Derived.Test.YtingopdeckgpaaaLDecBack
import Derived.Test.YtingopdeckgpaaaWSqrt
import Derived.Test.YtingopdeckgpaaaWRoot
namespace Go.Proofs.Ytingopdeckgpaaa
set_option linter.unusedVariables false
set_option linter.unusedSimpArgs false
open Go.RowKit Lv

theorem kept_of_draws {w w' : World} (h : ∃ n, w' = w.drewN n) : Kept w w' := by
  obtain ⟨n, rfl⟩ := h
  exact (Kept.refl w).drewN n
theorem kept_of_same {w w' : World} (h : w = w') : Kept w w' := by subst h; exact Kept.refl w
theorem root_at {a r : Int} (h : 0 ≤ a) (r0 : 0 ≤ r) (r1 : r * r ≤ a * 10000) (r2 : a * 10000 < (r + 1) * (r + 1)) : dSqrt a = (r, true) := by
  unfold dSqrt
  rw [if_neg (by omega), root_unique h r0 r1 r2]
theorem got_yes (v : Int) (w : World) : Calls Try.prog 46 #[.agg #[.int .i64 v, .bool false], .int .i64 v, .bool true] w fun e w' => e = .returned (.bool true) ∧ Kept w w' := by
  have h : (v == v) = true := by simp
  go_enter Try.func46, Try.ntmps46
  go_wp2_with fail
  go_ret
  exact ⟨rfl, (by repeat (first | with_reducible exact Kept.refl _ | with_reducible apply Kept.drew | with_reducible apply Kept.drewN | with_reducible apply Kept.alloc | (with_reducible refine Kept.setCellX ?_ ?_ _; focus (first | (simp; done) | (simp; omega))) | (with_reducible refine Kept.trans ?_ (by assumption))))⟩
theorem got_no (w : World) : Calls Try.prog 46 #[.agg #[.int .i64 0, .bool true], .int .i64 0, .bool false] w fun e w' => e = .returned (.bool true) ∧ Kept w w' := by
  go_enter Try.func46, Try.ntmps46
  go_wp2_with fail
  go_ret
  exact ⟨rfl, (by repeat (first | with_reducible exact Kept.refl _ | with_reducible apply Kept.drew | with_reducible apply Kept.drewN | with_reducible apply Kept.alloc | (with_reducible refine Kept.setCellX ?_ ?_ _; focus (first | (simp; done) | (simp; omega))) | (with_reducible refine Kept.trans ?_ (by assumption))))⟩

theorem ex0 (w : World) : Calls Try.prog 15 #[.int .i64 15000, .int .i64 22500] w fun e w' => e = .returned (.tuple #[.int .i64 37500, .bool true]) ∧ Kept w w' := by
  have h := add2_any 15000 22500 w ⟨by omega, by omega⟩ ⟨by omega, by omega⟩
  rw [show dSum [15000, 22500] = (37500, true) from by decide] at h
  exact h.mono fun _ _ ⟨h1, h2⟩ => ⟨h1, h2⟩
theorem ex1 (w : World) : Calls Try.prog 17 #[.int .i64 10000, .int .i64 10001] w fun e w' => e = .returned (.tuple #[.int .i64 (-1), .bool true]) ∧ Kept w w' := by
  have h := sub2_any 10000 10001 w ⟨by omega, by omega⟩ ⟨by omega, by omega⟩
  rw [show fit (10000 - 10001) = (-1, true) from by decide] at h
  exact h.mono fun _ _ ⟨h1, h2⟩ => ⟨h1, h2⟩
theorem ex2 (w : World) : Calls Try.prog 15 #[.int .i64 9223372036854775807, .int .i64 1] w fun e w' => e = .returned (.tuple #[.int .i64 0, .bool false]) ∧ Kept w w' := by
  have h := add2_any 9223372036854775807 1 w ⟨by omega, by omega⟩ ⟨by omega, by omega⟩
  rw [show dSum [9223372036854775807, 1] = (0, false) from by decide] at h
  exact h.mono fun _ _ ⟨h1, h2⟩ => ⟨h1, h2⟩
theorem ex3 (w : World) : Calls Try.prog 15 #[.int .i64 (-9223372036854775807), .int .i64 (-1)] w fun e w' => e = .returned (.tuple #[.int .i64 0, .bool false]) ∧ Kept w w' := by
  have h := add2_any (-9223372036854775807) (-1) w ⟨by omega, by omega⟩ ⟨by omega, by omega⟩
  rw [show dSum [-9223372036854775807, -1] = (0, false) from by decide] at h
  exact h.mono fun _ _ ⟨h1, h2⟩ => ⟨h1, h2⟩
theorem ex4 (w : World) : Calls Try.prog 15 #[.int .i64 (-9223372036854775808), .int .i64 1] w fun e w' => e = .returned (.tuple #[.int .i64 (-9223372036854775807), .bool true]) ∧ Kept w w' := by
  have h := add2_any (-9223372036854775808) 1 w ⟨by omega, by omega⟩ ⟨by omega, by omega⟩
  rw [show dSum [-9223372036854775808, 1] = (-9223372036854775807, true) from by decide] at h
  exact h.mono fun _ _ ⟨h1, h2⟩ => ⟨h1, h2⟩
theorem ex5 (w : World) : Calls Try.prog 19 #[.int .i64 (-9223372036854775808)] w fun e w' => e = .returned (.tuple #[.int .i64 0, .bool false]) ∧ Kept w w' := by
  have h := neg_any (-9223372036854775808) w ⟨by omega, by omega⟩
  rw [show dNeg (-9223372036854775808) = (0, false) from by decide] at h
  exact h.mono fun _ _ ⟨h1, h2⟩ => ⟨h1, kept_of_draws h2⟩
theorem ex6 (w : World) : Calls Try.prog 21 #[.int .i64 15000, .int .i64 25000] w fun e w' => e = .returned (.tuple #[.int .i64 37500, .bool true]) ∧ Kept w w' := by
  have h := mul_any 15000 25000 w ⟨by omega, by omega⟩ ⟨by omega, by omega⟩
  rw [show dMul 15000 25000 = (37500, true) from by decide] at h
  exact h.mono fun _ _ ⟨h1, h2⟩ => ⟨h1, kept_of_draws h2⟩
theorem ex7 (w : World) : Calls Try.prog 21 #[.int .i64 1, .int .i64 5000] w fun e w' => e = .returned (.tuple #[.int .i64 1, .bool true]) ∧ Kept w w' := by
  have h := mul_any 1 5000 w ⟨by omega, by omega⟩ ⟨by omega, by omega⟩
  rw [show dMul 1 5000 = (1, true) from by decide] at h
  exact h.mono fun _ _ ⟨h1, h2⟩ => ⟨h1, kept_of_draws h2⟩
theorem ex8 (w : World) : Calls Try.prog 21 #[.int .i64 (-1), .int .i64 5000] w fun e w' => e = .returned (.tuple #[.int .i64 (-1), .bool true]) ∧ Kept w w' := by
  have h := mul_any (-1) 5000 w ⟨by omega, by omega⟩ ⟨by omega, by omega⟩
  rw [show dMul (-1) 5000 = (-1, true) from by decide] at h
  exact h.mono fun _ _ ⟨h1, h2⟩ => ⟨h1, kept_of_draws h2⟩
theorem ex9 (w : World) : Calls Try.prog 21 #[.int .i64 1, .int .i64 4999] w fun e w' => e = .returned (.tuple #[.int .i64 0, .bool true]) ∧ Kept w w' := by
  have h := mul_any 1 4999 w ⟨by omega, by omega⟩ ⟨by omega, by omega⟩
  rw [show dMul 1 4999 = (0, true) from by decide] at h
  exact h.mono fun _ _ ⟨h1, h2⟩ => ⟨h1, kept_of_draws h2⟩
theorem ex10 (w : World) : Calls Try.prog 23 #[.int .i64 10000, .int .i64 30000] w fun e w' => e = .returned (.tuple #[.int .i64 3333, .bool true]) ∧ Kept w w' := by
  have h := quo_any 10000 30000 w ⟨by omega, by omega⟩ ⟨by omega, by omega⟩
  rw [show dQuo 10000 30000 = (3333, true) from by decide] at h
  exact h.mono fun _ _ ⟨h1, h2⟩ => ⟨h1, kept_of_draws h2⟩
theorem ex11 (w : World) : Calls Try.prog 23 #[.int .i64 20000, .int .i64 30000] w fun e w' => e = .returned (.tuple #[.int .i64 6667, .bool true]) ∧ Kept w w' := by
  have h := quo_any 20000 30000 w ⟨by omega, by omega⟩ ⟨by omega, by omega⟩
  rw [show dQuo 20000 30000 = (6667, true) from by decide] at h
  exact h.mono fun _ _ ⟨h1, h2⟩ => ⟨h1, kept_of_draws h2⟩
theorem ex12 (w : World) : Calls Try.prog 23 #[.int .i64 (-10000), .int .i64 80000000] w fun e w' => e = .returned (.tuple #[.int .i64 (-1), .bool true]) ∧ Kept w w' := by
  have h := quo_any (-10000) 80000000 w ⟨by omega, by omega⟩ ⟨by omega, by omega⟩
  rw [show dQuo (-10000) 80000000 = (-1, true) from by decide] at h
  exact h.mono fun _ _ ⟨h1, h2⟩ => ⟨h1, kept_of_draws h2⟩
theorem ex13 (w : World) : Calls Try.prog 23 #[.int .i64 10000, .int .i64 0] w fun e w' => e = .returned (.tuple #[.int .i64 0, .bool false]) ∧ Kept w w' := by
  have h := quo_any 10000 0 w ⟨by omega, by omega⟩ ⟨by omega, by omega⟩
  rw [show dQuo 10000 0 = (0, false) from by decide] at h
  exact h.mono fun _ _ ⟨h1, h2⟩ => ⟨h1, kept_of_draws h2⟩
theorem ex14 (w : World) : Calls Try.prog 23 #[.int .i64 (-9223372036854775808), .int .i64 (-10000)] w fun e w' => e = .returned (.tuple #[.int .i64 0, .bool false]) ∧ Kept w w' := by
  have h := quo_any (-9223372036854775808) (-10000) w ⟨by omega, by omega⟩ ⟨by omega, by omega⟩
  rw [show dQuo (-9223372036854775808) (-10000) = (0, false) from by decide] at h
  exact h.mono fun _ _ ⟨h1, h2⟩ => ⟨h1, kept_of_draws h2⟩
theorem ex15 (w : World) : Calls Try.prog 33 #[.int .i64 25000, .int .i64 0] w fun e w' => e = .returned (.tuple #[.int .i64 30000, .bool true]) ∧ Kept w w' := by
  have h := round_any 25000 0 w ⟨by omega, by omega⟩ ⟨by omega, by omega⟩
  rw [show dRound 25000 0 = (30000, true) from by decide] at h
  exact h.mono fun _ _ ⟨h1, h2⟩ => ⟨h1, h2⟩
theorem ex16 (w : World) : Calls Try.prog 33 #[.int .i64 (-12345), .int .i64 3] w fun e w' => e = .returned (.tuple #[.int .i64 (-12350), .bool true]) ∧ Kept w w' := by
  have h := round_any (-12345) 3 w ⟨by omega, by omega⟩ ⟨by omega, by omega⟩
  rw [show dRound (-12345) 3 = (-12350, true) from by decide] at h
  exact h.mono fun _ _ ⟨h1, h2⟩ => ⟨h1, h2⟩
theorem ex17 (w : World) : Calls Try.prog 33 #[.int .i64 12345000, .int .i64 (-2)] w fun e w' => e = .returned (.tuple #[.int .i64 12000000, .bool true]) ∧ Kept w w' := by
  have h := round_any 12345000 (-2) w ⟨by omega, by omega⟩ ⟨by omega, by omega⟩
  rw [show dRound 12345000 (-2) = (12000000, true) from by decide] at h
  exact h.mono fun _ _ ⟨h1, h2⟩ => ⟨h1, h2⟩
theorem ex18 (w : World) : Calls Try.prog 33 #[.int .i64 500000, .int .i64 (-2)] w fun e w' => e = .returned (.tuple #[.int .i64 1000000, .bool true]) ∧ Kept w w' := by
  have h := round_any 500000 (-2) w ⟨by omega, by omega⟩ ⟨by omega, by omega⟩
  rw [show dRound 500000 (-2) = (1000000, true) from by decide] at h
  exact h.mono fun _ _ ⟨h1, h2⟩ => ⟨h1, h2⟩
theorem ex19 (w : World) : Calls Try.prog 33 #[.int .i64 12345, .int .i64 9] w fun e w' => e = .returned (.tuple #[.int .i64 12345, .bool true]) ∧ Kept w w' := by
  have h := round_any 12345 9 w ⟨by omega, by omega⟩ ⟨by omega, by omega⟩
  rw [show dRound 12345 9 = (12345, true) from by decide] at h
  exact h.mono fun _ _ ⟨h1, h2⟩ => ⟨h1, h2⟩
theorem ex20 (w : World) : Calls Try.prog 33 #[.int .i64 9223372036854775807, .int .i64 (-15)] w fun e w' => e = .returned (.tuple #[.int .i64 0, .bool false]) ∧ Kept w w' := by
  have h := round_any 9223372036854775807 (-15) w ⟨by omega, by omega⟩ ⟨by omega, by omega⟩
  rw [show dRound 9223372036854775807 (-15) = (0, false) from by decide] at h
  exact h.mono fun _ _ ⟨h1, h2⟩ => ⟨h1, h2⟩
theorem ex21 (w : World) : Calls Try.prog 33 #[.int .i64 4000000000000000000, .int .i64 (-15)] w fun e w' => e = .returned (.tuple #[.int .i64 0, .bool true]) ∧ Kept w w' := by
  have h := round_any 4000000000000000000 (-15) w ⟨by omega, by omega⟩ ⟨by omega, by omega⟩
  rw [show dRound 4000000000000000000 (-15) = (0, true) from by decide] at h
  exact h.mono fun _ _ ⟨h1, h2⟩ => ⟨h1, h2⟩
theorem ex22 (w : World) : Calls Try.prog 33 #[.int .i64 9223372036854775807, .int .i64 (-16)] w fun e w' => e = .returned (.tuple #[.int .i64 0, .bool true]) ∧ Kept w w' := by
  have h := round_any 9223372036854775807 (-16) w ⟨by omega, by omega⟩ ⟨by omega, by omega⟩
  rw [show dRound 9223372036854775807 (-16) = (0, true) from by decide] at h
  exact h.mono fun _ _ ⟨h1, h2⟩ => ⟨h1, h2⟩
theorem ex23 (w : World) : Calls Try.prog 35 #[.int .i64 (-19000)] w fun e w' => e = .returned (.int .i64 (-10000)) ∧ Kept w w' := by
  have h := trunc_any (-19000) w ⟨by omega, by omega⟩
  rw [show dTrunc (-19000) = (-10000) from by decide] at h
  exact h.mono fun _ _ ⟨h1, h2⟩ => ⟨h1, kept_of_same h2⟩
theorem ex24 (w : World) : Calls Try.prog 37 #[.int .i64 (-19000)] w fun e w' => e = .returned (.tuple #[.int .i64 (-20000), .bool true]) ∧ Kept w w' := by
  have h := floor_any (-19000) w ⟨by omega, by omega⟩
  rw [show dFloor (-19000) = (-20000, true) from by decide] at h
  exact h.mono fun _ _ ⟨h1, h2⟩ => ⟨h1, h2⟩
theorem ex25 (w : World) : Calls Try.prog 37 #[.int .i64 20000] w fun e w' => e = .returned (.tuple #[.int .i64 20000, .bool true]) ∧ Kept w w' := by
  have h := floor_any 20000 w ⟨by omega, by omega⟩
  rw [show dFloor 20000 = (20000, true) from by decide] at h
  exact h.mono fun _ _ ⟨h1, h2⟩ => ⟨h1, h2⟩
theorem ex26 (w : World) : Calls Try.prog 37 #[.int .i64 (-9223372036854775807)] w fun e w' => e = .returned (.tuple #[.int .i64 0, .bool false]) ∧ Kept w w' := by
  have h := floor_any (-9223372036854775807) w ⟨by omega, by omega⟩
  rw [show dFloor (-9223372036854775807) = (0, false) from by decide] at h
  exact h.mono fun _ _ ⟨h1, h2⟩ => ⟨h1, h2⟩
theorem ex27 (w : World) : Calls Try.prog 30 #[.int .i64 20000] w fun e w' => e = .returned (.tuple #[.int .i64 14142, .bool true]) ∧ Kept w w' := by
  have h := sqrt_any 20000 w ⟨by omega, by omega⟩
  rw [show dSqrt 20000 = (14142, true) from root_at (by omega) (by omega) (by omega) (by omega)] at h
  exact h.mono fun _ _ ⟨h1, h2⟩ => ⟨h1, kept_of_same h2⟩
theorem ex28 (w : World) : Calls Try.prog 30 #[.int .i64 1] w fun e w' => e = .returned (.tuple #[.int .i64 100, .bool true]) ∧ Kept w w' := by
  have h := sqrt_any 1 w ⟨by omega, by omega⟩
  rw [show dSqrt 1 = (100, true) from root_at (by omega) (by omega) (by omega) (by omega)] at h
  exact h.mono fun _ _ ⟨h1, h2⟩ => ⟨h1, kept_of_same h2⟩
theorem ex29 (w : World) : Calls Try.prog 30 #[.int .i64 (-1)] w fun e w' => e = .returned (.tuple #[.int .i64 0, .bool false]) ∧ Kept w w' := by
  have h := sqrt_any (-1) w ⟨by omega, by omega⟩
  rw [show dSqrt (-1) = (0, false) from by decide] at h
  exact h.mono fun _ _ ⟨h1, h2⟩ => ⟨h1, kept_of_same h2⟩
theorem ex30 (w : World) : Calls Try.prog 32 #[.int .i64 20000, .int .i64 10] w fun e w' => e = .returned (.tuple #[.int .i64 10240000, .bool true]) ∧ Kept w w' := by
  have h := power_any 20000 10 w ⟨by omega, by omega⟩ ⟨by omega, by omega⟩
  rw [show dPow 20000 10 = (10240000, true) from by decide +kernel] at h
  exact h.mono fun _ _ ⟨h1, h2⟩ => ⟨h1, h2⟩
theorem ex31 (w : World) : Calls Try.prog 32 #[.int .i64 20000, .int .i64 (-2)] w fun e w' => e = .returned (.tuple #[.int .i64 2500, .bool true]) ∧ Kept w w' := by
  have h := power_any 20000 (-2) w ⟨by omega, by omega⟩ ⟨by omega, by omega⟩
  rw [show dPow 20000 (-2) = (2500, true) from by decide +kernel] at h
  exact h.mono fun _ _ ⟨h1, h2⟩ => ⟨h1, h2⟩
theorem ex32 (w : World) : Calls Try.prog 32 #[.int .i64 100, .int .i64 3] w fun e w' => e = .returned (.tuple #[.int .i64 0, .bool true]) ∧ Kept w w' := by
  have h := power_any 100 3 w ⟨by omega, by omega⟩ ⟨by omega, by omega⟩
  rw [show dPow 100 3 = (0, true) from by decide +kernel] at h
  exact h.mono fun _ _ ⟨h1, h2⟩ => ⟨h1, h2⟩
theorem ex33 (w : World) : Calls Try.prog 32 #[.int .i64 0, .int .i64 0] w fun e w' => e = .returned (.tuple #[.int .i64 10000, .bool true]) ∧ Kept w w' := by
  have h := power_any 0 0 w ⟨by omega, by omega⟩ ⟨by omega, by omega⟩
  rw [show dPow 0 0 = (10000, true) from by decide +kernel] at h
  exact h.mono fun _ _ ⟨h1, h2⟩ => ⟨h1, h2⟩
theorem ex34 (w : World) : Calls Try.prog 32 #[.int .i64 0, .int .i64 (-1)] w fun e w' => e = .returned (.tuple #[.int .i64 0, .bool false]) ∧ Kept w w' := by
  have h := power_any 0 (-1) w ⟨by omega, by omega⟩ ⟨by omega, by omega⟩
  rw [show dPow 0 (-1) = (0, false) from by decide +kernel] at h
  exact h.mono fun _ _ ⟨h1, h2⟩ => ⟨h1, h2⟩
theorem ex35 (w : World) : Calls Try.prog 32 #[.int .i64 100000, .int .i64 15] w fun e w' => e = .returned (.tuple #[.int .i64 0, .bool false]) ∧ Kept w w' := by
  have h := power_any 100000 15 w ⟨by omega, by omega⟩ ⟨by omega, by omega⟩
  rw [show dPow 100000 15 = (0, false) from by decide +kernel] at h
  exact h.mono fun _ _ ⟨h1, h2⟩ => ⟨h1, h2⟩
theorem ex36 (w : World) : Calls Try.prog 32 #[.int .i64 10000, .int .i64 1001] w fun e w' => e = .returned (.tuple #[.int .i64 0, .bool false]) ∧ Kept w w' := by
  have h := power_any 10000 1001 w ⟨by omega, by omega⟩ ⟨by omega, by omega⟩
  rw [show dPow 10000 1001 = (0, false) from by decide +kernel] at h
  exact h.mono fun _ _ ⟨h1, h2⟩ => ⟨h1, h2⟩
theorem ex37 (w : World) : Calls Try.prog 32 #[.int .i64 10000, .int .i64 1000] w fun e w' => e = .returned (.tuple #[.int .i64 10000, .bool true]) ∧ Kept w w' := by
  have h := power_any 10000 1000 w ⟨by omega, by omega⟩ ⟨by omega, by omega⟩
  rw [show dPow 10000 1000 = (10000, true) from by decide +kernel] at h
  exact h.mono fun _ _ ⟨h1, h2⟩ => ⟨h1, h2⟩
theorem ex38 (A : Option Addr) (cap : Nat) (w : World) (hr : Row w A [9223372036854770000, 10000, -9223372036854770000]) : Calls Try.prog 26 #[.slice A 3 cap] w fun e w' => e = .returned (.tuple #[.int .i64 10000, .bool true]) ∧ Kept w w' := by
  have h := sum_any A cap [9223372036854770000, 10000, -9223372036854770000] w hr (by intro x hx; simp at hx; rcases hx with rfl | rfl | rfl <;> exact ⟨by omega, by omega⟩) (by simp)
  rw [show dSum [9223372036854770000, 10000, -9223372036854770000] = (10000, true) from by decide] at h
  exact h
theorem ex39 (A : Option Addr) (cap : Nat) (w : World) (hr : Row w A [10000, 20000, 20000]) : Calls Try.prog 28 #[.slice A 3 cap] w fun e w' => e = .returned (.tuple #[.int .i64 16667, .bool true]) ∧ Kept w w' := by
  have h := mean_any A cap [10000, 20000, 20000] w hr (by intro x hx; simp at hx; rcases hx with rfl | rfl <;> exact ⟨by omega, by omega⟩) (by simp)
  rw [show dMean [10000, 20000, 20000] = (16667, true) from by decide] at h
  exact h
theorem ex40 (A : Option Addr) (cap : Nat) (w : World) (hr : Row w A [1, 0]) : Calls Try.prog 28 #[.slice A 2 cap] w fun e w' => e = .returned (.tuple #[.int .i64 1, .bool true]) ∧ Kept w w' := by
  have h := mean_any A cap [1, 0] w hr (by intro x hx; simp at hx; rcases hx with rfl | rfl <;> exact ⟨by omega, by omega⟩) (by simp)
  rw [show dMean [1, 0] = (1, true) from by decide] at h
  exact h
theorem ex41 (A : Option Addr) (cap : Nat) (w : World) (hr : Row w A []) : Calls Try.prog 28 #[.slice A 0 cap] w fun e w' => e = .returned (.tuple #[.int .i64 0, .bool false]) ∧ Kept w w' := by
  have h := mean_any A cap [] w hr (by intro x hx; cases hx) (by simp)
  rw [show dMean [] = (0, false) from by decide] at h
  exact h
theorem ex42 (A : Option Addr) (cap : Nat) (w : World) (hr : Row w A []) : Calls Try.prog 26 #[.slice A 0 cap] w fun e w' => e = .returned (.tuple #[.int .i64 0, .bool true]) ∧ Kept w w' := by
  have h := sum_any A cap [] w hr (by intro x hx; cases hx) (by simp)
  rw [show dSum [] = (0, true) from by decide] at h
  exact h
theorem ex_p0 (w : World) : Calls Try.prog 42 #[.string ⟨#[45, 48, 48, 49, 50, 46, 51, 52, 53, 54, 53]⟩] w fun e w' => e = .returned (.tuple #[.int .i64 (-123457), .int .i64 0]) ∧ Kept w w' := by
  have h := parse_any [45, 48, 48, 49, 50, 46, 51, 52, 53, 54, 53] w (by simp)
  rw [show dParse [45, 48, 48, 49, 50, 46, 51, 52, 53, 54, 53] = (-123457, 0) from by decide +kernel] at h
  exact h
theorem ex_p1 (w : World) : Calls Try.prog 42 #[.string ⟨#[45, 48]⟩] w fun e w' => e = .returned (.tuple #[.int .i64 0, .int .i64 0]) ∧ Kept w w' := by
  have h := parse_any [45, 48] w (by simp)
  rw [show dParse [45, 48] = (0, 0) from by decide +kernel] at h
  exact h
theorem ex_p2 (w : World) : Calls Try.prog 42 #[.string ⟨#[57, 50, 50, 51, 51, 55, 50, 48, 51, 54, 56, 53, 52, 55, 55, 46, 53, 56, 48, 55, 53]⟩] w fun e w' => e = .returned (.tuple #[.int .i64 0, .int .i64 3]) ∧ Kept w w' := by
  have h := parse_any [57, 50, 50, 51, 51, 55, 50, 48, 51, 54, 56, 53, 52, 55, 55, 46, 53, 56, 48, 55, 53] w (by simp)
  rw [show dParse [57, 50, 50, 51, 51, 55, 50, 48, 51, 54, 56, 53, 52, 55, 55, 46, 53, 56, 48, 55, 53] = (0, 3) from by decide +kernel] at h
  exact h
theorem ex_q0 (w : World) : Calls Try.prog 42 #[.string ⟨#[49, 46]⟩] w fun e w' => e = .returned (.tuple #[.int .i64 0, .int .i64 4]) ∧ Kept w w' := by
  have h := parse_any [49, 46] w (by simp)
  rw [show dParse [49, 46] = (0, 4) from by decide +kernel] at h
  exact h
theorem ex_q1 (w : World) : Calls Try.prog 42 #[.string ⟨#[46, 53]⟩] w fun e w' => e = .returned (.tuple #[.int .i64 0, .int .i64 4]) ∧ Kept w w' := by
  have h := parse_any [46, 53] w (by simp)
  rw [show dParse [46, 53] = (0, 4) from by decide +kernel] at h
  exact h
theorem ex_q2 (w : World) : Calls Try.prog 42 #[.string ⟨#[43, 49]⟩] w fun e w' => e = .returned (.tuple #[.int .i64 0, .int .i64 4]) ∧ Kept w w' := by
  have h := parse_any [43, 49] w (by simp)
  rw [show dParse [43, 49] = (0, 4) from by decide +kernel] at h
  exact h
theorem ex_q3 (w : World) : Calls Try.prog 42 #[.string ⟨#[]⟩] w fun e w' => e = .returned (.tuple #[.int .i64 0, .int .i64 4]) ∧ Kept w w' := by
  have h := parse_any [] w (by simp)
  rw [show dParse [] = (0, 4) from by decide +kernel] at h
  exact h
theorem ex_q4 (w : World) : Calls Try.prog 42 #[.string ⟨#[45]⟩] w fun e w' => e = .returned (.tuple #[.int .i64 0, .int .i64 4]) ∧ Kept w w' := by
  have h := parse_any [45] w (by simp)
  rw [show dParse [45] = (0, 4) from by decide +kernel] at h
  exact h
theorem ex_q5 (w : World) : Calls Try.prog 42 #[.string ⟨#[49, 32]⟩] w fun e w' => e = .returned (.tuple #[.int .i64 0, .int .i64 4]) ∧ Kept w w' := by
  have h := parse_any [49, 32] w (by simp)
  rw [show dParse [49, 32] = (0, 4) from by decide +kernel] at h
  exact h
theorem ex_q6 (w : World) : Calls Try.prog 42 #[.string ⟨#[49, 46, 50, 46, 51]⟩] w fun e w' => e = .returned (.tuple #[.int .i64 0, .int .i64 4]) ∧ Kept w w' := by
  have h := parse_any [49, 46, 50, 46, 51] w (by simp)
  rw [show dParse [49, 46, 50, 46, 51] = (0, 4) from by decide +kernel] at h
  exact h
theorem ex_q7 (w : World) : Calls Try.prog 42 #[.string ⟨#[49, 101, 53]⟩] w fun e w' => e = .returned (.tuple #[.int .i64 0, .int .i64 4]) ∧ Kept w w' := by
  have h := parse_any [49, 101, 53] w (by simp)
  rw [show dParse [49, 101, 53] = (0, 4) from by decide +kernel] at h
  exact h
theorem ex_f0 (w : World) : Calls Try.prog 44 #[.int .i64 0] w fun e w' => e = .returned (.string ⟨#[48]⟩) ∧ Kept w w' := by
  have h := format_any 0 w ⟨by omega, by omega⟩
  rw [show fmt 0 = [48] from by decide +kernel] at h
  exact h
theorem ex_f1 (w : World) : Calls Try.prog 44 #[.int .i64 (-5000)] w fun e w' => e = .returned (.string ⟨#[45, 48, 46, 53]⟩) ∧ Kept w w' := by
  have h := format_any (-5000) w ⟨by omega, by omega⟩
  rw [show fmt (-5000) = [45, 48, 46, 53] from by decide +kernel] at h
  exact h
theorem ex_f2 (w : World) : Calls Try.prog 44 #[.int .i64 123400] w fun e w' => e = .returned (.string ⟨#[49, 50, 46, 51, 52]⟩) ∧ Kept w w' := by
  have h := format_any 123400 w ⟨by omega, by omega⟩
  rw [show fmt 123400 = [49, 50, 46, 51, 52] from by decide +kernel] at h
  exact h
theorem ex_f3 (w : World) : Calls Try.prog 44 #[.int .i64 (-9223372036854775808)] w fun e w' => e = .returned (.string ⟨#[45, 57, 50, 50, 51, 51, 55, 50, 48, 51, 54, 56, 53, 52, 55, 55, 46, 53, 56, 48, 56]⟩) ∧ Kept w w' := by
  have h := format_any (-9223372036854775808) w ⟨by omega, by omega⟩
  rw [show fmt (-9223372036854775808) = [45, 57, 50, 50, 51, 51, 55, 50, 48, 51, 54, 56, 53, 52, 55, 55, 46, 53, 56, 48, 56] from by decide +kernel] at h
  exact h
end Go.Proofs.Ytingopdeckgpaaa
