/- Layer 1: Sqrt, walked. -/
import Derived.Test.YtingopdeckgpaaaWDec1
import Derived.Test.YtingopdeckgpaaaMRoot
namespace Go.Proofs.Ytingopdeckgpaaa
set_option linter.unusedVariables false
set_option linter.unusedSimpArgs false
open Go.RowKit Lv

set_option maxHeartbeats 800000 in
theorem sqrt_nat (n : Nat) (w : World) (hn : n ≤ 9223372036854775807) : Calls Try.prog 30 #[.int .i64 n] w fun e w' => e = .returned (.tuple #[.int .i64 (root n), .bool true]) ∧ w = w' := by
  have M := Lib.hid (Try.bits_Mul64 n 10000 (by omega) (by omega) w)
  have X1 : n * 10000 / 18446744073709551616 * 18446744073709551616 + n * 10000 % 18446744073709551616 = n * 10000 := by omega
  have X2 : n * 10000 < 1208925819614629174706176 := by omega
  have X3 : n * 10000 / 18446744073709551616 ≤ 65536 := by omega
  have X4 : n * 10000 % 18446744073709551616 < 18446744073709551616 := by omega
  have HX := Lib.hid X1
  clear X1
  generalize n * 10000 / 18446744073709551616 = hi at *
  generalize n * 10000 % 18446744073709551616 = lo at *
  go_enter Try.func30, Try.ntmps30
  go_wp2_with fail
  refine (M.out).mono ?_
  rintro e w' ⟨rfl, rfl⟩
  go_wp2_with fail
  go_loop [6, 19] (fun x i => ∃ k q r : Nat, k ≤ 40 ∧ r = q * 2 ^ (40 - k) ∧ i = .int .i64 k ∧ x = .int .u64 (r : Int) ∧ r * r ≤ n * 10000 ∧ n * 10000 < (r + 2 ^ (40 - k)) * (r + 2 ^ (40 - k))) (fun _ i => 40 - (intOf i).toNat)
  case atStart => exact ⟨0, 0, 0, by omega, by simp, rfl, rfl, by omega, by simp; omega⟩
  case round =>
    obtain ⟨k, q, r, hk, hr, rfl, rfl, h1, h2⟩ := hrel
    have r40 : r < 1099511627776 := by
      have : (r : Int) < 1099511627776 := sq_lt (by omega) (by omega) (by have := Int.ofNat_le.2 h1; simp at this; omega)
      omega
    by_cases c : k < 40
    · obtain ⟨m, hm⟩ : ∃ m : Nat, m = 2 ^ (39 - k) := ⟨_, rfl⟩
      have hp : (2 : Nat) ^ (40 - k) = 2 * m := by rw [hm, show 40 - k = (39 - k) + 1 by omega, Nat.pow_succ]; omega
      have m0 : 0 < m := by rw [hm]; exact Nat.two_pow_pos _
      have m1 : m ≤ 549755813888 := by rw [hm]; exact Nat.pow_le_pow_right (n := 2) (by omega) (show 39 - k ≤ 39 by omega)
      obtain ⟨s, hs⟩ : ∃ s : Nat, s = r + m := ⟨_, rfl⟩
      have e3 : bits .or .u64 (r : Int) (IntKind.u64.wrap (2 ^ (39 - k))) = (s : Int) := by
        have e : IntKind.u64.wrap (2 ^ (39 - k)) = (m : Int) := by
          have e4 : ((2 ^ (39 - k) : Nat) : Int) = 2 ^ (39 - k) := by simp
          rw [← e4, ← hm]
          exact wrap_in _ (by omega) (by omega)
        rw [e, hs, hr]
        exact or_add q (40 - k) m (by omega) (by omega)
      have hs0 : s < 18446744073709551616 := by omega
      have MM := Lib.hid (Try.bits_Mul64 s s hs0 hs0)
      have ss : s * s / 18446744073709551616 * 18446744073709551616 + s * s % 18446744073709551616 = s * s := by omega
      have sl : s * s % 18446744073709551616 < 18446744073709551616 := Nat.mod_lt _ (by omega)
      have hx := HX.out
      have HS := Lib.hid hs; have HM := Lib.hid hm; have HR := Lib.hid hr; have HP := Lib.hid hp
      have H1 := Lib.hid h1; have H2 := Lib.hid h2
      have A1 : Hid (r + 2 ^ (40 - k) = s + 2 ^ (40 - (k + 1))) := by rw [hp, show 40 - (k + 1) = 39 - k by omega, ← hm, hs]; show _ = _; omega
      have A2 : Hid (s = (2 * q + 1) * 2 ^ (40 - (k + 1))) := by rw [show 40 - (k + 1) = 39 - k by omega, ← hm, hs, hr, hp, Nat.add_mul]; show _ = _; rw [show 2 * q * m = q * (2 * m) by rw [Nat.mul_comm 2 q, Nat.mul_assoc]]; omega
      have A3 : Hid (r = (2 * q) * 2 ^ (40 - (k + 1))) := by rw [show 40 - (k + 1) = 39 - k by omega, ← hm, hr, hp]; show _ = _; rw [Nat.mul_comm 2 q, Nat.mul_assoc]
      have A4 : Hid (r + 2 ^ (40 - (k + 1)) = s) := by rw [show 40 - (k + 1) = 39 - k by omega, ← hm, hs]; rfl
      clear hs hm hr hp h1 h2
      generalize s * s / 18446744073709551616 = hh at *
      generalize s * s % 18446744073709551616 = ll at *
      by_cases T : s * s ≤ n * 10000
      · have R : Hid (s * s ≤ n * 10000) := T
        by_cases g : hh < hi
        · clear hx ss T
          go_wp2_with fail
          refine (MM.out _).mono ?_
          rintro e w' ⟨rfl, rfl⟩
          go_wp2_with fail
          go_round
          case rel => exact ⟨k + 1, 2 * q + 1, s, by omega, A2.out, by go_num, rfl, R.out, by rw [← A1.out]; exact H2.out⟩
          case measure => simp [intOf]; omega
        · have g1 : ((hh : Int) == (hi : Int)) = true := by rw [beq_iff_eq]; omega
          have g2 : ll ≤ lo := by omega
          clear hx ss T
          go_wp2_with fail
          refine (MM.out _).mono ?_
          rintro e w' ⟨rfl, rfl⟩
          go_wp2_with fail
          go_round
          case rel => exact ⟨k + 1, 2 * q + 1, s, by omega, A2.out, by go_num, rfl, R.out, by rw [← A1.out]; exact H2.out⟩
          case measure => simp [intOf]; omega
      · have R : Hid (n * 10000 < s * s) := by show _ < _; omega
        have g : ¬ hh < hi := by omega
        by_cases g0 : hh = hi
        · have g1 : ((hh : Int) == (hi : Int)) = true := by rw [beq_iff_eq]; omega
          have g2 : ¬ ll ≤ lo := by omega
          clear hx ss T g0
          go_wp2_with fail
          refine (MM.out _).mono ?_
          rintro e w' ⟨rfl, rfl⟩
          go_wp2_with fail
          go_round
          case rel => exact ⟨k + 1, 2 * q, r, by omega, A3.out, by go_num, rfl, H1.out, by rw [A4.out]; exact R.out⟩
          case measure => simp [intOf]; omega
        · have g1 : ((hh : Int) == (hi : Int)) = false := by rw [beq_eq_false_iff_ne]; omega
          clear hx ss T g0
          go_wp2_with fail
          refine (MM.out _).mono ?_
          rintro e w' ⟨rfl, rfl⟩
          go_wp2_with fail
          go_round
          case rel => exact ⟨k + 1, 2 * q, r, by omega, A3.out, by go_num, rfl, H1.out, by rw [A4.out]; exact R.out⟩
          case measure => simp [intOf]; omega
    · obtain rfl : k = 40 := by omega
      have E : Hid ((r : Int) = root n) := by
        refine root_unique (by omega) (by omega) ?_ ?_
        · have := Int.ofNat_le.2 h1; simpa using this
        · have := Int.ofNat_lt.2 h2; simpa using this
      clear h1 h2 hr
      go_wp2_with fail
      go_ret2
      exact ⟨ret_ib E.out rfl, rfl⟩

theorem sqrt_any (a : Int) (w : World) (h : i64 a) : Calls Try.prog 30 #[.int .i64 a] w fun e w' => e = .returned (.tuple #[.int .i64 (dSqrt a).1, .bool (dSqrt a).2]) ∧ w = w' := by
  by_cases c : a < 0
  · have E : Hid (dSqrt a = (0, false)) := if_pos c
    go_enter Try.func30, Try.ntmps30
    go_wp2_with fail
    go_ret2
    exact ⟨ret_p E.out, rfl⟩
  · have E : dSqrt a = ((root a : Int), true) := if_neg c
    rw [E]
    obtain ⟨n, rfl⟩ := Int.eq_ofNat_of_zero_le (show 0 ≤ a by omega)
    exact sqrt_nat n w (by have := h.2; omega)
end Go.Proofs.Ytingopdeckgpaaa
