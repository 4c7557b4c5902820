/- The statements' own helpers on numbers: above, distance. -/
import Derived.Test.YtingopdeckgpaaaWKnown
import Derived.Test.YtingopdeckgpaaaMRoot
namespace Go.Proofs.Ytingopdeckgpaaa
set_option linter.unusedVariables false
set_option linter.unusedSimpArgs false
open Go.RowKit Lv

theorem above_eq {r h l whole rest : Int} (hr : r = 10000 * h + l) (hw : 10000 * (10000 * h * h + 2 * h * l) + l * l = 10000 * whole + rest) : r * r = 10000 * whole + rest := by
  rw [← hw, hr]; grind

set_option maxHeartbeats 400000 in
theorem above_any (r a : Int) (w : World) (r0 : 0 ≤ r) (r1 : r ≤ 400000000001) (a0 : 0 ≤ a) (a1 : a ≤ 9223372036854775808) :
    Calls Try.prog 31 #[.int .u64 r, .int .u64 a] w fun e w' => e = .returned (.bool (decide (a * 10000 < r * r))) ∧ w = w' := by
  have h0 : 0 ≤ r / 10000 := by omega
  have h1 : r / 10000 ≤ 40000000 := by omega
  have l0 : 0 ≤ r % 10000 := by omega
  have l1 : r % 10000 ≤ 9999 := by omega
  have hr : r = 10000 * (r / 10000) + r % 10000 := by omega
  have p0 : 0 ≤ r / 10000 * (r / 10000) := Int.mul_nonneg h0 h0
  have p1 : r / 10000 * (r / 10000) ≤ 40000000 * 40000000 := Int.mul_le_mul h1 h1 h0 (by omega)
  have q0 : 0 ≤ r / 10000 * (r % 10000) := Int.mul_nonneg h0 l0
  have q1 : r / 10000 * (r % 10000) ≤ 40000000 * 9999 := Int.mul_le_mul h1 l1 l0 (by omega)
  have s0 : 0 ≤ r % 10000 * (r % 10000) := Int.mul_nonneg l0 l0
  have s1 : r % 10000 * (r % 10000) ≤ 9999 * 9999 := Int.mul_le_mul l1 l1 l0 (by omega)
  have e1 : 10000 * (r / 10000) * (r / 10000) = 10000 * (r / 10000 * (r / 10000)) := Int.mul_assoc ..
  have e2 : 2 * (r / 10000) * (r % 10000) = 2 * (r / 10000 * (r % 10000)) := Int.mul_assoc ..
  have b1 : 0 ≤ 10000 * (r / 10000) * (r / 10000) := by omega
  have b2 : 10000 * (r / 10000) * (r / 10000) ≤ 16000000000000000000 := by omega
  have b3 : 0 ≤ 2 * (r / 10000) * (r % 10000) := by omega
  have b4 : 2 * (r / 10000) * (r % 10000) ≤ 800000000000 := by omega
  have E := above_eq (whole := 10000 * (r / 10000) * (r / 10000) + 2 * (r / 10000) * (r % 10000) + r % 10000 * (r % 10000) / 10000) (rest := r % 10000 * (r % 10000) % 10000) hr (by omega)
  have c1 : 0 ≤ r % 10000 * (r % 10000) % 10000 := by omega
  have c2 : r % 10000 * (r % 10000) % 10000 ≤ 9999 := by omega
  have c3 : 0 ≤ r % 10000 * (r % 10000) / 10000 := by omega
  have c4 : r % 10000 * (r % 10000) / 10000 ≤ 9999 := by omega
  have HR := Lib.hid hr
  clear hr e1 e2 p0 p1 q0 q1
  by_cases t1 : a < 10000 * (r / 10000) * (r / 10000) + 2 * (r / 10000) * (r % 10000) + r % 10000 * (r % 10000) / 10000
  · have D : Hid (true = decide (a * 10000 < r * r)) := by
      refine Eq.symm (decide_eq_true ?_); omega
    clear E
    go_enter Try.func31, Try.ntmps31
    go_wp2_with fail
    go_ret
    exact ⟨ret_bool D.out, rfl⟩
  · by_cases t2 : 10000 * (r / 10000) * (r / 10000) + 2 * (r / 10000) * (r % 10000) + r % 10000 * (r % 10000) / 10000 = a
    · have t3 : ((10000 * (r / 10000) * (r / 10000) + 2 * (r / 10000) * (r % 10000) + r % 10000 * (r % 10000) / 10000) == a) = true := by rw [beq_iff_eq]; exact t2
      have D : Hid (decide (0 < r % 10000 * (r % 10000) % 10000) = decide (a * 10000 < r * r)) := by
        refine decide_eq_decide.2 ?_; omega
      have T2 := Lib.hid t2
      clear E t2
      go_enter Try.func31, Try.ntmps31
      go_wp2_with fail
      go_ret
      exact ⟨ret_bool D.out, rfl⟩
    · have t3 : ((10000 * (r / 10000) * (r / 10000) + 2 * (r / 10000) * (r % 10000) + r % 10000 * (r % 10000) / 10000) == a) = false := by rw [beq_eq_false_iff_ne]; exact t2
      have D : Hid (false = decide (a * 10000 < r * r)) := by
        refine Eq.symm (decide_eq_false ?_); omega
      clear E t2
      go_enter Try.func31, Try.ntmps31
      go_wp2_with fail
      go_ret
      exact ⟨ret_bool D.out, rfl⟩

theorem distance_any (a b : Int) (w : World) (ha : i64 a) (hb : i64 b) :
    Calls Try.prog 41 #[.int .i64 a, .int .i64 b] w fun e w' => e = .returned (.int .u64 (Lv.abs (a - b))) ∧ w = w' := by
  obtain ⟨a1, a2⟩ := ha
  obtain ⟨b1, b2⟩ := hb
  by_cases c : a < b
  · have E : Hid (IntKind.u64.wrap (IntKind.u64.wrap b - IntKind.u64.wrap a) = Lv.abs (a - b)) := by
      show (IntKind.u64.wrap b - IntKind.u64.wrap a) % 18446744073709551616 = _
      have e : IntKind.u64.wrap b - IntKind.u64.wrap a = b % 18446744073709551616 - a % 18446744073709551616 := rfl
      rw [e]
      unfold Lv.abs; split <;> omega
    go_enter Try.func41, Try.ntmps41
    go_wp2_with fail
    go_ret
    exact ⟨ret_int E.out, rfl⟩
  · have E : Hid (IntKind.u64.wrap (IntKind.u64.wrap a - IntKind.u64.wrap b) = Lv.abs (a - b)) := by
      show (IntKind.u64.wrap a - IntKind.u64.wrap b) % 18446744073709551616 = _
      have e : IntKind.u64.wrap a - IntKind.u64.wrap b = a % 18446744073709551616 - b % 18446744073709551616 := rfl
      rw [e]
      unfold Lv.abs; split <;> omega
    go_enter Try.func41, Try.ntmps41
    go_wp2_with fail
    go_ret
    exact ⟨ret_int E.out, rfl⟩
end Go.Proofs.Ytingopdeckgpaaa
