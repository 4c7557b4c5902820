/- The division of 128 bits, bit by bit: the plain arithmetic. -/
import Derived.Test.YtingopdeckgpaaaMRef
namespace Go.Proofs.Ytingopdeckgpaaa.Lv
set_option linter.unusedVariables false
set_option linter.unusedSimpArgs false
open Go
abbrev B128 : Int := 340282366920938463463374607431768211456
/-- after k rounds: T the bits that have been taken in, Y what is left -/
structure Bits (X T Y : Int) (k : Nat) : Prop where
  le : k ≤ 128
  e : X * 2 ^ k = T * 340282366920938463463374607431768211456 + Y
  t0 : 0 ≤ T
  y0 : 0 ≤ Y
  y1 : Y < 340282366920938463463374607431768211456
theorem Bits.start {X : Int} (h : 0 ≤ X) (g : X < 340282366920938463463374607431768211456) : Bits X 0 X 0 := ⟨by omega, by simp, by omega, h, g⟩
theorem Bits.step {X T Y : Int} {k : Nat} (b : Bits X T Y k) (h : k < 128) : Bits X (2 * T + Y / 170141183460469231731687303715884105728) (2 * Y % 340282366920938463463374607431768211456) (k + 1) := by
  obtain ⟨h1, h2, h3, h4, h5⟩ := b
  refine ⟨by omega, ?_, by omega, by omega, by omega⟩
  rw [Int.pow_succ, ← Int.mul_assoc, h2]
  omega
theorem Bits.le_X {X T Y : Int} {k : Nat} (b : Bits X T Y k) (hX : 0 ≤ X) : T ≤ X := by
  obtain ⟨h1, h2, h3, h4, h5⟩ := b
  have h6 : (2 : Int) ^ k ≤ 2 ^ 128 := by
    have := Nat.pow_le_pow_right (n := 2) (by omega) h1
    have e1 : ((2 ^ k : Nat) : Int) = 2 ^ k := by simp
    have e2 : ((2 ^ 128 : Nat) : Int) = 2 ^ 128 := by simp
    rw [← e1, ← e2]; exact Int.ofNat_le.2 this
  have h7 := Int.mul_le_mul_of_nonneg_left h6 hX
  have h8 : (2 : Int) ^ 128 = 340282366920938463463374607431768211456 := by decide
  rw [h8] at h7
  omega
theorem Bits.done {X T Y : Int} (b : Bits X T Y 128) : T = X := by
  obtain ⟨h1, h2, h3, h4, h5⟩ := b
  have h8 : (2 : Int) ^ 128 = 340282366920938463463374607431768211456 := by decide
  rw [h8] at h2
  omega
/-- one bit more: quotient and rest -/
theorem bit_lo {T b d : Int} (t0 : 0 ≤ T) (b0 : 0 ≤ b) (b1 : b ≤ 1) (d0 : 0 < d) (h : 2 * (T % d) + b < d) : (2 * T + b) / d = 2 * (T / d) ∧ (2 * T + b) % d = 2 * (T % d) + b := by
  have e := Int.mul_ediv_add_emod T d
  have m := Int.emod_nonneg T (b := d) (by omega)
  generalize T / d = q at *
  generalize T % d = r at *
  have e2 : 2 * T + b = (2 * r + b) + d * (2 * q) := by rw [← e]; grind
  rw [e2]
  refine ⟨?_, ?_⟩
  · rw [Int.add_mul_ediv_left _ _ (by omega), Int.ediv_eq_zero_of_lt (by omega) h]; omega
  · rw [Int.add_mul_emod_self_left, Int.emod_eq_of_lt (by omega) h]
theorem bit_hi {T b d : Int} (t0 : 0 ≤ T) (b0 : 0 ≤ b) (b1 : b ≤ 1) (d0 : 0 < d) (h : d ≤ 2 * (T % d) + b) : (2 * T + b) / d = 2 * (T / d) + 1 ∧ (2 * T + b) % d = 2 * (T % d) + b - d := by
  have e := Int.mul_ediv_add_emod T d
  have m := Int.emod_nonneg T (b := d) (by omega)
  have m2 := Int.emod_lt_of_pos T d0
  generalize T / d = q at *
  generalize T % d = r at *
  have e2 : 2 * T + b = (2 * r + b - d) + d * (2 * q + 1) := by rw [← e]; grind
  rw [e2]
  refine ⟨?_, ?_⟩
  · rw [Int.add_mul_ediv_left _ _ (by omega), Int.ediv_eq_zero_of_lt (by omega) (by omega)]; omega
  · rw [Int.add_mul_emod_self_left, Int.emod_eq_of_lt (by omega) (by omega)]

theorem dbl_hi {Y : Int} (y0 : 0 ≤ Y) (y1 : Y < 340282366920938463463374607431768211456) : hi64 (wd (hi64 Y) (lo64 Y) + wd (hi64 Y) (lo64 Y)) = hi64 (2 * Y % 340282366920938463463374607431768211456) := by
  rw [wd_in y0 y1]; unfold hi64; omega
theorem dbl_lo {Y : Int} (y0 : 0 ≤ Y) (y1 : Y < 340282366920938463463374607431768211456) : lo64 (wd (hi64 Y) (lo64 Y) + wd (hi64 Y) (lo64 Y)) = lo64 (2 * Y % 340282366920938463463374607431768211456) := by
  rw [wd_in y0 y1]; unfold lo64; omega
theorem top_bit {Y : Int} (y0 : 0 ≤ Y) (y1 : Y < 340282366920938463463374607431768211456) : hi64 Y / 9223372036854775808 = Y / 170141183460469231731687303715884105728 := by unfold hi64; omega
theorem dbl_hi' {q : Int} (y0 : 0 ≤ q) (y1 : 2 * q < 340282366920938463463374607431768211456) : hi64 (wd (hi64 q) (lo64 q) + wd (hi64 q) (lo64 q)) = hi64 (2 * q) := by
  rw [wd_in y0 (by omega)]; unfold hi64; omega
theorem dbl_lo' {q : Int} (y0 : 0 ≤ q) (y1 : 2 * q < 340282366920938463463374607431768211456) : lo64 (wd (hi64 q) (lo64 q) + wd (hi64 q) (lo64 q)) = lo64 (2 * q) := by
  rw [wd_in y0 (by omega)]; unfold lo64; omega
theorem odd_hi (q : Int) : hi64 (2 * q + 1) = hi64 (2 * q) := by unfold hi64; omega
theorem odd_lo (q : Int) : lo64 (2 * q + 1) = lo64 (2 * q) + 1 := by unfold lo64; omega
end Go.Proofs.Ytingopdeckgpaaa.Lv
