/- The arithmetic of a division of two digits by one (math/bits.Div64): no program in sight. -/
import Derived.WalkKit
namespace Go.Proofs.Ytingopdeckgpaaa.Lv
set_option linter.unusedVariables false
set_option linter.unusedSimpArgs false
open Go
theorem and_lo (t : Int) (h0 : 0 ≤ t) (h1 : t ≤ 18446744073709551615) : bits .and .u64 t 4294967295 = t % 4294967296 := and_low32 t h0 (by omega)

theorem wrap_in (x : Int) (h0 : 0 ≤ x) (h1 : x ≤ 18446744073709551615) : IntKind.u64.wrap x = x := by
  show x % 2 ^ 64 = x
  omega
theorem wrap_def (x : Int) : IntKind.u64.wrap x = x % 18446744073709551616 := rfl

/-- 'or' of a multiple of 2^k and a smaller number is the sum -/
theorem or_add (p k l : Nat) (hl : l < 2 ^ k) (hp : p * 2 ^ k + l < 18446744073709551616) : bits .or .u64 ((p * 2 ^ k : Nat) : Int) (l : Int) = ((p * 2 ^ k + l : Nat) : Int) := by
  rw [bits_or_u64_nat _ _ (by omega) (by omega)]
  rw [Nat.mul_comm, ← Nat.two_pow_add_eq_or_of_lt hl]

theorem shr_lt (lo k : Nat) (hk : k ≤ 64) (h : lo < 18446744073709551616) : lo / 2 ^ (64 - k) < 2 ^ k := by
  rw [Nat.div_lt_iff_lt_mul (Nat.two_pow_pos _), ← Nat.pow_add]
  have : k + (64 - k) = 64 := by omega
  rw [this]; omega

/-- the two upper digits: hi and the upper part of lo, shifted -/
theorem shift_split (hi lo k : Nat) (hk : k ≤ 64) : (hi * 18446744073709551616 + lo) * 2 ^ k = (hi * 2 ^ k + lo / 2 ^ (64 - k)) * 18446744073709551616 + lo * 2 ^ k % 18446744073709551616 := by
  have e : 2 ^ (64 - k) * 2 ^ k = 18446744073709551616 := by rw [← Nat.pow_add, show 64 - k + k = 64 from by omega]
  have h1 : lo * 2 ^ k / 18446744073709551616 = lo / 2 ^ (64 - k) := by
    rw [← e, Nat.mul_div_mul_right _ _ (Nat.two_pow_pos k)]
  have h2 := Nat.div_add_mod (lo * 2 ^ k) 18446744073709551616
  rw [h1] at h2
  generalize lo * 2 ^ k % 18446744073709551616 = m at *
  generalize lo / 2 ^ (64 - k) = l at *
  generalize 2 ^ k = t at *
  grind

theorem step_lo (B a b q r u1 u : Int) (hq : u = q * a + r) (h : q * b ≤ B * r + u1) : q * (a * B + b) ≤ u * B + u1 := by
  subst hq; grind
theorem step_hi (B a b q r u1 u : Int) (hq : u = q * a + r) (h : B * r + u1 < q * b) : u * B + u1 < q * (a * B + b) := by
  subst hq; grind

/-- what the loop that guesses a digit keeps -/
def Guess (u u1 a v : Int) (Q R : Int) : Prop := 0 ≤ Q ∧ Q ≤ 4294967297 ∧ 0 ≤ R ∧ u = Q * a + R ∧ (u * 4294967296 + u1) / v ≤ Q

structure Digit (u u1 a b v : Int) : Prop where
  u0 : 0 ≤ u
  uv : u < v
  l0 : 0 ≤ u1
  l1 : u1 < 4294967296
  a0 : 2147483648 ≤ a
  a1 : a < 4294967296
  b0 : 0 ≤ b
  b1 : b < 4294967296
  hv : v = a * 4294967296 + b

theorem Digit.lt {u u1 a b v : Int} (d : Digit u u1 a b v) : (u * 4294967296 + u1) / v < 4294967296 := by
  have h := d.uv; have h2 := d.l1; have h3 := d.u0
  apply Int.ediv_lt_of_lt_mul (by omega)
  omega

theorem Digit.qa {u u1 a b v : Int} (d : Digit u u1 a b v) : 0 ≤ u / a ∧ u / a ≤ 4294967297 ∧ 0 ≤ u - u / a * a ∧ u - u / a * a < a ∧ 0 ≤ u / a * a ∧ u / a * a ≤ u := by
  obtain ⟨u0, uv, l0, l1, a0, a1, b0, b1, hv⟩ := d
  have h1 := Int.emod_nonneg u (b := a) (by omega)
  have h2 := Int.emod_lt_of_pos u (b := a) (by omega)
  have h3 := Int.ediv_nonneg (a := u) (b := a) u0 (by omega)
  have h4 : u / a < 4294967298 := by
    apply Int.ediv_lt_of_lt_mul (by omega); omega
  have h5 : u / a * a = u - u % a := by have := Int.mul_ediv_add_emod u a; have := Int.mul_comm a (u / a); omega
  have h6 : 0 ≤ u / a * a := Int.mul_nonneg h3 (by omega)
  omega

theorem Digit.start {u u1 a b v : Int} (d : Digit u u1 a b v) : Guess u u1 a v (u / a) (u - u / a * a) := by
  have q := d.qa
  obtain ⟨q1, q2, q3, q4, q5, q6⟩ := q
  refine ⟨q1, q2, q3, by omega, ?_⟩
  obtain ⟨u0, uv, l0, l1, a0, a1, b0, b1, hv⟩ := d
  have h : (u * 4294967296 + u1) / v < u / a + 1 := by
    apply Int.ediv_lt_of_lt_mul (by omega)
    generalize u / a = q at *
    subst hv
    have e : u = q * a + (u - q * a) := by omega
    generalize u - q * a = r at *
    subst e
    have : q * b ≥ 0 := Int.mul_nonneg q1 b0
    have e2 : (q + 1) * (a * 4294967296 + b) = q * a * 4294967296 + q * b + a * 4294967296 + b := by grind
    rw [e2]; omega
  omega

/-- a guess that is not too great is the digit -/
theorem Guess.done {u u1 a b v Q R : Int} (d : Digit u u1 a b v) (g : Guess u u1 a v Q R) (h : Q * b ≤ 4294967296 * R + u1) : Q = (u * 4294967296 + u1) / v := by
  obtain ⟨g1, g2, g3, g4, g5⟩ := g
  have h6 := step_lo 4294967296 a b Q R u1 u g4 h
  rw [← d.hv] at h6
  have := (Int.le_ediv_iff_mul_le (c := v) (a := Q) (b := u * 4294967296 + u1) (by have := d.uv; have := d.u0; omega)).2 h6
  omega

/-- the rest has grown past a digit: the guess is right -/
theorem Guess.past {u u1 a b v Q R : Int} (d : Digit u u1 a b v) (g : Guess u u1 a v Q R) (hQ : Q ≤ 4294967296) (h : 4294967296 ≤ R) : Q = (u * 4294967296 + u1) / v := by
  refine g.done d ?_
  obtain ⟨g1, g2, g3, g4, g5⟩ := g
  have h1 : Q * b ≤ 4294967296 * b := Int.mul_le_mul_of_nonneg_right hQ d.b0
  have := d.b1; have := d.l0; have := d.b0
  omega

/-- a guess that is too great, made smaller by one -/
theorem Guess.less {u u1 a b v Q R : Int} (d : Digit u u1 a b v) (g : Guess u u1 a v Q R) (h : 4294967296 ≤ Q ∨ 4294967296 * R + u1 < Q * b) : 1 ≤ Q ∧ Guess u u1 a v (Q - 1) (R + a) := by
  obtain ⟨g1, g2, g3, g4, g5⟩ := g
  have hl := d.lt
  have ha := d.a0
  have hd : (u * 4294967296 + u1) / v < Q := by
    rcases h with h | h
    · omega
    · have h6 := step_hi 4294967296 a b Q R u1 u g4 h
      rw [← d.hv] at h6
      exact Int.ediv_lt_of_lt_mul (by have := d.uv; have := d.u0; omega) h6
  have h7 : 0 ≤ (u * 4294967296 + u1) / v := Int.ediv_nonneg (by have := d.u0; have := d.l0; omega) (by have := d.uv; have := d.u0; omega)
  refine ⟨by omega, by omega, by omega, by omega, ?_, by omega⟩
  rw [g4]; grind

/-- bounds for the walk -/
theorem Guess.bounds {u u1 a b v Q R : Int} (d : Digit u u1 a b v) (g : Guess u u1 a v Q R) : 0 ≤ Q * b ∧ Q * b ≤ 18446744073709551615 := by
  obtain ⟨g1, g2, g3, g4, g5⟩ := g
  have h1 : Q * b ≤ 4294967297 * b := Int.mul_le_mul_of_nonneg_right g2 d.b0
  have h2 : 0 ≤ Q * b := Int.mul_nonneg g1 d.b0
  have := d.b1
  omega

/-- what is left behind a digit -/
theorem Digit.rest {u u1 a b v : Int} (d : Digit u u1 a b v) (hv : v ≤ 18446744073709551615) : IntKind.u64.wrap (IntKind.u64.wrap (IntKind.u64.wrap (u * 4294967296) + u1) - IntKind.u64.wrap ((u * 4294967296 + u1) / v * v)) = (u * 4294967296 + u1) % v := by
  have h1 := Int.mul_ediv_add_emod (u * 4294967296 + u1) v
  have h2 := Int.emod_lt_of_pos (u * 4294967296 + u1) (b := v) (by have := d.uv; have := d.u0; omega)
  have h3 := Int.emod_nonneg (u * 4294967296 + u1) (b := v) (by have := d.uv; have := d.u0; omega)
  rw [Int.mul_comm] at h1
  simp only [wrap_def]
  omega
end Go.Proofs.Ytingopdeckgpaaa.Lv
