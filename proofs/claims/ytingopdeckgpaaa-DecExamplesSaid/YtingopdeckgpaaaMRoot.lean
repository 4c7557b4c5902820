/- Roots, powers and rounding of layer 1: plain arithmetic. -/
import Derived.Test.YtingopdeckgpaaaMSum
namespace Go.Proofs.Ytingopdeckgpaaa.Lv
set_option linter.unusedVariables false
set_option linter.unusedSimpArgs false
open Go
/-- the greatest number, at most n, whose square is at most X -/
def isq : Nat → Nat → Nat
  | 0, _ => 0
  | n + 1, X => if (isq n X + 1) * (isq n X + 1) ≤ X then isq n X + 1 else isq n X
theorem isq_spec : ∀ (n X : Nat), isq n X * isq n X ≤ X ∧ isq n X ≤ n ∧ (isq n X < n → X < (isq n X + 1) * (isq n X + 1))
  | 0, X => by simp [isq]
  | n + 1, X => by
    obtain ⟨h1, h2, h3⟩ := isq_spec n X
    unfold isq
    split
    · rename_i c
      refine ⟨c, by omega, fun h => ?_⟩
      have : isq n X < n := by omega
      have := h3 this
      omega
    · rename_i c
      exact ⟨h1, by omega, fun _ => by omega⟩
/-- the root of a number of layer 1 -/
def root (a : Int) : Nat := isq (a * 10000).toNat (a * 10000).toNat
theorem root_spec {a : Int} (h : 0 ≤ a) : (root a : Int) * root a ≤ a * 10000 ∧ a * 10000 < ((root a : Int) + 1) * (root a + 1) := by
  obtain ⟨h1, h2, h3⟩ := isq_spec (a * 10000).toNat (a * 10000).toNat
  unfold root
  generalize isq (a * 10000).toNat (a * 10000).toNat = r at *
  have e : ((a * 10000).toNat : Int) = a * 10000 := Int.toNat_of_nonneg (by omega)
  generalize (a * 10000).toNat = X at *
  rw [← e]
  refine ⟨by rw [← Int.natCast_mul]; exact Int.ofNat_le.2 h1, ?_⟩
  have h4 : X < (r + 1) * (r + 1) := by
    rcases Nat.lt_or_ge r X with h | h
    · exact h3 h
    · have : r = X := by omega
      subst this
      have := Nat.mul_le_mul (show r ≤ r + 1 by omega) (show 1 ≤ r + 1 by omega)
      have := Nat.mul_le_mul (show r + 1 ≤ r + 1 by omega) (show 1 ≤ r + 1 by omega)
      omega
  have := Int.ofNat_lt.2 h4
  simpa using this
theorem sq_lt {x y : Int} (hx : 0 ≤ x) (hy : 0 ≤ y) (h : x * x < y * y) : x < y := by
  by_cases c : x < y
  · exact c
  · have := Int.mul_le_mul (show y ≤ x by omega) (show y ≤ x by omega) hy hx
    omega
/-- there is one root -/
theorem root_unique {a r : Int} (h : 0 ≤ a) (r0 : 0 ≤ r) (r1 : r * r ≤ a * 10000) (r2 : a * 10000 < (r + 1) * (r + 1)) : r = root a := by
  obtain ⟨h1, h2⟩ := root_spec h
  have a1 : r < (root a : Int) + 1 := sq_lt r0 (by omega) (by omega)
  have a2 : (root a : Int) < r + 1 := sq_lt (by omega) (by omega) (by omega)
  omega
def dSqrt (a : Int) : Int × Bool := if a < 0 then (0, false) else (root a, true)
theorem root_le {a : Int} (h : i64 a) (h0 : 0 ≤ a) : (root a : Int) ≤ 303700049998 := by
  obtain ⟨h1, _⟩ := root_spec h0
  have h2 := h.2
  have h3 : (root a : Int) < 303700049999 := by
    refine sq_lt (by omega) (by omega) ?_
    omega
  omega

/-- powers -/
def pw (a : Int) : Nat → Int × Bool
  | 0 => (10000, true)
  | n + 1 => if (pw a n).2 = true then dMul (pw a n).1 a else (0, false)
def dPow (a n : Int) : Int × Bool :=
  if n < -1000 ∨ 1000 < n then (0, false)
  else if n < 0 then (if (pw a (-n).toNat).2 = true then dQuo 10000 (pw a (-n).toNat).1 else (0, false))
  else pw a n.toNat
theorem fit_i64 (n : Int) : i64 (fit n).1 := by unfold fit i64; split <;> simp; omega
theorem dMul_i64 (a b : Int) : i64 (dMul a b).1 := fit_i64 _
theorem dQuo_i64 (a b : Int) : i64 (dQuo a b).1 := by unfold dQuo; split; exact ⟨by decide, by decide⟩; exact fit_i64 _
theorem fit_false {n : Int} (h : (fit n).2 = false) : (fit n).1 = 0 := by
  by_cases c : -9223372036854775807 ≤ n ∧ n ≤ 9223372036854775807
  · rw [fit_in c.1 c.2] at h; cases h
  · rw [fit_out (by omega)]
theorem dMul_false {a b : Int} (h : (dMul a b).2 = false) : dMul a b = (0, false) := Prod.ext (fit_false h) h
theorem pw_i64 (a : Int) : ∀ n, i64 (pw a n).1
  | 0 => by show i64 10000; exact ⟨by decide, by decide⟩
  | n + 1 => by unfold pw; split; exact dMul_i64 _ _; exact ⟨by decide, by decide⟩
theorem pw_false {a : Int} : ∀ {n : Nat}, (pw a n).2 = false → pw a n = (0, false)
  | 0, h => by cases h
  | n + 1, h => by
    unfold pw at *
    split at h
    · rename_i c; rw [if_pos c]; exact dMul_false h
    · rename_i c; rw [if_neg c]
theorem pw_stays {a : Int} {n : Nat} (h : (pw a n).2 = false) : ∀ k, pw a (n + k) = (0, false)
  | 0 => pw_false h
  | k + 1 => by
    show pw a ((n + k) + 1) = _
    unfold pw
    rw [pw_stays h k]
    rfl

/-- rounding -/
def unitOf (places : Int) : Int := 10 ^ (4 - places).toNat
def dRound (a places : Int) : Int × Bool :=
  if 4 ≤ places then fit a
  else if places < -15 then (0, true)
  else fit (sg (neg a) (rnd (abs a) (unitOf places) * unitOf places))
def dTrunc (a : Int) : Int := a - a.tmod 10000
theorem tmod_nonneg {a : Int} (h : 0 ≤ a) : a.tmod 10000 = a % 10000 := Int.tmod_eq_emod_of_nonneg h
theorem tmod_neg {a : Int} (h : a < 0) : a.tmod 10000 = -((-a) % 10000) := by
  have e := Int.neg_tmod (-a) 10000
  rw [Int.neg_neg, tmod_nonneg (a := -a) (by omega)] at e
  exact e
theorem tmod_bounds (a : Int) : -9999 ≤ a.tmod 10000 ∧ a.tmod 10000 ≤ 9999 ∧ (0 ≤ a → 0 ≤ a.tmod 10000 ∧ a.tmod 10000 ≤ a) ∧ (a ≤ 0 → a.tmod 10000 ≤ 0 ∧ a ≤ a.tmod 10000) := by
  by_cases c : 0 ≤ a
  · rw [tmod_nonneg c]; omega
  · rw [tmod_neg (by omega)]; omega
def dFloor (a : Int) : Int × Bool := if a < dTrunc a then fit (dTrunc a - 10000) else (dTrunc a, true)
theorem pow10_bounds {k : Nat} (h : k ≤ 19) : 1 ≤ (10 : Int) ^ k ∧ (10 : Int) ^ k ≤ 10000000000000000000 := by
  have h1 := Nat.pow_le_pow_right (n := 10) (by omega) h
  have h2 := Nat.pow_pos (n := k) (show 0 < 10 by omega)
  have e : ((10 ^ k : Nat) : Int) = 10 ^ k := by simp
  rw [← e]
  omega
end Go.Proofs.Ytingopdeckgpaaa.Lv
