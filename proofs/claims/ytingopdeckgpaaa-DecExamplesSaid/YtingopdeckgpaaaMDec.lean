/- The numbers of layer 1 (dec) as plain arithmetic: no program in sight. -/
import Derived.WalkKit
namespace Go.Proofs.Ytingopdeckgpaaa.Lv
set_option linter.unusedVariables false
set_option linter.unusedSimpArgs false
open Go
/-- a number that has this sign and this distance from 0 -/
def sg (ng : Bool) (n : Int) : Int := if ng then -n else n
/-- the number, where it is in range -/
def fit (n : Int) : Int × Bool := if -9223372036854775807 ≤ n ∧ n ≤ 9223372036854775807 then (n, true) else (0, false)
/-- the quotient, rounded: a half to the greater number -/
def rnd (x d : Int) : Int := x / d + if d ≤ 2 * (x % d) then 1 else 0
def near (x d : Int) : Int × Bool := if d ≠ 0 ∧ x / d ≤ 9223372036854775807 then (rnd x d, true) else (0, false)
def abs (a : Int) : Int := if a < 0 then -a else a
def neg (a : Int) : Bool := decide (a < 0)
def scaled (a b d : Int) (ng : Bool) : Int × Bool := if d = 0 then (0, false) else fit (sg ng (rnd (a * b) d))
def dMul (a b : Int) : Int × Bool := fit (sg (neg a != neg b) (rnd (abs a * abs b) 10000))
def dQuo (a b : Int) : Int × Bool := if b = 0 then (0, false) else fit (sg (neg a != neg b) (rnd (abs a * 10000) (abs b)))
def dNeg (a : Int) : Int × Bool := fit (-a)
def i64 (a : Int) : Prop := -9223372036854775808 ≤ a ∧ a ≤ 9223372036854775807
def u64 (a : Int) : Prop := 0 ≤ a ∧ a ≤ 18446744073709551615

theorem fit_in {n : Int} (h : -9223372036854775807 ≤ n) (g : n ≤ 9223372036854775807) : fit n = (n, true) := if_pos ⟨h, g⟩
theorem fit_out {n : Int} (h : n < -9223372036854775807 ∨ 9223372036854775807 < n) : fit n = (0, false) := if_neg (by omega)
theorem abs_nonneg (a : Int) : 0 ≤ abs a := by unfold abs; split <;> omega
theorem abs_le {a : Int} (h : i64 a) : abs a ≤ 9223372036854775808 := by unfold abs; obtain ⟨h1, h2⟩ := h; split <;> omega
theorem rnd_bounds (x d : Int) : x / d ≤ rnd x d ∧ rnd x d ≤ x / d + 1 := by unfold rnd; split <;> omega
theorem abs_zero (b : Int) : abs b = 0 ↔ b = 0 := by unfold abs; split <;> omega

theorem sg_neg_abs (a : Int) : sg (neg a) (abs a) = a := by unfold sg neg abs; by_cases h : a < 0 <;> simp [h]
end Go.Proofs.Ytingopdeckgpaaa.Lv
