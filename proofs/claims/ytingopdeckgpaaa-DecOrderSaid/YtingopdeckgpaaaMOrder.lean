/- Plain laws on sums and products: order, and the way back. -/
import Derived.Test.YtingopdeckgpaaaMPlaces
import Derived.Test.YtingopdeckgpaaaMSum
namespace Go.Proofs.Ytingopdeckgpaaa
set_option linter.unusedVariables false
set_option linter.unusedSimpArgs false
open Lv

theorem dMul_comm (a b : Int) : dMul a b = dMul b a := by
  unfold dMul
  rw [Int.mul_comm (Lv.abs a)]
  congr 2
  cases Lv.neg a <;> cases Lv.neg b <;> rfl

theorem dSum2 (a b : Int) : dSum [a, b] = fit (a + b) := by unfold dSum total total total; rw [Int.add_zero]

theorem fit_true {n p : Int} (h : fit n = (p, true)) : p = n := by
  unfold fit at h
  split at h
  · exact (Prod.mk.inj h).1.symm
  · exact absurd (Prod.mk.inj h).2 (by simp)

theorem back_near {a b p z : Int} (hp : dMul a b = (p, true)) (hb : b ≠ 0) (hz : dQuo p b = (z, true)) : 2 * (Lv.abs (z - a) * Lv.abs b) ≤ Lv.abs b + 10000 := by
  have e1 := fit_true hp
  unfold dQuo at hz
  rw [if_neg hb] at hz
  have e2 := fit_true hz
  have b0 : 0 < Lv.abs b := by unfold Lv.abs; split <;> omega
  have a0 := abs_nonneg a
  have n1 := rnd_near (X := Lv.abs a * Lv.abs b) (d := 10000) (by omega)
  have r1 := rnd_nn (X := Lv.abs a * Lv.abs b) (d := 10000) (Int.mul_nonneg a0 (by omega)) (by omega)
  obtain ⟨R1, hR1⟩ : ∃ R, R = rnd (Lv.abs a * Lv.abs b) 10000 := ⟨_, rfl⟩
  rw [← hR1] at e1 n1 r1
  have ap : Lv.abs p = R1 := by rw [e1, sg_abs r1]
  rw [ap] at e2
  have n2 := rnd_near (X := R1 * 10000) b0
  have r2 := rnd_nn (X := R1 * 10000) (d := Lv.abs b) (by omega) b0
  obtain ⟨R2, hR2⟩ : ∃ R, R = rnd (R1 * 10000) (Lv.abs b) := ⟨_, rfl⟩
  rw [← hR2] at e2 n2 r2
  have e3 : z = sg (Lv.neg a) R2 := by
    by_cases c : R1 = 0
    · have : R2 = 0 := by rw [hR2, c, Int.zero_mul]; unfold rnd; rw [Int.zero_ediv, Int.zero_emod, if_neg (by omega)]; rfl
      rw [e2, this]; unfold sg; simp
    · rw [e2]
      congr 1
      have : Lv.neg p = (Lv.neg a != Lv.neg b) := by
        rw [e1]; unfold sg Lv.neg
        by_cases c1 : a < 0 <;> by_cases c2 : b < 0 <;> simp [c1, c2] <;> omega
      rw [this]
      cases Lv.neg a <;> cases Lv.neg b <;> rfl
  have e4 : Lv.abs (z - a) = Lv.abs (R2 - Lv.abs a) := by
    rw [e3]; unfold sg Lv.neg Lv.abs
    by_cases c2 : a < 0
    · simp only [c2, decide_true, if_true]; split <;> split <;> omega
    · simp only [c2, decide_false, if_false]; simp
  rw [e4]
  have e5 : Lv.abs (R2 - Lv.abs a) * Lv.abs b = Lv.abs (R2 * Lv.abs b - Lv.abs a * Lv.abs b) := by
    rw [← Int.sub_mul]
    generalize R2 - Lv.abs a = d
    by_cases c : d < 0
    · have : d * Lv.abs b < 0 := Int.mul_neg_of_neg_of_pos c b0
      rw [show Lv.abs d = -d from if_pos c, show Lv.abs (d * Lv.abs b) = -(d * Lv.abs b) from if_pos this, Int.neg_mul]
    · have : 0 ≤ d * Lv.abs b := Int.mul_nonneg (by omega) (by omega)
      rw [show Lv.abs d = d from if_neg c, show Lv.abs (d * Lv.abs b) = d * Lv.abs b from if_neg (by omega)]
  rw [e5]
  generalize R2 * Lv.abs b = u at *
  generalize Lv.abs a * Lv.abs b = v at *
  revert n1 n2
  generalize Lv.abs b = B at *
  unfold Lv.abs
  intro n1 n2
  split at n1 <;> split at n2 <;> split <;> omega

theorem back_far {D B : Int} (d0 : 0 ≤ D) (b0 : 0 < B) (h : 2 * (D * B) ≤ B + 10000) : (10000 ≤ B → D ≤ 1) ∧ (B < 10000 → D ≤ 10000 / B + 2) ∧ D ≤ 10002 := by
  have e := Int.mul_ediv_add_emod 10000 B
  have r1 := Int.emod_lt_of_pos 10000 b0
  have q0 : 0 ≤ 10000 / B := Int.ediv_nonneg (by omega) (by omega)
  have l3 : D ≤ 10002 := by
    refine Int.not_lt.1 fun c => ?_
    have h1 : 10003 * B ≤ D * B := Int.mul_le_mul_of_nonneg_right (by omega) (by omega)
    omega
  refine ⟨fun hB => ?_, fun hB => ?_, l3⟩
  · refine Int.not_lt.1 fun c => ?_
    have h1 : 2 * B ≤ D * B := Int.mul_le_mul_of_nonneg_right (by omega) (by omega)
    omega
  · refine Int.not_lt.1 fun c => ?_
    have h1 : (10000 / B + 3) * B ≤ D * B := Int.mul_le_mul_of_nonneg_right (by omega) (by omega)
    have e2 : (10000 / B + 3) * B = B * (10000 / B) + 3 * B := by rw [Int.add_mul, Int.mul_comm]
    omega
end Go.Proofs.Ytingopdeckgpaaa
