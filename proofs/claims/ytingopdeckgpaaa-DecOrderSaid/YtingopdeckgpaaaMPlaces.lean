/- Plain laws on rounding, cutting off, flooring. -/
import Derived.Test.YtingopdeckgpaaaMRoot
namespace Go.Proofs.Ytingopdeckgpaaa
set_option linter.unusedVariables false
set_option linter.unusedSimpArgs false
open Lv

theorem rnd_near {X d : Int} (d0 : 0 < d) : 2 * Lv.abs (rnd X d * d - X) ≤ d := by
  have e := Int.mul_ediv_add_emod X d
  have r0 := Int.emod_nonneg X (b := d) (by omega)
  have r1 := Int.emod_lt_of_pos X d0
  have e2 : d * (X / d) = X / d * d := Int.mul_comm ..
  unfold rnd Lv.abs
  by_cases c : d ≤ 2 * (X % d)
  · rw [if_pos c, Int.add_mul]; split <;> omega
  · rw [if_neg c, Int.add_mul]; split <;> omega

theorem rnd_mult {q d : Int} (d0 : 0 < d) : rnd (q * d) d = q := by
  unfold rnd
  rw [Int.mul_ediv_cancel q (by omega), Int.mul_emod_left, if_neg (by omega)]; omega

theorem dRound_eq {a p : Int} (p0 : -15 ≤ p) (p1 : p ≤ 4) : dRound a p = fit (sg (decide (a < 0)) (rnd (Lv.abs a) (unitOf p) * unitOf p)) := by
  unfold dRound
  by_cases c : 4 ≤ p
  · obtain rfl : p = 4 := by omega
    rw [if_pos c]
    have : unitOf 4 = 1 := rfl
    rw [this, Int.mul_one]
    have : rnd (Lv.abs a) 1 = Lv.abs a := by unfold rnd; rw [if_neg (by omega)]; omega
    rw [this]
    exact congrArg fit (sg_neg_abs a).symm
  · rw [if_neg c, if_neg (by omega)]; rfl

theorem sg_abs {b : Bool} {n : Int} (h : 0 ≤ n) : Lv.abs (sg b n) = n := by unfold sg Lv.abs; cases b <;> simp <;> omega
theorem unit_pos (p : Int) : 0 < unitOf p := by unfold unitOf; exact Int.pow_pos (by omega)
theorem unit_le {p : Int} (h : -14 ≤ p) : unitOf p ≤ 1000000000000000000 := by
  unfold unitOf
  obtain ⟨k, hk⟩ : ∃ k : Nat, k = (4 - p).toNat := ⟨_, rfl⟩
  rw [← hk]
  have h1 : (10 : Nat) ^ k ≤ 10 ^ 18 := Nat.pow_le_pow_right (by omega) (by omega)
  have h2 : ((10 ^ k : Nat) : Int) ≤ ((10 ^ 18 : Nat) : Int) := Int.ofNat_le.2 h1
  simpa using h2

theorem rnd_nn {X d : Int} (x0 : 0 ≤ X) (d0 : 0 < d) : 0 ≤ rnd X d := by
  have q0 : 0 ≤ X / d := Int.ediv_nonneg x0 (by omega)
  unfold rnd; split <;> omega

theorem round_laws {a p : Int} (p0 : -14 ≤ p) (p1 : p ≤ 4) :
    (∃ r, dRound a p = (r, true) ∧ dRound r p = (r, true) ∧ i64 r ∧ r.tmod (unitOf p) = 0 ∧ r % unitOf p = 0 ∧ 2 * Lv.abs (r - a) ≤ unitOf p) ∨ dRound a p = (0, false) := by
  have u0 := unit_pos p
  rw [dRound_eq (a := a) (by omega) p1]
  have q0 := rnd_nn (abs_nonneg a) u0
  have nr := rnd_near (X := Lv.abs a) u0
  obtain ⟨q, hq⟩ : ∃ q, q = rnd (Lv.abs a) (unitOf p) := ⟨_, rfl⟩
  rw [← hq] at q0 nr ⊢
  clear hq
  have m0 : 0 ≤ q * unitOf p := Int.mul_nonneg q0 (by omega)
  by_cases c : -9223372036854775807 ≤ sg (decide (a < 0)) (q * unitOf p) ∧ sg (decide (a < 0)) (q * unitOf p) ≤ 9223372036854775807
  · refine Or.inl ⟨sg (decide (a < 0)) (q * unitOf p), if_pos c, ?_, ⟨by omega, c.2⟩, ?_, ?_, ?_⟩
    · rw [dRound_eq (by omega) p1, sg_abs m0, rnd_mult u0]
      have e : sg (decide (sg (decide (a < 0)) (q * unitOf p) < 0)) (q * unitOf p) = sg (decide (a < 0)) (q * unitOf p) := by
        have h := sg_neg_abs (sg (decide (a < 0)) (q * unitOf p))
        rw [sg_abs m0] at h
        exact h
      rw [e]; exact if_pos c
    · unfold sg; split
      · rw [Int.neg_tmod, Int.mul_tmod_left]; rfl
      · exact Int.mul_tmod_left ..
    · unfold sg; split
      · rw [← Int.neg_mul]; exact Int.mul_emod_left ..
      · exact Int.mul_emod_left ..
    · have e : Lv.abs (sg (decide (a < 0)) (q * unitOf p) - a) = Lv.abs (q * unitOf p - Lv.abs a) := by
        generalize q * unitOf p = m at *
        unfold sg Lv.abs
        by_cases c2 : a < 0
        · simp only [c2, decide_true, if_true]; split <;> split <;> omega
        · simp only [c2, decide_false, if_false]; simp
      rw [e]; exact nr
  · exact Or.inr (if_neg c)

theorem trunc_laws (a : Int) : (dTrunc a).tmod 10000 = 0 ∧ dTrunc a % 10000 = 0 ∧ dTrunc (dTrunc a) = dTrunc a ∧ Lv.abs (a - dTrunc a) < 10000 ∧ (0 ≤ a → dTrunc a ≤ a) ∧ (a ≤ 0 → a ≤ dTrunc a) ∧ (0 ≤ a → 0 ≤ dTrunc a) := by
  have tb := tmod_bounds a
  have e : dTrunc a % 10000 = 0 := by
    unfold dTrunc
    by_cases c : 0 ≤ a
    · rw [tmod_nonneg c]; omega
    · rw [tmod_neg (by omega)]; omega
  have e2 : (dTrunc a).tmod 10000 = 0 := by
    by_cases c : 0 ≤ dTrunc a
    · rw [tmod_nonneg c]; exact e
    · rw [tmod_neg (by omega)]; omega
  refine ⟨e2, e, ?_, ?_, ?_, ?_, ?_⟩
  · show dTrunc a - (dTrunc a).tmod 10000 = _
    rw [e2]; omega
  all_goals (unfold dTrunc; try unfold Lv.abs)
  · split <;> omega
  all_goals omega

theorem trunc_mult {f : Int} (h : f % 10000 = 0) : f.tmod 10000 = 0 ∧ dTrunc f = f := by
  have e2 : f.tmod 10000 = 0 := by
    by_cases c : 0 ≤ f
    · rw [tmod_nonneg c]; exact h
    · rw [tmod_neg (by omega)]; omega
  exact ⟨e2, by show f - f.tmod 10000 = f; rw [e2]; omega⟩

theorem floor_laws {a : Int} (h : i64 a) : (∃ f, dFloor a = (f, true) ∧ dFloor f = (f, true) ∧ i64 f ∧ f.tmod 10000 = 0 ∧ f % 10000 = 0 ∧ f ≤ a ∧ Lv.abs (a - f) < 10000) ∨
    (dFloor a = (0, false) ∧ a < -9223372036854765807) := by
  obtain ⟨t1, t2, t3, t4, t5, t6, t7⟩ := trunc_laws a
  obtain ⟨h1, h2⟩ := h
  have tb := tmod_bounds a
  have nb : dTrunc a - a < 10000 ∧ a - dTrunc a < 10000 := by unfold dTrunc; omega
  clear tb
  by_cases c : a < dTrunc a
  · have e : dFloor a = fit (dTrunc a - 10000) := if_pos c
    rw [e]
    by_cases d : -9223372036854775807 ≤ dTrunc a - 10000
    · obtain ⟨m1, m2⟩ := trunc_mult (f := dTrunc a - 10000) (by omega)
      refine Or.inl ⟨dTrunc a - 10000, fit_in d (by omega), ?_, ⟨by omega, by omega⟩, m1, by omega, by omega, ?_⟩
      · unfold dFloor; rw [m2, if_neg (by omega)]
      · unfold Lv.abs; split <;> omega
    · exact Or.inr ⟨fit_out (Or.inl (by omega)), by omega⟩
  · have e : dFloor a = (dTrunc a, true) := if_neg c
    refine Or.inl ⟨dTrunc a, e, ?_, ⟨by omega, by omega⟩, t1, t2, by omega, t4⟩
    unfold dFloor; rw [t3, if_neg (by omega)]
end Go.Proofs.Ytingopdeckgpaaa
