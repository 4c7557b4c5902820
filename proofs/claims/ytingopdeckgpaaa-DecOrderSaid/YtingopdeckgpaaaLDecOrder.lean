/- The law DecOrder: the walks joined. -/
import Derived.Test.YtingopdeckgpaaaWOrder
namespace Go.Proofs.Ytingopdeckgpaaa
set_option linter.unusedVariables false
set_option linter.unusedSimpArgs false
open Go.RowKit Lv

theorem fit_cases (n : Int) : (fit n = (n, true) ∧ -9223372036854775807 ≤ n ∧ n ≤ 9223372036854775807) ∨ fit n = (0, false) := by
  by_cases c : -9223372036854775807 ≤ n ∧ n ≤ 9223372036854775807
  · exact Or.inl ⟨if_pos c, c⟩
  · exact Or.inr (if_neg c)

theorem DecOrder_walk (a0 : Int) (a1 : Int) (w0 : (Lit.int .i64 a0).wf = true) (w1 : (Lit.int .i64 a1).wf = true) (w : World) :
    Calls Try.prog 7 #[.int .i64 a0, .int .i64 a1] w fun e w' => e = .returned (.bool true) ∧ Below w.heap.size w w' := by
  have h0 := i64_of_lit w0
  have h1 := i64_of_lit w1
  clear w0 w1
  have A := fun w => add2_any a0 a1 w h0 h1
  have A' := fun w => add2_any a1 a0 w h1 h0
  have M := fun w => mul_any a0 a1 w h0 h1
  have M' := fun w => mul_any a1 a0 w h1 h0
  rw [dSum2] at A A'
  rw [Int.add_comm a1 a0] at A'
  rw [dMul_comm a1 a0] at M'
  have ml : ∃ p ok, dMul a0 a1 = (p, ok) := ⟨_, _, rfl⟩
  obtain ⟨p, ok, mp⟩ := ml
  rw [mp] at M M'
  have pi : i64 p := by have := dMul_i64 a0 a1; rw [mp] at this; exact this
  have Q := fun w => quo_any p a1 w pi h1
  have ql : ∃ z fine, dQuo p a1 = (z, fine) := ⟨_, _, rfl⟩
  obtain ⟨z, fine, mq⟩ := ql
  rw [mq] at Q
  obtain ⟨b1, b2⟩ := h1
  obtain ⟨g1, g2⟩ := h0
  have bzf : a1 ≠ 0 → (a1 == 0) = false := fun h => beq_eq_false_iff_ne.2 h
  have near : ok = true → a1 ≠ 0 → fine = true → Lv.abs (z - a0) ≤ 10002 ∧ (10000 ≤ Lv.abs a1 → Lv.abs (z - a0) ≤ 1) ∧ (Lv.abs a1 < 10000 → Lv.abs (z - a0) ≤ 10000 / Lv.abs a1 + 2) := by
    intro h1 h2 h3
    subst h1; subst h3
    have n := back_near mp h2 mq
    have bb : 0 < Lv.abs a1 := by unfold Lv.abs; split <;> omega
    obtain ⟨f1, f2, f3⟩ := back_far (abs_nonneg _) bb n
    exact ⟨f3, f1, f2⟩
  have qb : 0 < a1 → 0 ≤ 10000 / a1 ∧ 10000 / a1 ≤ 10000 := fun h => ⟨Int.ediv_nonneg (by omega) (by omega), Int.ediv_le_self _ (by omega)⟩
  have qn : a1 < 0 → 0 ≤ 10000 / (-a1) ∧ 10000 / (-a1) ≤ 10000 := fun h => ⟨Int.ediv_nonneg (by omega) (by omega), Int.ediv_le_self _ (by omega)⟩
  rcases fit_cases (a0 + a1) with ⟨e, f1, f2⟩ | e
  · rw [e] at A A'
    by_cases lo : -9223372036854775807 ≤ a0
    · have S := fun w => sub2_any (a0 + a1) a1 w ⟨by omega, by omega⟩ ⟨b1, b2⟩
      rw [show a0 + a1 - a1 = a0 by omega, fit_in lo g2] at S
      cases ok with
      | false => exact ord_nok_s _ _ _ _ 0 w g1 g2 b1 b2 (Lib.hid A) (Lib.hid A') (Lib.hid M) (Lib.hid M') (Lib.hid S) lo
      | true =>
        by_cases bz : a1 = 0
        · exact ord_b0_s _ _ _ _ 0 w g1 g2 b1 b2 (Lib.hid A) (Lib.hid A') (Lib.hid M) (Lib.hid M') (Lib.hid S) lo (by rw [bz]; rfl)
        by_cases al : a0 < -4611686018427387903
        · exact ord_lo_s _ _ _ _ 0 w g1 g2 b1 b2 (Lib.hid A) (Lib.hid A') (Lib.hid M) (Lib.hid M') (Lib.hid S) lo (bzf bz) al
        by_cases ah : 4611686018427387903 < a0
        · exact ord_hi_s _ _ _ _ 0 w g1 g2 b1 b2 (Lib.hid A) (Lib.hid A') (Lib.hid M) (Lib.hid M') (Lib.hid S) lo (bzf bz) (by omega) ah
        cases fine with
        | false => exact ord_nf_s _ _ _ _ _ w g1 g2 b1 b2 (Lib.hid A) (Lib.hid A') (Lib.hid M) (Lib.hid M') (Lib.hid S) (Lib.hid Q) lo (bzf bz) (by omega) (by omega)
        | true =>
          obtain ⟨n1, n2, n3⟩ := near rfl bz rfl
          by_cases dz : z - a0 < 0
          · rw [show Lv.abs (z - a0) = -(z - a0) from if_pos dz] at n1 n2 n3
            by_cases B1 : 10000 ≤ a1
            · exact ord_B1n_s _ _ _ _ _ w g1 g2 b1 b2 (Lib.hid A) (Lib.hid A') (Lib.hid M) (Lib.hid M') (Lib.hid S) (Lib.hid Q) lo (bzf bz) (by omega) (by omega) dz (by omega) B1 (n2 (by unfold Lv.abs; split <;> omega))
            by_cases B2 : a1 ≤ -10000
            · exact ord_B2n_s _ _ _ _ _ w g1 g2 b1 b2 (Lib.hid A) (Lib.hid A') (Lib.hid M) (Lib.hid M') (Lib.hid S) (Lib.hid Q) lo (bzf bz) (by omega) (by omega) dz (by omega) (by omega) B2 (n2 (by unfold Lv.abs; split <;> omega))
            by_cases B3 : 0 < a1
            · rw [show Lv.abs a1 = a1 from if_neg (by omega)] at n3
              exact ord_B3n_s _ _ _ _ _ w g1 g2 b1 b2 (Lib.hid A) (Lib.hid A') (Lib.hid M) (Lib.hid M') (Lib.hid S) (Lib.hid Q) lo (bzf bz) (by omega) (by omega) dz (by omega) (by omega) B3 (n3 (by omega)) (qb B3).1 (qb B3).2
            · rw [show Lv.abs a1 = -a1 from if_pos (by omega)] at n3
              obtain ⟨c, rfl⟩ : ∃ c, a1 = -c := ⟨-a1, by omega⟩
              rw [show -(-c) = c by omega] at n3 qn
              exact ord_B4n_s _ c _ _ _ w g1 g2 b1 b2 (Lib.hid A) (Lib.hid A') (Lib.hid M) (Lib.hid M') (Lib.hid S) (Lib.hid Q) lo (bzf bz) (beq_eq_false_iff_ne.2 (by omega)) (by omega) (by omega) dz (by omega) (by omega) (by omega) (n3 (by omega)) (qn (by omega)).1 (qn (by omega)).2
          · rw [show Lv.abs (z - a0) = z - a0 from if_neg dz] at n1 n2 n3
            by_cases B1 : 10000 ≤ a1
            · exact ord_B1p_s _ _ _ _ _ w g1 g2 b1 b2 (Lib.hid A) (Lib.hid A') (Lib.hid M) (Lib.hid M') (Lib.hid S) (Lib.hid Q) lo (bzf bz) (by omega) (by omega) (by omega) (by omega) B1 (n2 (by unfold Lv.abs; split <;> omega))
            by_cases B2 : a1 ≤ -10000
            · exact ord_B2p_s _ _ _ _ _ w g1 g2 b1 b2 (Lib.hid A) (Lib.hid A') (Lib.hid M) (Lib.hid M') (Lib.hid S) (Lib.hid Q) lo (bzf bz) (by omega) (by omega) (by omega) (by omega) (by omega) B2 (n2 (by unfold Lv.abs; split <;> omega))
            by_cases B3 : 0 < a1
            · rw [show Lv.abs a1 = a1 from if_neg (by omega)] at n3
              exact ord_B3p_s _ _ _ _ _ w g1 g2 b1 b2 (Lib.hid A) (Lib.hid A') (Lib.hid M) (Lib.hid M') (Lib.hid S) (Lib.hid Q) lo (bzf bz) (by omega) (by omega) (by omega) (by omega) (by omega) B3 (n3 (by omega)) (qb B3).1 (qb B3).2
            · rw [show Lv.abs a1 = -a1 from if_pos (by omega)] at n3
              obtain ⟨c, rfl⟩ : ∃ c, a1 = -c := ⟨-a1, by omega⟩
              rw [show -(-c) = c by omega] at n3 qn
              exact ord_B4p_s _ c _ _ _ w g1 g2 b1 b2 (Lib.hid A) (Lib.hid A') (Lib.hid M) (Lib.hid M') (Lib.hid S) (Lib.hid Q) lo (bzf bz) (beq_eq_false_iff_ne.2 (by omega)) (by omega) (by omega) (by omega) (by omega) (by omega) (by omega) (n3 (by omega)) (qn (by omega)).1 (qn (by omega)).2
    · cases ok with
      | false => exact ord_nok_m _ _ _ _ 0 w g1 g2 b1 b2 (Lib.hid A) (Lib.hid A') (Lib.hid M) (Lib.hid M') (by omega)
      | true =>
        by_cases bz : a1 = 0
        · exact ord_b0_m _ _ _ _ 0 w g1 g2 b1 b2 (Lib.hid A) (Lib.hid A') (Lib.hid M) (Lib.hid M') (by omega) (by rw [bz]; rfl)
        · exact ord_lo_m _ _ _ _ 0 w g1 g2 b1 b2 (Lib.hid A) (Lib.hid A') (Lib.hid M) (Lib.hid M') (by omega) (bzf bz)
  · rw [e] at A A'
    cases ok with
    | false => exact ord_nok_f _ _ _ _ 0 w g1 g2 b1 b2 (Lib.hid A) (Lib.hid A') (Lib.hid M) (Lib.hid M')
    | true =>
      by_cases bz : a1 = 0
      · exact ord_b0_f _ _ _ _ 0 w g1 g2 b1 b2 (Lib.hid A) (Lib.hid A') (Lib.hid M) (Lib.hid M') (by rw [bz]; rfl)
      by_cases al : a0 < -4611686018427387903
      · exact ord_lo_f _ _ _ _ 0 w g1 g2 b1 b2 (Lib.hid A) (Lib.hid A') (Lib.hid M) (Lib.hid M') (bzf bz) al
      by_cases ah : 4611686018427387903 < a0
      · exact ord_hi_f _ _ _ _ 0 w g1 g2 b1 b2 (Lib.hid A) (Lib.hid A') (Lib.hid M) (Lib.hid M') (bzf bz) (by omega) ah
      cases fine with
      | false => exact ord_nf_f _ _ _ _ _ w g1 g2 b1 b2 (Lib.hid A) (Lib.hid A') (Lib.hid M) (Lib.hid M') (Lib.hid Q) (bzf bz) (by omega) (by omega)
      | true =>
        obtain ⟨n1, n2, n3⟩ := near rfl bz rfl
        by_cases dz : z - a0 < 0
        · rw [show Lv.abs (z - a0) = -(z - a0) from if_pos dz] at n1 n2 n3
          by_cases B1 : 10000 ≤ a1
          · exact ord_B1n_f _ _ _ _ _ w g1 g2 b1 b2 (Lib.hid A) (Lib.hid A') (Lib.hid M) (Lib.hid M') (Lib.hid Q) (bzf bz) (by omega) (by omega) dz (by omega) B1 (n2 (by unfold Lv.abs; split <;> omega))
          by_cases B2 : a1 ≤ -10000
          · exact ord_B2n_f _ _ _ _ _ w g1 g2 b1 b2 (Lib.hid A) (Lib.hid A') (Lib.hid M) (Lib.hid M') (Lib.hid Q) (bzf bz) (by omega) (by omega) dz (by omega) (by omega) B2 (n2 (by unfold Lv.abs; split <;> omega))
          by_cases B3 : 0 < a1
          · rw [show Lv.abs a1 = a1 from if_neg (by omega)] at n3
            exact ord_B3n_f _ _ _ _ _ w g1 g2 b1 b2 (Lib.hid A) (Lib.hid A') (Lib.hid M) (Lib.hid M') (Lib.hid Q) (bzf bz) (by omega) (by omega) dz (by omega) (by omega) B3 (n3 (by omega)) (qb B3).1 (qb B3).2
          · rw [show Lv.abs a1 = -a1 from if_pos (by omega)] at n3
            obtain ⟨c, rfl⟩ : ∃ c, a1 = -c := ⟨-a1, by omega⟩
            rw [show -(-c) = c by omega] at n3 qn
            exact ord_B4n_f _ c _ _ _ w g1 g2 b1 b2 (Lib.hid A) (Lib.hid A') (Lib.hid M) (Lib.hid M') (Lib.hid Q) (bzf bz) (beq_eq_false_iff_ne.2 (by omega)) (by omega) (by omega) dz (by omega) (by omega) (by omega) (n3 (by omega)) (qn (by omega)).1 (qn (by omega)).2
        · rw [show Lv.abs (z - a0) = z - a0 from if_neg dz] at n1 n2 n3
          by_cases B1 : 10000 ≤ a1
          · exact ord_B1p_f _ _ _ _ _ w g1 g2 b1 b2 (Lib.hid A) (Lib.hid A') (Lib.hid M) (Lib.hid M') (Lib.hid Q) (bzf bz) (by omega) (by omega) (by omega) (by omega) B1 (n2 (by unfold Lv.abs; split <;> omega))
          by_cases B2 : a1 ≤ -10000
          · exact ord_B2p_f _ _ _ _ _ w g1 g2 b1 b2 (Lib.hid A) (Lib.hid A') (Lib.hid M) (Lib.hid M') (Lib.hid Q) (bzf bz) (by omega) (by omega) (by omega) (by omega) (by omega) B2 (n2 (by unfold Lv.abs; split <;> omega))
          by_cases B3 : 0 < a1
          · rw [show Lv.abs a1 = a1 from if_neg (by omega)] at n3
            exact ord_B3p_f _ _ _ _ _ w g1 g2 b1 b2 (Lib.hid A) (Lib.hid A') (Lib.hid M) (Lib.hid M') (Lib.hid Q) (bzf bz) (by omega) (by omega) (by omega) (by omega) (by omega) B3 (n3 (by omega)) (qb B3).1 (qb B3).2
          · rw [show Lv.abs a1 = -a1 from if_pos (by omega)] at n3
            obtain ⟨c, rfl⟩ : ∃ c, a1 = -c := ⟨-a1, by omega⟩
            rw [show -(-c) = c by omega] at n3 qn
            exact ord_B4p_f _ c _ _ _ w g1 g2 b1 b2 (Lib.hid A) (Lib.hid A') (Lib.hid M) (Lib.hid M') (Lib.hid Q) (bzf bz) (beq_eq_false_iff_ne.2 (by omega)) (by omega) (by omega) (by omega) (by omega) (by omega) (by omega) (n3 (by omega)) (qn (by omega)).1 (qn (by omega)).2
end Go.Proofs.Ytingopdeckgpaaa
