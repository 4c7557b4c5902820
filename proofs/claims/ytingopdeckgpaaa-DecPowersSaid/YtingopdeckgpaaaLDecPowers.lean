/- The law DecPowers, walked. -/
import Derived.Test.YtingopdeckgpaaaWRoot
import Derived.Test.YtingopdeckgpaaaWArgs
namespace Go.Proofs.Ytingopdeckgpaaa
set_option linter.unusedVariables false
set_option linter.unusedSimpArgs false
open Go.RowKit Lv

theorem rnd_self (x : Int) : rnd (10000 * x) 10000 = x := by unfold rnd; rw [if_neg (by omega)]; omega
theorem pw_one (a : Int) : pw a 1 = fit a := by
  show (if (pw a 0).2 = true then dMul (pw a 0).1 a else (0, false)) = fit a
  show (if true = true then dMul 10000 a else (0, false)) = fit a
  rw [if_pos rfl]
  unfold dMul
  rw [show Lv.abs 10000 = 10000 from rfl, rnd_self, show (Lv.neg 10000 != Lv.neg a) = Lv.neg a from by simp [Lv.neg], sg_neg_abs]

set_option maxHeartbeats 800000 in
theorem DecPowers_walk (a0 : Int) (a1 : Int) (w0 : (Lit.int .i64 a0).wf = true) (w1 : (Lit.int .i64 a1).wf = true) (w : World) :
    Calls Try.prog 9 #[.int .i64 a0, .int .i64 a1] w fun e w' => e = .returned (.bool true) ∧ Below w.heap.size w w' := by
  have h0 := i64_of_lit w0
  have h1 := i64_of_lit w1
  clear w0 w1
  have K := Lib.hid known_any
  by_cases c1 : a1 < 0
  · go_enter Try.func9, Try.ntmps9
    go_wp2_with fail
    refine (K.out _).mono ?_
    rintro e w' ⟨rfl, hk⟩
    go_wp2_with fail
    go_ret
    exact ⟨rfl, hk⟩
  by_cases c2 : 40 < a1
  · go_enter Try.func9, Try.ntmps9
    go_wp2_with fail
    refine (K.out _).mono ?_
    rintro e w' ⟨rfl, hk⟩
    go_wp2_with fail
    go_ret
    exact ⟨rfl, hk⟩
  obtain ⟨n, rfl⟩ := Int.eq_ofNat_of_zero_le (show 0 ≤ a1 by omega)
  have P := fun w => power_any a0 n w h0 h1
  have P1 := fun w => power_any a0 (n + 1) w h0 ⟨by omega, by omega⟩
  have Pn := fun w => power_any a0 (-n) w h0 ⟨by omega, by omega⟩
  have P2 := fun w => power_any a0 1 w h0 ⟨by omega, by omega⟩
  have e0 : dPow a0 n = pw a0 n := by unfold dPow; rw [if_neg (by omega), if_neg (by omega), Int.toNat_natCast]
  have e1 : dPow a0 (n + 1) = pw a0 (n + 1) := by unfold dPow; rw [if_neg (by omega), if_neg (by omega)]; rfl
  have e2 : dPow a0 1 = fit a0 := by
    rw [← pw_one]; unfold dPow; rw [if_neg (by omega), if_neg (by omega)]; rfl
  rw [e0] at P
  rw [e1] at P1
  rw [e2] at P2
  have s1 : pw a0 (n + 1) = if (pw a0 n).2 = true then dMul (pw a0 n).1 a0 else (0, false) := rfl
  have last : ((fit a0).2 = true ∧ (fit a0).1 = a0) ∨ ((fit a0).2 = false ∧ a0 < -9223372036854775807) := by
    by_cases c : a0 < -9223372036854775807
    · right; rw [fit_out (Or.inl c)]; exact ⟨rfl, c⟩
    · left; rw [fit_in (by omega) h0.2]; exact ⟨rfl, rfl⟩
  have HP2 : ∃ (v : Int) (b : Bool), fit a0 = (v, b) ∧ ((b = true ∧ v = a0) ∨ (b = false ∧ a0 < -9223372036854775807)) := ⟨_, _, rfl, last⟩
  obtain ⟨v, b, ev, lst⟩ := HP2
  rw [ev] at P2
  have hP2 := Lib.hid P2
  clear P2 e0 e1 e2 ev last
  by_cases is : (pw a0 n).2 = true
  · rw [if_pos is] at s1
    rw [s1] at P1
    rw [is] at P
    have M := Lib.hid (fun w => mul_any (pw a0 n).1 a0 w (pw_i64 a0 n) h0)
    have Q := Lib.hid (fun w => quo_any 10000 (pw a0 n).1 w ⟨by omega, by omega⟩ (pw_i64 a0 n))
    have e5 : ((dMul (pw a0 n).1 a0).1 != (dMul (pw a0 n).1 a0).1) = false := by simp
    have e6 : ((dMul (pw a0 n).1 a0).2 != (dMul (pw a0 n).1 a0).2) = false := by simp
    by_cases np : 0 < n
    · have e3 : dPow a0 (-n) = dQuo 10000 (pw a0 n).1 := by
        unfold dPow; rw [if_neg (by omega), if_pos (by omega), Int.neg_neg, Int.toNat_natCast, if_pos is]
      rw [e3] at Pn
      have e7 : ((dQuo 10000 (pw a0 n).1).1 != (dQuo 10000 (pw a0 n).1).1) = false := by simp
      have e8 : ((dQuo 10000 (pw a0 n).1).2 != (dQuo 10000 (pw a0 n).1).2) = false := by simp
      clear e3
      have HP := Lib.hid P; have HP1 := Lib.hid P1; have HPn := Lib.hid Pn
      clear P P1 Pn s1 is h0 h1
      generalize dMul (pw a0 n).1 a0 = mu at *
      generalize dQuo 10000 (pw a0 n).1 = qu at *
      generalize (pw a0 n).1 = x at *
      rcases lst with ⟨rfl, rfl⟩ | ⟨rfl, lt⟩
      · go_enter Try.func9, Try.ntmps9
        go_wp2_with fail
        refine (HP.out _).mono ?_
        rintro e w' ⟨rfl, k1⟩
        go_wp2_with fail
        refine (HP1.out _).mono ?_
        rintro e w' ⟨rfl, k2⟩
        go_wp2_with fail
        refine (M.out _).mono ?_
        rintro e w' ⟨rfl, m1, rfl⟩
        go_wp2_with fail
        refine (Q.out _).mono ?_
        rintro e w' ⟨rfl, m2, rfl⟩
        go_wp2_with fail
        refine (HPn.out _).mono ?_
        rintro e w' ⟨rfl, k3⟩
        go_wp2_with fail
        refine (hP2.out _).mono ?_
        rintro e w' ⟨rfl, k4⟩
        go_wp2_with fail
        refine (K.out _).mono ?_
        rintro e w' ⟨rfl, k5⟩
        go_wp2_with fail
        go_ret
        exact ⟨rfl, (by repeat (first | with_reducible exact Kept.refl _ | with_reducible apply Kept.drew | with_reducible apply Kept.drewN | with_reducible apply Kept.alloc | (with_reducible refine Kept.setCellX ?_ ?_ _; focus (first | (simp; done) | (simp; omega))) | (with_reducible refine Kept.trans ?_ (by assumption))))⟩
      · go_enter Try.func9, Try.ntmps9
        go_wp2_with fail
        refine (HP.out _).mono ?_
        rintro e w' ⟨rfl, k1⟩
        go_wp2_with fail
        refine (HP1.out _).mono ?_
        rintro e w' ⟨rfl, k2⟩
        go_wp2_with fail
        refine (M.out _).mono ?_
        rintro e w' ⟨rfl, m1, rfl⟩
        go_wp2_with fail
        refine (Q.out _).mono ?_
        rintro e w' ⟨rfl, m2, rfl⟩
        go_wp2_with fail
        refine (HPn.out _).mono ?_
        rintro e w' ⟨rfl, k3⟩
        go_wp2_with fail
        refine (hP2.out _).mono ?_
        rintro e w' ⟨rfl, k4⟩
        go_wp2_with fail
        refine (K.out _).mono ?_
        rintro e w' ⟨rfl, k5⟩
        go_wp2_with fail
        go_ret
        exact ⟨rfl, (by repeat (first | with_reducible exact Kept.refl _ | with_reducible apply Kept.drew | with_reducible apply Kept.drewN | with_reducible apply Kept.alloc | (with_reducible refine Kept.setCellX ?_ ?_ _; focus (first | (simp; done) | (simp; omega))) | (with_reducible refine Kept.trans ?_ (by assumption))))⟩
    · generalize dPow a0 (-n) = pn at *
      have HP := Lib.hid P; have HP1 := Lib.hid P1; have HPn := Lib.hid Pn
      clear P P1 Pn s1 is h0 h1
      generalize dMul (pw a0 n).1 a0 = mu at *
      generalize dQuo 10000 (pw a0 n).1 = qu at *
      generalize (pw a0 n).1 = x at *
      rcases lst with ⟨rfl, rfl⟩ | ⟨rfl, lt⟩
      · go_enter Try.func9, Try.ntmps9
        go_wp2_with fail
        refine (HP.out _).mono ?_
        rintro e w' ⟨rfl, k1⟩
        go_wp2_with fail
        refine (HP1.out _).mono ?_
        rintro e w' ⟨rfl, k2⟩
        go_wp2_with fail
        refine (M.out _).mono ?_
        rintro e w' ⟨rfl, m1, rfl⟩
        go_wp2_with fail
        refine (Q.out _).mono ?_
        rintro e w' ⟨rfl, m2, rfl⟩
        go_wp2_with fail
        refine (HPn.out _).mono ?_
        rintro e w' ⟨rfl, k3⟩
        go_wp2_with fail
        refine (hP2.out _).mono ?_
        rintro e w' ⟨rfl, k4⟩
        go_wp2_with fail
        refine (K.out _).mono ?_
        rintro e w' ⟨rfl, k5⟩
        go_wp2_with fail
        go_ret
        exact ⟨rfl, (by repeat (first | with_reducible exact Kept.refl _ | with_reducible apply Kept.drew | with_reducible apply Kept.drewN | with_reducible apply Kept.alloc | (with_reducible refine Kept.setCellX ?_ ?_ _; focus (first | (simp; done) | (simp; omega))) | (with_reducible refine Kept.trans ?_ (by assumption))))⟩
      · go_enter Try.func9, Try.ntmps9
        go_wp2_with fail
        refine (HP.out _).mono ?_
        rintro e w' ⟨rfl, k1⟩
        go_wp2_with fail
        refine (HP1.out _).mono ?_
        rintro e w' ⟨rfl, k2⟩
        go_wp2_with fail
        refine (M.out _).mono ?_
        rintro e w' ⟨rfl, m1, rfl⟩
        go_wp2_with fail
        refine (Q.out _).mono ?_
        rintro e w' ⟨rfl, m2, rfl⟩
        go_wp2_with fail
        refine (HPn.out _).mono ?_
        rintro e w' ⟨rfl, k3⟩
        go_wp2_with fail
        refine (hP2.out _).mono ?_
        rintro e w' ⟨rfl, k4⟩
        go_wp2_with fail
        refine (K.out _).mono ?_
        rintro e w' ⟨rfl, k5⟩
        go_wp2_with fail
        go_ret
        exact ⟨rfl, (by repeat (first | with_reducible exact Kept.refl _ | with_reducible apply Kept.drew | with_reducible apply Kept.drewN | with_reducible apply Kept.alloc | (with_reducible refine Kept.setCellX ?_ ?_ _; focus (first | (simp; done) | (simp; omega))) | (with_reducible refine Kept.trans ?_ (by assumption))))⟩
  · have is' : (pw a0 n).2 = false := by simpa using is
    rw [if_neg is] at s1
    rw [s1] at P1
    rw [is'] at P
    have HP := Lib.hid P; have HP1 := Lib.hid P1
    clear P P1 Pn s1 is is' h0 h1
    generalize (pw a0 n).1 = x at *
    rcases lst with ⟨rfl, rfl⟩ | ⟨rfl, lt⟩
    · go_enter Try.func9, Try.ntmps9
      go_wp2_with fail
      refine (HP.out _).mono ?_
      rintro e w' ⟨rfl, k1⟩
      go_wp2_with fail
      refine (HP1.out _).mono ?_
      rintro e w' ⟨rfl, k2⟩
      go_wp2_with fail
      refine (hP2.out _).mono ?_
      rintro e w' ⟨rfl, k4⟩
      go_wp2_with fail
      refine (K.out _).mono ?_
      rintro e w' ⟨rfl, k5⟩
      go_wp2_with fail
      go_ret
      exact ⟨rfl, (by repeat (first | with_reducible exact Kept.refl _ | with_reducible apply Kept.drew | with_reducible apply Kept.drewN | with_reducible apply Kept.alloc | (with_reducible refine Kept.setCellX ?_ ?_ _; focus (first | (simp; done) | (simp; omega))) | (with_reducible refine Kept.trans ?_ (by assumption))))⟩
    · go_enter Try.func9, Try.ntmps9
      go_wp2_with fail
      refine (HP.out _).mono ?_
      rintro e w' ⟨rfl, k1⟩
      go_wp2_with fail
      refine (HP1.out _).mono ?_
      rintro e w' ⟨rfl, k2⟩
      go_wp2_with fail
      refine (hP2.out _).mono ?_
      rintro e w' ⟨rfl, k4⟩
      go_wp2_with fail
      refine (K.out _).mono ?_
      rintro e w' ⟨rfl, k5⟩
      go_wp2_with fail
      go_ret
      exact ⟨rfl, (by repeat (first | with_reducible exact Kept.refl _ | with_reducible apply Kept.drew | with_reducible apply Kept.drewN | with_reducible apply Kept.alloc | (with_reducible refine Kept.setCellX ?_ ?_ _; focus (first | (simp; done) | (simp; omega))) | (with_reducible refine Kept.trans ?_ (by assumption))))⟩
end Go.Proofs.Ytingopdeckgpaaa
