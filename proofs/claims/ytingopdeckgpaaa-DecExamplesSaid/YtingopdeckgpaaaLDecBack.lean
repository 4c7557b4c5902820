/- The law DecBack, walked. -/
import Derived.Test.YtingopdeckgpaaaLDecTexts
import Derived.Test.YtingopdeckgpaaaMBack
namespace Go.Proofs.Ytingopdeckgpaaa
set_option linter.unusedVariables false
set_option linter.unusedSimpArgs false
open Go.RowKit Lv

theorem fmt_small (a : Int) (h : i64 a) : (fmt a).length ≤ 30 := by
  obtain ⟨h1, h2⟩ := h
  have e : a = sg (decide (a < 0)) (a.natAbs : Int) := by unfold sg; by_cases c : a < 0 <;> simp [c] <;> omega
  have f := fmt_len (decide (a < 0)) a.natAbs
  rw [← e] at f
  have d := digs_len (n := a.natAbs / 10000) 20 (by omega) (by omega) (by omega)
  have s := strip_le (four (a.natAbs % 10000))
  have l4 : (four (a.natAbs % 10000)).length = 4 := rfl
  have b1 : (if decide (a < 0) = true then 1 else 0) ≤ 1 := by split <;> omega
  have b2 : (if a.natAbs % 10000 = 0 then 0 else 1 + (strip (four (a.natAbs % 10000))).length) ≤ 5 := by split <;> omega
  omega

set_option maxHeartbeats 1600000 in
theorem DecBack_walk (a0 : Int) (a1 : ByteArray) (w0 : (Lit.int .i64 a0).wf = true) (w1 : a1.size ≤ maxLen) (w : World) :
    Calls Try.prog 13 #[.int .i64 a0, .string a1] w fun e w' => e = .returned (.bool true) ∧ Below w.heap.size w w' := by
  have h0 := i64_of_lit w0
  clear w0
  obtain ⟨l, rfl⟩ := list_of a1
  have hl : l.length ≤ maxLen := w1
  clear w1
  unfold maxLen at hl
  have Z := ba_size
  have K := Lib.hid known_any
  by_cases c : l.length ≤ 300
  · have F := Lib.hid (fun w => format_any a0 w h0)
    have P := fun w => parse_any (fmt a0) w (by have := fmt_small a0 h0; omega)
    have hf := fmt_small a0 h0
    rw [parse_fmt a0 (by obtain ⟨h1, h2⟩ := h0; omega)] at P
    obtain ⟨h1, h2⟩ := h0
    have R := fun w => parse_any l w (by omega)
    generalize fmt a0 = f at *
    by_cases ok : (dParse l).2 = 0
    · obtain ⟨n, n1, n2, n3, n4⟩ := parse_ok ok
      have G := Lib.hid (fun w => format_any n w ⟨by omega, n2⟩)
      have Q := fun w => parse_any (fmt n) w (by omega)
      rw [parse_fmt n (by omega), if_pos (by omega)] at Q
      rw [n3] at R
      generalize fmt n = t at *
      have HQ := Lib.hid Q
      have HR := Lib.hid R
      have n5 : (n == n) = true := by simp
      clear Q R n3 ok n1 n2
      by_cases a9 : a0 < -9223372036854775807
      · rw [if_neg (by omega)] at P
        have HP := Lib.hid P
        clear P
        go_enter Try.func13, Try.ntmps13
        go_wp2_with fail
        refine (F.out _).mono ?_
        rintro e w' ⟨rfl, k1⟩
        go_wp2_with fail
        refine (HP.out _).mono ?_
        rintro e w' ⟨rfl, k2⟩
        go_wp2_with fail
        refine (HR.out _).mono ?_
        rintro e w' ⟨rfl, k3⟩
        go_wp2_with fail
        refine (G.out _).mono ?_
        rintro e w' ⟨rfl, k4⟩
        go_wp2_with fail
        refine (HQ.out _).mono ?_
        rintro e w' ⟨rfl, k5⟩
        go_wp2_with fail
        refine (K.out _).mono ?_
        rintro e w' ⟨rfl, k6⟩
        go_wp2_with fail
        go_ret
        exact ⟨rfl, (by repeat (first | with_reducible exact Kept.refl _ | with_reducible apply Kept.drew | with_reducible apply Kept.drewN | with_reducible apply Kept.alloc | (with_reducible refine Kept.setCellX ?_ ?_ _; focus (first | (simp; done) | (simp; omega))) | (with_reducible refine Kept.trans ?_ (by assumption))))⟩
      · rw [if_pos (by omega)] at P
        have HP := Lib.hid P
        have a5 : (a0 != a0) = false := by simp
        clear P
        go_enter Try.func13, Try.ntmps13
        go_wp2_with fail
        refine (F.out _).mono ?_
        rintro e w' ⟨rfl, k1⟩
        go_wp2_with fail
        refine (HP.out _).mono ?_
        rintro e w' ⟨rfl, k2⟩
        go_wp2_with fail
        refine (HR.out _).mono ?_
        rintro e w' ⟨rfl, k3⟩
        go_wp2_with fail
        refine (G.out _).mono ?_
        rintro e w' ⟨rfl, k4⟩
        go_wp2_with fail
        refine (HQ.out _).mono ?_
        rintro e w' ⟨rfl, k5⟩
        go_wp2_with fail
        refine (K.out _).mono ?_
        rintro e w' ⟨rfl, k6⟩
        go_wp2_with fail
        go_ret
        exact ⟨rfl, (by repeat (first | with_reducible exact Kept.refl _ | with_reducible apply Kept.drew | with_reducible apply Kept.drewN | with_reducible apply Kept.alloc | (with_reducible refine Kept.setCellX ?_ ?_ _; focus (first | (simp; done) | (simp; omega))) | (with_reducible refine Kept.trans ?_ (by assumption))))⟩
    · have ok' : ((dParse l).2 != 0) = true := by simpa using ok
      have HR := Lib.hid R
      clear R ok
      generalize dParse l = pl at *
      by_cases a9 : a0 < -9223372036854775807
      · rw [if_neg (by omega)] at P
        have HP := Lib.hid P
        clear P
        go_enter Try.func13, Try.ntmps13
        go_wp2_with fail
        refine (F.out _).mono ?_
        rintro e w' ⟨rfl, k1⟩
        go_wp2_with fail
        refine (HP.out _).mono ?_
        rintro e w' ⟨rfl, k2⟩
        go_wp2_with fail
        refine (HR.out _).mono ?_
        rintro e w' ⟨rfl, k3⟩
        go_wp2_with fail
        refine (K.out _).mono ?_
        rintro e w' ⟨rfl, k6⟩
        go_wp2_with fail
        go_ret
        exact ⟨rfl, (by repeat (first | with_reducible exact Kept.refl _ | with_reducible apply Kept.drew | with_reducible apply Kept.drewN | with_reducible apply Kept.alloc | (with_reducible refine Kept.setCellX ?_ ?_ _; focus (first | (simp; done) | (simp; omega))) | (with_reducible refine Kept.trans ?_ (by assumption))))⟩
      · rw [if_pos (by omega)] at P
        have HP := Lib.hid P
        have a5 : (a0 != a0) = false := by simp
        clear P
        go_enter Try.func13, Try.ntmps13
        go_wp2_with fail
        refine (F.out _).mono ?_
        rintro e w' ⟨rfl, k1⟩
        go_wp2_with fail
        refine (HP.out _).mono ?_
        rintro e w' ⟨rfl, k2⟩
        go_wp2_with fail
        refine (HR.out _).mono ?_
        rintro e w' ⟨rfl, k3⟩
        go_wp2_with fail
        refine (K.out _).mono ?_
        rintro e w' ⟨rfl, k6⟩
        go_wp2_with fail
        go_ret
        exact ⟨rfl, (by repeat (first | with_reducible exact Kept.refl _ | with_reducible apply Kept.drew | with_reducible apply Kept.drewN | with_reducible apply Kept.alloc | (with_reducible refine Kept.setCellX ?_ ?_ _; focus (first | (simp; done) | (simp; omega))) | (with_reducible refine Kept.trans ?_ (by assumption))))⟩
  · clear h0
    go_enter Try.func13, Try.ntmps13
    go_wp2_with fail
    refine (K.out _).mono ?_
    rintro e w' ⟨rfl, k1⟩
    go_wp2_with fail
    go_ret
    exact ⟨rfl, (by repeat (first | with_reducible exact Kept.refl _ | with_reducible apply Kept.drew | with_reducible apply Kept.drewN | with_reducible apply Kept.alloc | (with_reducible refine Kept.setCellX ?_ ?_ _; focus (first | (simp; done) | (simp; omega))) | (with_reducible refine Kept.trans ?_ (by assumption))))⟩
end Go.Proofs.Ytingopdeckgpaaa
