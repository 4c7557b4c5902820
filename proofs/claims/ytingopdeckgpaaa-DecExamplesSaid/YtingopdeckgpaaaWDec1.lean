/- Walks of layer 1: sizes, signs, quotients, products. -/
import Derived.Test.YtingopdeckgpaaaWDiv
import Derived.Test.YtingopdeckgpaaaMDec
namespace Go.Proofs.Ytingopdeckgpaaa
set_option linter.unusedVariables false
set_option linter.unusedSimpArgs false
open Go.RowKit Lv

theorem size_any (a : Int) (w : World) (h : i64 a) : Calls Try.prog 56 #[.int .i64 a] w fun e w' => e = .returned (.int .u64 (Lv.abs a)) ∧ w = w' := by
  obtain ⟨h1, h2⟩ := h
  by_cases c : a < 0
  · have e1 : Lv.abs a = -(a + 1) + 1 := by unfold Lv.abs; rw [if_pos c]; omega
    have E := Lib.hid e1; clear e1
    go_enter Try.func56, Try.ntmps56
    go_wp2
    go_ret
    exact ⟨ret_int E.out.symm, rfl⟩
  · have e1 : Lv.abs a = a := by unfold Lv.abs; rw [if_neg c]
    have E := Lib.hid e1; clear e1
    go_enter Try.func56, Try.ntmps56
    go_wp2
    go_ret
    exact ⟨ret_int E.out.symm, rfl⟩

theorem signed_any (hi lo : Int) (ng : Bool) (w : World) (h : u64 hi) (h' : u64 lo) :
    Calls Try.prog 49 #[.int .u64 hi, .int .u64 lo, .bool ng] w fun e w' => e = .returned (.tuple #[.int .i64 (fit (sg ng (hi * 18446744073709551616 + lo))).1, .bool (fit (sg ng (hi * 18446744073709551616 + lo))).2]) ∧ w = w' := by
  obtain ⟨h1, h2⟩ := h
  obtain ⟨h3, h4⟩ := h'
  by_cases c : hi = 0
  · subst c
    by_cases c2 : lo ≤ 9223372036854775807
    · have e1 : fit (sg ng (0 * 18446744073709551616 + lo)) = (sg ng lo, true) := by
        rw [show 0 * 18446744073709551616 + lo = lo by omega]
        cases ng
        · exact fit_in (by simp [sg]; omega) (by simp [sg]; omega)
        · exact fit_in (by simp [sg]; omega) (by simp [sg]; omega)
      rw [e1]
      cases ng
      · go_enter Try.func49, Try.ntmps49
        go_wp2
        go_ret2
        exact ⟨rfl, rfl⟩
      · go_enter Try.func49, Try.ntmps49
        go_wp2
        go_ret2
        exact ⟨rfl, rfl⟩
    · have e1 : fit (sg ng (0 * 18446744073709551616 + lo)) = (0, false) := by
        refine fit_out ?_; cases ng <;> simp only [sg] <;> simp <;> omega
      rw [e1]
      go_enter Try.func49, Try.ntmps49
      go_wp2
      go_ret2
      exact ⟨rfl, rfl⟩
  · have e1 : fit (sg ng (hi * 18446744073709551616 + lo)) = (0, false) := by
      refine fit_out ?_; cases ng <;> simp only [sg] <;> simp <;> omega
    rw [e1]
    have c' : (hi != 0) = true := by rw [bne_iff_ne]; exact c
    go_enter Try.func49, Try.ntmps49
    go_wp2
    go_ret2
    exact ⟨rfl, rfl⟩

/-- Div64 at a first digit 0 -/
theorem div_small (lo y : Int) (w : World) (h1 : 0 < y) (h2 : y ≤ 18446744073709551615) (h3 : 0 ≤ lo) (h4 : lo ≤ 18446744073709551615) :
    Calls Try.prog 70 #[.int .u64 0, .int .u64 lo, .int .u64 y] w fun e w' => e = .returned (.tuple #[.int .u64 (lo / y), .int .u64 (lo % y)]) ∧ ∃ n, w' = w.drewN n := by
  have b1 : 0 ≤ lo / y := Int.ediv_nonneg h3 (by omega)
  have b2 : lo / y ≤ lo := Int.ediv_le_self y h3
  have b3 := Int.emod_nonneg lo (b := y) (by omega)
  have b4 := Int.emod_lt_of_pos lo h1
  have c : (y == 0) = false := beq_eq_false_iff_ne.2 (by omega)
  go_enter Try.func70, Try.ntmps70
  go_wp2_with fail
  go_quiet (fail)
  go_wp2
  go_ret2
  exact ⟨rfl, _, rfl⟩

theorem drewN_zero (w : World) : w = w.drewN 0 := rfl

/-- Div64: the first digit is less than the divisor -/
theorem div_any (hi lo y : Int) (w : World) (h : u64 hi) (h1 : hi < y) (h2 : y ≤ 18446744073709551615) (h' : u64 lo) :
    Calls Try.prog 70 #[.int .u64 hi, .int .u64 lo, .int .u64 y] w fun e w' => e = .returned (.tuple #[.int .u64 ((hi * 18446744073709551616 + lo) / y), .int .u64 ((hi * 18446744073709551616 + lo) % y)]) ∧ ∃ n, w' = w.drewN n := by
  obtain ⟨h3, h4⟩ := h'
  by_cases c : hi = 0
  · subst c
    rw [show 0 * 18446744073709551616 + lo = lo by omega]
    exact div_small lo y w (by omega) h2 h3 h4
  · refine (div_big hi lo y w (by have := h.1; omega) h1 h2 h3 h4).mono ?_
    rintro e w' ⟨he, rfl⟩
    exact ⟨he, 0, rfl⟩

theorem nearest_any (hi lo d : Int) (w : World) (h : u64 hi) (h' : u64 lo) (hd : u64 d) :
    Calls Try.prog 61 #[.int .u64 hi, .int .u64 lo, .int .u64 d] w fun e w' => e = .returned (.tuple #[.int .u64 (near (hi * 18446744073709551616 + lo) d).1, .bool (near (hi * 18446744073709551616 + lo) d).2]) ∧ ∃ n, w' = w.drewN n := by
  obtain ⟨d1, d2⟩ := hd
  by_cases c : d = 0
  · subst c
    rw [show near (hi * 18446744073709551616 + lo) 0 = (0, false) from if_neg (by simp)]
    go_enter Try.func61, Try.ntmps61
    go_wp2
    go_ret2
    exact ⟨rfl, 0, rfl⟩
  · obtain ⟨h1, h2⟩ := h
    have c' : (d == 0) = false := beq_eq_false_iff_ne.2 c
    by_cases c2 : d ≤ hi
    · have e1 : near (hi * 18446744073709551616 + lo) d = (0, false) := by
        refine if_neg ?_
        have := h'.1
        have h5 : 18446744073709551616 ≤ (hi * 18446744073709551616 + lo) / d := by
          rw [Int.le_ediv_iff_mul_le (by omega)]; omega
        omega
      have E := Lib.hid e1; clear e1
      go_enter Try.func61, Try.ntmps61
      go_wp2
      go_ret2
      exact ⟨ret_p E.out, 0, rfl⟩
    · have hx0 : 0 ≤ hi * 18446744073709551616 + lo := by have := h'.1; omega
      have b1 : 0 ≤ (hi * 18446744073709551616 + lo) / d := Int.ediv_nonneg hx0 (by omega)
      have b2 : (hi * 18446744073709551616 + lo) / d ≤ 18446744073709551615 := by
        have : (hi * 18446744073709551616 + lo) / d < 18446744073709551616 := Int.ediv_lt_of_lt_mul (by omega) (by have := h'.2; omega)
        omega
      have b3 := Int.emod_nonneg (hi * 18446744073709551616 + lo) (b := d) (by omega)
      have b4 := Int.emod_lt_of_pos (hi * 18446744073709551616 + lo) (b := d) (by omega)
      have E := Lib.hid (show near (hi * 18446744073709551616 + lo) d = if d ≠ 0 ∧ (hi * 18446744073709551616 + lo) / d ≤ 9223372036854775807 then (rnd (hi * 18446744073709551616 + lo) d, true) else (0, false) from rfl)
      have R := Lib.hid (show rnd (hi * 18446744073709551616 + lo) d = (hi * 18446744073709551616 + lo) / d + if d ≤ 2 * ((hi * 18446744073709551616 + lo) % d) then 1 else 0 from rfl)
      have D := Lib.hid (div_any hi lo d w ⟨h1, h2⟩ (by omega) d2 h')
      generalize near (hi * 18446744073709551616 + lo) d = N at *
      generalize rnd (hi * 18446744073709551616 + lo) d = N2 at *
      clear h'
      generalize (hi * 18446744073709551616 + lo) / d = q at *
      generalize (hi * 18446744073709551616 + lo) % d = r at *
      by_cases c3 : 9223372036854775807 < q
      · go_enter Try.func61, Try.ntmps61
        go_wp2_with (go_at_call 70; refine D.out.mono ?_; rintro e w' ⟨rfl, n, rfl⟩)
        go_ret2
        exact ⟨ret_p (by rw [E.out, if_neg (by omega)]), _, rfl⟩
      · by_cases c4 : d - r ≤ r
        · go_enter Try.func61, Try.ntmps61
          go_wp2_with (go_at_call 70; refine D.out.mono ?_; rintro e w' ⟨rfl, n, rfl⟩)
          go_ret2
          exact ⟨ret_p (by rw [E.out, R.out, if_pos (by omega), if_pos (by omega)]), _, rfl⟩
        · go_enter Try.func61, Try.ntmps61
          go_wp2_with (go_at_call 70; refine D.out.mono ?_; rintro e w' ⟨rfl, n, rfl⟩)
          go_ret2
          exact ⟨ret_p (by rw [E.out, R.out, if_pos (by omega), if_neg (by omega)]; simp), _, rfl⟩

theorem scaled_any (a b d : Int) (ng : Bool) (w : World) (h : u64 a) (h' : u64 b) (hd : u64 d) :
    Calls Try.prog 57 #[.int .u64 a, .int .u64 b, .int .u64 d, .bool ng] w fun e w' => e = .returned (.tuple #[.int .i64 (scaled a b d ng).1, .bool (scaled a b d ng).2]) ∧ ∃ n, w' = w.drewN n := by
  obtain ⟨a, rfl⟩ := Int.eq_ofNat_of_zero_le h.1
  obtain ⟨b, rfl⟩ := Int.eq_ofNat_of_zero_le h'.1
  have ha := h.2
  have hb := h'.2
  have M := Lib.hid (Try.bits_Mul64 a b (by omega) (by omega) w)
  have hlt : a * b / 18446744073709551616 < 18446744073709551616 := by
    rw [Nat.div_lt_iff_lt_mul (by omega)]
    exact Nat.mul_lt_mul_of_le_of_lt (show a ≤ 18446744073709551616 by omega) (by omega) (by omega)
  have hlo : a * b % 18446744073709551616 < 18446744073709551616 := Nat.mod_lt _ (by omega)
  have hsplit : ((a * b / 18446744073709551616 : Nat) : Int) * 18446744073709551616 + ((a * b % 18446744073709551616 : Nat) : Int) = (a : Int) * (b : Int) := by
    rw [← Int.natCast_mul]; omega
  have S := Lib.hid (show scaled a b d ng = if d = 0 then (0, false) else fit (sg ng (rnd ((a : Int) * b) d)) from rfl)
  generalize scaled a b d ng = Z at *
  rw [← hsplit] at S
  clear hsplit
  generalize a * b / 18446744073709551616 = hi at *
  generalize a * b % 18446744073709551616 = lo at *
  have NE := fun w => nearest_any hi lo d w ⟨by omega, by omega⟩ ⟨by omega, by omega⟩ hd
  generalize hx : (hi : Int) * 18446744073709551616 + (lo : Int) = x at *
  have hx0 : 0 ≤ x := by omega
  clear hx
  have d1 := hd.1
  have hd2 := hd.2
  by_cases c : d ≠ 0 ∧ x / d ≤ 9223372036854775807
  · have e1 : near x d = (rnd x d, true) := if_pos c
    have q0 : 0 ≤ x / d := Int.ediv_nonneg hx0 d1
    have rb := rnd_bounds x d
    have SG := fun w => signed_any 0 (rnd x d) ng w ⟨by omega, by omega⟩ ⟨by omega, by omega⟩
    have HN := Lib.hid NE
    have HS := Lib.hid SG
    have E := Lib.hid e1
    clear NE SG e1 rb q0
    rw [if_neg c.1] at S
    clear c h h' hd
    rw [E.out] at HN
    go_enter Try.func57, Try.ntmps57
    go_wp2_with fail
    refine M.out.mono ?_
    rintro e w' ⟨rfl, rfl⟩
    go_wp2_with fail
    refine (HN.out _).mono ?_
    rintro e w' ⟨rfl, n, rfl⟩
    go_wp2_with fail
    refine (HS.out _).mono ?_
    rintro e w' ⟨rfl, rfl⟩
    go_wp2_with fail
    go_ret2
    exact ⟨ret_p (by rw [S.out]), _, rfl⟩
  · have e1 : near x d = (0, false) := if_neg c
    have HN := Lib.hid NE
    have E := Lib.hid e1
    have e2 : (if d = 0 then (0, false) else fit (sg ng (rnd x d))) = ((0 : Int), false) := by
      by_cases c2 : d = 0
      · rw [if_pos c2]
      · rw [if_neg c2]
        have rb := rnd_bounds x d
        refine fit_out ?_
        cases ng <;> simp only [sg] <;> simp <;> omega
    rw [e2] at S
    clear NE e1 e2 c h h' hd
    rw [E.out] at HN
    go_enter Try.func57, Try.ntmps57
    go_wp2_with fail
    refine M.out.mono ?_
    rintro e w' ⟨rfl, rfl⟩
    go_wp2_with fail
    refine (HN.out _).mono ?_
    rintro e w' ⟨rfl, n, rfl⟩
    go_wp2_with fail
    go_ret2
    exact ⟨ret_p S.out, _, rfl⟩

theorem abs_u64 {a : Int} (h : i64 a) : u64 (Lv.abs a) := ⟨abs_nonneg a, by have := abs_le h; omega⟩

theorem neg_any (a : Int) (w : World) (h : i64 a) : Calls Try.prog 19 #[.int .i64 a] w fun e w' => e = .returned (.tuple #[.int .i64 (dNeg a).1, .bool (dNeg a).2]) ∧ ∃ n, w' = w.drewN n := by
  have hs : fit (sg (decide (0 < a)) (0 * 18446744073709551616 + Lv.abs a)) = dNeg a := by
    unfold dNeg
    congr 1
    unfold sg Lv.abs
    by_cases c : 0 < a
    · simp [c]; omega
    · simp [c]; omega
  have S := Lib.hid (signed_any 0 (Lv.abs a) (decide (0 < a)) w ⟨by omega, by omega⟩ (abs_u64 h))
  rw [hs] at S
  have Z := Lib.hid (size_any a w h)
  obtain ⟨h1, h2⟩ := h
  go_enter Try.func19, Try.ntmps19
  go_wp2_with fail
  refine Z.out.mono ?_
  rintro e w' ⟨rfl, rfl⟩
  go_wp2_with fail
  refine S.out.mono ?_
  rintro e w' ⟨rfl, rfl⟩
  go_wp2_with fail
  go_ret2
  exact ⟨rfl, 0, rfl⟩

theorem bne_neg (a b : Int) : (Lv.neg a != Lv.neg b) = (decide (a < 0) != decide (b < 0)) := rfl

theorem mul_any (a b : Int) (w : World) (h : i64 a) (h' : i64 b) : Calls Try.prog 21 #[.int .i64 a, .int .i64 b] w fun e w' => e = .returned (.tuple #[.int .i64 (dMul a b).1, .bool (dMul a b).2]) ∧ ∃ n, w' = w.drewN n := by
  have hs : scaled (Lv.abs a) (Lv.abs b) 10000 (decide (a < 0) != decide (b < 0)) = dMul a b := by
    unfold dMul scaled; rw [if_neg (by omega)]; rfl
  have S := fun w => scaled_any (Lv.abs a) (Lv.abs b) 10000 (decide (a < 0) != decide (b < 0)) w (abs_u64 h) (abs_u64 h') ⟨by omega, by omega⟩
  rw [hs] at S
  have HS := Lib.hid S
  have Z := Lib.hid (fun w => size_any a w h)
  have Z2 := Lib.hid (fun w => size_any b w h')
  clear S hs
  obtain ⟨h1, h2⟩ := h
  go_enter Try.func21, Try.ntmps21
  go_wp2_with fail
  refine (Z.out _).mono ?_
  rintro e w' ⟨rfl, rfl⟩
  go_wp2_with fail
  refine (Z2.out _).mono ?_
  rintro e w' ⟨rfl, rfl⟩
  go_wp2_with fail
  refine (HS.out _).mono ?_
  rintro e w' ⟨rfl, n, rfl⟩
  go_wp2_with fail
  go_ret2
  exact ⟨rfl, _, rfl⟩

theorem quo_any (a b : Int) (w : World) (h : i64 a) (h' : i64 b) : Calls Try.prog 23 #[.int .i64 a, .int .i64 b] w fun e w' => e = .returned (.tuple #[.int .i64 (dQuo a b).1, .bool (dQuo a b).2]) ∧ ∃ n, w' = w.drewN n := by
  have hs : scaled (Lv.abs a) 10000 (Lv.abs b) (decide (a < 0) != decide (b < 0)) = dQuo a b := by
    unfold dQuo scaled
    by_cases c : b = 0
    · rw [if_pos c, if_pos ((abs_zero b).2 c)]
    · rw [if_neg c, if_neg (fun x => c ((abs_zero b).1 x))]; rfl
  have S := fun w => scaled_any (Lv.abs a) 10000 (Lv.abs b) (decide (a < 0) != decide (b < 0)) w (abs_u64 h) ⟨by omega, by omega⟩ (abs_u64 h')
  rw [hs] at S
  have HS := Lib.hid S
  have Z := Lib.hid (fun w => size_any a w h)
  have Z2 := Lib.hid (fun w => size_any b w h')
  clear S hs
  obtain ⟨h1, h2⟩ := h
  go_enter Try.func23, Try.ntmps23
  go_wp2_with fail
  refine (Z.out _).mono ?_
  rintro e w' ⟨rfl, rfl⟩
  go_wp2_with fail
  refine (Z2.out _).mono ?_
  rintro e w' ⟨rfl, rfl⟩
  go_wp2_with fail
  refine (HS.out _).mono ?_
  rintro e w' ⟨rfl, n, rfl⟩
  go_wp2_with fail
  go_ret2
  exact ⟨rfl, _, rfl⟩
end Go.Proofs.Ytingopdeckgpaaa
