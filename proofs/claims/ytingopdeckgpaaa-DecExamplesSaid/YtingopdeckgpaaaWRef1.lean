/- Walks of the reference of layer 1: numbers of 128 bits. -/
import Derived.Test.YtingopdeckgpaaaWDec1
import Derived.Test.YtingopdeckgpaaaMRef
import Derived.Test.YtingopdeckgpaaaBase2
namespace Go.Proofs.Ytingopdeckgpaaa
set_option linter.unusedVariables false
set_option linter.unusedSimpArgs false
open Go.RowKit Lv

theorem rsize_any (a : Int) (w : World) (h : i64 a) : Calls Try.prog 52 #[.int .i64 a] w fun e w' => e = .returned (.int .u64 (Lv.abs a)) ∧ w = w' := by
  obtain ⟨h1, h2⟩ := h
  by_cases c : a < 0
  · have e1 : Lv.abs a = -(a + 1) + 1 := by unfold Lv.abs; rw [if_pos c]; omega
    have E := Lib.hid e1; clear e1
    go_enter Try.func52, Try.ntmps52
    go_wp2
    go_ret
    exact ⟨ret_int E.out.symm, rfl⟩
  · have e1 : Lv.abs a = a := by unfold Lv.abs; rw [if_neg c]
    have E := Lib.hid e1; clear e1
    go_enter Try.func52, Try.ntmps52
    go_wp2
    go_ret
    exact ⟨ret_int E.out.symm, rfl⟩

theorem plus_hi {a b c d : Int} (a1 : 0 ≤ a) (a2 : a ≤ 18446744073709551615) (b1 : 0 ≤ b) (b2 : b ≤ 18446744073709551615) (c1 : 0 ≤ c) (c2 : c ≤ 18446744073709551615) (d1 : 0 ≤ d) (d2 : d ≤ 18446744073709551615) :
    (IntKind.u64.wrap (b + d) = lo64 (wd a b + wd c d)) ∧ (IntKind.u64.wrap (b + d) < b → IntKind.u64.wrap (IntKind.u64.wrap (a + c) + 1) = hi64 (wd a b + wd c d)) ∧ (b ≤ IntKind.u64.wrap (b + d) → IntKind.u64.wrap (a + c) = hi64 (wd a b + wd c d)) := by
  simp only [wrap_def, lo64, hi64, wd]
  refine ⟨by omega, fun h => by omega, fun h => by omega⟩

theorem plus_any (a b c d : Int) (w : World) (ha : u64 a) (hb : u64 b) (hc : u64 c) (hd : u64 d) :
    Calls Try.prog 51 #[.agg #[.int .u64 a, .int .u64 b], .agg #[.int .u64 c, .int .u64 d]] w fun e w' => e = .returned (.agg #[.int .u64 (hi64 (wd a b + wd c d)), .int .u64 (lo64 (wd a b + wd c d))]) ∧ Kept w w' := by
  obtain ⟨a1, a2⟩ := ha
  obtain ⟨b1, b2⟩ := hb
  obtain ⟨c1, c2⟩ := hc
  obtain ⟨d1, d2⟩ := hd
  have H := Lib.hid (plus_hi a1 a2 b1 b2 c1 c2 d1 d2)
  go_enter Try.func51, Try.ntmps51
  go_wp2
  · exact bodyPost_ret (v := .agg #[_, _]) (by simp [results, Try.results51, go_sem]) rfl ⟨ret_agg2 (H.out.2.1 (by assumption)) H.out.1, (by repeat (first | with_reducible exact Kept.refl _ | with_reducible apply Kept.drew | with_reducible apply Kept.drewN | with_reducible apply Kept.alloc | (with_reducible refine Kept.setCellX ?_ ?_ _; focus (first | (simp; done) | (simp; omega))) | (with_reducible refine Kept.trans ?_ (by assumption))))⟩
  · exact bodyPost_ret (v := .agg #[_, _]) (by simp [results, Try.results51, go_sem]) rfl ⟨ret_agg2 (H.out.2.2 (by assumption)) H.out.1, (by repeat (first | with_reducible exact Kept.refl _ | with_reducible apply Kept.drew | with_reducible apply Kept.drewN | with_reducible apply Kept.alloc | (with_reducible refine Kept.setCellX ?_ ?_ _; focus (first | (simp; done) | (simp; omega))) | (with_reducible refine Kept.trans ?_ (by assumption))))⟩

theorem minus_hi {a b c d : Int} (a1 : 0 ≤ a) (a2 : a ≤ 18446744073709551615) (b1 : 0 ≤ b) (b2 : b ≤ 18446744073709551615) (c1 : 0 ≤ c) (c2 : c ≤ 18446744073709551615) (d1 : 0 ≤ d) (d2 : d ≤ 18446744073709551615) :
    (IntKind.u64.wrap (b - d) = lo64 (wd a b - wd c d)) ∧ (b < d → IntKind.u64.wrap (IntKind.u64.wrap (a - c) - 1) = hi64 (wd a b - wd c d)) ∧ (d ≤ b → IntKind.u64.wrap (a - c) = hi64 (wd a b - wd c d)) := by
  simp only [wrap_def, lo64, hi64, wd]
  refine ⟨by omega, fun h => by omega, fun h => by omega⟩

theorem minus_any (a b c d : Int) (w : World) (ha : u64 a) (hb : u64 b) (hc : u64 c) (hd : u64 d) :
    Calls Try.prog 55 #[.agg #[.int .u64 a, .int .u64 b], .agg #[.int .u64 c, .int .u64 d]] w fun e w' => e = .returned (.agg #[.int .u64 (hi64 (wd a b - wd c d)), .int .u64 (lo64 (wd a b - wd c d))]) ∧ Kept w w' := by
  obtain ⟨a1, a2⟩ := ha
  obtain ⟨b1, b2⟩ := hb
  obtain ⟨c1, c2⟩ := hc
  obtain ⟨d1, d2⟩ := hd
  have H := Lib.hid (minus_hi a1 a2 b1 b2 c1 c2 d1 d2)
  go_enter Try.func55, Try.ntmps55
  go_wp2
  · exact bodyPost_ret (v := .agg #[_, _]) (by simp [results, Try.results55, go_sem]) rfl ⟨ret_agg2 (H.out.2.1 (by assumption)) H.out.1, (by repeat (first | with_reducible exact Kept.refl _ | with_reducible apply Kept.drew | with_reducible apply Kept.drewN | with_reducible apply Kept.alloc | (with_reducible refine Kept.setCellX ?_ ?_ _; focus (first | (simp; done) | (simp; omega))) | (with_reducible refine Kept.trans ?_ (by assumption))))⟩
  · exact bodyPost_ret (v := .agg #[_, _]) (by simp [results, Try.results55, go_sem]) rfl ⟨ret_agg2 (H.out.2.2 (by assumption)) ((wrap_in _ (by omega) (by omega)).symm.trans H.out.1), (by repeat (first | with_reducible exact Kept.refl _ | with_reducible apply Kept.drew | with_reducible apply Kept.drewN | with_reducible apply Kept.alloc | (with_reducible refine Kept.setCellX ?_ ?_ _; focus (first | (simp; done) | (simp; omega))) | (with_reducible refine Kept.trans ?_ (by assumption))))⟩

theorem less_any (a b c d : Int) (w : World) (ha : u64 a) (hb : u64 b) (hc : u64 c) (hd : u64 d) :
    Calls Try.prog 53 #[.agg #[.int .u64 a, .int .u64 b], .agg #[.int .u64 c, .int .u64 d]] w fun e w' => e = .returned (.bool (decide (wd a b < wd c d))) ∧ Kept w w' := by
  obtain ⟨a1, a2⟩ := ha
  obtain ⟨b1, b2⟩ := hb
  obtain ⟨c1, c2⟩ := hc
  obtain ⟨d1, d2⟩ := hd
  have H := Lib.hid (show (a < c → wd a b < wd c d) ∧ (c < a → ¬ wd a b < wd c d) ∧ (a = c → (wd a b < wd c d ↔ b < d)) by unfold wd; omega)
  by_cases k1 : a < c
  · go_enter Try.func53, Try.ntmps53
    go_wp2
    go_ret
    exact ⟨ret_bool (decide_eq_true (H.out.1 k1)).symm, (by repeat (first | with_reducible exact Kept.refl _ | with_reducible apply Kept.drew | with_reducible apply Kept.drewN | with_reducible apply Kept.alloc | (with_reducible refine Kept.setCellX ?_ ?_ _; focus (first | (simp; done) | (simp; omega))) | (with_reducible refine Kept.trans ?_ (by assumption))))⟩
  · by_cases k2 : c < a
    · have k3 : (a == c) = false := beq_eq_false_iff_ne.2 (by omega)
      go_enter Try.func53, Try.ntmps53
      go_wp2
      go_ret
      exact ⟨ret_bool (decide_eq_false (by have := H.out.2.1 k2; omega)).symm, (by repeat (first | with_reducible exact Kept.refl _ | with_reducible apply Kept.drew | with_reducible apply Kept.drewN | with_reducible apply Kept.alloc | (with_reducible refine Kept.setCellX ?_ ?_ _; focus (first | (simp; done) | (simp; omega))) | (with_reducible refine Kept.trans ?_ (by assumption))))⟩
    · obtain rfl : a = c := by omega
      have k3 : (a == a) = true := beq_iff_eq.2 rfl
      clear H
      have H := Lib.hid (show decide (b < d) = decide (wd a b < wd a d) by unfold wd; congr 1; simp)
      go_enter Try.func53, Try.ntmps53
      go_wp2
      go_ret
      exact ⟨ret_bool H.out, (by repeat (first | with_reducible exact Kept.refl _ | with_reducible apply Kept.drew | with_reducible apply Kept.drewN | with_reducible apply Kept.alloc | (with_reducible refine Kept.setCellX ?_ ?_ _; focus (first | (simp; done) | (simp; omega))) | (with_reducible refine Kept.trans ?_ (by assumption))))⟩

theorem rsigned_any (hi lo : Int) (ng : Bool) (w : World) (h : u64 hi) (h' : u64 lo) :
    Calls Try.prog 54 #[.agg #[.int .u64 hi, .int .u64 lo], .bool ng] w fun e w' => e = .returned (.tuple #[.int .i64 (fit (sg ng (wd hi lo))).1, .bool (fit (sg ng (wd hi lo))).2]) ∧ Kept w w' := by
  obtain ⟨h1, h2⟩ := h
  obtain ⟨h3, h4⟩ := h'
  by_cases c : hi = 0
  · subst c
    by_cases c2 : lo ≤ 9223372036854775807
    · have e1 : fit (sg ng (wd 0 lo)) = (sg ng lo, true) := by
        rw [show wd 0 lo = lo by unfold wd; omega]
        cases ng
        · exact fit_in (by simp [sg]; omega) (by simp [sg]; omega)
        · exact fit_in (by simp [sg]; omega) (by simp [sg]; omega)
      rw [e1]
      cases ng
      · go_enter Try.func54, Try.ntmps54
        go_wp2
        go_ret2
        exact ⟨rfl, (by repeat (first | with_reducible exact Kept.refl _ | with_reducible apply Kept.drew | with_reducible apply Kept.drewN | with_reducible apply Kept.alloc | (with_reducible refine Kept.setCellX ?_ ?_ _; focus (first | (simp; done) | (simp; omega))) | (with_reducible refine Kept.trans ?_ (by assumption))))⟩
      · go_enter Try.func54, Try.ntmps54
        go_wp2
        go_ret2
        exact ⟨rfl, (by repeat (first | with_reducible exact Kept.refl _ | with_reducible apply Kept.drew | with_reducible apply Kept.drewN | with_reducible apply Kept.alloc | (with_reducible refine Kept.setCellX ?_ ?_ _; focus (first | (simp; done) | (simp; omega))) | (with_reducible refine Kept.trans ?_ (by assumption))))⟩
    · have e1 : fit (sg ng (wd 0 lo)) = (0, false) := by
        refine fit_out ?_; unfold wd; cases ng <;> simp only [sg] <;> simp <;> omega
      rw [e1]
      go_enter Try.func54, Try.ntmps54
      go_wp2
      go_ret2
      exact ⟨rfl, (by repeat (first | with_reducible exact Kept.refl _ | with_reducible apply Kept.drew | with_reducible apply Kept.drewN | with_reducible apply Kept.alloc | (with_reducible refine Kept.setCellX ?_ ?_ _; focus (first | (simp; done) | (simp; omega))) | (with_reducible refine Kept.trans ?_ (by assumption))))⟩
  · have e1 : fit (sg ng (wd hi lo)) = (0, false) := by
      refine fit_out ?_; unfold wd; cases ng <;> simp only [sg] <;> simp <;> omega
    rw [e1]
    have c' : (hi != 0) = true := by rw [bne_iff_ne]; exact c
    go_enter Try.func54, Try.ntmps54
    go_wp2
    go_ret2
    exact ⟨rfl, (by repeat (first | with_reducible exact Kept.refl _ | with_reducible apply Kept.drew | with_reducible apply Kept.drewN | with_reducible apply Kept.alloc | (with_reducible refine Kept.setCellX ?_ ?_ _; focus (first | (simp; done) | (simp; omega))) | (with_reducible refine Kept.trans ?_ (by assumption))))⟩

/-- the reference's product by halves -/
theorem times_sum {p q r s : Int} (p0 : 0 ≤ p) (p1 : p ≤ 18446744065119617025) (q0 : 0 ≤ q) (q1 : q ≤ 18446744065119617025) (r0 : 0 ≤ r) (r1 : r ≤ 18446744065119617025) (s0 : 0 ≤ s) (s1 : s ≤ 18446744065119617025)
    (h : p * 18446744073709551616 + (q + r) * 4294967296 + s < 340282366920938463463374607431768211456) :
    wd (hi64 (wd p s + wd (q / 4294967296) (q % 4294967296 * 4294967296))) (lo64 (wd p s + wd (q / 4294967296) (q % 4294967296 * 4294967296))) + wd (r / 4294967296) (r % 4294967296 * 4294967296) = p * 18446744073709551616 + (q + r) * 4294967296 + s := by
  rw [wd_hilo]
  unfold wd
  omega
theorem half_prod {a b : Int} (a0 : 0 ≤ a) (a1 : a ≤ 4294967295) (b0 : 0 ≤ b) (b1 : b ≤ 4294967295) : 0 ≤ a * b ∧ a * b ≤ 18446744065119617025 := prod_bound a b a0 a1 b0 b1

theorem times_any (a b : Int) (w : World) (ha : u64 a) (hb : u64 b) :
    Calls Try.prog 59 #[.int .u64 a, .int .u64 b] w fun e w' => e = .returned (.agg #[.int .u64 (hi64 (a * b)), .int .u64 (lo64 (a * b))]) ∧ Kept w w' := by
  obtain ⟨a1, a2⟩ := ha
  obtain ⟨b1, b2⟩ := hb
  have al0 : 0 ≤ a % 4294967296 := by omega
  have al1 : a % 4294967296 ≤ 4294967295 := by omega
  have ah0 : 0 ≤ a / 4294967296 := by omega
  have ah1 : a / 4294967296 ≤ 4294967295 := by omega
  have bl0 : 0 ≤ b % 4294967296 := by omega
  have bl1 : b % 4294967296 ≤ 4294967295 := by omega
  have bh0 : 0 ≤ b / 4294967296 := by omega
  have bh1 : b / 4294967296 ≤ 4294967295 := by omega
  have p := half_prod ah0 ah1 bh0 bh1
  have q := half_prod ah0 ah1 bl0 bl1
  have r := half_prod al0 al1 bh0 bh1
  have s := half_prod al0 al1 bl0 bl1
  obtain ⟨p0, p1⟩ := p
  obtain ⟨q0, q1⟩ := q
  obtain ⟨r0, r1⟩ := r
  obtain ⟨s0, s1⟩ := s
  have e : a * b = (a / 4294967296 * (b / 4294967296)) * 18446744073709551616 + (a / 4294967296 * (b % 4294967296) + a % 4294967296 * (b / 4294967296)) * 4294967296 + a % 4294967296 * (b % 4294967296) := by
    have h1 : a = a / 4294967296 * 4294967296 + a % 4294967296 := by omega
    have h2 : b = b / 4294967296 * 4294967296 + b % 4294967296 := by omega
    generalize a / 4294967296 = x1 at *
    generalize a % 4294967296 = x0 at *
    generalize b / 4294967296 = y1 at *
    generalize b % 4294967296 = y0 at *
    subst h1; subst h2
    grind
  have lt : a * b < 340282366920938463463374607431768211456 := by
    have h1 : a * b ≤ a * 18446744073709551615 := Int.mul_le_mul_of_nonneg_left b2 a1
    omega
  rw [e] at lt
  have T := Lib.hid (times_sum p0 p1 q0 q1 r0 r1 s0 s1 lt)
  rw [← e] at T
  clear e lt
  go_enter Try.func59, Try.ntmps59
  go_wp2_with fail
  refine (plus_any _ _ _ _ _ ⟨by omega, by omega⟩ ⟨by omega, by omega⟩ ⟨by omega, by omega⟩ ⟨by omega, by omega⟩).mono ?_
  rintro e w1 ⟨rfl, hk1⟩
  obtain ⟨hk1c, hk1f⟩ := bcell hk1
  have hk1z := Below.size hk1
  try simp only [World.size_alloc, World.size_setCell] at hk1z hk1c hk1f
  try have hk1x : w.heap.size ≤ w1.heap.size := by omega
  try have hk1y := Nat.lt_of_succ_le hk1z
  try have hk1x2 : w.heap.size < w1.heap.size := by omega
  go_wp2_with fail
  refine (plus_any _ _ _ _ _ (hi64_u _) (lo64_u _) ⟨by omega, by omega⟩ ⟨by omega, by omega⟩).mono ?_
  rintro e w2 ⟨rfl, hk2⟩
  obtain ⟨hk2c, hk2f⟩ := bcell hk2
  have hk2z := Below.size hk2
  try simp only [World.size_alloc, World.size_setCell] at hk2z hk2c hk2f
  try have hk2x : w.heap.size ≤ w2.heap.size := by omega
  try have hk2y := Nat.lt_of_succ_le hk2z
  try have hk2x2 : w.heap.size < w2.heap.size := by omega
  have T' := T.out
  have q0 : w2.cell? ⟨w.heap.size, 0, none⟩ = some (.int .u64 0) := by rw [hk2c _ _ (by omega)]; go_simp
  have q1 : w2.cell? ⟨w.heap.size, 1, none⟩ = some (.int .u64 0) := by rw [hk2c _ _ (by omega)]; go_simp
  go_wp2_with fail
  exact bodyPost_ret (v := .agg #[.int .u64 (hi64 (a * b)), .int .u64 (lo64 (a * b))]) (by simp [results, Try.results59, go_sem, q0, q1]) rfl ⟨rfl, (by repeat (first | with_reducible exact Kept.refl _ | with_reducible apply Kept.drew | with_reducible apply Kept.drewN | with_reducible apply Kept.alloc | (with_reducible refine Kept.setCellX ?_ ?_ _; focus (first | (simp; done) | (simp; omega))) | (with_reducible refine Kept.trans ?_ (by assumption))))⟩
end Go.Proofs.Ytingopdeckgpaaa
