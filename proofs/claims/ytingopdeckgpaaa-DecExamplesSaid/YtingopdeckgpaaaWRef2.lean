/- Walks of the reference of layer 1: rounding, products, quotients. -/
import Derived.Test.YtingopdeckgpaaaWDivide
namespace Go.Proofs.Ytingopdeckgpaaa
set_option linter.unusedVariables false
set_option linter.unusedSimpArgs false
open Go.RowKit Lv

theorem divide_any (h l d : Int) (w : World) (hh : u64 h) (hl : u64 l) (d0 : 0 < d) (d2 : d ≤ 18446744073709551615) :
    Calls Try.prog 69 #[.agg #[.int .u64 h, .int .u64 l], .int .u64 d] w fun e w' => e = .returned (.tuple #[.agg #[.int .u64 (hi64 (wd h l / d)), .int .u64 (lo64 (wd h l / d))], .int .u64 (wd h l % d)]) ∧ Kept w w' := by
  have x0 : 0 ≤ wd h l := by unfold wd; have := hh.1; have := hl.1; omega
  have x1 : wd h l < 340282366920938463463374607431768211456 := by unfold wd; have := hh.2; have := hl.2; omega
  have H := divide_X (wd h l) d w x0 x1 d0 d2
  rw [hi64_wd hh hl, lo64_wd hh hl] at H
  exact H

theorem plus1 {q : Int} (q0 : 0 ≤ q) (q1 : q < 340282366920938463463374607431768211456) : hi64 (wd (hi64 q) (lo64 q) + wd 0 1) = hi64 (q + 1) ∧ lo64 (wd (hi64 q) (lo64 q) + wd 0 1) = lo64 (q + 1) := by
  rw [wd_in q0 q1]; exact ⟨rfl, rfl⟩

set_option maxHeartbeats 1000000 in
theorem rnearest_any (h l d : Int) (w : World) (hh : u64 h) (hl : u64 l) (d0 : 0 < d) (d2 : d ≤ 18446744073709551615) :
    Calls Try.prog 58 #[.agg #[.int .u64 h, .int .u64 l], .int .u64 d] w fun e w' => e = .returned (.agg #[.int .u64 (hi64 (rnd (wd h l) d)), .int .u64 (lo64 (rnd (wd h l) d))]) ∧ Kept w w' := by
  have x0 : 0 ≤ wd h l := by unfold wd; have := hh.1; have := hl.1; omega
  have x1 : wd h l < 340282366920938463463374607431768211456 := by unfold wd; have := hh.2; have := hl.2; omega
  have D := Lib.hid (fun w => divide_any h l d w hh hl d0 d2)
  have R := Lib.hid (show rnd (wd h l) d = wd h l / d + if d ≤ 2 * (wd h l % d) then 1 else 0 from rfl)
  have q0 : 0 ≤ wd h l / d := Int.ediv_nonneg x0 (by omega)
  have q1 : wd h l / d ≤ wd h l := Int.ediv_le_self d x0
  have r0 := Int.emod_nonneg (wd h l) (b := d) (by omega)
  have r1 := Int.emod_lt_of_pos (wd h l) d0
  have p1 := plus1 q0 (by omega)
  obtain ⟨p1, p2⟩ := p1
  generalize rnd (wd h l) d = n at *
  generalize wd h l / d = q at *
  generalize wd h l % d = r at *
  generalize wd h l = X at *
  have W := Lib.hid (show True from trivial)
  by_cases c : d - r ≤ r
  · have E : Hid (n = q + 1) := by rw [R.out, if_pos (by omega)]; rfl
    clear R
    go_enter Try.func58, Try.ntmps58
    go_wp2_with fail
    refine (D.out _).mono ?_
    rintro e w1 ⟨rfl, hk1⟩
    obtain ⟨hk1c, hk1f⟩ := bcell hk1
    have hk1z := Below.size hk1
    try simp only [World.size_alloc, World.size_setCell] at hk1z hk1c hk1f
    try have hk1x : w.heap.size ≤ w1.heap.size := by omega
    try have hk1y := Nat.lt_of_succ_le hk1z
    try have hk1x2 : w.heap.size < w1.heap.size := by omega
    have bo : Box w1 (w.heap.size + 1) 56 #[.int .u64 0, .int .u64 0] := Box.kept hk1 (by repeat (first | with_reducible assumption | (with_reducible refine Box.newAt ?_ _ _; (simp; done)) | with_reducible apply Box.drew | with_reducible apply Box.drewN | (with_reducible refine Box.alloc ?_ _) | (with_reducible apply Box.s20) | (with_reducible apply Box.s21) | (with_reducible apply Box.s1) | (with_reducible apply Box.s40) | (with_reducible apply Box.s41) | (with_reducible apply Box.s42) | (with_reducible apply Box.s43) | (with_reducible refine Box.farX ?_ ?_ _; focus (first | (simp; done) | (simp; omega)))))
    have bo_0 := Box.c0 bo; have bo_1 := Box.c1 bo; have bo_f := Box.loose bo 0; have bo_g := Box.loose bo 1
    go_wp2_with fail
    refine (plus_any _ _ _ _ _ (hi64_u _) (lo64_u _) ⟨by omega, by omega⟩ ⟨by omega, by omega⟩).mono ?_
    rintro e w2 ⟨rfl, hk2⟩
    obtain ⟨hk2c, hk2f⟩ := bcell hk2
    have hk2z := Below.size hk2
    try simp only [World.size_alloc, World.size_setCell] at hk2z hk2c hk2f
    try have hk2x : w.heap.size ≤ w2.heap.size := by omega
    try have hk2y := Nat.lt_of_succ_le hk2z
    try have hk2x2 : w.heap.size < w2.heap.size := by omega
    have bp : Box w2 (w.heap.size + 1) 56 #[.int .u64 0, .int .u64 0] := Box.kept hk2 (by repeat (first | with_reducible assumption | (with_reducible refine Box.newAt ?_ _ _; (simp; done)) | with_reducible apply Box.drew | with_reducible apply Box.drewN | (with_reducible refine Box.alloc ?_ _) | (with_reducible apply Box.s20) | (with_reducible apply Box.s21) | (with_reducible apply Box.s1) | (with_reducible apply Box.s40) | (with_reducible apply Box.s41) | (with_reducible apply Box.s42) | (with_reducible apply Box.s43) | (with_reducible refine Box.farX ?_ ?_ _; focus (first | (simp; done) | (simp; omega)))))
    have bq : Box w2 w1.heap.size 56 #[.int .u64 (hi64 q), .int .u64 (lo64 q)] := Box.kept hk2 (by repeat (first | with_reducible assumption | (with_reducible refine Box.newAt ?_ _ _; (simp; done)) | with_reducible apply Box.drew | with_reducible apply Box.drewN | (with_reducible refine Box.alloc ?_ _) | (with_reducible apply Box.s20) | (with_reducible apply Box.s21) | (with_reducible apply Box.s1) | (with_reducible apply Box.s40) | (with_reducible apply Box.s41) | (with_reducible apply Box.s42) | (with_reducible apply Box.s43) | (with_reducible refine Box.farX ?_ ?_ _; focus (first | (simp; done) | (simp; omega)))))
    clear bo_0 bo_1 bo_f bo_g
    have bp_0 := Box.c0 bp; have bp_1 := Box.c1 bp; have bp_f := Box.loose bp 0; have bp_g := Box.loose bp 1; have bq_0 := Box.c0 bq; have bq_1 := Box.c1 bq; have bq_f := Box.loose bq 0; have bq_g := Box.loose bq 1
    go_wp2_with fail
    exact bodyPost_ret (v := .agg #[.int .u64 (hi64 (q + 1)), .int .u64 (lo64 (q + 1))]) (by simp [results, Try.results58, go_sem, bp_0, bp_1]) rfl ⟨by rw [E.out], (by repeat (first | with_reducible exact Kept.refl _ | with_reducible apply Kept.drew | with_reducible apply Kept.drewN | with_reducible apply Kept.alloc | (with_reducible refine Kept.setCellX ?_ ?_ _; focus (first | (simp; done) | (simp; omega))) | (with_reducible refine Kept.trans ?_ (by assumption))))⟩
  · have E : Hid (n = q) := by rw [R.out, if_neg (by omega), Int.add_zero]; rfl
    clear R
    go_enter Try.func58, Try.ntmps58
    go_wp2_with fail
    refine (D.out _).mono ?_
    rintro e w1 ⟨rfl, hk1⟩
    obtain ⟨hk1c, hk1f⟩ := bcell hk1
    have hk1z := Below.size hk1
    try simp only [World.size_alloc, World.size_setCell] at hk1z hk1c hk1f
    try have hk1x : w.heap.size ≤ w1.heap.size := by omega
    try have hk1y := Nat.lt_of_succ_le hk1z
    try have hk1x2 : w.heap.size < w1.heap.size := by omega
    have bo : Box w1 (w.heap.size + 1) 56 #[.int .u64 0, .int .u64 0] := Box.kept hk1 (by repeat (first | with_reducible assumption | (with_reducible refine Box.newAt ?_ _ _; (simp; done)) | with_reducible apply Box.drew | with_reducible apply Box.drewN | (with_reducible refine Box.alloc ?_ _) | (with_reducible apply Box.s20) | (with_reducible apply Box.s21) | (with_reducible apply Box.s1) | (with_reducible apply Box.s40) | (with_reducible apply Box.s41) | (with_reducible apply Box.s42) | (with_reducible apply Box.s43) | (with_reducible refine Box.farX ?_ ?_ _; focus (first | (simp; done) | (simp; omega)))))
    have bo_0 := Box.c0 bo; have bo_1 := Box.c1 bo; have bo_f := Box.loose bo 0; have bo_g := Box.loose bo 1
    go_wp2_with fail
    exact bodyPost_ret (v := .agg #[.int .u64 (hi64 q), .int .u64 (lo64 q)]) (by simp [results, Try.results58, go_sem, bo_0, bo_1, hk1y]) rfl ⟨by rw [E.out], (by repeat (first | with_reducible exact Kept.refl _ | with_reducible apply Kept.drew | with_reducible apply Kept.drewN | with_reducible apply Kept.alloc | (with_reducible refine Kept.setCellX ?_ ?_ _; focus (first | (simp; done) | (simp; omega))) | (with_reducible refine Kept.trans ?_ (by assumption))))⟩

theorem wd_rnd {X d : Int} (x0 : 0 ≤ X) (x1 : X < 340282366920938463463374607431768211456) (d0 : 0 < d) : wd (hi64 (rnd X d)) (lo64 (rnd X d)) = rnd X d := by
  have q0 : 0 ≤ X / d := Int.ediv_nonneg x0 (by omega)
  have q1 : X / d ≤ X := Int.ediv_le_self d x0
  refine wd_in (by unfold rnd; split <;> omega) ?_
  unfold rnd
  split
  · by_cases c : d = 1
    · subst c; omega
    · have : X / d < 170141183460469231731687303715884105728 := Int.ediv_lt_of_lt_mul (by omega) (by omega)
      omega
  · omega

theorem rneg_any (a : Int) (w : World) (h : i64 a) : Calls Try.prog 20 #[.int .i64 a] w fun e w' => e = .returned (.tuple #[.int .i64 (dNeg a).1, .bool (dNeg a).2]) ∧ Kept w w' := by
  have hs : fit (sg (decide (0 < a)) (wd 0 (Lv.abs a))) = dNeg a := by
    unfold dNeg wd
    congr 1
    unfold sg Lv.abs
    by_cases c : 0 < a
    · simp [c]; omega
    · simp [c]; omega
  have S := Lib.hid (fun w => rsigned_any 0 (Lv.abs a) (decide (0 < a)) w ⟨by omega, by omega⟩ (abs_u64 h))
  rw [hs] at S
  have Z := Lib.hid (rsize_any a w h)
  obtain ⟨h1, h2⟩ := h
  go_enter Try.func20, Try.ntmps20
  go_wp2_with fail
  refine (Z.out).mono ?_
  rintro e w' ⟨rfl, rfl⟩
  go_wp2_with fail
  refine (S.out _).mono ?_
  rintro e w' ⟨rfl, hk⟩
  go_wp2_with fail
  go_ret2
  exact ⟨rfl, (by repeat (first | with_reducible exact Kept.refl _ | with_reducible apply Kept.drew | with_reducible apply Kept.drewN | with_reducible apply Kept.alloc | (with_reducible refine Kept.setCellX ?_ ?_ _; focus (first | (simp; done) | (simp; omega))) | (with_reducible refine Kept.trans ?_ (by assumption))))⟩

theorem rmul_any (a b : Int) (w : World) (h : i64 a) (h' : i64 b) : Calls Try.prog 22 #[.int .i64 a, .int .i64 b] w fun e w' => e = .returned (.tuple #[.int .i64 (dMul a b).1, .bool (dMul a b).2]) ∧ Kept w w' := by
  have ab := abs_u64 h
  have bb := abs_u64 h'
  have p0 : 0 ≤ Lv.abs a * Lv.abs b := Int.mul_nonneg ab.1 bb.1
  have p1 : Lv.abs a * Lv.abs b < 340282366920938463463374607431768211456 := by
    have := Int.mul_le_mul ab.2 bb.2 bb.1 (by omega); omega
  have hs : fit (sg (decide (a < 0) != decide (b < 0)) (wd (hi64 (rnd (Lv.abs a * Lv.abs b) 10000)) (lo64 (rnd (Lv.abs a * Lv.abs b) 10000)))) = dMul a b := by
    rw [wd_rnd p0 p1 (by omega)]; rfl
  have T := Lib.hid (fun w => times_any (Lv.abs a) (Lv.abs b) w ab bb)
  have N := fun w => rnearest_any (hi64 (Lv.abs a * Lv.abs b)) (lo64 (Lv.abs a * Lv.abs b)) 10000 w (hi64_u _) (lo64_u _) (by omega) (by omega)
  rw [wd_in p0 p1] at N
  have HN := Lib.hid N
  have S := fun w => rsigned_any (hi64 (rnd (Lv.abs a * Lv.abs b) 10000)) (lo64 (rnd (Lv.abs a * Lv.abs b) 10000)) (decide (a < 0) != decide (b < 0)) w (hi64_u _) (lo64_u _)
  rw [hs] at S
  have HS := Lib.hid S
  have Z := Lib.hid (fun w => rsize_any a w h)
  have Z2 := Lib.hid (fun w => rsize_any b w h')
  clear S N hs p0 p1
  obtain ⟨h1, h2⟩ := h
  go_enter Try.func22, Try.ntmps22
  go_wp2_with fail
  refine (Z.out _).mono ?_
  rintro e w' ⟨rfl, rfl⟩
  go_wp2_with fail
  refine (Z2.out _).mono ?_
  rintro e w' ⟨rfl, rfl⟩
  go_wp2_with fail
  refine (T.out _).mono ?_
  rintro e w1 ⟨rfl, hk1⟩
  obtain ⟨hk1c, hk1f⟩ := bcell hk1
  have hk1z := Below.size hk1
  try simp only [World.size_alloc, World.size_setCell] at hk1z hk1c hk1f
  try have hk1x : w.heap.size ≤ w1.heap.size := by omega
  try have hk1y := Nat.lt_of_succ_le hk1z
  try have hk1x2 : w.heap.size < w1.heap.size := by omega
  go_wp2_with fail
  refine (HN.out _).mono ?_
  rintro e w2 ⟨rfl, hk2⟩
  obtain ⟨hk2c, hk2f⟩ := bcell hk2
  have hk2z := Below.size hk2
  try simp only [World.size_alloc, World.size_setCell] at hk2z hk2c hk2f
  try have hk2x : w.heap.size ≤ w2.heap.size := by omega
  try have hk2y := Nat.lt_of_succ_le hk2z
  try have hk2x2 : w.heap.size < w2.heap.size := by omega
  go_wp2_with fail
  refine (HS.out _).mono ?_
  rintro e w3 ⟨rfl, hk3⟩
  obtain ⟨hk3c, hk3f⟩ := bcell hk3
  have hk3z := Below.size hk3
  try simp only [World.size_alloc, World.size_setCell] at hk3z hk3c hk3f
  try have hk3x : w.heap.size ≤ w3.heap.size := by omega
  try have hk3y := Nat.lt_of_succ_le hk3z
  try have hk3x2 : w.heap.size < w3.heap.size := by omega
  go_wp2_with fail
  go_ret2
  exact ⟨rfl, (by repeat (first | with_reducible exact Kept.refl _ | with_reducible apply Kept.drew | with_reducible apply Kept.drewN | with_reducible apply Kept.alloc | (with_reducible refine Kept.setCellX ?_ ?_ _; focus (first | (simp; done) | (simp; omega))) | (with_reducible refine Kept.trans ?_ (by assumption))))⟩

theorem rquo_any (a b : Int) (w : World) (h : i64 a) (h' : i64 b) : Calls Try.prog 24 #[.int .i64 a, .int .i64 b] w fun e w' => e = .returned (.tuple #[.int .i64 (dQuo a b).1, .bool (dQuo a b).2]) ∧ Kept w w' := by
  by_cases c : b = 0
  · subst c
    have E := Lib.hid (show dQuo a 0 = (0, false) from if_pos rfl)
    go_enter Try.func24, Try.ntmps24
    go_wp2
    go_ret2
    exact ⟨ret_p E.out, (by repeat (first | with_reducible exact Kept.refl _ | with_reducible apply Kept.drew | with_reducible apply Kept.drewN | with_reducible apply Kept.alloc | (with_reducible refine Kept.setCellX ?_ ?_ _; focus (first | (simp; done) | (simp; omega))) | (with_reducible refine Kept.trans ?_ (by assumption))))⟩
  · have ab := abs_u64 h
    have bb := abs_u64 h'
    have b0 : Lv.abs b ≠ 0 := fun x => c ((abs_zero b).1 x)
    have b1 : 0 < Lv.abs b := by have := bb.1; omega
    have b2 := bb.2
    have p0 : 0 ≤ Lv.abs a * 10000 := by have := ab.1; omega
    have p1 : Lv.abs a * 10000 < 340282366920938463463374607431768211456 := by have := ab.2; omega
    have hs : fit (sg (decide (a < 0) != decide (b < 0)) (wd (hi64 (rnd (Lv.abs a * 10000) (Lv.abs b))) (lo64 (rnd (Lv.abs a * 10000) (Lv.abs b))))) = dQuo a b := by
      rw [wd_rnd p0 p1 b1]; unfold dQuo; rw [if_neg c]; rfl
    have T := Lib.hid (fun w => times_any (Lv.abs a) 10000 w ab ⟨by omega, by omega⟩)
    have N := fun w => rnearest_any (hi64 (Lv.abs a * 10000)) (lo64 (Lv.abs a * 10000)) (Lv.abs b) w (hi64_u _) (lo64_u _) b1 b2
    rw [wd_in p0 p1] at N
    have HN := Lib.hid N
    have S := fun w => rsigned_any (hi64 (rnd (Lv.abs a * 10000) (Lv.abs b))) (lo64 (rnd (Lv.abs a * 10000) (Lv.abs b))) (decide (a < 0) != decide (b < 0)) w (hi64_u _) (lo64_u _)
    rw [hs] at S
    have HS := Lib.hid S
    have Z := Lib.hid (fun w => rsize_any a w h)
    have Z2 := Lib.hid (fun w => rsize_any b w h')
    have c' : (b == 0) = false := beq_eq_false_iff_ne.2 c
    clear S N hs p0 p1 b0 b1 b2 ab bb c
    obtain ⟨h1, h2⟩ := h
    go_enter Try.func24, Try.ntmps24
    go_wp2_with fail
    refine (Z.out _).mono ?_
    rintro e w' ⟨rfl, rfl⟩
    go_wp2_with fail
    refine (T.out _).mono ?_
    rintro e w1 ⟨rfl, hk1⟩
    obtain ⟨hk1c, hk1f⟩ := bcell hk1
    have hk1z := Below.size hk1
    try simp only [World.size_alloc, World.size_setCell] at hk1z hk1c hk1f
    try have hk1x : w.heap.size ≤ w1.heap.size := by omega
    try have hk1y := Nat.lt_of_succ_le hk1z
    try have hk1x2 : w.heap.size < w1.heap.size := by omega
    go_wp2_with fail
    refine (Z2.out _).mono ?_
    rintro e w' ⟨rfl, rfl⟩
    go_wp2_with fail
    refine (HN.out _).mono ?_
    rintro e w2 ⟨rfl, hk2⟩
    obtain ⟨hk2c, hk2f⟩ := bcell hk2
    have hk2z := Below.size hk2
    try simp only [World.size_alloc, World.size_setCell] at hk2z hk2c hk2f
    try have hk2x : w.heap.size ≤ w2.heap.size := by omega
    try have hk2y := Nat.lt_of_succ_le hk2z
    try have hk2x2 : w.heap.size < w2.heap.size := by omega
    go_wp2_with fail
    refine (HS.out _).mono ?_
    rintro e w3 ⟨rfl, hk3⟩
    obtain ⟨hk3c, hk3f⟩ := bcell hk3
    have hk3z := Below.size hk3
    try simp only [World.size_alloc, World.size_setCell] at hk3z hk3c hk3f
    try have hk3x : w.heap.size ≤ w3.heap.size := by omega
    try have hk3y := Nat.lt_of_succ_le hk3z
    try have hk3x2 : w.heap.size < w3.heap.size := by omega
    go_wp2_with fail
    go_ret2
    exact ⟨rfl, (by repeat (first | with_reducible exact Kept.refl _ | with_reducible apply Kept.drew | with_reducible apply Kept.drewN | with_reducible apply Kept.alloc | (with_reducible refine Kept.setCellX ?_ ?_ _; focus (first | (simp; done) | (simp; omega))) | (with_reducible refine Kept.trans ?_ (by assumption))))⟩
end Go.Proofs.Ytingopdeckgpaaa
