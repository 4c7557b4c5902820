/- The reference's division of 128 bits, walked. -/
import Derived.Test.YtingopdeckgpaaaWRef1
import Derived.Test.YtingopdeckgpaaaMDivide
import Derived.Test.YtingopdeckgpaaaBase3
namespace Go.Proofs.Ytingopdeckgpaaa
set_option linter.unusedVariables false
set_option linter.unusedSimpArgs false
open Go.RowKit Lv

/-- what the rounds keep -/
def DivRel (X d : Int) (w : World) (r i : Value) (wr : World) : Prop := ∃ (k : Nat) (T Y : Int), Lv.Bits X T Y k ∧ T < 340282366920938463463374607431768211456 ∧ i = .int .i64 k ∧ r = .int .u64 (T % d) ∧
  Box wr w.heap.size 56 #[.int .u64 (hi64 Y), .int .u64 (lo64 Y)] ∧ Box wr (w.heap.size + 1 + 1) 56 #[.int .u64 (hi64 (T / d)), .int .u64 (lo64 (T / d))] ∧
  Box wr (w.heap.size + 1) 56 #[.int .u64 0, .int .u64 0] ∧ Kept w wr

set_option maxHeartbeats 2000000 in
set_option maxRecDepth 100000 in
theorem divide_X (X d : Int) (w : World) (x0 : 0 ≤ X) (x1 : X < 340282366920938463463374607431768211456) (d0 : 0 < d) (d2 : d ≤ 18446744073709551615) :
    Calls Try.prog 69 #[.agg #[.int .u64 (hi64 X), .int .u64 (lo64 X)], .int .u64 d] w fun e w' => e = .returned (.tuple #[.agg #[.int .u64 (hi64 (X / d)), .int .u64 (lo64 (X / d))], .int .u64 (X % d)]) ∧ Kept w w' := by
  go_enter Try.func69, Try.ntmps69
  go_wp2_with fail
  go_loopw [7, 8] (fun r i wr => DivRel X d w r i wr) (fun _ i _ => 128 - (intOf i).toNat)
  case atStart =>
    refine ⟨0, 0, X, Bits.start x0 x1, by omega, rfl, by simp, (by repeat (first | with_reducible assumption | (with_reducible refine Box.newAt ?_ _ _; (simp; done)) | with_reducible apply Box.drew | with_reducible apply Box.drewN | (with_reducible refine Box.alloc ?_ _) | (with_reducible apply Box.s20) | (with_reducible apply Box.s21) | (with_reducible apply Box.s1) | (with_reducible apply Box.s40) | (with_reducible apply Box.s41) | (with_reducible apply Box.s42) | (with_reducible apply Box.s43) | (with_reducible refine Box.farX ?_ ?_ _; focus (first | (simp; done) | (simp; omega))))), ?_, (by repeat (first | with_reducible assumption | (with_reducible refine Box.newAt ?_ _ _; (simp; done)) | with_reducible apply Box.drew | with_reducible apply Box.drewN | (with_reducible refine Box.alloc ?_ _) | (with_reducible apply Box.s20) | (with_reducible apply Box.s21) | (with_reducible apply Box.s1) | (with_reducible apply Box.s40) | (with_reducible apply Box.s41) | (with_reducible apply Box.s42) | (with_reducible apply Box.s43) | (with_reducible refine Box.farX ?_ ?_ _; focus (first | (simp; done) | (simp; omega))))), (by repeat (first | with_reducible exact Kept.refl _ | with_reducible apply Kept.drew | with_reducible apply Kept.drewN | with_reducible apply Kept.alloc | (with_reducible refine Kept.setCellX ?_ ?_ _; focus (first | (simp; done) | (simp; omega))) | (with_reducible refine Kept.trans ?_ (by assumption))))⟩
    have e0 : hi64 (0 / d) = 0 := by rw [Int.zero_ediv]; rfl
    have e1 : lo64 (0 / d) = 0 := by rw [Int.zero_ediv]; rfl
    rw [e0, e1]
    exact (by repeat (first | with_reducible assumption | (with_reducible refine Box.newAt ?_ _ _; (simp; done)) | with_reducible apply Box.drew | with_reducible apply Box.drewN | (with_reducible refine Box.alloc ?_ _) | (with_reducible apply Box.s20) | (with_reducible apply Box.s21) | (with_reducible apply Box.s1) | (with_reducible apply Box.s40) | (with_reducible apply Box.s41) | (with_reducible apply Box.s42) | (with_reducible apply Box.s43) | (with_reducible refine Box.farX ?_ ?_ _; focus (first | (simp; done) | (simp; omega)))))
  case round =>
    obtain ⟨k, T, Y, hb, ht, rfl, rfl, bx, bq, bo, hk⟩ := hrel
    have hklt := hb.le
    by_cases hlt : k < 128
    · have hb' := hb.step hlt
      have hT' := hb'.le_X x0
      have y0 := hb.y0
      have y1 := hb.y1
      have t0 := hb.t0
      have hbit : hi64 Y / 9223372036854775808 = Y / 170141183460469231731687303715884105728 := top_bit y0 y1
      have b0 : 0 ≤ Y / 170141183460469231731687303715884105728 := by omega
      have b1 : Y / 170141183460469231731687303715884105728 ≤ 1 := by omega
      have r0 := Int.emod_nonneg T (b := d) (by omega)
      have r1 := Int.emod_lt_of_pos T d0
      have q0 : 0 ≤ T / d := Int.ediv_nonneg t0 (by omega)
      have q1 : T / d ≤ T := Int.ediv_le_self d t0
      have yh := dbl_hi y0 y1
      have yl := dbl_lo y0 y1
      have lo := Lib.hid (fun h => @bit_lo T (Y / 170141183460469231731687303715884105728) d t0 b0 b1 d0 h)
      have hi := Lib.hid (fun h => @bit_hi T (Y / 170141183460469231731687303715884105728) d t0 b0 b1 d0 h)
      have HB := Lib.hid hb'
      have HT := Lib.hid (show 2 * T + Y / 170141183460469231731687303715884105728 < 340282366920938463463374607431768211456 by omega)
      have ql : 2 * (T / d) < 340282366920938463463374607431768211456 := by omega
      have qh1 := dbl_hi' q0 ql
      have qh2 := dbl_lo' q0 ql
      clear hb hb' hT' y0 y1 ql q1 ht x0 x1 t0
      generalize Y / 170141183460469231731687303715884105728 = b at *
      generalize 2 * Y % 340282366920938463463374607431768211456 = Y' at *
      generalize hr : T % d = r at *
      generalize hq : T / d = q at *
      have Hr := Lib.hid hr
      have Hq := Lib.hid hq
      clear hr hq
      by_cases hA : 2 * r + b < d
      · have cr : (r / 9223372036854775808 == 1) = false := beq_eq_false_iff_ne.2 (by omega)
        have bx_0 := Box.c0 bx; have bx_1 := Box.c1 bx; have bx_f := Box.loose bx 0; have bx_g := Box.loose bx 1; have bq_0 := Box.c0 bq; have bq_1 := Box.c1 bq; have bq_f := Box.loose bq 0; have bq_g := Box.loose bq 1
        go_wp2_with fail
        refine (plus_any _ _ _ _ _ (hi64_u _) (lo64_u _) (hi64_u _) (lo64_u _)).mono ?_
        rintro e w1 ⟨rfl, hk1⟩
        obtain ⟨hk1c, hk1f⟩ := bcell hk1
        have hk1z := Below.size hk1
        try simp only [World.size_alloc, World.size_setCell] at hk1z hk1c hk1f
        try have hk1x : w.heap.size ≤ w1.heap.size := by omega
        try have hk1y := Nat.lt_of_succ_le hk1z
        try have hk1x2 : w.heap.size < w1.heap.size := by omega
        have bx1 := Box.kept hk1 bx; have bq1 := Box.kept hk1 bq; have bo1 := Box.kept hk1 bo
        clear bx_0 bx_1 bx_f bx_g bq_0 bq_1 bq_f bq_g
        have bx1_0 := Box.c0 bx1; have bx1_1 := Box.c1 bx1; have bx1_f := Box.loose bx1 0; have bx1_g := Box.loose bx1 1; have bq1_0 := Box.c0 bq1; have bq1_1 := Box.c1 bq1; have bq1_f := Box.loose bq1 0; have bq1_g := Box.loose bq1 1
        go_wp2_with fail
        refine (plus_any _ _ _ _ _ (hi64_u _) (lo64_u _) (hi64_u _) (lo64_u _)).mono ?_
        rintro e w2 ⟨rfl, hk2⟩
        obtain ⟨hk2c, hk2f⟩ := bcell hk2
        have hk2z := Below.size hk2
        try simp only [World.size_alloc, World.size_setCell] at hk2z hk2c hk2f
        try have hk2x : w.heap.size ≤ w2.heap.size := by omega
        try have hk2y := Nat.lt_of_succ_le hk2z
        try have hk2x2 : w.heap.size < w2.heap.size := by omega
        have bx2 : Box w2 w.heap.size 56 #[.int .u64 (hi64 Y'), .int .u64 (lo64 Y')] := Box.kept hk2 (by repeat (first | with_reducible assumption | (with_reducible refine Box.newAt ?_ _ _; (simp; done)) | with_reducible apply Box.drew | with_reducible apply Box.drewN | (with_reducible refine Box.alloc ?_ _) | (with_reducible apply Box.s20) | (with_reducible apply Box.s21) | (with_reducible apply Box.s1) | (with_reducible apply Box.s40) | (with_reducible apply Box.s41) | (with_reducible apply Box.s42) | (with_reducible apply Box.s43) | (with_reducible refine Box.farX ?_ ?_ _; focus (first | (simp; done) | (simp; omega)))))
        have bq2 : Box w2 (w.heap.size + 1 + 1) 56 #[.int .u64 (hi64 q), .int .u64 (lo64 q)] := Box.kept hk2 (by repeat (first | with_reducible assumption | (with_reducible refine Box.newAt ?_ _ _; (simp; done)) | with_reducible apply Box.drew | with_reducible apply Box.drewN | (with_reducible refine Box.alloc ?_ _) | (with_reducible apply Box.s20) | (with_reducible apply Box.s21) | (with_reducible apply Box.s1) | (with_reducible apply Box.s40) | (with_reducible apply Box.s41) | (with_reducible apply Box.s42) | (with_reducible apply Box.s43) | (with_reducible refine Box.farX ?_ ?_ _; focus (first | (simp; done) | (simp; omega)))))
        have bo2 : Box w2 (w.heap.size + 1) 56 #[.int .u64 0, .int .u64 0] := Box.kept hk2 (by repeat (first | with_reducible assumption | (with_reducible refine Box.newAt ?_ _ _; (simp; done)) | with_reducible apply Box.drew | with_reducible apply Box.drewN | (with_reducible refine Box.alloc ?_ _) | (with_reducible apply Box.s20) | (with_reducible apply Box.s21) | (with_reducible apply Box.s1) | (with_reducible apply Box.s40) | (with_reducible apply Box.s41) | (with_reducible apply Box.s42) | (with_reducible apply Box.s43) | (with_reducible refine Box.farX ?_ ?_ _; focus (first | (simp; done) | (simp; omega)))))
        clear bx1_0 bx1_1 bx1_f bx1_g bq1_0 bq1_1 bq1_f bq1_g
        have bx2_0 := Box.c0 bx2; have bx2_1 := Box.c1 bx2; have bx2_f := Box.loose bx2 0; have bx2_g := Box.loose bx2 1; have bq2_0 := Box.c0 bq2; have bq2_1 := Box.c1 bq2; have bq2_f := Box.loose bq2 0; have bq2_g := Box.loose bq2 1
        go_wp2_with fail
        go_roundw
        case rel =>
          obtain ⟨e1, e2⟩ := lo.out hA
          exact ⟨k + 1, 2 * T + b, Y', HB.out, HT.out, by go_num, by rw [e2, show r * 2 + b = 2 * r + b by omega], (by repeat (first | with_reducible assumption | (with_reducible refine Box.newAt ?_ _ _; (simp; done)) | with_reducible apply Box.drew | with_reducible apply Box.drewN | (with_reducible refine Box.alloc ?_ _) | (with_reducible apply Box.s20) | (with_reducible apply Box.s21) | (with_reducible apply Box.s1) | (with_reducible apply Box.s40) | (with_reducible apply Box.s41) | (with_reducible apply Box.s42) | (with_reducible apply Box.s43) | (with_reducible refine Box.farX ?_ ?_ _; focus (first | (simp; done) | (simp; omega))))), by rw [e1]; exact (by repeat (first | with_reducible assumption | (with_reducible refine Box.newAt ?_ _ _; (simp; done)) | with_reducible apply Box.drew | with_reducible apply Box.drewN | (with_reducible refine Box.alloc ?_ _) | (with_reducible apply Box.s20) | (with_reducible apply Box.s21) | (with_reducible apply Box.s1) | (with_reducible apply Box.s40) | (with_reducible apply Box.s41) | (with_reducible apply Box.s42) | (with_reducible apply Box.s43) | (with_reducible refine Box.farX ?_ ?_ _; focus (first | (simp; done) | (simp; omega))))), (by repeat (first | with_reducible assumption | (with_reducible refine Box.newAt ?_ _ _; (simp; done)) | with_reducible apply Box.drew | with_reducible apply Box.drewN | (with_reducible refine Box.alloc ?_ _) | (with_reducible apply Box.s20) | (with_reducible apply Box.s21) | (with_reducible apply Box.s1) | (with_reducible apply Box.s40) | (with_reducible apply Box.s41) | (with_reducible apply Box.s42) | (with_reducible apply Box.s43) | (with_reducible refine Box.farX ?_ ?_ _; focus (first | (simp; done) | (simp; omega))))), (by repeat (first | with_reducible exact Kept.refl _ | with_reducible apply Kept.drew | with_reducible apply Kept.drewN | with_reducible apply Kept.alloc | (with_reducible refine Kept.setCellX ?_ ?_ _; focus (first | (simp; done) | (simp; omega))) | (with_reducible refine Kept.trans ?_ (by assumption))))⟩
        case measure => simp [intOf]; omega
      · have e1h := Lib.hid (odd_hi q)
        have e1l := Lib.hid (odd_lo q)
        have HI := Lib.hid (hi.out (by omega))
        have lob := (lo64_u (2 * q + 1)).2
        have lob0 := (lo64_u (2 * q)).1
        have lob1 : lo64 (2 * q) + 1 ≤ 18446744073709551615 := by rw [← odd_lo]; exact lob
        clear lob
        by_cases hB : r * 2 + b ≤ 18446744073709551615
        · have cr : (r / 9223372036854775808 == 1) = false := beq_eq_false_iff_ne.2 (by omega)
          have bx_0 := Box.c0 bx; have bx_1 := Box.c1 bx; have bx_f := Box.loose bx 0; have bx_g := Box.loose bx 1; have bq_0 := Box.c0 bq; have bq_1 := Box.c1 bq; have bq_f := Box.loose bq 0; have bq_g := Box.loose bq 1
          go_wp2_with fail
          refine (plus_any _ _ _ _ _ (hi64_u _) (lo64_u _) (hi64_u _) (lo64_u _)).mono ?_
          rintro e w1 ⟨rfl, hk1⟩
          obtain ⟨hk1c, hk1f⟩ := bcell hk1
          have hk1z := Below.size hk1
          try simp only [World.size_alloc, World.size_setCell] at hk1z hk1c hk1f
          try have hk1x : w.heap.size ≤ w1.heap.size := by omega
          try have hk1y := Nat.lt_of_succ_le hk1z
          try have hk1x2 : w.heap.size < w1.heap.size := by omega
          have bx1 := Box.kept hk1 bx; have bq1 := Box.kept hk1 bq; have bo1 := Box.kept hk1 bo
          clear bx_0 bx_1 bx_f bx_g bq_0 bq_1 bq_f bq_g
          have bx1_0 := Box.c0 bx1; have bx1_1 := Box.c1 bx1; have bx1_f := Box.loose bx1 0; have bx1_g := Box.loose bx1 1; have bq1_0 := Box.c0 bq1; have bq1_1 := Box.c1 bq1; have bq1_f := Box.loose bq1 0; have bq1_g := Box.loose bq1 1
          go_wp2_with fail
          refine (plus_any _ _ _ _ _ (hi64_u _) (lo64_u _) (hi64_u _) (lo64_u _)).mono ?_
          rintro e w2 ⟨rfl, hk2⟩
          obtain ⟨hk2c, hk2f⟩ := bcell hk2
          have hk2z := Below.size hk2
          try simp only [World.size_alloc, World.size_setCell] at hk2z hk2c hk2f
          try have hk2x : w.heap.size ≤ w2.heap.size := by omega
          try have hk2y := Nat.lt_of_succ_le hk2z
          try have hk2x2 : w.heap.size < w2.heap.size := by omega
          have bx2 : Box w2 w.heap.size 56 #[.int .u64 (hi64 Y'), .int .u64 (lo64 Y')] := Box.kept hk2 (by repeat (first | with_reducible assumption | (with_reducible refine Box.newAt ?_ _ _; (simp; done)) | with_reducible apply Box.drew | with_reducible apply Box.drewN | (with_reducible refine Box.alloc ?_ _) | (with_reducible apply Box.s20) | (with_reducible apply Box.s21) | (with_reducible apply Box.s1) | (with_reducible apply Box.s40) | (with_reducible apply Box.s41) | (with_reducible apply Box.s42) | (with_reducible apply Box.s43) | (with_reducible refine Box.farX ?_ ?_ _; focus (first | (simp; done) | (simp; omega)))))
          have bq2 : Box w2 (w.heap.size + 1 + 1) 56 #[.int .u64 (hi64 q), .int .u64 (lo64 q)] := Box.kept hk2 (by repeat (first | with_reducible assumption | (with_reducible refine Box.newAt ?_ _ _; (simp; done)) | with_reducible apply Box.drew | with_reducible apply Box.drewN | (with_reducible refine Box.alloc ?_ _) | (with_reducible apply Box.s20) | (with_reducible apply Box.s21) | (with_reducible apply Box.s1) | (with_reducible apply Box.s40) | (with_reducible apply Box.s41) | (with_reducible apply Box.s42) | (with_reducible apply Box.s43) | (with_reducible refine Box.farX ?_ ?_ _; focus (first | (simp; done) | (simp; omega)))))
          have bo2 : Box w2 (w.heap.size + 1) 56 #[.int .u64 0, .int .u64 0] := Box.kept hk2 (by repeat (first | with_reducible assumption | (with_reducible refine Box.newAt ?_ _ _; (simp; done)) | with_reducible apply Box.drew | with_reducible apply Box.drewN | (with_reducible refine Box.alloc ?_ _) | (with_reducible apply Box.s20) | (with_reducible apply Box.s21) | (with_reducible apply Box.s1) | (with_reducible apply Box.s40) | (with_reducible apply Box.s41) | (with_reducible apply Box.s42) | (with_reducible apply Box.s43) | (with_reducible refine Box.farX ?_ ?_ _; focus (first | (simp; done) | (simp; omega)))))
          clear bx1_0 bx1_1 bx1_f bx1_g bq1_0 bq1_1 bq1_f bq1_g
          have bx2_0 := Box.c0 bx2; have bx2_1 := Box.c1 bx2; have bx2_f := Box.loose bx2 0; have bx2_g := Box.loose bx2 1; have bq2_0 := Box.c0 bq2; have bq2_1 := Box.c1 bq2; have bq2_f := Box.loose bq2 0; have bq2_g := Box.loose bq2 1
          go_wp2_with fail
          go_roundw
          case rel =>
            obtain ⟨e1, e2⟩ := HI.out
            exact ⟨k + 1, 2 * T + b, Y', HB.out, HT.out, by go_num, by rw [e2, show r * 2 + b - d = 2 * r + b - d by omega], (by repeat (first | with_reducible assumption | (with_reducible refine Box.newAt ?_ _ _; (simp; done)) | with_reducible apply Box.drew | with_reducible apply Box.drewN | (with_reducible refine Box.alloc ?_ _) | (with_reducible apply Box.s20) | (with_reducible apply Box.s21) | (with_reducible apply Box.s1) | (with_reducible apply Box.s40) | (with_reducible apply Box.s41) | (with_reducible apply Box.s42) | (with_reducible apply Box.s43) | (with_reducible refine Box.farX ?_ ?_ _; focus (first | (simp; done) | (simp; omega))))), by rw [e1, e1h.out, e1l.out]; exact (by repeat (first | with_reducible assumption | (with_reducible refine Box.newAt ?_ _ _; (simp; done)) | with_reducible apply Box.drew | with_reducible apply Box.drewN | (with_reducible refine Box.alloc ?_ _) | (with_reducible apply Box.s20) | (with_reducible apply Box.s21) | (with_reducible apply Box.s1) | (with_reducible apply Box.s40) | (with_reducible apply Box.s41) | (with_reducible apply Box.s42) | (with_reducible apply Box.s43) | (with_reducible refine Box.farX ?_ ?_ _; focus (first | (simp; done) | (simp; omega))))), (by repeat (first | with_reducible assumption | (with_reducible refine Box.newAt ?_ _ _; (simp; done)) | with_reducible apply Box.drew | with_reducible apply Box.drewN | (with_reducible refine Box.alloc ?_ _) | (with_reducible apply Box.s20) | (with_reducible apply Box.s21) | (with_reducible apply Box.s1) | (with_reducible apply Box.s40) | (with_reducible apply Box.s41) | (with_reducible apply Box.s42) | (with_reducible apply Box.s43) | (with_reducible refine Box.farX ?_ ?_ _; focus (first | (simp; done) | (simp; omega))))), (by repeat (first | with_reducible exact Kept.refl _ | with_reducible apply Kept.drew | with_reducible apply Kept.drewN | with_reducible apply Kept.alloc | (with_reducible refine Kept.setCellX ?_ ?_ _; focus (first | (simp; done) | (simp; omega))) | (with_reducible refine Kept.trans ?_ (by assumption))))⟩
          case measure => simp [intOf]; omega
        · have cr : (r / 9223372036854775808 == 1) = true := beq_iff_eq.2 (by omega)
          obtain ⟨m, hm⟩ : ∃ m, m = r * 2 - 18446744073709551616 := ⟨_, rfl⟩
          have hm1 : IntKind.u64.wrap (r * 2) = m := by rw [wrap_def]; omega
          have hm2 : IntKind.u64.wrap (m + b - d) = 2 * r + b - d := by rw [wrap_def]; omega
          have hm3 : 0 ≤ m := by omega
          have hm4 : m + b ≤ 18446744073709551615 := by omega
          clear hm
          have bx_0 := Box.c0 bx; have bx_1 := Box.c1 bx; have bx_f := Box.loose bx 0; have bx_g := Box.loose bx 1; have bq_0 := Box.c0 bq; have bq_1 := Box.c1 bq; have bq_f := Box.loose bq 0; have bq_g := Box.loose bq 1
          go_wp2_with fail
          refine (plus_any _ _ _ _ _ (hi64_u _) (lo64_u _) (hi64_u _) (lo64_u _)).mono ?_
          rintro e w1 ⟨rfl, hk1⟩
          obtain ⟨hk1c, hk1f⟩ := bcell hk1
          have hk1z := Below.size hk1
          try simp only [World.size_alloc, World.size_setCell] at hk1z hk1c hk1f
          try have hk1x : w.heap.size ≤ w1.heap.size := by omega
          try have hk1y := Nat.lt_of_succ_le hk1z
          try have hk1x2 : w.heap.size < w1.heap.size := by omega
          have bx1 := Box.kept hk1 bx; have bq1 := Box.kept hk1 bq; have bo1 := Box.kept hk1 bo
          clear bx_0 bx_1 bx_f bx_g bq_0 bq_1 bq_f bq_g
          have bx1_0 := Box.c0 bx1; have bx1_1 := Box.c1 bx1; have bx1_f := Box.loose bx1 0; have bx1_g := Box.loose bx1 1; have bq1_0 := Box.c0 bq1; have bq1_1 := Box.c1 bq1; have bq1_f := Box.loose bq1 0; have bq1_g := Box.loose bq1 1
          go_wp2_with fail
          refine (plus_any _ _ _ _ _ (hi64_u _) (lo64_u _) (hi64_u _) (lo64_u _)).mono ?_
          rintro e w2 ⟨rfl, hk2⟩
          obtain ⟨hk2c, hk2f⟩ := bcell hk2
          have hk2z := Below.size hk2
          try simp only [World.size_alloc, World.size_setCell] at hk2z hk2c hk2f
          try have hk2x : w.heap.size ≤ w2.heap.size := by omega
          try have hk2y := Nat.lt_of_succ_le hk2z
          try have hk2x2 : w.heap.size < w2.heap.size := by omega
          have bx2 : Box w2 w.heap.size 56 #[.int .u64 (hi64 Y'), .int .u64 (lo64 Y')] := Box.kept hk2 (by repeat (first | with_reducible assumption | (with_reducible refine Box.newAt ?_ _ _; (simp; done)) | with_reducible apply Box.drew | with_reducible apply Box.drewN | (with_reducible refine Box.alloc ?_ _) | (with_reducible apply Box.s20) | (with_reducible apply Box.s21) | (with_reducible apply Box.s1) | (with_reducible apply Box.s40) | (with_reducible apply Box.s41) | (with_reducible apply Box.s42) | (with_reducible apply Box.s43) | (with_reducible refine Box.farX ?_ ?_ _; focus (first | (simp; done) | (simp; omega)))))
          have bq2 : Box w2 (w.heap.size + 1 + 1) 56 #[.int .u64 (hi64 q), .int .u64 (lo64 q)] := Box.kept hk2 (by repeat (first | with_reducible assumption | (with_reducible refine Box.newAt ?_ _ _; (simp; done)) | with_reducible apply Box.drew | with_reducible apply Box.drewN | (with_reducible refine Box.alloc ?_ _) | (with_reducible apply Box.s20) | (with_reducible apply Box.s21) | (with_reducible apply Box.s1) | (with_reducible apply Box.s40) | (with_reducible apply Box.s41) | (with_reducible apply Box.s42) | (with_reducible apply Box.s43) | (with_reducible refine Box.farX ?_ ?_ _; focus (first | (simp; done) | (simp; omega)))))
          have bo2 : Box w2 (w.heap.size + 1) 56 #[.int .u64 0, .int .u64 0] := Box.kept hk2 (by repeat (first | with_reducible assumption | (with_reducible refine Box.newAt ?_ _ _; (simp; done)) | with_reducible apply Box.drew | with_reducible apply Box.drewN | (with_reducible refine Box.alloc ?_ _) | (with_reducible apply Box.s20) | (with_reducible apply Box.s21) | (with_reducible apply Box.s1) | (with_reducible apply Box.s40) | (with_reducible apply Box.s41) | (with_reducible apply Box.s42) | (with_reducible apply Box.s43) | (with_reducible refine Box.farX ?_ ?_ _; focus (first | (simp; done) | (simp; omega)))))
          clear bx1_0 bx1_1 bx1_f bx1_g bq1_0 bq1_1 bq1_f bq1_g
          have bx2_0 := Box.c0 bx2; have bx2_1 := Box.c1 bx2; have bx2_f := Box.loose bx2 0; have bx2_g := Box.loose bx2 1; have bq2_0 := Box.c0 bq2; have bq2_1 := Box.c1 bq2; have bq2_f := Box.loose bq2 0; have bq2_g := Box.loose bq2 1
          go_wp2_with fail
          go_roundw
          case rel =>
            obtain ⟨e1, e2⟩ := HI.out
            exact ⟨k + 1, 2 * T + b, Y', HB.out, HT.out, by go_num, by rw [e2], (by repeat (first | with_reducible assumption | (with_reducible refine Box.newAt ?_ _ _; (simp; done)) | with_reducible apply Box.drew | with_reducible apply Box.drewN | (with_reducible refine Box.alloc ?_ _) | (with_reducible apply Box.s20) | (with_reducible apply Box.s21) | (with_reducible apply Box.s1) | (with_reducible apply Box.s40) | (with_reducible apply Box.s41) | (with_reducible apply Box.s42) | (with_reducible apply Box.s43) | (with_reducible refine Box.farX ?_ ?_ _; focus (first | (simp; done) | (simp; omega))))), by rw [e1, e1h.out, e1l.out]; exact (by repeat (first | with_reducible assumption | (with_reducible refine Box.newAt ?_ _ _; (simp; done)) | with_reducible apply Box.drew | with_reducible apply Box.drewN | (with_reducible refine Box.alloc ?_ _) | (with_reducible apply Box.s20) | (with_reducible apply Box.s21) | (with_reducible apply Box.s1) | (with_reducible apply Box.s40) | (with_reducible apply Box.s41) | (with_reducible apply Box.s42) | (with_reducible apply Box.s43) | (with_reducible refine Box.farX ?_ ?_ _; focus (first | (simp; done) | (simp; omega))))), (by repeat (first | with_reducible assumption | (with_reducible refine Box.newAt ?_ _ _; (simp; done)) | with_reducible apply Box.drew | with_reducible apply Box.drewN | (with_reducible refine Box.alloc ?_ _) | (with_reducible apply Box.s20) | (with_reducible apply Box.s21) | (with_reducible apply Box.s1) | (with_reducible apply Box.s40) | (with_reducible apply Box.s41) | (with_reducible apply Box.s42) | (with_reducible apply Box.s43) | (with_reducible refine Box.farX ?_ ?_ _; focus (first | (simp; done) | (simp; omega))))), (by repeat (first | with_reducible exact Kept.refl _ | with_reducible apply Kept.drew | with_reducible apply Kept.drewN | with_reducible apply Kept.alloc | (with_reducible refine Kept.setCellX ?_ ?_ _; focus (first | (simp; done) | (simp; omega))) | (with_reducible refine Kept.trans ?_ (by assumption))))⟩
          case measure => simp [intOf]; omega
    · obtain rfl : k = 128 := by omega
      have hX := hb.done
      clear hb
      subst hX
      have bq_0 := Box.c0 bq; have bq_1 := Box.c1 bq; have bq_f := Box.loose bq 0; have bq_g := Box.loose bq 1; have bo_0 := Box.c0 bo; have bo_1 := Box.c1 bo; have bo_f := Box.loose bo 0; have bo_g := Box.loose bo 1
      go_wp2_with fail
      exact bodyPost_ret (v := .tuple #[.agg #[.int .u64 (hi64 (T / d)), .int .u64 (lo64 (T / d))], .int .u64 (T % d)]) (by simp [results, Try.results69, go_sem, bo_0, bo_1, bo_f, bo_g]) rfl ⟨rfl, (by repeat (first | with_reducible exact Kept.refl _ | with_reducible apply Kept.drew | with_reducible apply Kept.drewN | with_reducible apply Kept.alloc | (with_reducible refine Kept.setCellX ?_ ?_ _; focus (first | (simp; done) | (simp; omega))) | (with_reducible refine Kept.trans ?_ (by assumption))))⟩
end Go.Proofs.Ytingopdeckgpaaa
