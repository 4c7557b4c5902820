/- Layer 16: ranges and addresses (printed by wip/mkagg1.py). -/
import Derived.Test.YtbkjdcpfkepheaaGreatDoorVMixAO
set_option maxHeartbeats 4000000
namespace Go.Proofs.YtbkjdcpfkepheaaGreatDoor
section
set_option linter.unusedVariables false
set_option linter.unusedSimpArgs false
open Go.RowKit Lv
set_option maxRecDepth 100000
def fX (x : Rc) : Int := if okR x then 0 else 3
theorem vr {x : Rc} (h : (((¬ (lE x.c1 x.r1 = true)) ∨ (¬ (lE x.c2 x.r2 = true))) ∨ ((x.c2 : Int) < (x.c1 : Int))) ∨ ((x.r2 : Int) < (x.r1 : Int))) : fX x = 3 := by
  unfold fX okR; rw [if_neg]; intro c
  simp only [Bool.and_eq_true, decide_eq_true_eq] at c
  rcases h with ((h | h) | h) | h
  · exact h c.1.1
  · exact h c.1.2
  · omega
  · omega
theorem vu {x : Rc} (h : ¬ ((((¬ (lE x.c1 x.r1 = true)) ∨ (¬ (lE x.c2 x.r2 = true))) ∨ ((x.c2 : Int) < (x.c1 : Int))) ∨ ((x.r2 : Int) < (x.r1 : Int)))) : fX x = 0 := by
  unfold fX okR; rw [if_pos]
  simp only [Bool.and_eq_true, decide_eq_true_eq]
  simp only [not_or, Classical.not_not] at h
  obtain ⟨⟨⟨a, b⟩, c⟩, d⟩ := h; exact ⟨⟨a, b⟩, by omega⟩
theorem vv {x : Rc} (h : okR x = true) : fX x = 0 := by unfold fX; rw [if_pos h]
theorem Cd {x : Rc} (h : okR x = false) : fX x = 3 := by unfold fX; rw [h]; rfl
theorem mN {x : Rc} (h : ¬ ((fX x : Int) ≠ (0 : Int))) : okR x = true := by
  cases e : okR x with
  | true => rfl
  | false => rw [Cd e] at h; exact absurd (by decide) h
theorem rv {x : Rc} (h : (fX x : Int) ≠ (0 : Int)) : okR x = false := by
  cases e : okR x with
  | false => rfl
  | true => rw [vv e] at h; exact absurd rfl h
theorem Af {x : Rc} (h : okR x = false) : ck x = 0 := by unfold ck; rw [h]; rfl
theorem xY {x : Rc} (h : okR x = true) : ck x = (x.c2 - x.c1 + 1) * (x.r2 - x.r1 + 1) := by unfold ck; rw [if_pos h]; rfl
theorem mj {a b : Int} (h0 : 0 ≤ a) (h1 : a ≤ 1024) (h2 : 0 ≤ b) (h3 : b ≤ 1024) : 0 ≤ a * b ∧ a * b ≤ 1048576 := by
  have e0 := Int.mul_nonneg h0 h2; have e1 : a * b ≤ 1024 * 1024 := Int.mul_le_mul h1 h3 h2 (by decide); exact ⟨e0, by omega⟩
theorem Ag {a b c d : Int} (h1 : a ≤ b) (h2 : c ≤ d) (h3 : b - a ≤ 1023) (h4 : d - c ≤ 1023) : -9223372036854775808 ≤ (b - a + 1) * (d - c + 1) ∧ (b - a + 1) * (d - c + 1) ≤ 9223372036854775807 := by
  have := mj (a := b - a + 1) (b := d - c + 1) (by omega) (by omega) (by omega) (by omega)
  omega
theorem Ce {x : Rc} {c r : Int} (h : gU x c r = true) : (x.c1 ≤ c ∧ c ≤ x.c2) ∧ x.r1 ≤ r ∧ r ≤ x.r2 := by
  unfold gU at h; rw [decide_eq_true_eq] at h
  omega
theorem xZ {x : Rc} {i : Int} (h2 : x.c1 ≤ x.c2) (h5 : x.r1 ≤ x.r2) (h0 : 0 ≤ i) (h1 : i < cd x * dw x) : (0 ≤ i % cd x ∧ i % cd x < cd x) ∧ cd x = x.c2 - x.c1 + 1 ∧ (0 ≤ i / cd x ∧ i / cd x < dw x) ∧ dw x = x.r2 - x.r1 + 1 := by
  have hw : cd x = x.c2 - x.c1 + 1 := rfl; have hh : dw x = x.r2 - x.r1 + 1 := rfl; have p : 0 < cd x := by omega
  refine ⟨⟨Int.emod_nonneg _ (by omega), Int.emod_lt_of_pos _ p⟩, hw, ⟨Int.ediv_nonneg h0 (by omega), ?_⟩, hh⟩; exact Int.ediv_lt_of_lt_mul p (by rw [Int.mul_comm]; exact h1)
theorem iU : En 83 := by intro args w; go_simp
theorem dY : En 78 := by intro args w; go_simp
theorem dZ : En 40 := by intro args w; go_simp
theorem ir : En 79 := by intro args w; go_simp
theorem jy : En 80 := by intro args w; go_simp
theorem oy : En 16 := by intro args w; go_simp
theorem iV : En 46 := by intro args w; go_simp
theorem kL : En 82 := by intro args w; go_simp
theorem mm (c r : Int) (w : World) :
    Calls Tryz.prog 83 #[.agg #[.int .i64 c, .int .i64 r]] w fun e w' => e = .returned (.bool (lE c r)) ∧ Kept w w' := by
  go_enter Tryz.func83, Tryz.ntmps83
  refine rgx [bJ w.heap.size (.cells #[.int .i64 c, .int .i64 r] 44 (0, 0)), yV _] 2 21 rfl rfl (Own.start w) (
    ux (t := 0) rfl <|
    uq1 rfl rfl rfl <|
    ah) fun fa fw bs hv ap z q ov => ?_
  obtain ⟨gb1, s1, bgb1, hgb1⟩ := zn hv 0; have ov := ov.hc (Own.start w) bgb1 hgb1; have s2 := zh hv 1; have ow := ov
  refine rgx [yV (.pointer (some ⟨gb1, 0, none⟩)), yV _, yV _, yV _, yIf _ (yV (.pointer (some ⟨gb1, 0, none⟩))), yIf _ (yV _), yIf _ (yV _), yV _, yV _, yIf _ (yV (.pointer (some ⟨gb1, 1, none⟩))), yIf _ (yV _), yIf _ (yV _), yV _, yV _, yIf _ (yV (.pointer (some ⟨gb1, 1, none⟩))), yIf _ (yV _), yIf _ (yV _), yV _, yV _] 19 21 z q ow (
    ua (rfa (zt s1)) rfl <|
    ua (rlb ow 0 (zd 0)) rfl <|
    ua (rgq (zd 1) zc) rfl <|
    uq2 2 rfl rfl <|
    ui (gd1 3) (rfa (zt s1)) rfl <|
    ui (gd1 3) (rlb ow 0 (zi 4)) rfl <|
    ui (gd1 3) (rlq (zi 5) zc) rfl <|
    ua (ran (zd 3) (zi 6)) rfl <|
    uq2 7 rfl rfl <|
    ui (gd1 8) (rfa (zt s1)) rfl <|
    ui (gd1 8) (rlb ow 0 (zi 9)) rfl <|
    ui (gd1 8) (rgq (zi 10) zc) rfl <|
    ua (ran (zd 8) (zi 11)) rfl <|
    uq2 12 rfl rfl <|
    ui (gd1 13) (rfa (zt s1)) rfl <|
    ui (gd1 13) (rlb ow 0 (zi 14)) rfl <|
    ui (gd1 13) (rlq (zi 15) zc) rfl <|
    ua (ran (zd 13) (zi 16)) rfl <|
    uq3 17 rfl rfl <|
    ah) fun fa fw bs hv ap z q ow => ?_
  have s2 := zh hv 18; refine wp_ret ?_; refine am rfl (ak s2) q ?_; exact ⟨(congrArg (fun b => Ending.returned (.bool b)) (show _ = lE c r by unfold lE; rw [Bool.eq_iff_iff]; simp only [Bool.or_eq_true, Bool.and_eq_true, decide_eq_true_eq]; omega)), ow.kept⟩
theorem kM (c r : Int) (w : World) :
    Calls Tryz.prog 78 #[.agg #[.int .i64 c, .int .i64 r]] w fun e w' => e = .returned (.bool (lE c r)) ∧ Kept w w' := by
  go_enter Tryz.func78, Tryz.ntmps78
  refine rgx [bJ w.heap.size (.cells #[.int .i64 c, .int .i64 r] 44 (0, 0)), yV _] 2 21 rfl rfl (Own.start w) (
    ux (t := 0) rfl <|
    uq1 rfl rfl rfl <|
    ah) fun fa fw bs hv ap z q ov => ?_
  obtain ⟨gb1, s1, bgb1, hgb1⟩ := zn hv 0; have ov := ov.hc (Own.start w) bgb1 hgb1; have s2 := zh hv 1; have ow := ov
  refine rgx [yV (.pointer (some ⟨gb1, 0, none⟩)), yV _, yV _, yV _, yIf _ (yV (.pointer (some ⟨gb1, 0, none⟩))), yIf _ (yV _), yIf _ (yV _), yV _, yV _, yIf _ (yV (.pointer (some ⟨gb1, 1, none⟩))), yIf _ (yV _), yIf _ (yV _), yV _, yV _, yIf _ (yV (.pointer (some ⟨gb1, 1, none⟩))), yIf _ (yV _), yIf _ (yV _), yV _, yV _] 19 21 z q ow (
    ua (rfa (zt s1)) rfl <|
    ua (rlb ow 0 (zd 0)) rfl <|
    ua (rgq (zd 1) zc) rfl <|
    uq2 2 rfl rfl <|
    ui (gd1 3) (rfa (zt s1)) rfl <|
    ui (gd1 3) (rlb ow 0 (zi 4)) rfl <|
    ui (gd1 3) (rlq (zi 5) zc) rfl <|
    ua (ran (zd 3) (zi 6)) rfl <|
    uq2 7 rfl rfl <|
    ui (gd1 8) (rfa (zt s1)) rfl <|
    ui (gd1 8) (rlb ow 0 (zi 9)) rfl <|
    ui (gd1 8) (rgq (zi 10) zc) rfl <|
    ua (ran (zd 8) (zi 11)) rfl <|
    uq2 12 rfl rfl <|
    ui (gd1 13) (rfa (zt s1)) rfl <|
    ui (gd1 13) (rlb ow 0 (zi 14)) rfl <|
    ui (gd1 13) (rlq (zi 15) zc) rfl <|
    ua (ran (zd 13) (zi 16)) rfl <|
    uq3 17 rfl rfl <|
    ah) fun fa fw bs hv ap z q ow => ?_
  have s2 := zh hv 18; refine wp_ret ?_; refine am rfl (ak s2) q ?_; exact ⟨(congrArg (fun b => Ending.returned (.bool b)) (show _ = lE c r by unfold lE; rw [Bool.eq_iff_iff]; simp only [Bool.or_eq_true, Bool.and_eq_true, decide_eq_true_eq]; omega)), ow.kept⟩
theorem qh (x : Rc) (w : World) :
    Calls Tryz.prog 82 #[.agg #[.int .i64 x.c1, .int .i64 x.r1, .int .i64 x.c2, .int .i64 x.r2]] w fun e w' => e = .returned (.tuple #[.agg #[.int .i64 x.c1, .int .i64 x.r1], .agg #[.int .i64 x.c2, .int .i64 x.r2]]) ∧ Kept w w' := by
  go_enter Tryz.func82, Tryz.ntmps82
  refine rgx [bJ w.heap.size (.cells #[.int .i64 x.c1, .int .i64 x.r1, .int .i64 x.c2, .int .i64 x.r2] 34 (0, 0)), bJ w.heap.size (.cells #[.int .i64 0, .int .i64 0] 44 (0, 0)), bJ w.heap.size (.cells #[.int .i64 0, .int .i64 0] 44 (0, 0))] 3 14 rfl rfl (Own.start w) (
    ux (t := 0) rfl <|
    uq4 <|
    uq4 <|
    ah) fun fa fw bs hv ap z q ov => ?_
  obtain ⟨gb1, s1, bgb1, hgb1⟩ := zn hv 0; have ov := ov.hc (Own.start w) bgb1 hgb1; obtain ⟨gb2, s2, bgb2, hgb2⟩ := zn hv 1; have ov := ov.cons hgb2 (Nat.le_trans (Own.start w).kept.size bgb2) (bG (cr ap 0 1 rfl rfl rfl s1 rfl s2 rfl) ((Own.start w).below bgb2)); obtain ⟨gb3, s3, bgb3, hgb3⟩ := zn hv 2; have ov := ov.cons hgb3 (Nat.le_trans (Own.start w).kept.size bgb3) (bG (cr ap 1 2 rfl rfl rfl s2 rfl s3 rfl) (bG (cr ap 0 2 rfl rfl rfl s1 rfl s3 rfl) ((Own.start w).below bgb3))); have ow := ov; refine sq fun hK2 => ?_; refine od [10, 11] [fun v => v = .pointer (some ⟨gb1, 0, none⟩), fun v => v = .int .i64 x.c1, fun v => v = .pointer (some ⟨gb1, 1, none⟩), fun v => v = .int .i64 x.r1, fun v => v = .agg #[.int .i64 x.c1, .int .i64 x.r1], fun v => v = .pointer (some ⟨gb1, 2, none⟩), fun v => v = .int .i64 x.c2, fun v => v = .pointer (some ⟨gb1, 3, none⟩), fun v => v = .int .i64 x.r2, fun v => v = .agg #[.int .i64 x.c2, .int .i64 x.r2], fun _ => True, fun _ => True] (Stages w [⟨fun gs ys => True, fun gs ys => [Th.obj gb3 (.cells #[.int .i64 0, .int .i64 0] 44 (0, 0)), Th.obj gb2 (.cells #[.int .i64 0, .int .i64 0] 44 (0, 0)), Th.obj gb1 (.cells #[.int .i64 x.c1, .int .i64 x.r1, .int .i64 x.c2, .int .i64 x.r2] 34 (0, 0))]⟩, ⟨fun gs ys => True, fun gs ys => [Th.obj gb3 (.cells #[.int .i64 0, .int .i64 0] 44 (0, 0)), Th.obj gb2 (.cells #[.int .i64 x.c1, .int .i64 x.r1] 44 (0, 0)), Th.obj gb1 (.cells #[.int .i64 x.c1, .int .i64 x.r1, .int .i64 x.c2, .int .i64 x.r2] 34 (0, 0))]⟩, ⟨fun gs ys => True, fun gs ys => [Th.obj gb3 (.cells #[.int .i64 x.c2, .int .i64 x.r2] 44 (0, 0)), Th.obj gb2 (.cells #[.int .i64 x.c1, .int .i64 x.r1] 44 (0, 0)), Th.obj gb1 (.cells #[.int .i64 x.c1, .int .i64 x.r1, .int .i64 x.c2, .int .i64 x.r2] 34 (0, 0))]⟩]) (fun u => Own w [Th.obj gb1 (.cells #[.int .i64 x.c1, .int .i64 x.r1, .int .i64 x.c2, .int .i64 x.r2] 34 (0, 0))] u) 14 (by kernel_rfl) z (by kernel_rfl) (by kernel_rfl) (Stages.of (ib (fun gs ys w o => ((o.less 1).less 0)) (ib (fun gs ys w o => ((o.less 1).less 0)) (ib (fun gs ys w o => ((o.less 1).less 0)) sG)))) (Stages.drew _ _) ⟨[], trivial, ow⟩ (fun i o ho hn aa ww hk bs hd => ?_) (fun t i o ht ho aa ww bs hS hd => ?_) (fun fa1 fw1 bs hv hS => ?_)
  ·match i, ho, hn with
    | 0, ho, hn =>
      cases ho
      exact ⟨.pointer (some ⟨gb1, 0, none⟩), bH rfl ((bs 1 rfl).trans s1) (by kernel_rfl), rfl, fun h => by cases h⟩
    | 1, ho, hn =>
      cases ho
      have d0 : aa.eval (.tmp 4) = .pointer (some ⟨gb1, 0, none⟩) := xn hd 0 rfl; exact ⟨.int .i64 x.c1, iO rfl (by kernel_rfl) d0 (hk.box 0 rfl) rfl, rfl, fun h => by cases h⟩
    | 2, ho, hn =>
      cases ho
      exact ⟨.pointer (some ⟨gb1, 1, none⟩), bH rfl ((bs 1 rfl).trans s1) (by kernel_rfl), rfl, fun h => by cases h⟩
    | 3, ho, hn =>
      cases ho
      have d2 : aa.eval (.tmp 6) = .pointer (some ⟨gb1, 1, none⟩) := xn hd 2 rfl; exact ⟨.int .i64 x.r1, iO rfl (by kernel_rfl) d2 (hk.box 0 rfl) rfl, rfl, fun h => by cases h⟩
    | 4, ho, hn =>
      cases ho
      have d1 : aa.eval (.tmp 5) = .int .i64 x.c1 := xn hd 1 rfl; have d3 : aa.eval (.tmp 7) = .int .i64 x.r1 := xn hd 3 rfl; exact ⟨.agg #[.int .i64 x.c1, .int .i64 x.r1], bP (us := #[(0, .int .i64 x.c1), (1, .int .i64 x.r1)]) rfl (by simp only [List.map_toArray, List.map_cons, List.map_nil, d1, d3]) (by kernel_rfl), rfl, fun h => by cases h⟩
    | 5, ho, hn =>
      cases ho
      exact ⟨.pointer (some ⟨gb1, 2, none⟩), bH rfl ((bs 1 rfl).trans s1) (by kernel_rfl), rfl, fun h => by cases h⟩
    | 6, ho, hn =>
      cases ho
      have d5 : aa.eval (.tmp 9) = .pointer (some ⟨gb1, 2, none⟩) := xn hd 5 rfl; exact ⟨.int .i64 x.c2, iO rfl (by kernel_rfl) d5 (hk.box 0 rfl) rfl, rfl, fun h => by cases h⟩
    | 7, ho, hn =>
      cases ho
      exact ⟨.pointer (some ⟨gb1, 3, none⟩), bH rfl ((bs 1 rfl).trans s1) (by kernel_rfl), rfl, fun h => by cases h⟩
    | 8, ho, hn =>
      cases ho
      have d7 : aa.eval (.tmp 11) = .pointer (some ⟨gb1, 3, none⟩) := xn hd 7 rfl; exact ⟨.int .i64 x.r2, iO rfl (by kernel_rfl) d7 (hk.box 0 rfl) rfl, rfl, fun h => by cases h⟩
    | 9, ho, hn =>
      cases ho
      have d6 : aa.eval (.tmp 10) = .int .i64 x.c2 := xn hd 6 rfl; have d8 : aa.eval (.tmp 12) = .int .i64 x.r2 := xn hd 8 rfl; exact ⟨.agg #[.int .i64 x.c2, .int .i64 x.r2], bP (us := #[(0, .int .i64 x.c2), (1, .int .i64 x.r2)]) rfl (by simp only [List.map_toArray, List.map_cons, List.map_nil, d6, d8]) (by kernel_rfl), rfl, fun h => by cases h⟩
    | 10, ho, hn => exact absurd (by decide) hn
    | 11, ho, hn => exact absurd (by decide) hn
    | i + 12, ho, hn => exact absurd ho (by simp)
  ·match t, ht with
    | 0, ht =>
      cases ht; cases ho
      have d4 : aa.eval (.tmp 8) = .agg #[.int .i64 x.c1, .int .i64 x.r1] := xn hd 4 rfl; obtain ⟨gs, hc, ow⟩ := (show ∃ gs : List Nat, (True) ∧ Own w [Th.obj gb3 (.cells #[.int .i64 0, .int .i64 0] 44 (0, 0)), Th.obj gb2 (.cells #[.int .i64 0, .int .i64 0] 44 (0, 0)), Th.obj gb1 (.cells #[.int .i64 x.c1, .int .i64 x.r1, .int .i64 x.c2, .int .i64 x.r2] 34 (0, 0))] ww from hS); obtain ⟨_⟩ := hc; exact ma (fC (off := 0) rfl ((bs 2 rfl).trans s2) d4 (by kernel_rfl) (ow.box 1 rfl) rfl (Nat.le_of_ble_eq_true rfl)) trivial ⟨[], trivial, ow.put 1 rfl 0 [.int .i64 x.c1, .int .i64 x.r1]⟩
    | 1, ht =>
      cases ht; cases ho
      have d9 : aa.eval (.tmp 13) = .agg #[.int .i64 x.c2, .int .i64 x.r2] := xn hd 9 rfl; obtain ⟨gs, hc, ow⟩ := (show ∃ gs : List Nat, (True) ∧ Own w [Th.obj gb3 (.cells #[.int .i64 0, .int .i64 0] 44 (0, 0)), Th.obj gb2 (.cells #[.int .i64 x.c1, .int .i64 x.r1] 44 (0, 0)), Th.obj gb1 (.cells #[.int .i64 x.c1, .int .i64 x.r1, .int .i64 x.c2, .int .i64 x.r2] 34 (0, 0))] ww from hS); obtain ⟨_⟩ := hc; exact ma (fC (off := 0) rfl ((bs 3 rfl).trans s3) d9 (by kernel_rfl) (ow.box 0 rfl) rfl (Nat.le_of_ble_eq_true rfl)) trivial ⟨[], trivial, ow.put 0 rfl 0 [.int .i64 x.c2, .int .i64 x.r2]⟩
    | t + 2, ht => exact absurd ht (by simp)
  obtain ⟨gs, hc, ow⟩ := (show ∃ gs : List Nat, (True) ∧ Own w [Th.obj gb3 (.cells #[.int .i64 x.c2, .int .i64 x.r2] 44 (0, 0)), Th.obj gb2 (.cells #[.int .i64 x.c1, .int .i64 x.r1] 44 (0, 0)), Th.obj gb1 (.cells #[.int .i64 x.c1, .int .i64 x.r1, .int .i64 x.c2, .int .i64 x.r2] 34 (0, 0))] fw1 from hS); obtain ⟨_⟩ := hc; have zfa1 : fa1.tmps.size = 14 := bs.size.trans z; have dffa1 : fa1.defers = [] := bs.defers.trans q; have s2_fa1 : fa1.eval (.tmp 2) = .pointer (some ⟨gb2, 0, none⟩) := (bs.same 2 (by kernel_rfl)).trans s2; have s3_fa1 : fa1.eval (.tmp 3) = .pointer (some ⟨gb3, 0, none⟩) := (bs.same 3 (by kernel_rfl)).trans s3; refine xN (fun fr u => fr.tmps.size = 14 ∧ fr.defers = [] ∧ Own w [Th.obj gb3 (.cells #[.int .i64 x.c2, .int .i64 x.r2] 44 (0, 0)), Th.obj gb2 (.cells #[.int .i64 x.c1, .int .i64 x.r1] 44 (0, 0)), Th.obj gb1 (.cells #[.int .i64 x.c1, .int .i64 x.r1, .int .i64 x.c2, .int .i64 x.r2] 34 (0, 0))] u ∧ fr.eval (.tmp 2) = .pointer (some ⟨gb2, 0, none⟩) ∧ fr.eval (.tmp 3) = .pointer (some ⟨gb3, 0, none⟩)) ⟨zfa1, dffa1, ow, s2_fa1, s3_fa1⟩ ?_; rintro fa fw ⟨z, q, ow, s2, s3⟩; refine tn hK2 ?_; refine wp_ret ?_; refine aU (v := .tuple #[.agg #[.int .i64 x.c1, .int .i64 x.r1], .agg #[.int .i64 x.c2, .int .i64 x.r2]]) rfl (.cons (bo (n := 2) _ s2 (by kernel_rfl) (by kernel_rfl) (ow.box 1 rfl) (Nat.le_of_ble_eq_true rfl) rfl) (.cons (bo (n := 2) _ s3 (by kernel_rfl) (by kernel_rfl) (ow.box 0 rfl) (Nat.le_of_ble_eq_true rfl) rfl) .nil)) rfl q ?_
  exact ⟨rfl, ow.kept⟩
theorem vw (x : Rc) (w : World) :
    Calls Tryz.prog 79 #[.agg #[.int .i64 x.c1, .int .i64 x.r1, .int .i64 x.c2, .int .i64 x.r2]] w fun e w' => e = .returned (.agg #[.int .i64 x.c1, .int .i64 x.r1]) ∧ Kept w w' := by
  go_enter Tryz.func79, Tryz.ntmps79
  refine rgx [bJ w.heap.size (.cells #[.int .i64 x.c1, .int .i64 x.r1, .int .i64 x.c2, .int .i64 x.r2] 34 (0, 0)), bJ w.heap.size (.cells #[.int .i64 0, .int .i64 0] 44 (0, 0))] 2 8 rfl rfl (Own.start w) (
    ux (t := 0) rfl <|
    uq4 <|
    ah) fun fa fw bs hv ap z q ov => ?_
  obtain ⟨gb1, s1, bgb1, hgb1⟩ := zn hv 0; have ov := ov.hc (Own.start w) bgb1 hgb1; obtain ⟨gb2, s2, bgb2, hgb2⟩ := zn hv 1; have ov := ov.cons hgb2 (Nat.le_trans (Own.start w).kept.size bgb2) (bG (cr ap 0 1 rfl rfl rfl s1 rfl s2 rfl) ((Own.start w).below bgb2)); have ow := ov; refine sq fun hK2 => ?_
  refine ro [yV (.pointer (some ⟨gb1, 0, none⟩)), yV _, yV (.pointer (some ⟨gb1, 1, none⟩)), yV _, yV (.agg #[.int .i64 x.c1, .int .i64 x.r1])] 5 8 z q ow (
    ua (rfa (zt s1)) rfl <|
    ua (rlb ow 1 (zd 0)) rfl <|
    ua (rfa (zt s1)) rfl <|
    ua (rlb ow 1 (zd 2)) rfl <|
    arm (fun aa ww hk bs hd => by
      have d1 : aa.eval (.tmp 4) = .int .i64 x.c1 := fy hd 1 rfl; have d3 : aa.eval (.tmp 6) = .int .i64 x.r1 := fy hd 3 rfl; exact bS (v := .agg #[.int .i64 x.c1, .int .i64 x.r1]) (ag rfl) (bP (us := #[(0, .int .i64 x.c1), (1, .int .i64 x.r1)]) rfl (by simp only [List.map_toArray, List.map_cons, List.map_nil, d1, d3]) (by kernel_rfl)) rfl rfl
      ) <|
    ah) fun fa fw bs hv ap z q ow => ?_
  have s2 := bg bs s2; have s7 := zh hv 4; refine ws ow 0 0 s2 s7 fun fw ow => ?_; refine wt hK2 ?_; refine wp_ret ?_; refine am rfl (bo (n := 2) _ s2 (by kernel_rfl) (by kernel_rfl) (ow.box 0 rfl) (Nat.le_of_ble_eq_true rfl) rfl) q ?_; exact ⟨rfl, ow.kept⟩
theorem Ah (x : Rc) (w : World) :
    Calls Tryz.prog 80 #[.agg #[.int .i64 x.c1, .int .i64 x.r1, .int .i64 x.c2, .int .i64 x.r2]] w fun e w' => e = .returned (.agg #[.int .i64 x.c2, .int .i64 x.r2]) ∧ Kept w w' := by
  go_enter Tryz.func80, Tryz.ntmps80
  refine rgx [bJ w.heap.size (.cells #[.int .i64 x.c1, .int .i64 x.r1, .int .i64 x.c2, .int .i64 x.r2] 34 (0, 0)), bJ w.heap.size (.cells #[.int .i64 0, .int .i64 0] 44 (0, 0))] 2 8 rfl rfl (Own.start w) (
    ux (t := 0) rfl <|
    uq4 <|
    ah) fun fa fw bs hv ap z q ov => ?_
  obtain ⟨gb1, s1, bgb1, hgb1⟩ := zn hv 0; have ov := ov.hc (Own.start w) bgb1 hgb1; obtain ⟨gb2, s2, bgb2, hgb2⟩ := zn hv 1; have ov := ov.cons hgb2 (Nat.le_trans (Own.start w).kept.size bgb2) (bG (cr ap 0 1 rfl rfl rfl s1 rfl s2 rfl) ((Own.start w).below bgb2)); have ow := ov; refine sq fun hK2 => ?_
  refine ro [yV (.pointer (some ⟨gb1, 2, none⟩)), yV _, yV (.pointer (some ⟨gb1, 3, none⟩)), yV _, yV (.agg #[.int .i64 x.c2, .int .i64 x.r2])] 5 8 z q ow (
    ua (rfa (zt s1)) rfl <|
    ua (rlb ow 1 (zd 0)) rfl <|
    ua (rfa (zt s1)) rfl <|
    ua (rlb ow 1 (zd 2)) rfl <|
    arm (fun aa ww hk bs hd => by
      have d1 : aa.eval (.tmp 4) = .int .i64 x.c2 := fy hd 1 rfl; have d3 : aa.eval (.tmp 6) = .int .i64 x.r2 := fy hd 3 rfl; exact bS (v := .agg #[.int .i64 x.c2, .int .i64 x.r2]) (ag rfl) (bP (us := #[(0, .int .i64 x.c2), (1, .int .i64 x.r2)]) rfl (by simp only [List.map_toArray, List.map_cons, List.map_nil, d1, d3]) (by kernel_rfl)) rfl rfl
      ) <|
    ah) fun fa fw bs hv ap z q ow => ?_
  have s2 := bg bs s2; have s7 := zh hv 4; refine ws ow 0 0 s2 s7 fun fw ow => ?_; refine wt hK2 ?_; refine wp_ret ?_; refine am rfl (bo (n := 2) _ s2 (by kernel_rfl) (by kernel_rfl) (ow.box 0 rfl) (Nat.le_of_ble_eq_true rfl) rfl) q ?_; exact ⟨rfl, ow.kept⟩
theorem mn (x : Rc) (w : World) :
    Calls Tryz.prog 46 #[.agg #[.int .i64 x.c1, .int .i64 x.r1, .int .i64 x.c2, .int .i64 x.r2]] w fun e w' => e = .returned (.int .i64 (fX x)) ∧ Kept w w' := by
  go_enter Tryz.func46, Tryz.ntmps46
  refine rgx [bJ w.heap.size (.cells #[.int .i64 x.c1, .int .i64 x.r1, .int .i64 x.c2, .int .i64 x.r2] 34 (0, 0)), yV _] 2 32 rfl rfl (Own.start w) (
    ux (t := 0) rfl <|
    uq1 rfl rfl rfl <|
    ah) fun fa fw bs hv ap z q ov => ?_
  obtain ⟨gb1, s1, bgb1, hgb1⟩ := zn hv 0; have ov := ov.hc (Own.start w) bgb1 hgb1; have s2 := zh hv 1; have ow := ov; refine sq fun hK2 => ?_
  refine ro [yV (.agg #[.int .i64 x.c1, .int .i64 x.r1, .int .i64 x.c2, .int .i64 x.r2]), yV (.tuple #[.agg #[.int .i64 x.c1, .int .i64 x.r1], .agg #[.int .i64 x.c2, .int .i64 x.r2]]), yV _, yV (.agg #[.int .i64 x.c1, .int .i64 x.r1]), yV (.agg #[.int .i64 x.c2, .int .i64 x.r2]), bJ fw.heap.size (.cells #[.int .i64 0, .int .i64 0] 44 (0, 0)), bJ fw.heap.size (.cells #[.int .i64 0, .int .i64 0] 44 (0, 0))] 7 32 z q ow (
    ua (rln 4 ow 0 (zt s1)) rfl <|
    uc (rc1 (zd 0) kL) (fun hk => qh x _) rfl <|
    uq2 1 rfl rfl <|
    ua (rex (zd 2)) rfl <|
    ua (rex (zd 2)) rfl <|
    uq4 <|
    uq4 <|
    ah) fun fa fw bs hv ap z q ov => ?_
  obtain ⟨s1, s2⟩ := b2 bs s1 s2; have s8 := zh hv 3; have s9 := zh hv 4; obtain ⟨gb2, s3, bgb2, hgb2⟩ := zn hv 5; have ov := ov.hc ow bgb2 hgb2; obtain ⟨gb3, s4, bgb3, hgb3⟩ := zn hv 6; have ov := ov.cons hgb3 (Nat.le_trans ow.kept.size bgb3) (bG (cr ap 5 6 rfl rfl rfl s3 rfl s4 rfl) (ow.below bgb3)); have ow := ov; refine ws ow 1 0 s3 s8 fun fw ow => ?_; refine ws ow 0 0 s4 s9 fun fw ow => ?_; refine wt hK2 ?_; refine sq fun hK3 => ?_
  refine rgx [yV (.agg #[.int .i64 x.c1, .int .i64 x.r1]), yV (.bool (lE x.c1 x.r1)), yV _, yV _, yIf _ (yV (.agg #[.int .i64 x.c2, .int .i64 x.r2])), yIf _ (yV (.bool (lE x.c2 x.r2))), yIf _ (yV _), yV _, yV _, yIf _ (yV (.pointer (some ⟨gb1, 0, none⟩))), yIf _ (yV _), yIf _ (yV (.pointer (some ⟨gb1, 2, none⟩))), yIf _ (yV _), yIf _ (yV _), yV _, yV _, yIf _ (yV (.pointer (some ⟨gb1, 1, none⟩))), yIf _ (yV _), yIf _ (yV (.pointer (some ⟨gb1, 3, none⟩))), yIf _ (yV _), yIf _ (yV _), yV _] 22 32 z q ow (
    ua (rln 2 ow 1 (zt s3)) rfl <|
    uc (rc1 (zd 0) iU) (fun hk => mm x.c1 x.r1 _) rfl <|
    ua (rno (zd 1)) rfl <|
    uq2 2 rfl rfl <|
    ui (gd1 3) (rln 2 ow 0 (zt s4)) rfl <|
    uq6 (gd1 3) (rc1 (zi 4) iU) (fun hk hz => mm x.c2 x.r2 _) rfl <|
    ui (gd1 3) (rno (zi 5)) rfl <|
    ua (ron (zd 3) (zi 6)) rfl <|
    uq2 7 rfl rfl <|
    ui (gd1 8) (rfa (zt s1)) rfl <|
    ui (gd1 8) (rlb ow 2 (zi 9)) rfl <|
    ui (gd1 8) (rfa (zt s1)) rfl <|
    ui (gd1 8) (rlb ow 2 (zi 11)) rfl <|
    ui (gd1 8) (rgt (zi 10) (zi 12)) rfl <|
    ua (ron (zd 8) (zi 13)) rfl <|
    uq2 14 rfl rfl <|
    ui (gd1 15) (rfa (zt s1)) rfl <|
    ui (gd1 15) (rlb ow 2 (zi 16)) rfl <|
    ui (gd1 15) (rfa (zt s1)) rfl <|
    ui (gd1 15) (rlb ow 2 (zi 18)) rfl <|
    ui (gd1 15) (rgt (zi 17) (zi 19)) rfl <|
    ua (ron (zd 15) (zi 20)) rfl <|
    ah) fun fa fw bs hv ap z q ow => ?_
  have s2 := bg bs s2; have s31 := zh hv 21
  by_cases hc1 : (((¬ ((lE x.c1 x.r1) = true)) ∨ (¬ ((lE x.c2 x.r2) = true))) ∨ ((x.c2 : Int) < (x.c1 : Int))) ∨ ((x.r2 : Int) < (x.r1 : Int))
  ·refine ct s31 ((bor (bor (bor (dX (Iff.rfl)) (dX (Iff.rfl))) (decide_eq_true_iff)) (decide_eq_true_iff)).2 hc1) ?_
   refine rgx [yV _] 1 32 z q ow (
     uq1 rfl rfl rfl <|
     ah) fun fa fw bs hv ap z q ow => ?_
   have s2 := zh hv 0; refine wp_ret ?_; refine ao ?_; refine am rfl (ak s2) q ?_; exact ⟨(congrArg (fun n => Ending.returned (.int .i64 n)) (show _ = fX x by exact (vr hc1).symm)), ow.kept⟩
  refine cf s31 (bor (bor (bor (dX (Iff.rfl)) (dX (Iff.rfl))) (decide_eq_true_iff)) (decide_eq_true_iff)) hc1 ?_; refine wp_skip ?_; refine tn hK3 ?_
  refine rgx [yV _] 1 32 z q ow (
    uq1 rfl rfl rfl <|
    ah) fun fa fw bs hv ap z q ow => ?_
  have s2 := zh hv 0; refine wp_ret ?_; refine am rfl (ak s2) q ?_; exact ⟨(congrArg (fun n => Ending.returned (.int .i64 n)) (show _ = fX x by exact (vu hc1).symm)), ow.kept⟩
theorem oA (x : Rc) (w : World) :
    Calls Tryz.prog 40 #[.agg #[.int .i64 x.c1, .int .i64 x.r1, .int .i64 x.c2, .int .i64 x.r2]] w fun e w' => e = .returned (.int .i64 (fX x)) ∧ Kept w w' := by
  go_enter Tryz.func40, Tryz.ntmps40
  refine rgx [bJ w.heap.size (.cells #[.int .i64 x.c1, .int .i64 x.r1, .int .i64 x.c2, .int .i64 x.r2] 34 (0, 0)), yV _] 2 27 rfl rfl (Own.start w) (
    ux (t := 0) rfl <|
    uq1 rfl rfl rfl <|
    ah) fun fa fw bs hv ap z q ov => ?_
  obtain ⟨gb1, s1, bgb1, hgb1⟩ := zn hv 0; have ov := ov.hc (Own.start w) bgb1 hgb1; have s2 := zh hv 1; have ow := ov; refine sq fun hK2 => ?_
  refine rgx [yV (.agg #[.int .i64 x.c1, .int .i64 x.r1, .int .i64 x.c2, .int .i64 x.r2]), yV (.agg #[.int .i64 x.c1, .int .i64 x.r1]), yV (.bool (lE x.c1 x.r1)), yV _, yV _, yIf _ (yV (.agg #[.int .i64 x.c1, .int .i64 x.r1, .int .i64 x.c2, .int .i64 x.r2])), yIf _ (yV (.agg #[.int .i64 x.c2, .int .i64 x.r2])), yIf _ (yV (.bool (lE x.c2 x.r2))), yIf _ (yV _), yV _, yV _, yIf _ (yV (.pointer (some ⟨gb1, 0, none⟩))), yIf _ (yV _), yIf _ (yV (.pointer (some ⟨gb1, 2, none⟩))), yIf _ (yV _), yIf _ (yV _), yV _, yV _, yIf _ (yV (.pointer (some ⟨gb1, 1, none⟩))), yIf _ (yV _), yIf _ (yV (.pointer (some ⟨gb1, 3, none⟩))), yIf _ (yV _), yIf _ (yV _), yV _] 24 27 z q ow (
    ua (rln 4 ow 0 (zt s1)) rfl <|
    uc (rc1 (zd 0) ir) (fun hk => vw x _) rfl <|
    uc (rc1 (zd 1) dY) (fun hk => kM x.c1 x.r1 _) rfl <|
    ua (rno (zd 2)) rfl <|
    uq2 3 rfl rfl <|
    ui (gd1 4) (rln 4 ow 0 (zt s1)) rfl <|
    uq6 (gd1 4) (rc1 (zi 5) jy) (fun hk hz => Ah x _) rfl <|
    uq6 (gd1 4) (rc1 (zi 6) dY) (fun hk hz => kM x.c2 x.r2 _) rfl <|
    ui (gd1 4) (rno (zi 7)) rfl <|
    ua (ron (zd 4) (zi 8)) rfl <|
    uq2 9 rfl rfl <|
    ui (gd1 10) (rfa (zt s1)) rfl <|
    ui (gd1 10) (rlb ow 0 (zi 11)) rfl <|
    ui (gd1 10) (rfa (zt s1)) rfl <|
    ui (gd1 10) (rlb ow 0 (zi 13)) rfl <|
    ui (gd1 10) (rgt (zi 12) (zi 14)) rfl <|
    ua (ron (zd 10) (zi 15)) rfl <|
    uq2 16 rfl rfl <|
    ui (gd1 17) (rfa (zt s1)) rfl <|
    ui (gd1 17) (rlb ow 0 (zi 18)) rfl <|
    ui (gd1 17) (rfa (zt s1)) rfl <|
    ui (gd1 17) (rlb ow 0 (zi 20)) rfl <|
    ui (gd1 17) (rgt (zi 19) (zi 21)) rfl <|
    ua (ron (zd 17) (zi 22)) rfl <|
    ah) fun fa fw bs hv ap z q ow => ?_
  have s2 := bg bs s2; have s26 := zh hv 23
  by_cases hc1 : (((¬ ((lE x.c1 x.r1) = true)) ∨ (¬ ((lE x.c2 x.r2) = true))) ∨ ((x.c2 : Int) < (x.c1 : Int))) ∨ ((x.r2 : Int) < (x.r1 : Int))
  ·refine ct s26 ((bor (bor (bor (dX (Iff.rfl)) (dX (Iff.rfl))) (decide_eq_true_iff)) (decide_eq_true_iff)).2 hc1) ?_
   refine rgx [yV _] 1 27 z q ow (
     uq1 rfl rfl rfl <|
     ah) fun fa fw bs hv ap z q ow => ?_
   have s2 := zh hv 0; refine wp_ret ?_; refine ao ?_; refine am rfl (ak s2) q ?_; exact ⟨(congrArg (fun n => Ending.returned (.int .i64 n)) (show _ = fX x by exact (vr hc1).symm)), ow.kept⟩
  refine cf s26 (bor (bor (bor (dX (Iff.rfl)) (dX (Iff.rfl))) (decide_eq_true_iff)) (decide_eq_true_iff)) hc1 ?_; refine wp_skip ?_; refine tn hK2 ?_
  refine rgx [yV _] 1 27 z q ow (
    uq1 rfl rfl rfl <|
    ah) fun fa fw bs hv ap z q ow => ?_
  have s2 := zh hv 0; refine wp_ret ?_; refine am rfl (ak s2) q ?_; exact ⟨(congrArg (fun n => Ending.returned (.int .i64 n)) (show _ = fX x by exact (vu hc1).symm)), ow.kept⟩
theorem ya (x : Rc) (c r : Int) (w : World) :
    Calls Tryz.prog 61 #[.agg #[.int .i64 x.c1, .int .i64 x.r1, .int .i64 x.c2, .int .i64 x.r2], .agg #[.int .i64 c, .int .i64 r]] w fun e w' => e = .returned (.bool (gU x c r)) ∧ Kept w w' := by
  go_enter Tryz.func61, Tryz.ntmps61
  refine rgx [bJ w.heap.size (.cells #[.int .i64 x.c1, .int .i64 x.r1, .int .i64 x.c2, .int .i64 x.r2] 34 (0, 0)), bJ w.heap.size (.cells #[.int .i64 c, .int .i64 r] 44 (0, 0)), yV _] 3 31 rfl rfl (Own.start w) (
    ux (t := 0) rfl <|
    ux (t := 1) rfl <|
    uq1 rfl rfl rfl <|
    ah) fun fa fw bs hv ap z q ov => ?_
  obtain ⟨gb1, s2, bgb1, hgb1⟩ := zn hv 0; have ov := ov.hc (Own.start w) bgb1 hgb1; obtain ⟨gb2, s3, bgb2, hgb2⟩ := zn hv 1; have ov := ov.cons hgb2 (Nat.le_trans (Own.start w).kept.size bgb2) (bG (cr ap 0 1 rfl rfl rfl s2 rfl s3 rfl) ((Own.start w).below bgb2)); have s4 := zh hv 2; have ow := ov
  refine rgx [yV (.pointer (some ⟨gb2, 0, none⟩)), yV _, yV (.pointer (some ⟨gb1, 0, none⟩)), yV _, yV _, yV _, yIf _ (yV (.pointer (some ⟨gb2, 0, none⟩))), yIf _ (yV _), yIf _ (yV (.pointer (some ⟨gb1, 2, none⟩))), yIf _ (yV _), yIf _ (yV _), yV _, yV _, yIf _ (yV (.pointer (some ⟨gb2, 1, none⟩))), yIf _ (yV _), yIf _ (yV (.pointer (some ⟨gb1, 1, none⟩))), yIf _ (yV _), yIf _ (yV _), yV _, yV _, yIf _ (yV (.pointer (some ⟨gb2, 1, none⟩))), yIf _ (yV _), yIf _ (yV (.pointer (some ⟨gb1, 3, none⟩))), yIf _ (yV _), yIf _ (yV _), yV _, yV _] 27 31 z q ow (
    ua (rfa (zt s3)) rfl <|
    ua (rlb ow 0 (zd 0)) rfl <|
    ua (rfa (zt s2)) rfl <|
    ua (rlb ow 1 (zd 2)) rfl <|
    ua (rgq (zd 1) (zd 3)) rfl <|
    uq2 4 rfl rfl <|
    ui (gd1 5) (rfa (zt s3)) rfl <|
    ui (gd1 5) (rlb ow 0 (zi 6)) rfl <|
    ui (gd1 5) (rfa (zt s2)) rfl <|
    ui (gd1 5) (rlb ow 1 (zi 8)) rfl <|
    ui (gd1 5) (rlq (zi 7) (zi 9)) rfl <|
    ua (ran (zd 5) (zi 10)) rfl <|
    uq2 11 rfl rfl <|
    ui (gd1 12) (rfa (zt s3)) rfl <|
    ui (gd1 12) (rlb ow 0 (zi 13)) rfl <|
    ui (gd1 12) (rfa (zt s2)) rfl <|
    ui (gd1 12) (rlb ow 1 (zi 15)) rfl <|
    ui (gd1 12) (rgq (zi 14) (zi 16)) rfl <|
    ua (ran (zd 12) (zi 17)) rfl <|
    uq2 18 rfl rfl <|
    ui (gd1 19) (rfa (zt s3)) rfl <|
    ui (gd1 19) (rlb ow 0 (zi 20)) rfl <|
    ui (gd1 19) (rfa (zt s2)) rfl <|
    ui (gd1 19) (rlb ow 1 (zi 22)) rfl <|
    ui (gd1 19) (rlq (zi 21) (zi 23)) rfl <|
    ua (ran (zd 19) (zi 24)) rfl <|
    uq3 25 rfl rfl <|
    ah) fun fa fw bs hv ap z q ow => ?_
  have s4 := zh hv 26; refine wp_ret ?_; refine am rfl (ak s4) q ?_; exact ⟨(congrArg (fun b => Ending.returned (.bool b)) (show _ = gU x c r by unfold gU; rw [Bool.eq_iff_iff]; simp only [Bool.or_eq_true, Bool.and_eq_true, decide_eq_true_eq]; omega)), ow.kept⟩
theorem oB (x : Rc) (c r : Int) (w : World) :
    Calls Tryz.prog 41 #[.agg #[.int .i64 x.c1, .int .i64 x.r1, .int .i64 x.c2, .int .i64 x.r2], .agg #[.int .i64 c, .int .i64 r]] w fun e w' => e = .returned (.bool (gU x c r)) ∧ Kept w w' := by
  go_enter Tryz.func41, Tryz.ntmps41
  refine rgx [bJ w.heap.size (.cells #[.int .i64 x.c1, .int .i64 x.r1, .int .i64 x.c2, .int .i64 x.r2] 34 (0, 0)), bJ w.heap.size (.cells #[.int .i64 c, .int .i64 r] 44 (0, 0)), yV _] 3 31 rfl rfl (Own.start w) (
    ux (t := 0) rfl <|
    ux (t := 1) rfl <|
    uq1 rfl rfl rfl <|
    ah) fun fa fw bs hv ap z q ov => ?_
  obtain ⟨gb1, s2, bgb1, hgb1⟩ := zn hv 0; have ov := ov.hc (Own.start w) bgb1 hgb1; obtain ⟨gb2, s3, bgb2, hgb2⟩ := zn hv 1; have ov := ov.cons hgb2 (Nat.le_trans (Own.start w).kept.size bgb2) (bG (cr ap 0 1 rfl rfl rfl s2 rfl s3 rfl) ((Own.start w).below bgb2)); have s4 := zh hv 2; have ow := ov
  refine rgx [yV (.pointer (some ⟨gb1, 0, none⟩)), yV _, yV (.pointer (some ⟨gb2, 0, none⟩)), yV _, yV _, yV _, yIf _ (yV (.pointer (some ⟨gb2, 0, none⟩))), yIf _ (yV _), yIf _ (yV (.pointer (some ⟨gb1, 2, none⟩))), yIf _ (yV _), yIf _ (yV _), yV _, yV _, yIf _ (yV (.pointer (some ⟨gb1, 1, none⟩))), yIf _ (yV _), yIf _ (yV (.pointer (some ⟨gb2, 1, none⟩))), yIf _ (yV _), yIf _ (yV _), yV _, yV _, yIf _ (yV (.pointer (some ⟨gb2, 1, none⟩))), yIf _ (yV _), yIf _ (yV (.pointer (some ⟨gb1, 3, none⟩))), yIf _ (yV _), yIf _ (yV _), yV _, yV _] 27 31 z q ow (
    ua (rfa (zt s2)) rfl <|
    ua (rlb ow 1 (zd 0)) rfl <|
    ua (rfa (zt s3)) rfl <|
    ua (rlb ow 0 (zd 2)) rfl <|
    ua (rlq (zd 1) (zd 3)) rfl <|
    uq2 4 rfl rfl <|
    ui (gd1 5) (rfa (zt s3)) rfl <|
    ui (gd1 5) (rlb ow 0 (zi 6)) rfl <|
    ui (gd1 5) (rfa (zt s2)) rfl <|
    ui (gd1 5) (rlb ow 1 (zi 8)) rfl <|
    ui (gd1 5) (rlq (zi 7) (zi 9)) rfl <|
    ua (ran (zd 5) (zi 10)) rfl <|
    uq2 11 rfl rfl <|
    ui (gd1 12) (rfa (zt s2)) rfl <|
    ui (gd1 12) (rlb ow 1 (zi 13)) rfl <|
    ui (gd1 12) (rfa (zt s3)) rfl <|
    ui (gd1 12) (rlb ow 0 (zi 15)) rfl <|
    ui (gd1 12) (rlq (zi 14) (zi 16)) rfl <|
    ua (ran (zd 12) (zi 17)) rfl <|
    uq2 18 rfl rfl <|
    ui (gd1 19) (rfa (zt s3)) rfl <|
    ui (gd1 19) (rlb ow 0 (zi 20)) rfl <|
    ui (gd1 19) (rfa (zt s2)) rfl <|
    ui (gd1 19) (rlb ow 1 (zi 22)) rfl <|
    ui (gd1 19) (rlq (zi 21) (zi 23)) rfl <|
    ua (ran (zd 19) (zi 24)) rfl <|
    uq3 25 rfl rfl <|
    ah) fun fa fw bs hv ap z q ow => ?_
  have s4 := zh hv 26; refine wp_ret ?_; refine am rfl (ak s4) q ?_; exact ⟨(congrArg (fun b => Ending.returned (.bool b)) (show _ = gU x c r by unfold gU; rw [Bool.eq_iff_iff]; simp only [Bool.or_eq_true, Bool.and_eq_true, decide_eq_true_eq]; omega)), ow.kept⟩
theorem vx (x : Rc) (w : World) :
    Calls Tryz.prog 16 #[.agg #[.int .i64 x.c1, .int .i64 x.r1, .int .i64 x.c2, .int .i64 x.r2]] w fun e w' => e = .returned (.tuple #[.int .i64 (ck x), .int .i64 (fX x)]) ∧ Kept w w' := by
  go_enter Tryz.func16, Tryz.ntmps16
  refine rgx [bJ w.heap.size (.cells #[.int .i64 x.c1, .int .i64 x.r1, .int .i64 x.c2, .int .i64 x.r2] 34 (0, 0)), yV _, yV _] 3 23 rfl rfl (Own.start w) (
    ux (t := 0) rfl <|
    uq1 rfl rfl rfl <|
    uq1 rfl rfl rfl <|
    ah) fun fa fw bs hv ap z q ov => ?_
  obtain ⟨gb1, s1, bgb1, hgb1⟩ := zn hv 0; have ov := ov.hc (Own.start w) bgb1 hgb1; have s2 := zh hv 1; have s3 := zh hv 2; have ow := ov; refine sq fun hK2 => ?_
  refine rgx [yV (.agg #[.int .i64 x.c1, .int .i64 x.r1, .int .i64 x.c2, .int .i64 x.r2]), yV (.int .i64 (fX x)), yV _] 3 23 z q ow (
    ua (rln 4 ow 0 (zt s1)) rfl <|
    uc (rc1 (zd 0) iV) (fun hk => mn x _) rfl <|
    uq3 1 rfl rfl <|
    ah) fun fa fw bs hv ap z q ow => ?_
  obtain ⟨s1, s2, s3⟩ := b3 bs s1 s2 s3; have s4 := zh hv 2
  refine rgx [yV _, yV _] 2 23 z q ow (
    um s4 rfl <|
    ua (rne (zd 0) zc) rfl <|
    ah) fun fa fw bs hv ap z q ow => ?_
  obtain ⟨s1, s2, s3, s4⟩ := b4 bs s1 s2 s3 s4; have s8 := zh hv 1
  by_cases hc1 : (fX x : Int) ≠ (0 : Int)
  ·refine ct s8 ((decide_eq_true_iff).2 hc1) ?_
   have hno : okR x = false := rv hc1
   refine rgx [yV _, yV _, yV _] 3 23 z q ow (
     um s4 rfl <|
     uq1 rfl rfl rfl <|
     uq3 0 rfl rfl <|
     ah) fun fa fw bs hv ap z q ow => ?_
   have s1 := bg bs s1; have s2 := zh hv 1; have s3 := zh hv 2; refine wp_ret ?_; refine ao ?_; refine aU (v := .tuple #[.int .i64 0, .int .i64 (fX x)]) rfl (.cons (ak s2) (.cons (ak s3) .nil)) rfl q ?_; exact ⟨(by show Ending.returned (.tuple #[.int .i64 _, .int .i64 _]) = .returned (.tuple #[.int .i64 (ck x), .int .i64 (fX x)]); rw [show ck x = _ from Af hno, show fX x = _ from rfl]), ow.kept⟩
  refine cf s8 (decide_eq_true_iff) hc1 ?_; have hok : okR x = true := mN hc1; obtain ⟨⟨o1, o2, o3⟩, o4, o5, o6⟩ := jx.1 hok; have hp := Ag o2 o5 (Int.le_trans (Int.sub_le_sub o3 o1) (by decide)) (Int.le_trans (Int.sub_le_sub o6 o4) (by decide)); refine wp_skip ?_; refine tn hK2 ?_
  refine rgx [yV (.pointer (some ⟨gb1, 2, none⟩)), yV _, yV (.pointer (some ⟨gb1, 0, none⟩)), yV _, yV _, yV _, yV (.pointer (some ⟨gb1, 3, none⟩)), yV _, yV (.pointer (some ⟨gb1, 1, none⟩)), yV _, yV _, yV _, yV _, yV _, yV _] 15 23 z q ow (
    ua (rfa (zt s1)) rfl <|
    ua (rlb ow 0 (zd 0)) rfl <|
    ua (rfa (zt s1)) rfl <|
    ua (rlb ow 0 (zd 2)) rfl <|
    ua (rsb (zd 1) (zd 3)) rfl <|
    ua (rad (zd 4) zc) rfl <|
    ua (rfa (zt s1)) rfl <|
    ua (rlb ow 0 (zd 6)) rfl <|
    ua (rfa (zt s1)) rfl <|
    ua (rlb ow 0 (zd 8)) rfl <|
    ua (rsb (zd 7) (zd 9)) rfl <|
    ua (rad (zd 10) zc) rfl <|
    aS (fun hk bs hd => B8 (Or.inl rfl) rfl (dp hd 5 rfl) (dp hd 11 rfl) hp.1 hp.2) rfl <|
    uq3 12 rfl rfl <|
    uq1 rfl rfl rfl <|
    ah) fun fa fw bs hv ap z q ow => ?_
  have s2 := zh hv 13; have s3 := zh hv 14; refine wp_ret ?_; refine aU (v := .tuple #[.int .i64 (((x.c2 - x.c1) + 1) * ((x.r2 - x.r1) + 1)), .int .i64 0]) rfl (.cons (ak s2) (.cons (ak s3) .nil)) rfl q ?_; exact ⟨(by show Ending.returned (.tuple #[.int .i64 _, .int .i64 _]) = .returned (.tuple #[.int .i64 (ck x), .int .i64 (fX x)]); rw [show ck x = _ from xY hok, show fX x = _ from vv hok]), ow.kept⟩
theorem kN (x : Rc) (A : Option Addr) (n cap : Nat) (w : World) :
    Calls Tryz.prog 105 #[.agg #[.int .i64 x.c1, .int .i64 x.r1, .int .i64 x.c2, .int .i64 x.r2, .slice A n cap]] w fun e w' => e = .returned (.int .i64 (ck x)) ∧ Kept w w' := by
  go_enter Tryz.func105, Tryz.ntmps105
  refine rgx [bJ w.heap.size (.cells #[.int .i64 x.c1, .int .i64 x.r1, .int .i64 x.c2, .int .i64 x.r2, .slice A n cap] 37 (0, 0)), yV _] 2 12 rfl rfl (Own.start w) (
    ux (t := 0) rfl <|
    uq1 rfl rfl rfl <|
    ah) fun fa fw bs hv ap z q ov => ?_
  obtain ⟨gb1, s1, bgb1, hgb1⟩ := zn hv 0; have ov := ov.hc (Own.start w) bgb1 hgb1; have s2 := zh hv 1; have ow := ov
  refine rgx [yV (.pointer (some ⟨gb1, 0, none⟩)), yV (.agg #[.int .i64 x.c1, .int .i64 x.r1, .int .i64 x.c2, .int .i64 x.r2]), yV (.tuple #[.int .i64 (ck x), .int .i64 (fX x)]), yV _, yV _, yV _, yV _, yV _] 8 12 z q ow (
    ua (rfa (zt s1)) rfl <|
    ua (rln 4 ow 0 (zd 0)) rfl <|
    uc (rc1 (zd 1) oy) (fun hk => vx x _) rfl <|
    uq2 2 rfl rfl <|
    ua (rex (zd 3)) rfl <|
    ua (rex (zd 3)) rfl <|
    uq3 4 rfl rfl <|
    uq3 5 rfl rfl <|
    ah) fun fa fw bs hv ap z q ow => ?_
  have s2 := bg bs s2; have s3 := zh hv 6
  refine rgx [yV _, yV _] 2 12 z q ow (
    um s3 rfl <|
    uq3 0 rfl rfl <|
    ah) fun fa fw bs hv ap z q ow => ?_
  have s2 := zh hv 1; refine wp_ret ?_; refine am rfl (ak s2) q ?_; exact ⟨rfl, ow.kept⟩
theorem jz (x : Rc) (A : Option Addr) (n cap : Nat) (c r : Int) (w : World) (ho : okR x = true) (hh : gU x c r = true) :
    Calls Tryz.prog 62 #[.agg #[.int .i64 x.c1, .int .i64 x.r1, .int .i64 x.c2, .int .i64 x.r2, .slice A n cap], .agg #[.int .i64 c, .int .i64 r]] w fun e w' => e = .returned (.int .i64 (cJ x c r)) ∧ Kept w w' := by
  obtain ⟨⟨o1, o2, o3⟩, o4, o5, o6⟩ := jx.1 ho; have i1 := vq hh; have i2 := Ce hh; have i3 := mj (a := r - x.r1) (b := x.c2 - x.c1 + 1) (by omega) (by omega) (by omega) (by omega); go_enter Tryz.func62, Tryz.ntmps62
  refine rgx [bJ w.heap.size (.cells #[.int .i64 x.c1, .int .i64 x.r1, .int .i64 x.c2, .int .i64 x.r2, .slice A n cap] 37 (0, 0)), bJ w.heap.size (.cells #[.int .i64 c, .int .i64 r] 44 (0, 0)), yV _] 3 27 rfl rfl (Own.start w) (
    ux (t := 0) rfl <|
    ux (t := 1) rfl <|
    uq1 rfl rfl rfl <|
    ah) fun fa fw bs hv ap z q ov => ?_
  obtain ⟨gb1, s2, bgb1, hgb1⟩ := zn hv 0; have ov := ov.hc (Own.start w) bgb1 hgb1; obtain ⟨gb2, s3, bgb2, hgb2⟩ := zn hv 1; have ov := ov.cons hgb2 (Nat.le_trans (Own.start w).kept.size bgb2) (bG (cr ap 0 1 rfl rfl rfl s2 rfl s3 rfl) ((Own.start w).below bgb2)); have s4 := zh hv 2; have ow := ov
  refine rgx [yV (.pointer (some ⟨gb2, 1, none⟩)), yV _, yV (.pointer (some ⟨gb1, 0, none⟩)), yV (.pointer (some ⟨gb1, 1, none⟩)), yV _, yV _, yV (.pointer (some ⟨gb1, 0, none⟩)), yV (.pointer (some ⟨gb1, 2, none⟩)), yV _, yV (.pointer (some ⟨gb1, 0, none⟩)), yV (.pointer (some ⟨gb1, 0, none⟩)), yV _, yV _, yV _, yV _, yV (.pointer (some ⟨gb2, 0, none⟩)), yV _, yV _, yV (.pointer (some ⟨gb1, 0, none⟩)), yV (.pointer (some ⟨gb1, 0, none⟩)), yV _, yV _, yV _] 23 27 z q ow (
    ua (rfa (zt s3)) rfl <|
    ua (rlb ow 0 (zd 0)) rfl <|
    ua (rfa (zt s2)) rfl <|
    ua (rfa (zd 2)) rfl <|
    ua (rlb ow 1 (zd 3)) rfl <|
    ua (rsb (zd 1) (zd 4)) rfl <|
    ua (rfa (zt s2)) rfl <|
    ua (rfa (zd 6)) rfl <|
    ua (rlb ow 1 (zd 7)) rfl <|
    ua (rfa (zt s2)) rfl <|
    ua (rfa (zd 9)) rfl <|
    ua (rlb ow 1 (zd 10)) rfl <|
    ua (rsb (zd 8) (zd 11)) rfl <|
    ua (rad (zd 12) zc) rfl <|
    aS (fun hk bs hd => B8 (Or.inl rfl) rfl (dp hd 5 rfl) (dp hd 13 rfl) (by omega) (by omega)) rfl <|
    ua (rfa (zt s3)) rfl <|
    ua (rlb ow 0 (zd 15)) rfl <|
    ua (rad (zd 14) (zd 16)) rfl <|
    ua (rfa (zt s2)) rfl <|
    ua (rfa (zd 18)) rfl <|
    ua (rlb ow 1 (zd 19)) rfl <|
    ua (rsb (zd 17) (zd 20)) rfl <|
    uq3 21 rfl rfl <|
    ah) fun fa fw bs hv ap z q ow => ?_
  have s4 := zh hv 22; refine wp_ret ?_; refine am rfl (ak s4) q ?_; exact ⟨(congrArg (fun n => Ending.returned (.int .i64 n)) (show _ = cJ x c r by rfl)), ow.kept⟩
theorem oC (c1 c2 : Cl) (w : World) :
    Calls Tryz.prog 42 #[.agg #[.int .i64 c1.c, .int .i64 c1.r], .agg #[.int .i64 c2.c, .int .i64 c2.r]] w fun e w' => e = .returned (.bool (cO c1 c2)) ∧ Kept w w' := by
  go_enter Tryz.func42, Tryz.ntmps42
  refine rgx [bJ w.heap.size (.cells #[.int .i64 c1.c, .int .i64 c1.r] 44 (0, 0)), bJ w.heap.size (.cells #[.int .i64 c2.c, .int .i64 c2.r] 44 (0, 0)), yV _] 3 24 rfl rfl (Own.start w) (
    ux (t := 0) rfl <|
    ux (t := 1) rfl <|
    uq1 rfl rfl rfl <|
    ah) fun fa fw bs hv ap z q ov => ?_
  obtain ⟨gb1, s2, bgb1, hgb1⟩ := zn hv 0; have ov := ov.hc (Own.start w) bgb1 hgb1; obtain ⟨gb2, s3, bgb2, hgb2⟩ := zn hv 1; have ov := ov.cons hgb2 (Nat.le_trans (Own.start w).kept.size bgb2) (bG (cr ap 0 1 rfl rfl rfl s2 rfl s3 rfl) ((Own.start w).below bgb2)); have s4 := zh hv 2; have ow := ov
  refine rgx [yV (.pointer (some ⟨gb1, 1, none⟩)), yV _, yV (.pointer (some ⟨gb2, 1, none⟩)), yV _, yV _, yV _, yIf _ (yV (.pointer (some ⟨gb1, 1, none⟩))), yIf _ (yV _), yIf _ (yV (.pointer (some ⟨gb2, 1, none⟩))), yIf _ (yV _), yIf _ (yV _), yIf _ (yV _), yIf _ (yV (.pointer (some ⟨gb1, 0, none⟩))), yIf _ (yV _), yIf _ (yV (.pointer (some ⟨gb2, 0, none⟩))), yIf _ (yV _), yIf _ (yV _), yIf _ (yV _), yV _, yV _] 20 24 z q ow (
    ua (rfa (zt s2)) rfl <|
    ua (rlb ow 1 (zd 0)) rfl <|
    ua (rfa (zt s3)) rfl <|
    ua (rlb ow 0 (zd 2)) rfl <|
    ua (rlt (zd 1) (zd 3)) rfl <|
    uq2 4 rfl rfl <|
    ui (gd1 5) (rfa (zt s2)) rfl <|
    ui (gd1 5) (rlb ow 1 (zi 6)) rfl <|
    ui (gd1 5) (rfa (zt s3)) rfl <|
    ui (gd1 5) (rlb ow 0 (zi 8)) rfl <|
    ui (gd1 5) (req (zi 7) (zi 9)) rfl <|
    ui (gd1 5) (rmo (zi 10)) rfl <|
    ui (gd2 11) (rfa (zt s2)) rfl <|
    ui (gd2 11) (rlb ow 1 (zi 12)) rfl <|
    ui (gd2 11) (rfa (zt s3)) rfl <|
    ui (gd2 11) (rlb ow 0 (zi 14)) rfl <|
    ui (gd2 11) (rlt (zi 13) (zi 15)) rfl <|
    ui (gd1 5) (rai (zi 11) (zi 16)) rfl <|
    ua (ron (zd 5) (zi 17)) rfl <|
    uq3 18 rfl rfl <|
    ah) fun fa fw bs hv ap z q ow => ?_
  have s4 := zh hv 19; refine wp_ret ?_; refine am rfl (ak s4) q ?_; exact ⟨(congrArg (fun b => Ending.returned (.bool b)) (show _ = cO c1 c2 by rfl)), ow.kept⟩
