/- Layer 16: ranges and addresses (printed by wip/mkagg1.py). -/
import Derived.Test.YtbkjdcpfkepheaaGreatDoorUMixAN
namespace Go.Proofs.YtbkjdcpfkepheaaGreatDoor
set_option linter.unusedVariables false
set_option linter.unusedSimpArgs false
open Go.RowKit Lv
set_option maxRecDepth 100000
def chkR (x : Rc) : Int := if okR x then 0 else 3
theorem chkR_no {x : Rc} (h : (((¬ (okAt x.c1 x.r1 = true)) ∨ (¬ (okAt x.c2 x.r2 = true))) ∨ ((x.c2 : Int) < (x.c1 : Int))) ∨ ((x.r2 : Int) < (x.r1 : Int))) : chkR x = 3 := by
  unfold chkR okR; rw [if_neg]; intro c
  simp only [Bool.and_eq_true, decide_eq_true_eq] at c
  rcases h with ((h | h) | h) | h
  · exact h c.1.1
  · exact h c.1.2
  · omega
  · omega
theorem chkR_ok {x : Rc} (h : ¬ ((((¬ (okAt x.c1 x.r1 = true)) ∨ (¬ (okAt x.c2 x.r2 = true))) ∨ ((x.c2 : Int) < (x.c1 : Int))) ∨ ((x.r2 : Int) < (x.r1 : Int)))) : chkR x = 0 := by
  unfold chkR okR; rw [if_pos]
  simp only [Bool.and_eq_true, decide_eq_true_eq]
  simp only [not_or, Classical.not_not] at h
  obtain ⟨⟨⟨a, b⟩, c⟩, d⟩ := h; exact ⟨⟨a, b⟩, by omega⟩
theorem chkR_0 {x : Rc} (h : okR x = true) : chkR x = 0 := by unfold chkR; rw [if_pos h]
theorem chkR_3 {x : Rc} (h : okR x = false) : chkR x = 3 := by unfold chkR; rw [h]; rfl
theorem chkR_yes {x : Rc} (h : ¬ ((chkR x : Int) ≠ (0 : Int))) : okR x = true := by
  cases e : okR x with
  | true => rfl
  | false => rw [chkR_3 e] at h; exact absurd (by decide) h
theorem chkR_bad {x : Rc} (h : (chkR x : Int) ≠ (0 : Int)) : okR x = false := by
  cases e : okR x with
  | false => rfl
  | true => rw [chkR_0 e] at h; exact absurd rfl h
theorem size_no {x : Rc} (h : okR x = false) : size16 x = 0 := by unfold size16; rw [h]; rfl
theorem size_yes {x : Rc} (h : okR x = true) : size16 x = (x.c2 - x.c1 + 1) * (x.r2 - x.r1 + 1) := by unfold size16; rw [if_pos h]; rfl
theorem mul_in {a b : Int} (h0 : 0 ≤ a) (h1 : a ≤ 1024) (h2 : 0 ≤ b) (h3 : b ≤ 1024) : 0 ≤ a * b ∧ a * b ≤ 1048576 := by
  have e0 := Int.mul_nonneg h0 h2; have e1 : a * b ≤ 1024 * 1024 := Int.mul_le_mul h1 h3 h2 (by decide); exact ⟨e0, by omega⟩
theorem wh_in {a b c d : Int} (h1 : a ≤ b) (h2 : c ≤ d) (h3 : b - a ≤ 1023) (h4 : d - c ≤ 1023) : -9223372036854775808 ≤ (b - a + 1) * (d - c + 1) ∧ (b - a + 1) * (d - c + 1) ≤ 9223372036854775807 := by
  have := mul_in (a := b - a + 1) (b := d - c + 1) (by omega) (by omega) (by omega) (by omega)
  omega
theorem has_in {x : Rc} {c r : Int} (h : hasR x c r = true) : (x.c1 ≤ c ∧ c ≤ x.c2) ∧ x.r1 ≤ r ∧ r ≤ x.r2 := by
  unfold hasR at h; rw [decide_eq_true_eq] at h
  omega
theorem place_in {x : Rc} {i : Int} (h2 : x.c1 ≤ x.c2) (h5 : x.r1 ≤ x.r2) (h0 : 0 ≤ i) (h1 : i < wide16 x * high16 x) : (0 ≤ i % wide16 x ∧ i % wide16 x < wide16 x) ∧ wide16 x = x.c2 - x.c1 + 1 ∧ (0 ≤ i / wide16 x ∧ i / wide16 x < high16 x) ∧ high16 x = x.r2 - x.r1 + 1 := by
  have hw : wide16 x = x.c2 - x.c1 + 1 := rfl; have hh : high16 x = x.r2 - x.r1 + 1 := rfl; have p : 0 < wide16 x := by omega
  refine ⟨⟨Int.emod_nonneg _ (by omega), Int.emod_lt_of_pos _ p⟩, hw, ⟨Int.ediv_nonneg h0 (by omega), ?_⟩, hh⟩; exact Int.ediv_lt_of_lt_mul p (by rw [Int.mul_comm]; exact h1)
theorem en_addr_Valid : En 83 := by intro args w; go_simp
theorem en_louvreref02_Valid : En 78 := by intro args w; go_simp
theorem en_louvreref03_Check : En 40 := by intro args w; go_simp
theorem en_louvreref03_From : En 79 := by intro args w; go_simp
theorem en_louvreref03_To : En 80 := by intro args w; go_simp
theorem en_rect_Area : En 16 := by intro args w; go_simp
theorem en_rect_Check : En 46 := by intro args w; go_simp
theorem en_rect_corners : En 82 := by intro args w; go_simp
set_option maxHeartbeats 4000000 in
theorem avalid_any (c r : Int) (w : World) :
    Calls Tryz.prog 83 #[.agg #[.int .i64 c, .int .i64 r]] w fun e w' => e = .returned (.bool (okAt c r)) ∧ Kept w w' := by
  go_enter Tryz.func83, Tryz.ntmps83; refine sq fun hK1 => ?_
  refine ro [yNew w.heap.size (.cells #[.int .i64 c, .int .i64 r] 44 (0, 0)), yV _] 2 21 rfl rfl (Own.start w) (
    aP (fun hk bs hd => xbox rfl (bs.get 0 rfl rfl) (by kernel_rfl)) rfl <|
    aS (fun hk bs hd => xassign rfl rfl) rfl <|
    arm0) fun fa fw bs hv ap z q ov => ?_
  obtain ⟨gb1, s1, bgb1, hgb1⟩ := gotP hv 0 rfl rfl rfl; have ov := ov.cons hgb1 (Nat.le_trans (Own.start w).kept.size bgb1) ((Own.start w).below bgb1); have s2 := gv hv 1 rfl rfl; have ow := ov; refine wt hK1 ?_; refine sq fun hK2 => ?_
  refine ro [yV (.pointer (some ⟨gb1, 0, none⟩)), yV _, yV _, yV _, yIf _ (yV (.pointer (some ⟨gb1, 0, none⟩))), yIf _ (yV _), yIf _ (yV _), yV _, yV _, yIf _ (yV (.pointer (some ⟨gb1, 1, none⟩))), yIf _ (yV _), yIf _ (yV _), yV _, yV _, yIf _ (yV (.pointer (some ⟨gb1, 1, none⟩))), yIf _ (yV _), yIf _ (yV _), yV _, yV _] 19 21 z q ow (
    aS (fun hk bs hd => xfieldAddr rfl (bg bs s1) (by kernel_rfl)) rfl <|
    aS (fun hk bs hd => xloadB rfl (by kernel_rfl) (dp hd 0 rfl) ((ow.keep hk).box 0 rfl) rfl) rfl <|
    aS (fun hk bs hd => xgeq rfl (dp hd 1 rfl) rfl) rfl <|
    mvD 2 rfl rfl rfl rfl rfl rfl <|
    ai (g1 3 rfl rfl) (fun hk bs hd hz => xfieldAddr rfl (bg bs s1) (by kernel_rfl)) rfl <|
    ai (g1 3 rfl rfl) (fun hk bs hd hz => xloadB rfl (by kernel_rfl) (di hd 4 rfl hz) ((ow.keep hk).box 0 rfl) rfl) rfl <|
    ai (g1 3 rfl rfl) (fun hk bs hd hz => xleq rfl (di hd 5 rfl hz) rfl) rfl <|
    aS (fun hk bs hd => xand rfl (dp hd 3 rfl) (fun hb => di hd 6 rfl hb) rfl) rfl <|
    mvD 7 rfl rfl rfl rfl rfl rfl <|
    ai (g1 8 rfl rfl) (fun hk bs hd hz => xfieldAddr rfl (bg bs s1) (by kernel_rfl)) rfl <|
    ai (g1 8 rfl rfl) (fun hk bs hd hz => xloadB rfl (by kernel_rfl) (di hd 9 rfl hz) ((ow.keep hk).box 0 rfl) rfl) rfl <|
    ai (g1 8 rfl rfl) (fun hk bs hd hz => xgeq rfl (di hd 10 rfl hz) rfl) rfl <|
    aS (fun hk bs hd => xand rfl (dp hd 8 rfl) (fun hb => di hd 11 rfl hb) rfl) rfl <|
    mvD 12 rfl rfl rfl rfl rfl rfl <|
    ai (g1 13 rfl rfl) (fun hk bs hd hz => xfieldAddr rfl (bg bs s1) (by kernel_rfl)) rfl <|
    ai (g1 13 rfl rfl) (fun hk bs hd hz => xloadB rfl (by kernel_rfl) (di hd 14 rfl hz) ((ow.keep hk).box 0 rfl) rfl) rfl <|
    ai (g1 13 rfl rfl) (fun hk bs hd hz => xleq rfl (di hd 15 rfl hz) rfl) rfl <|
    aS (fun hk bs hd => xand rfl (dp hd 13 rfl) (fun hb => di hd 16 rfl hb) rfl) rfl <|
    asD 17 rfl rfl rfl rfl rfl rfl <|
    arm0) fun fa fw bs hv ap z q ow => ?_
  have s2 := gv hv 18 rfl rfl; refine wt hK2 ?_; refine wp_ret ?_; refine results_one rfl (res_tmp s2) q ?_; exact ⟨(congrArg (fun b => Ending.returned (.bool b)) (show _ = okAt c r by unfold okAt; rw [Bool.eq_iff_iff]; simp only [Bool.or_eq_true, Bool.and_eq_true, decide_eq_true_eq]; omega)), ow.kept⟩
set_option maxHeartbeats 4000000 in
theorem rvalid2_any (c r : Int) (w : World) :
    Calls Tryz.prog 78 #[.agg #[.int .i64 c, .int .i64 r]] w fun e w' => e = .returned (.bool (okAt c r)) ∧ Kept w w' := by
  go_enter Tryz.func78, Tryz.ntmps78; refine sq fun hK1 => ?_
  refine ro [yNew w.heap.size (.cells #[.int .i64 c, .int .i64 r] 44 (0, 0)), yV _] 2 21 rfl rfl (Own.start w) (
    aP (fun hk bs hd => xbox rfl (bs.get 0 rfl rfl) (by kernel_rfl)) rfl <|
    aS (fun hk bs hd => xassign rfl rfl) rfl <|
    arm0) fun fa fw bs hv ap z q ov => ?_
  obtain ⟨gb1, s1, bgb1, hgb1⟩ := gotP hv 0 rfl rfl rfl; have ov := ov.cons hgb1 (Nat.le_trans (Own.start w).kept.size bgb1) ((Own.start w).below bgb1); have s2 := gv hv 1 rfl rfl; have ow := ov; refine wt hK1 ?_; refine sq fun hK2 => ?_
  refine ro [yV (.pointer (some ⟨gb1, 0, none⟩)), yV _, yV _, yV _, yIf _ (yV (.pointer (some ⟨gb1, 0, none⟩))), yIf _ (yV _), yIf _ (yV _), yV _, yV _, yIf _ (yV (.pointer (some ⟨gb1, 1, none⟩))), yIf _ (yV _), yIf _ (yV _), yV _, yV _, yIf _ (yV (.pointer (some ⟨gb1, 1, none⟩))), yIf _ (yV _), yIf _ (yV _), yV _, yV _] 19 21 z q ow (
    aS (fun hk bs hd => xfieldAddr rfl (bg bs s1) (by kernel_rfl)) rfl <|
    aS (fun hk bs hd => xloadB rfl (by kernel_rfl) (dp hd 0 rfl) ((ow.keep hk).box 0 rfl) rfl) rfl <|
    aS (fun hk bs hd => xgeq rfl (dp hd 1 rfl) rfl) rfl <|
    mvD 2 rfl rfl rfl rfl rfl rfl <|
    ai (g1 3 rfl rfl) (fun hk bs hd hz => xfieldAddr rfl (bg bs s1) (by kernel_rfl)) rfl <|
    ai (g1 3 rfl rfl) (fun hk bs hd hz => xloadB rfl (by kernel_rfl) (di hd 4 rfl hz) ((ow.keep hk).box 0 rfl) rfl) rfl <|
    ai (g1 3 rfl rfl) (fun hk bs hd hz => xleq rfl (di hd 5 rfl hz) rfl) rfl <|
    aS (fun hk bs hd => xand rfl (dp hd 3 rfl) (fun hb => di hd 6 rfl hb) rfl) rfl <|
    mvD 7 rfl rfl rfl rfl rfl rfl <|
    ai (g1 8 rfl rfl) (fun hk bs hd hz => xfieldAddr rfl (bg bs s1) (by kernel_rfl)) rfl <|
    ai (g1 8 rfl rfl) (fun hk bs hd hz => xloadB rfl (by kernel_rfl) (di hd 9 rfl hz) ((ow.keep hk).box 0 rfl) rfl) rfl <|
    ai (g1 8 rfl rfl) (fun hk bs hd hz => xgeq rfl (di hd 10 rfl hz) rfl) rfl <|
    aS (fun hk bs hd => xand rfl (dp hd 8 rfl) (fun hb => di hd 11 rfl hb) rfl) rfl <|
    mvD 12 rfl rfl rfl rfl rfl rfl <|
    ai (g1 13 rfl rfl) (fun hk bs hd hz => xfieldAddr rfl (bg bs s1) (by kernel_rfl)) rfl <|
    ai (g1 13 rfl rfl) (fun hk bs hd hz => xloadB rfl (by kernel_rfl) (di hd 14 rfl hz) ((ow.keep hk).box 0 rfl) rfl) rfl <|
    ai (g1 13 rfl rfl) (fun hk bs hd hz => xleq rfl (di hd 15 rfl hz) rfl) rfl <|
    aS (fun hk bs hd => xand rfl (dp hd 13 rfl) (fun hb => di hd 16 rfl hb) rfl) rfl <|
    asD 17 rfl rfl rfl rfl rfl rfl <|
    arm0) fun fa fw bs hv ap z q ow => ?_
  have s2 := gv hv 18 rfl rfl; refine wt hK2 ?_; refine wp_ret ?_; refine results_one rfl (res_tmp s2) q ?_; exact ⟨(congrArg (fun b => Ending.returned (.bool b)) (show _ = okAt c r by unfold okAt; rw [Bool.eq_iff_iff]; simp only [Bool.or_eq_true, Bool.and_eq_true, decide_eq_true_eq]; omega)), ow.kept⟩
set_option maxHeartbeats 4000000 in
theorem corners_any (x : Rc) (w : World) :
    Calls Tryz.prog 82 #[.agg #[.int .i64 x.c1, .int .i64 x.r1, .int .i64 x.c2, .int .i64 x.r2]] w fun e w' => e = .returned (.tuple #[.agg #[.int .i64 x.c1, .int .i64 x.r1], .agg #[.int .i64 x.c2, .int .i64 x.r2]]) ∧ Kept w w' := by
  go_enter Tryz.func82, Tryz.ntmps82; refine sq fun hK1 => ?_
  refine ro [yNew w.heap.size (.cells #[.int .i64 x.c1, .int .i64 x.r1, .int .i64 x.c2, .int .i64 x.r2] 34 (0, 0)), yNew w.heap.size (.cells #[.int .i64 0, .int .i64 0] 44 (0, 0)), yNew w.heap.size (.cells #[.int .i64 0, .int .i64 0] 44 (0, 0))] 3 14 rfl rfl (Own.start w) (
    aP (fun hk bs hd => xbox rfl (bs.get 0 rfl rfl) (by kernel_rfl)) rfl <|
    aP (fun hk bs hd => xalloc rfl (by kernel_rfl)) rfl <|
    aP (fun hk bs hd => xalloc rfl (by kernel_rfl)) rfl <|
    arm0) fun fa fw bs hv ap z q ov => ?_
  obtain ⟨gb1, s1, bgb1, hgb1⟩ := gotP hv 0 rfl rfl rfl; have ov := ov.cons hgb1 (Nat.le_trans (Own.start w).kept.size bgb1) ((Own.start w).below bgb1); obtain ⟨gb2, s2, bgb2, hgb2⟩ := gotP hv 1 rfl rfl rfl; have ov := ov.cons hgb2 (Nat.le_trans (Own.start w).kept.size bgb2) (ne_cons (apartP ap 0 1 rfl rfl rfl s1 rfl s2 rfl) ((Own.start w).below bgb2)); obtain ⟨gb3, s3, bgb3, hgb3⟩ := gotP hv 2 rfl rfl rfl; have ov := ov.cons hgb3 (Nat.le_trans (Own.start w).kept.size bgb3) (ne_cons (apartP ap 1 2 rfl rfl rfl s2 rfl s3 rfl) (ne_cons (apartP ap 0 2 rfl rfl rfl s1 rfl s3 rfl) ((Own.start w).below bgb3))); have ow := ov; refine wt hK1 ?_; refine sq fun hK2 => ?_; refine region_chain [10, 11] [fun v => v = .pointer (some ⟨gb1, 0, none⟩), fun v => v = .int .i64 x.c1, fun v => v = .pointer (some ⟨gb1, 1, none⟩), fun v => v = .int .i64 x.r1, fun v => v = .agg #[.int .i64 x.c1, .int .i64 x.r1], fun v => v = .pointer (some ⟨gb1, 2, none⟩), fun v => v = .int .i64 x.c2, fun v => v = .pointer (some ⟨gb1, 3, none⟩), fun v => v = .int .i64 x.r2, fun v => v = .agg #[.int .i64 x.c2, .int .i64 x.r2], fun _ => True, fun _ => True] (Stages w [⟨fun gs ys => True, fun gs ys => [Th.obj gb3 (.cells #[.int .i64 0, .int .i64 0] 44 (0, 0)), Th.obj gb2 (.cells #[.int .i64 0, .int .i64 0] 44 (0, 0)), Th.obj gb1 (.cells #[.int .i64 x.c1, .int .i64 x.r1, .int .i64 x.c2, .int .i64 x.r2] 34 (0, 0))]⟩, ⟨fun gs ys => True, fun gs ys => [Th.obj gb3 (.cells #[.int .i64 0, .int .i64 0] 44 (0, 0)), Th.obj gb2 (.cells #[.int .i64 x.c1, .int .i64 x.r1] 44 (0, 0)), Th.obj gb1 (.cells #[.int .i64 x.c1, .int .i64 x.r1, .int .i64 x.c2, .int .i64 x.r2] 34 (0, 0))]⟩, ⟨fun gs ys => True, fun gs ys => [Th.obj gb3 (.cells #[.int .i64 x.c2, .int .i64 x.r2] 44 (0, 0)), Th.obj gb2 (.cells #[.int .i64 x.c1, .int .i64 x.r1] 44 (0, 0)), Th.obj gb1 (.cells #[.int .i64 x.c1, .int .i64 x.r1, .int .i64 x.c2, .int .i64 x.r2] 34 (0, 0))]⟩]) (fun u => Own w [Th.obj gb1 (.cells #[.int .i64 x.c1, .int .i64 x.r1, .int .i64 x.c2, .int .i64 x.r2] 34 (0, 0))] u) 14 (by kernel_rfl) z (by kernel_rfl) (by kernel_rfl) (Stages.of (stages_cons (fun gs ys w o => ((o.less 1).less 0)) (stages_cons (fun gs ys w o => ((o.less 1).less 0)) (stages_cons (fun gs ys w o => ((o.less 1).less 0)) stages_nil)))) (Stages.drew _ _) ⟨[], trivial, ow⟩ (fun i o ho hn aa ww hk bs hd => ?_) (fun t i o ht ho aa ww bs hS hd => ?_) (fun fa1 fw1 bs hv hS => ?_)
  ·match i, ho, hn with
    | 0, ho, hn =>
      cases ho
      exact ⟨.pointer (some ⟨gb1, 0, none⟩), xfieldAddr rfl ((bs 1 rfl).trans s1) (by kernel_rfl), rfl, fun h => by cases h⟩
    | 1, ho, hn =>
      cases ho
      have d0 : aa.eval (.tmp 4) = .pointer (some ⟨gb1, 0, none⟩) := depP hd 0 rfl; exact ⟨.int .i64 x.c1, xloadB rfl (by kernel_rfl) d0 (hk.box 0 rfl) rfl, rfl, fun h => by cases h⟩
    | 2, ho, hn =>
      cases ho
      exact ⟨.pointer (some ⟨gb1, 1, none⟩), xfieldAddr rfl ((bs 1 rfl).trans s1) (by kernel_rfl), rfl, fun h => by cases h⟩
    | 3, ho, hn =>
      cases ho
      have d2 : aa.eval (.tmp 6) = .pointer (some ⟨gb1, 1, none⟩) := depP hd 2 rfl; exact ⟨.int .i64 x.r1, xloadB rfl (by kernel_rfl) d2 (hk.box 0 rfl) rfl, rfl, fun h => by cases h⟩
    | 4, ho, hn =>
      cases ho
      have d1 : aa.eval (.tmp 5) = .int .i64 x.c1 := depP hd 1 rfl; have d3 : aa.eval (.tmp 7) = .int .i64 x.r1 := depP hd 3 rfl; exact ⟨.agg #[.int .i64 x.c1, .int .i64 x.r1], xbuild (us := #[(0, .int .i64 x.c1), (1, .int .i64 x.r1)]) rfl (by simp only [List.map_toArray, List.map_cons, List.map_nil, d1, d3]) (by kernel_rfl), rfl, fun h => by cases h⟩
    | 5, ho, hn =>
      cases ho
      exact ⟨.pointer (some ⟨gb1, 2, none⟩), xfieldAddr rfl ((bs 1 rfl).trans s1) (by kernel_rfl), rfl, fun h => by cases h⟩
    | 6, ho, hn =>
      cases ho
      have d5 : aa.eval (.tmp 9) = .pointer (some ⟨gb1, 2, none⟩) := depP hd 5 rfl; exact ⟨.int .i64 x.c2, xloadB rfl (by kernel_rfl) d5 (hk.box 0 rfl) rfl, rfl, fun h => by cases h⟩
    | 7, ho, hn =>
      cases ho
      exact ⟨.pointer (some ⟨gb1, 3, none⟩), xfieldAddr rfl ((bs 1 rfl).trans s1) (by kernel_rfl), rfl, fun h => by cases h⟩
    | 8, ho, hn =>
      cases ho
      have d7 : aa.eval (.tmp 11) = .pointer (some ⟨gb1, 3, none⟩) := depP hd 7 rfl; exact ⟨.int .i64 x.r2, xloadB rfl (by kernel_rfl) d7 (hk.box 0 rfl) rfl, rfl, fun h => by cases h⟩
    | 9, ho, hn =>
      cases ho
      have d6 : aa.eval (.tmp 10) = .int .i64 x.c2 := depP hd 6 rfl; have d8 : aa.eval (.tmp 12) = .int .i64 x.r2 := depP hd 8 rfl; exact ⟨.agg #[.int .i64 x.c2, .int .i64 x.r2], xbuild (us := #[(0, .int .i64 x.c2), (1, .int .i64 x.r2)]) rfl (by simp only [List.map_toArray, List.map_cons, List.map_nil, d6, d8]) (by kernel_rfl), rfl, fun h => by cases h⟩
    | 10, ho, hn => exact absurd (by decide) hn
    | 11, ho, hn => exact absurd (by decide) hn
    | i + 12, ho, hn => exact absurd ho (by simp)
  ·match t, ht with
    | 0, ht =>
      cases ht; cases ho
      have d4 : aa.eval (.tmp 8) = .agg #[.int .i64 x.c1, .int .i64 x.r1] := depP hd 4 rfl; obtain ⟨gs, hc, ow⟩ := (show ∃ gs : List Nat, (True) ∧ Own w [Th.obj gb3 (.cells #[.int .i64 0, .int .i64 0] 44 (0, 0)), Th.obj gb2 (.cells #[.int .i64 0, .int .i64 0] 44 (0, 0)), Th.obj gb1 (.cells #[.int .i64 x.c1, .int .i64 x.r1, .int .i64 x.c2, .int .i64 x.r2] 34 (0, 0))] ww from hS); obtain ⟨_⟩ := hc; exact stepC_skip (xstoreN (off := 0) rfl ((bs 2 rfl).trans s2) d4 (by kernel_rfl) (ow.box 1 rfl) rfl (Nat.le_of_ble_eq_true rfl)) trivial ⟨[], trivial, ow.put 1 rfl 0 [.int .i64 x.c1, .int .i64 x.r1]⟩
    | 1, ht =>
      cases ht; cases ho
      have d9 : aa.eval (.tmp 13) = .agg #[.int .i64 x.c2, .int .i64 x.r2] := depP hd 9 rfl; obtain ⟨gs, hc, ow⟩ := (show ∃ gs : List Nat, (True) ∧ Own w [Th.obj gb3 (.cells #[.int .i64 0, .int .i64 0] 44 (0, 0)), Th.obj gb2 (.cells #[.int .i64 x.c1, .int .i64 x.r1] 44 (0, 0)), Th.obj gb1 (.cells #[.int .i64 x.c1, .int .i64 x.r1, .int .i64 x.c2, .int .i64 x.r2] 34 (0, 0))] ww from hS); obtain ⟨_⟩ := hc; exact stepC_skip (xstoreN (off := 0) rfl ((bs 3 rfl).trans s3) d9 (by kernel_rfl) (ow.box 0 rfl) rfl (Nat.le_of_ble_eq_true rfl)) trivial ⟨[], trivial, ow.put 0 rfl 0 [.int .i64 x.c2, .int .i64 x.r2]⟩
    | t + 2, ht => exact absurd ht (by simp)
  obtain ⟨gs, hc, ow⟩ := (show ∃ gs : List Nat, (True) ∧ Own w [Th.obj gb3 (.cells #[.int .i64 x.c2, .int .i64 x.r2] 44 (0, 0)), Th.obj gb2 (.cells #[.int .i64 x.c1, .int .i64 x.r1] 44 (0, 0)), Th.obj gb1 (.cells #[.int .i64 x.c1, .int .i64 x.r1, .int .i64 x.c2, .int .i64 x.r2] 34 (0, 0))] fw1 from hS); obtain ⟨_⟩ := hc; have zfa1 : fa1.tmps.size = 14 := bs.size.trans z; have dffa1 : fa1.defers = [] := bs.defers.trans q; have s2_fa1 : fa1.eval (.tmp 2) = .pointer (some ⟨gb2, 0, none⟩) := (bs.same 2 (by kernel_rfl)).trans s2; have s3_fa1 : fa1.eval (.tmp 3) = .pointer (some ⟨gb3, 0, none⟩) := (bs.same 3 (by kernel_rfl)).trans s3; refine gather_n (fun fr u => fr.tmps.size = 14 ∧ fr.defers = [] ∧ Own w [Th.obj gb3 (.cells #[.int .i64 x.c2, .int .i64 x.r2] 44 (0, 0)), Th.obj gb2 (.cells #[.int .i64 x.c1, .int .i64 x.r1] 44 (0, 0)), Th.obj gb1 (.cells #[.int .i64 x.c1, .int .i64 x.r1, .int .i64 x.c2, .int .i64 x.r2] 34 (0, 0))] u ∧ fr.eval (.tmp 2) = .pointer (some ⟨gb2, 0, none⟩) ∧ fr.eval (.tmp 3) = .pointer (some ⟨gb3, 0, none⟩)) ⟨zfa1, dffa1, ow, s2_fa1, s3_fa1⟩ ?_; rintro fa fw ⟨z, q, ow, s2, s3⟩; refine tn hK2 ?_; refine wp_ret ?_; refine resultsL (v := .tuple #[.agg #[.int .i64 x.c1, .int .i64 x.r1], .agg #[.int .i64 x.c2, .int .i64 x.r2]]) rfl (.cons (res_cell (n := 2) _ s2 (by kernel_rfl) (by kernel_rfl) (ow.box 1 rfl) (Nat.le_of_ble_eq_true rfl) rfl) (.cons (res_cell (n := 2) _ s3 (by kernel_rfl) (by kernel_rfl) (ow.box 0 rfl) (Nat.le_of_ble_eq_true rfl) rfl) .nil)) rfl q ?_
  exact ⟨rfl, ow.kept⟩
set_option maxHeartbeats 4000000 in
theorem rfrom_any (x : Rc) (w : World) :
    Calls Tryz.prog 79 #[.agg #[.int .i64 x.c1, .int .i64 x.r1, .int .i64 x.c2, .int .i64 x.r2]] w fun e w' => e = .returned (.agg #[.int .i64 x.c1, .int .i64 x.r1]) ∧ Kept w w' := by
  go_enter Tryz.func79, Tryz.ntmps79; refine sq fun hK1 => ?_
  refine ro [yNew w.heap.size (.cells #[.int .i64 x.c1, .int .i64 x.r1, .int .i64 x.c2, .int .i64 x.r2] 34 (0, 0)), yNew w.heap.size (.cells #[.int .i64 0, .int .i64 0] 44 (0, 0))] 2 8 rfl rfl (Own.start w) (
    aP (fun hk bs hd => xbox rfl (bs.get 0 rfl rfl) (by kernel_rfl)) rfl <|
    aP (fun hk bs hd => xalloc rfl (by kernel_rfl)) rfl <|
    arm0) fun fa fw bs hv ap z q ov => ?_
  obtain ⟨gb1, s1, bgb1, hgb1⟩ := gotP hv 0 rfl rfl rfl; have ov := ov.cons hgb1 (Nat.le_trans (Own.start w).kept.size bgb1) ((Own.start w).below bgb1); obtain ⟨gb2, s2, bgb2, hgb2⟩ := gotP hv 1 rfl rfl rfl; have ov := ov.cons hgb2 (Nat.le_trans (Own.start w).kept.size bgb2) (ne_cons (apartP ap 0 1 rfl rfl rfl s1 rfl s2 rfl) ((Own.start w).below bgb2)); have ow := ov; refine wt hK1 ?_; refine sq fun hK2 => ?_
  refine ro [yV (.pointer (some ⟨gb1, 0, none⟩)), yV _, yV (.pointer (some ⟨gb1, 1, none⟩)), yV _, yV (.agg #[.int .i64 x.c1, .int .i64 x.r1])] 5 8 z q ow (
    aS (fun hk bs hd => xfieldAddr rfl (bg bs s1) (by kernel_rfl)) rfl <|
    aS (fun hk bs hd => xloadB rfl (by kernel_rfl) (dp hd 0 rfl) ((ow.keep hk).box 1 rfl) rfl) rfl <|
    aS (fun hk bs hd => xfieldAddr rfl (bg bs s1) (by kernel_rfl)) rfl <|
    aS (fun hk bs hd => xloadB rfl (by kernel_rfl) (dp hd 2 rfl) ((ow.keep hk).box 1 rfl) rfl) rfl <|
    arm (fun aa ww hk bs hd => by
      have d1 : aa.eval (.tmp 4) = .int .i64 x.c1 := depX hd 1 rfl; have d3 : aa.eval (.tmp 6) = .int .i64 x.r1 := depX hd 3 rfl; exact stepX_same (v := .agg #[.int .i64 x.c1, .int .i64 x.r1]) (want0 rfl) (xbuild (us := #[(0, .int .i64 x.c1), (1, .int .i64 x.r1)]) rfl (by simp only [List.map_toArray, List.map_cons, List.map_nil, d1, d3]) (by kernel_rfl)) rfl rfl
      ) <|
    arm0) fun fa fw bs hv ap z q ow => ?_
  have s2 := bg bs s2; have s7 := gv hv 4 rfl rfl; refine ws ow 0 0 s2 s7 fun fw ow => ?_; refine wt hK2 ?_; refine wp_ret ?_; refine results_one rfl (res_cell (n := 2) _ s2 (by kernel_rfl) (by kernel_rfl) (ow.box 0 rfl) (Nat.le_of_ble_eq_true rfl) rfl) q ?_; exact ⟨rfl, ow.kept⟩
set_option maxHeartbeats 4000000 in
theorem rto_any (x : Rc) (w : World) :
    Calls Tryz.prog 80 #[.agg #[.int .i64 x.c1, .int .i64 x.r1, .int .i64 x.c2, .int .i64 x.r2]] w fun e w' => e = .returned (.agg #[.int .i64 x.c2, .int .i64 x.r2]) ∧ Kept w w' := by
  go_enter Tryz.func80, Tryz.ntmps80; refine sq fun hK1 => ?_
  refine ro [yNew w.heap.size (.cells #[.int .i64 x.c1, .int .i64 x.r1, .int .i64 x.c2, .int .i64 x.r2] 34 (0, 0)), yNew w.heap.size (.cells #[.int .i64 0, .int .i64 0] 44 (0, 0))] 2 8 rfl rfl (Own.start w) (
    aP (fun hk bs hd => xbox rfl (bs.get 0 rfl rfl) (by kernel_rfl)) rfl <|
    aP (fun hk bs hd => xalloc rfl (by kernel_rfl)) rfl <|
    arm0) fun fa fw bs hv ap z q ov => ?_
  obtain ⟨gb1, s1, bgb1, hgb1⟩ := gotP hv 0 rfl rfl rfl; have ov := ov.cons hgb1 (Nat.le_trans (Own.start w).kept.size bgb1) ((Own.start w).below bgb1); obtain ⟨gb2, s2, bgb2, hgb2⟩ := gotP hv 1 rfl rfl rfl; have ov := ov.cons hgb2 (Nat.le_trans (Own.start w).kept.size bgb2) (ne_cons (apartP ap 0 1 rfl rfl rfl s1 rfl s2 rfl) ((Own.start w).below bgb2)); have ow := ov; refine wt hK1 ?_; refine sq fun hK2 => ?_
  refine ro [yV (.pointer (some ⟨gb1, 2, none⟩)), yV _, yV (.pointer (some ⟨gb1, 3, none⟩)), yV _, yV (.agg #[.int .i64 x.c2, .int .i64 x.r2])] 5 8 z q ow (
    aS (fun hk bs hd => xfieldAddr rfl (bg bs s1) (by kernel_rfl)) rfl <|
    aS (fun hk bs hd => xloadB rfl (by kernel_rfl) (dp hd 0 rfl) ((ow.keep hk).box 1 rfl) rfl) rfl <|
    aS (fun hk bs hd => xfieldAddr rfl (bg bs s1) (by kernel_rfl)) rfl <|
    aS (fun hk bs hd => xloadB rfl (by kernel_rfl) (dp hd 2 rfl) ((ow.keep hk).box 1 rfl) rfl) rfl <|
    arm (fun aa ww hk bs hd => by
      have d1 : aa.eval (.tmp 4) = .int .i64 x.c2 := depX hd 1 rfl; have d3 : aa.eval (.tmp 6) = .int .i64 x.r2 := depX hd 3 rfl; exact stepX_same (v := .agg #[.int .i64 x.c2, .int .i64 x.r2]) (want0 rfl) (xbuild (us := #[(0, .int .i64 x.c2), (1, .int .i64 x.r2)]) rfl (by simp only [List.map_toArray, List.map_cons, List.map_nil, d1, d3]) (by kernel_rfl)) rfl rfl
      ) <|
    arm0) fun fa fw bs hv ap z q ow => ?_
  have s2 := bg bs s2; have s7 := gv hv 4 rfl rfl; refine ws ow 0 0 s2 s7 fun fw ow => ?_; refine wt hK2 ?_; refine wp_ret ?_; refine results_one rfl (res_cell (n := 2) _ s2 (by kernel_rfl) (by kernel_rfl) (ow.box 0 rfl) (Nat.le_of_ble_eq_true rfl) rfl) q ?_; exact ⟨rfl, ow.kept⟩
set_option maxHeartbeats 4000000 in
theorem acheck_any (x : Rc) (w : World) :
    Calls Tryz.prog 46 #[.agg #[.int .i64 x.c1, .int .i64 x.r1, .int .i64 x.c2, .int .i64 x.r2]] w fun e w' => e = .returned (.int .i64 (chkR x)) ∧ Kept w w' := by
  go_enter Tryz.func46, Tryz.ntmps46; refine sq fun hK1 => ?_
  refine ro [yNew w.heap.size (.cells #[.int .i64 x.c1, .int .i64 x.r1, .int .i64 x.c2, .int .i64 x.r2] 34 (0, 0)), yV _] 2 32 rfl rfl (Own.start w) (
    aP (fun hk bs hd => xbox rfl (bs.get 0 rfl rfl) (by kernel_rfl)) rfl <|
    aS (fun hk bs hd => xassign rfl rfl) rfl <|
    arm0) fun fa fw bs hv ap z q ov => ?_
  obtain ⟨gb1, s1, bgb1, hgb1⟩ := gotP hv 0 rfl rfl rfl; have ov := ov.cons hgb1 (Nat.le_trans (Own.start w).kept.size bgb1) ((Own.start w).below bgb1); have s2 := gv hv 1 rfl rfl; have ow := ov; refine wt hK1 ?_; refine sq fun hK2 => ?_
  refine ro [yV (.agg #[.int .i64 x.c1, .int .i64 x.r1, .int .i64 x.c2, .int .i64 x.r2]), yV (.tuple #[.agg #[.int .i64 x.c1, .int .i64 x.r1], .agg #[.int .i64 x.c2, .int .i64 x.r2]]), yV _, yV (.agg #[.int .i64 x.c1, .int .i64 x.r1]), yV (.agg #[.int .i64 x.c2, .int .i64 x.r2]), yNew fw.heap.size (.cells #[.int .i64 0, .int .i64 0] 44 (0, 0)), yNew fw.heap.size (.cells #[.int .i64 0, .int .i64 0] 44 (0, 0))] 7 32 z q ow (
    aS (fun hk bs hd => xloadN 4 rfl (by kernel_rfl) (by kernel_rfl) (bg bs s1) ((ow.keep hk).box 0 rfl) (Nat.le_of_ble_eq_true rfl) rfl) rfl <|
    aC (fun hk bs hd => xcall1 rfl (dp hd 0 rfl) (en_rect_corners _ _)) (fun hk bs hd => corners_any x _) rfl <|
    mvD 1 rfl rfl rfl rfl rfl rfl <|
    aS (fun hk bs hd => xextract rfl (dp hd 2 rfl) rfl) rfl <|
    aS (fun hk bs hd => xextract rfl (dp hd 2 rfl) rfl) rfl <|
    aP (fun hk bs hd => xalloc rfl (by kernel_rfl)) rfl <|
    aP (fun hk bs hd => xalloc rfl (by kernel_rfl)) rfl <|
    arm0) fun fa fw bs hv ap z q ov => ?_
  obtain ⟨s1, s2⟩ := b2 bs s1 s2; have s8 := gv hv 3 rfl rfl; have s9 := gv hv 4 rfl rfl; obtain ⟨gb2, s3, bgb2, hgb2⟩ := gotP hv 5 rfl rfl rfl; have ov := ov.cons hgb2 (Nat.le_trans ow.kept.size bgb2) (ow.below bgb2); obtain ⟨gb3, s4, bgb3, hgb3⟩ := gotP hv 6 rfl rfl rfl; have ov := ov.cons hgb3 (Nat.le_trans ow.kept.size bgb3) (ne_cons (apartP ap 5 6 rfl rfl rfl s3 rfl s4 rfl) (ow.below bgb3)); have ow := ov; refine ws ow 1 0 s3 s8 fun fw ow => ?_; refine ws ow 0 0 s4 s9 fun fw ow => ?_; refine wt hK2 ?_; refine sq fun hK3 => ?_; refine sq fun hK4 => ?_
  refine ro [yV (.agg #[.int .i64 x.c1, .int .i64 x.r1]), yV (.bool (okAt x.c1 x.r1)), yV _, yV _, yIf _ (yV (.agg #[.int .i64 x.c2, .int .i64 x.r2])), yIf _ (yV (.bool (okAt x.c2 x.r2))), yIf _ (yV _), yV _, yV _, yIf _ (yV (.pointer (some ⟨gb1, 0, none⟩))), yIf _ (yV _), yIf _ (yV (.pointer (some ⟨gb1, 2, none⟩))), yIf _ (yV _), yIf _ (yV _), yV _, yV _, yIf _ (yV (.pointer (some ⟨gb1, 1, none⟩))), yIf _ (yV _), yIf _ (yV (.pointer (some ⟨gb1, 3, none⟩))), yIf _ (yV _), yIf _ (yV _), yV _] 22 32 z q ow (
    aS (fun hk bs hd => xloadN 2 rfl (by kernel_rfl) (by kernel_rfl) (bg bs s3) ((ow.keep hk).box 1 rfl) (Nat.le_of_ble_eq_true rfl) rfl) rfl <|
    aC (fun hk bs hd => xcall1 rfl (dp hd 0 rfl) (en_addr_Valid _ _)) (fun hk bs hd => avalid_any x.c1 x.r1 _) rfl <|
    aS (fun hk bs hd => xnot rfl (dp hd 1 rfl)) rfl <|
    mvD 2 rfl rfl rfl rfl rfl rfl <|
    ai (g1 3 rfl rfl) (fun hk bs hd hz => xloadN 2 rfl (by kernel_rfl) (by kernel_rfl) (bg bs s4) ((ow.keep hk).box 0 rfl) (Nat.le_of_ble_eq_true rfl) rfl) rfl <|
    aiC (g1 3 rfl rfl) (fun hk bs hd hz => xcall1 rfl (di hd 4 rfl hz) (en_addr_Valid _ _)) (fun hk bs hd hz => avalid_any x.c2 x.r2 _) rfl <|
    ai (g1 3 rfl rfl) (fun hk bs hd hz => xnot rfl (di hd 5 rfl hz)) rfl <|
    aS (fun hk bs hd => xor_ rfl (dp hd 3 rfl) rfl (fun hb => di hd 6 rfl hb)) rfl <|
    mvD 7 rfl rfl rfl rfl rfl rfl <|
    ai (g1 8 rfl rfl) (fun hk bs hd hz => xfieldAddr rfl (bg bs s1) (by kernel_rfl)) rfl <|
    ai (g1 8 rfl rfl) (fun hk bs hd hz => xloadB rfl (by kernel_rfl) (di hd 9 rfl hz) ((ow.keep hk).box 2 rfl) rfl) rfl <|
    ai (g1 8 rfl rfl) (fun hk bs hd hz => xfieldAddr rfl (bg bs s1) (by kernel_rfl)) rfl <|
    ai (g1 8 rfl rfl) (fun hk bs hd hz => xloadB rfl (by kernel_rfl) (di hd 11 rfl hz) ((ow.keep hk).box 2 rfl) rfl) rfl <|
    ai (g1 8 rfl rfl) (fun hk bs hd hz => xgtr rfl (di hd 10 rfl hz) (di hd 12 rfl hz)) rfl <|
    aS (fun hk bs hd => xor_ rfl (dp hd 8 rfl) rfl (fun hb => di hd 13 rfl hb)) rfl <|
    mvD 14 rfl rfl rfl rfl rfl rfl <|
    ai (g1 15 rfl rfl) (fun hk bs hd hz => xfieldAddr rfl (bg bs s1) (by kernel_rfl)) rfl <|
    ai (g1 15 rfl rfl) (fun hk bs hd hz => xloadB rfl (by kernel_rfl) (di hd 16 rfl hz) ((ow.keep hk).box 2 rfl) rfl) rfl <|
    ai (g1 15 rfl rfl) (fun hk bs hd hz => xfieldAddr rfl (bg bs s1) (by kernel_rfl)) rfl <|
    ai (g1 15 rfl rfl) (fun hk bs hd hz => xloadB rfl (by kernel_rfl) (di hd 18 rfl hz) ((ow.keep hk).box 2 rfl) rfl) rfl <|
    ai (g1 15 rfl rfl) (fun hk bs hd hz => xgtr rfl (di hd 17 rfl hz) (di hd 19 rfl hz)) rfl <|
    aS (fun hk bs hd => xor_ rfl (dp hd 15 rfl) rfl (fun hb => di hd 20 rfl hb)) rfl <|
    arm0) fun fa fw bs hv ap z q ow => ?_
  have s2 := bg bs s2; have s31 := gv hv 21 rfl rfl; refine wt hK4 ?_
  by_cases hc1 : (((¬ ((okAt x.c1 x.r1) = true)) ∨ (¬ ((okAt x.c2 x.r2) = true))) ∨ ((x.c2 : Int) < (x.c1 : Int))) ∨ ((x.r2 : Int) < (x.r1 : Int))
  ·refine ct s31 ((bor (bor (bor (bnot (Iff.rfl)) (bnot (Iff.rfl))) (decide_eq_true_iff)) (decide_eq_true_iff)).2 hc1) ?_
   refine sq fun hK5 => ?_
   refine ro [yV _] 1 32 z q ow (
     aS (fun hk bs hd => xassign rfl rfl) rfl <|
     arm0) fun fa fw bs hv ap z q ow => ?_
   have s2 := gv hv 0 rfl rfl; refine wt hK5 ?_; refine wp_ret ?_; refine then_r ?_; refine results_one rfl (res_tmp s2) q ?_; exact ⟨(congrArg (fun n => Ending.returned (.int .i64 n)) (show _ = chkR x by exact (chkR_no hc1).symm)), ow.kept⟩
  refine cf s31 (bor (bor (bor (bnot (Iff.rfl)) (bnot (Iff.rfl))) (decide_eq_true_iff)) (decide_eq_true_iff)) hc1 ?_; refine wp_skip ?_; refine tn hK3 ?_; refine sq fun hK6 => ?_
  refine ro [yV _] 1 32 z q ow (
    aS (fun hk bs hd => xassign rfl rfl) rfl <|
    arm0) fun fa fw bs hv ap z q ow => ?_
  have s2 := gv hv 0 rfl rfl; refine wt hK6 ?_; refine wp_ret ?_; refine results_one rfl (res_tmp s2) q ?_; exact ⟨(congrArg (fun n => Ending.returned (.int .i64 n)) (show _ = chkR x by exact (chkR_ok hc1).symm)), ow.kept⟩
set_option maxHeartbeats 4000000 in
theorem rrect_any (x : Rc) (w : World) :
    Calls Tryz.prog 40 #[.agg #[.int .i64 x.c1, .int .i64 x.r1, .int .i64 x.c2, .int .i64 x.r2]] w fun e w' => e = .returned (.int .i64 (chkR x)) ∧ Kept w w' := by
  go_enter Tryz.func40, Tryz.ntmps40; refine sq fun hK1 => ?_
  refine ro [yNew w.heap.size (.cells #[.int .i64 x.c1, .int .i64 x.r1, .int .i64 x.c2, .int .i64 x.r2] 34 (0, 0)), yV _] 2 27 rfl rfl (Own.start w) (
    aP (fun hk bs hd => xbox rfl (bs.get 0 rfl rfl) (by kernel_rfl)) rfl <|
    aS (fun hk bs hd => xassign rfl rfl) rfl <|
    arm0) fun fa fw bs hv ap z q ov => ?_
  obtain ⟨gb1, s1, bgb1, hgb1⟩ := gotP hv 0 rfl rfl rfl; have ov := ov.cons hgb1 (Nat.le_trans (Own.start w).kept.size bgb1) ((Own.start w).below bgb1); have s2 := gv hv 1 rfl rfl; have ow := ov; refine wt hK1 ?_; refine sq fun hK2 => ?_; refine sq fun hK3 => ?_
  refine ro [yV (.agg #[.int .i64 x.c1, .int .i64 x.r1, .int .i64 x.c2, .int .i64 x.r2]), yV (.agg #[.int .i64 x.c1, .int .i64 x.r1]), yV (.bool (okAt x.c1 x.r1)), yV _, yV _, yIf _ (yV (.agg #[.int .i64 x.c1, .int .i64 x.r1, .int .i64 x.c2, .int .i64 x.r2])), yIf _ (yV (.agg #[.int .i64 x.c2, .int .i64 x.r2])), yIf _ (yV (.bool (okAt x.c2 x.r2))), yIf _ (yV _), yV _, yV _, yIf _ (yV (.pointer (some ⟨gb1, 0, none⟩))), yIf _ (yV _), yIf _ (yV (.pointer (some ⟨gb1, 2, none⟩))), yIf _ (yV _), yIf _ (yV _), yV _, yV _, yIf _ (yV (.pointer (some ⟨gb1, 1, none⟩))), yIf _ (yV _), yIf _ (yV (.pointer (some ⟨gb1, 3, none⟩))), yIf _ (yV _), yIf _ (yV _), yV _] 24 27 z q ow (
    aS (fun hk bs hd => xloadN 4 rfl (by kernel_rfl) (by kernel_rfl) (bg bs s1) ((ow.keep hk).box 0 rfl) (Nat.le_of_ble_eq_true rfl) rfl) rfl <|
    aC (fun hk bs hd => xcall1 rfl (dp hd 0 rfl) (en_louvreref03_From _ _)) (fun hk bs hd => rfrom_any x _) rfl <|
    aC (fun hk bs hd => xcall1 rfl (dp hd 1 rfl) (en_louvreref02_Valid _ _)) (fun hk bs hd => rvalid2_any x.c1 x.r1 _) rfl <|
    aS (fun hk bs hd => xnot rfl (dp hd 2 rfl)) rfl <|
    mvD 3 rfl rfl rfl rfl rfl rfl <|
    ai (g1 4 rfl rfl) (fun hk bs hd hz => xloadN 4 rfl (by kernel_rfl) (by kernel_rfl) (bg bs s1) ((ow.keep hk).box 0 rfl) (Nat.le_of_ble_eq_true rfl) rfl) rfl <|
    aiC (g1 4 rfl rfl) (fun hk bs hd hz => xcall1 rfl (di hd 5 rfl hz) (en_louvreref03_To _ _)) (fun hk bs hd hz => rto_any x _) rfl <|
    aiC (g1 4 rfl rfl) (fun hk bs hd hz => xcall1 rfl (di hd 6 rfl hz) (en_louvreref02_Valid _ _)) (fun hk bs hd hz => rvalid2_any x.c2 x.r2 _) rfl <|
    ai (g1 4 rfl rfl) (fun hk bs hd hz => xnot rfl (di hd 7 rfl hz)) rfl <|
    aS (fun hk bs hd => xor_ rfl (dp hd 4 rfl) rfl (fun hb => di hd 8 rfl hb)) rfl <|
    mvD 9 rfl rfl rfl rfl rfl rfl <|
    ai (g1 10 rfl rfl) (fun hk bs hd hz => xfieldAddr rfl (bg bs s1) (by kernel_rfl)) rfl <|
    ai (g1 10 rfl rfl) (fun hk bs hd hz => xloadB rfl (by kernel_rfl) (di hd 11 rfl hz) ((ow.keep hk).box 0 rfl) rfl) rfl <|
    ai (g1 10 rfl rfl) (fun hk bs hd hz => xfieldAddr rfl (bg bs s1) (by kernel_rfl)) rfl <|
    ai (g1 10 rfl rfl) (fun hk bs hd hz => xloadB rfl (by kernel_rfl) (di hd 13 rfl hz) ((ow.keep hk).box 0 rfl) rfl) rfl <|
    ai (g1 10 rfl rfl) (fun hk bs hd hz => xgtr rfl (di hd 12 rfl hz) (di hd 14 rfl hz)) rfl <|
    aS (fun hk bs hd => xor_ rfl (dp hd 10 rfl) rfl (fun hb => di hd 15 rfl hb)) rfl <|
    mvD 16 rfl rfl rfl rfl rfl rfl <|
    ai (g1 17 rfl rfl) (fun hk bs hd hz => xfieldAddr rfl (bg bs s1) (by kernel_rfl)) rfl <|
    ai (g1 17 rfl rfl) (fun hk bs hd hz => xloadB rfl (by kernel_rfl) (di hd 18 rfl hz) ((ow.keep hk).box 0 rfl) rfl) rfl <|
    ai (g1 17 rfl rfl) (fun hk bs hd hz => xfieldAddr rfl (bg bs s1) (by kernel_rfl)) rfl <|
    ai (g1 17 rfl rfl) (fun hk bs hd hz => xloadB rfl (by kernel_rfl) (di hd 20 rfl hz) ((ow.keep hk).box 0 rfl) rfl) rfl <|
    ai (g1 17 rfl rfl) (fun hk bs hd hz => xgtr rfl (di hd 19 rfl hz) (di hd 21 rfl hz)) rfl <|
    aS (fun hk bs hd => xor_ rfl (dp hd 17 rfl) rfl (fun hb => di hd 22 rfl hb)) rfl <|
    arm0) fun fa fw bs hv ap z q ow => ?_
  have s2 := bg bs s2; have s26 := gv hv 23 rfl rfl; refine wt hK3 ?_
  by_cases hc1 : (((¬ ((okAt x.c1 x.r1) = true)) ∨ (¬ ((okAt x.c2 x.r2) = true))) ∨ ((x.c2 : Int) < (x.c1 : Int))) ∨ ((x.r2 : Int) < (x.r1 : Int))
  ·refine ct s26 ((bor (bor (bor (bnot (Iff.rfl)) (bnot (Iff.rfl))) (decide_eq_true_iff)) (decide_eq_true_iff)).2 hc1) ?_
   refine sq fun hK4 => ?_
   refine ro [yV _] 1 27 z q ow (
     aS (fun hk bs hd => xassign rfl rfl) rfl <|
     arm0) fun fa fw bs hv ap z q ow => ?_
   have s2 := gv hv 0 rfl rfl; refine wt hK4 ?_; refine wp_ret ?_; refine then_r ?_; refine results_one rfl (res_tmp s2) q ?_; exact ⟨(congrArg (fun n => Ending.returned (.int .i64 n)) (show _ = chkR x by exact (chkR_no hc1).symm)), ow.kept⟩
  refine cf s26 (bor (bor (bor (bnot (Iff.rfl)) (bnot (Iff.rfl))) (decide_eq_true_iff)) (decide_eq_true_iff)) hc1 ?_; refine wp_skip ?_; refine tn hK2 ?_; refine sq fun hK5 => ?_
  refine ro [yV _] 1 27 z q ow (
    aS (fun hk bs hd => xassign rfl rfl) rfl <|
    arm0) fun fa fw bs hv ap z q ow => ?_
  have s2 := gv hv 0 rfl rfl; refine wt hK5 ?_; refine wp_ret ?_; refine results_one rfl (res_tmp s2) q ?_; exact ⟨(congrArg (fun n => Ending.returned (.int .i64 n)) (show _ = chkR x by exact (chkR_ok hc1).symm)), ow.kept⟩
set_option maxHeartbeats 4000000 in
theorem rhas_any (x : Rc) (c r : Int) (w : World) :
    Calls Tryz.prog 61 #[.agg #[.int .i64 x.c1, .int .i64 x.r1, .int .i64 x.c2, .int .i64 x.r2], .agg #[.int .i64 c, .int .i64 r]] w fun e w' => e = .returned (.bool (hasR x c r)) ∧ Kept w w' := by
  go_enter Tryz.func61, Tryz.ntmps61; refine sq fun hK1 => ?_
  refine ro [yNew w.heap.size (.cells #[.int .i64 x.c1, .int .i64 x.r1, .int .i64 x.c2, .int .i64 x.r2] 34 (0, 0)), yNew w.heap.size (.cells #[.int .i64 c, .int .i64 r] 44 (0, 0)), yV _] 3 31 rfl rfl (Own.start w) (
    aP (fun hk bs hd => xbox rfl (bs.get 0 rfl rfl) (by kernel_rfl)) rfl <|
    aP (fun hk bs hd => xbox rfl (bs.get 1 rfl rfl) (by kernel_rfl)) rfl <|
    aS (fun hk bs hd => xassign rfl rfl) rfl <|
    arm0) fun fa fw bs hv ap z q ov => ?_
  obtain ⟨gb1, s2, bgb1, hgb1⟩ := gotP hv 0 rfl rfl rfl; have ov := ov.cons hgb1 (Nat.le_trans (Own.start w).kept.size bgb1) ((Own.start w).below bgb1); obtain ⟨gb2, s3, bgb2, hgb2⟩ := gotP hv 1 rfl rfl rfl; have ov := ov.cons hgb2 (Nat.le_trans (Own.start w).kept.size bgb2) (ne_cons (apartP ap 0 1 rfl rfl rfl s2 rfl s3 rfl) ((Own.start w).below bgb2)); have s4 := gv hv 2 rfl rfl; have ow := ov; refine wt hK1 ?_; refine sq fun hK2 => ?_
  refine ro [yV (.pointer (some ⟨gb2, 0, none⟩)), yV _, yV (.pointer (some ⟨gb1, 0, none⟩)), yV _, yV _, yV _, yIf _ (yV (.pointer (some ⟨gb2, 0, none⟩))), yIf _ (yV _), yIf _ (yV (.pointer (some ⟨gb1, 2, none⟩))), yIf _ (yV _), yIf _ (yV _), yV _, yV _, yIf _ (yV (.pointer (some ⟨gb2, 1, none⟩))), yIf _ (yV _), yIf _ (yV (.pointer (some ⟨gb1, 1, none⟩))), yIf _ (yV _), yIf _ (yV _), yV _, yV _, yIf _ (yV (.pointer (some ⟨gb2, 1, none⟩))), yIf _ (yV _), yIf _ (yV (.pointer (some ⟨gb1, 3, none⟩))), yIf _ (yV _), yIf _ (yV _), yV _, yV _] 27 31 z q ow (
    aS (fun hk bs hd => xfieldAddr rfl (bg bs s3) (by kernel_rfl)) rfl <|
    aS (fun hk bs hd => xloadB rfl (by kernel_rfl) (dp hd 0 rfl) ((ow.keep hk).box 0 rfl) rfl) rfl <|
    aS (fun hk bs hd => xfieldAddr rfl (bg bs s2) (by kernel_rfl)) rfl <|
    aS (fun hk bs hd => xloadB rfl (by kernel_rfl) (dp hd 2 rfl) ((ow.keep hk).box 1 rfl) rfl) rfl <|
    aS (fun hk bs hd => xgeq rfl (dp hd 1 rfl) (dp hd 3 rfl)) rfl <|
    mvD 4 rfl rfl rfl rfl rfl rfl <|
    ai (g1 5 rfl rfl) (fun hk bs hd hz => xfieldAddr rfl (bg bs s3) (by kernel_rfl)) rfl <|
    ai (g1 5 rfl rfl) (fun hk bs hd hz => xloadB rfl (by kernel_rfl) (di hd 6 rfl hz) ((ow.keep hk).box 0 rfl) rfl) rfl <|
    ai (g1 5 rfl rfl) (fun hk bs hd hz => xfieldAddr rfl (bg bs s2) (by kernel_rfl)) rfl <|
    ai (g1 5 rfl rfl) (fun hk bs hd hz => xloadB rfl (by kernel_rfl) (di hd 8 rfl hz) ((ow.keep hk).box 1 rfl) rfl) rfl <|
    ai (g1 5 rfl rfl) (fun hk bs hd hz => xleq rfl (di hd 7 rfl hz) (di hd 9 rfl hz)) rfl <|
    aS (fun hk bs hd => xand rfl (dp hd 5 rfl) (fun hb => di hd 10 rfl hb) rfl) rfl <|
    mvD 11 rfl rfl rfl rfl rfl rfl <|
    ai (g1 12 rfl rfl) (fun hk bs hd hz => xfieldAddr rfl (bg bs s3) (by kernel_rfl)) rfl <|
    ai (g1 12 rfl rfl) (fun hk bs hd hz => xloadB rfl (by kernel_rfl) (di hd 13 rfl hz) ((ow.keep hk).box 0 rfl) rfl) rfl <|
    ai (g1 12 rfl rfl) (fun hk bs hd hz => xfieldAddr rfl (bg bs s2) (by kernel_rfl)) rfl <|
    ai (g1 12 rfl rfl) (fun hk bs hd hz => xloadB rfl (by kernel_rfl) (di hd 15 rfl hz) ((ow.keep hk).box 1 rfl) rfl) rfl <|
    ai (g1 12 rfl rfl) (fun hk bs hd hz => xgeq rfl (di hd 14 rfl hz) (di hd 16 rfl hz)) rfl <|
    aS (fun hk bs hd => xand rfl (dp hd 12 rfl) (fun hb => di hd 17 rfl hb) rfl) rfl <|
    mvD 18 rfl rfl rfl rfl rfl rfl <|
    ai (g1 19 rfl rfl) (fun hk bs hd hz => xfieldAddr rfl (bg bs s3) (by kernel_rfl)) rfl <|
    ai (g1 19 rfl rfl) (fun hk bs hd hz => xloadB rfl (by kernel_rfl) (di hd 20 rfl hz) ((ow.keep hk).box 0 rfl) rfl) rfl <|
    ai (g1 19 rfl rfl) (fun hk bs hd hz => xfieldAddr rfl (bg bs s2) (by kernel_rfl)) rfl <|
    ai (g1 19 rfl rfl) (fun hk bs hd hz => xloadB rfl (by kernel_rfl) (di hd 22 rfl hz) ((ow.keep hk).box 1 rfl) rfl) rfl <|
    ai (g1 19 rfl rfl) (fun hk bs hd hz => xleq rfl (di hd 21 rfl hz) (di hd 23 rfl hz)) rfl <|
    aS (fun hk bs hd => xand rfl (dp hd 19 rfl) (fun hb => di hd 24 rfl hb) rfl) rfl <|
    asD 25 rfl rfl rfl rfl rfl rfl <|
    arm0) fun fa fw bs hv ap z q ow => ?_
  have s4 := gv hv 26 rfl rfl; refine wt hK2 ?_; refine wp_ret ?_; refine results_one rfl (res_tmp s4) q ?_; exact ⟨(congrArg (fun b => Ending.returned (.bool b)) (show _ = hasR x c r by unfold hasR; rw [Bool.eq_iff_iff]; simp only [Bool.or_eq_true, Bool.and_eq_true, decide_eq_true_eq]; omega)), ow.kept⟩
set_option maxHeartbeats 4000000 in
theorem rrhas_any (x : Rc) (c r : Int) (w : World) :
    Calls Tryz.prog 41 #[.agg #[.int .i64 x.c1, .int .i64 x.r1, .int .i64 x.c2, .int .i64 x.r2], .agg #[.int .i64 c, .int .i64 r]] w fun e w' => e = .returned (.bool (hasR x c r)) ∧ Kept w w' := by
  go_enter Tryz.func41, Tryz.ntmps41; refine sq fun hK1 => ?_
  refine ro [yNew w.heap.size (.cells #[.int .i64 x.c1, .int .i64 x.r1, .int .i64 x.c2, .int .i64 x.r2] 34 (0, 0)), yNew w.heap.size (.cells #[.int .i64 c, .int .i64 r] 44 (0, 0)), yV _] 3 31 rfl rfl (Own.start w) (
    aP (fun hk bs hd => xbox rfl (bs.get 0 rfl rfl) (by kernel_rfl)) rfl <|
    aP (fun hk bs hd => xbox rfl (bs.get 1 rfl rfl) (by kernel_rfl)) rfl <|
    aS (fun hk bs hd => xassign rfl rfl) rfl <|
    arm0) fun fa fw bs hv ap z q ov => ?_
  obtain ⟨gb1, s2, bgb1, hgb1⟩ := gotP hv 0 rfl rfl rfl; have ov := ov.cons hgb1 (Nat.le_trans (Own.start w).kept.size bgb1) ((Own.start w).below bgb1); obtain ⟨gb2, s3, bgb2, hgb2⟩ := gotP hv 1 rfl rfl rfl; have ov := ov.cons hgb2 (Nat.le_trans (Own.start w).kept.size bgb2) (ne_cons (apartP ap 0 1 rfl rfl rfl s2 rfl s3 rfl) ((Own.start w).below bgb2)); have s4 := gv hv 2 rfl rfl; have ow := ov; refine wt hK1 ?_; refine sq fun hK2 => ?_
  refine ro [yV (.pointer (some ⟨gb1, 0, none⟩)), yV _, yV (.pointer (some ⟨gb2, 0, none⟩)), yV _, yV _, yV _, yIf _ (yV (.pointer (some ⟨gb2, 0, none⟩))), yIf _ (yV _), yIf _ (yV (.pointer (some ⟨gb1, 2, none⟩))), yIf _ (yV _), yIf _ (yV _), yV _, yV _, yIf _ (yV (.pointer (some ⟨gb1, 1, none⟩))), yIf _ (yV _), yIf _ (yV (.pointer (some ⟨gb2, 1, none⟩))), yIf _ (yV _), yIf _ (yV _), yV _, yV _, yIf _ (yV (.pointer (some ⟨gb2, 1, none⟩))), yIf _ (yV _), yIf _ (yV (.pointer (some ⟨gb1, 3, none⟩))), yIf _ (yV _), yIf _ (yV _), yV _, yV _] 27 31 z q ow (
    aS (fun hk bs hd => xfieldAddr rfl (bg bs s2) (by kernel_rfl)) rfl <|
    aS (fun hk bs hd => xloadB rfl (by kernel_rfl) (dp hd 0 rfl) ((ow.keep hk).box 1 rfl) rfl) rfl <|
    aS (fun hk bs hd => xfieldAddr rfl (bg bs s3) (by kernel_rfl)) rfl <|
    aS (fun hk bs hd => xloadB rfl (by kernel_rfl) (dp hd 2 rfl) ((ow.keep hk).box 0 rfl) rfl) rfl <|
    aS (fun hk bs hd => xleq rfl (dp hd 1 rfl) (dp hd 3 rfl)) rfl <|
    mvD 4 rfl rfl rfl rfl rfl rfl <|
    ai (g1 5 rfl rfl) (fun hk bs hd hz => xfieldAddr rfl (bg bs s3) (by kernel_rfl)) rfl <|
    ai (g1 5 rfl rfl) (fun hk bs hd hz => xloadB rfl (by kernel_rfl) (di hd 6 rfl hz) ((ow.keep hk).box 0 rfl) rfl) rfl <|
    ai (g1 5 rfl rfl) (fun hk bs hd hz => xfieldAddr rfl (bg bs s2) (by kernel_rfl)) rfl <|
    ai (g1 5 rfl rfl) (fun hk bs hd hz => xloadB rfl (by kernel_rfl) (di hd 8 rfl hz) ((ow.keep hk).box 1 rfl) rfl) rfl <|
    ai (g1 5 rfl rfl) (fun hk bs hd hz => xleq rfl (di hd 7 rfl hz) (di hd 9 rfl hz)) rfl <|
    aS (fun hk bs hd => xand rfl (dp hd 5 rfl) (fun hb => di hd 10 rfl hb) rfl) rfl <|
    mvD 11 rfl rfl rfl rfl rfl rfl <|
    ai (g1 12 rfl rfl) (fun hk bs hd hz => xfieldAddr rfl (bg bs s2) (by kernel_rfl)) rfl <|
    ai (g1 12 rfl rfl) (fun hk bs hd hz => xloadB rfl (by kernel_rfl) (di hd 13 rfl hz) ((ow.keep hk).box 1 rfl) rfl) rfl <|
    ai (g1 12 rfl rfl) (fun hk bs hd hz => xfieldAddr rfl (bg bs s3) (by kernel_rfl)) rfl <|
    ai (g1 12 rfl rfl) (fun hk bs hd hz => xloadB rfl (by kernel_rfl) (di hd 15 rfl hz) ((ow.keep hk).box 0 rfl) rfl) rfl <|
    ai (g1 12 rfl rfl) (fun hk bs hd hz => xleq rfl (di hd 14 rfl hz) (di hd 16 rfl hz)) rfl <|
    aS (fun hk bs hd => xand rfl (dp hd 12 rfl) (fun hb => di hd 17 rfl hb) rfl) rfl <|
    mvD 18 rfl rfl rfl rfl rfl rfl <|
    ai (g1 19 rfl rfl) (fun hk bs hd hz => xfieldAddr rfl (bg bs s3) (by kernel_rfl)) rfl <|
    ai (g1 19 rfl rfl) (fun hk bs hd hz => xloadB rfl (by kernel_rfl) (di hd 20 rfl hz) ((ow.keep hk).box 0 rfl) rfl) rfl <|
    ai (g1 19 rfl rfl) (fun hk bs hd hz => xfieldAddr rfl (bg bs s2) (by kernel_rfl)) rfl <|
    ai (g1 19 rfl rfl) (fun hk bs hd hz => xloadB rfl (by kernel_rfl) (di hd 22 rfl hz) ((ow.keep hk).box 1 rfl) rfl) rfl <|
    ai (g1 19 rfl rfl) (fun hk bs hd hz => xleq rfl (di hd 21 rfl hz) (di hd 23 rfl hz)) rfl <|
    aS (fun hk bs hd => xand rfl (dp hd 19 rfl) (fun hb => di hd 24 rfl hb) rfl) rfl <|
    asD 25 rfl rfl rfl rfl rfl rfl <|
    arm0) fun fa fw bs hv ap z q ow => ?_
  have s4 := gv hv 26 rfl rfl; refine wt hK2 ?_; refine wp_ret ?_; refine results_one rfl (res_tmp s4) q ?_; exact ⟨(congrArg (fun b => Ending.returned (.bool b)) (show _ = hasR x c r by unfold hasR; rw [Bool.eq_iff_iff]; simp only [Bool.or_eq_true, Bool.and_eq_true, decide_eq_true_eq]; omega)), ow.kept⟩
set_option maxHeartbeats 4000000 in
theorem rarea_any (x : Rc) (w : World) :
    Calls Tryz.prog 16 #[.agg #[.int .i64 x.c1, .int .i64 x.r1, .int .i64 x.c2, .int .i64 x.r2]] w fun e w' => e = .returned (.tuple #[.int .i64 (size16 x), .int .i64 (chkR x)]) ∧ Kept w w' := by
  go_enter Tryz.func16, Tryz.ntmps16; refine sq fun hK1 => ?_
  refine ro [yNew w.heap.size (.cells #[.int .i64 x.c1, .int .i64 x.r1, .int .i64 x.c2, .int .i64 x.r2] 34 (0, 0)), yV _, yV _] 3 23 rfl rfl (Own.start w) (
    aP (fun hk bs hd => xbox rfl (bs.get 0 rfl rfl) (by kernel_rfl)) rfl <|
    aS (fun hk bs hd => xassign rfl rfl) rfl <|
    aS (fun hk bs hd => xassign rfl rfl) rfl <|
    arm0) fun fa fw bs hv ap z q ov => ?_
  obtain ⟨gb1, s1, bgb1, hgb1⟩ := gotP hv 0 rfl rfl rfl; have ov := ov.cons hgb1 (Nat.le_trans (Own.start w).kept.size bgb1) ((Own.start w).below bgb1); have s2 := gv hv 1 rfl rfl; have s3 := gv hv 2 rfl rfl; have ow := ov; refine wt hK1 ?_; refine sq fun hK2 => ?_; refine sq fun hK3 => ?_
  refine ro [yV (.agg #[.int .i64 x.c1, .int .i64 x.r1, .int .i64 x.c2, .int .i64 x.r2]), yV (.int .i64 (chkR x)), yV _] 3 23 z q ow (
    aS (fun hk bs hd => xloadN 4 rfl (by kernel_rfl) (by kernel_rfl) (bg bs s1) ((ow.keep hk).box 0 rfl) (Nat.le_of_ble_eq_true rfl) rfl) rfl <|
    aC (fun hk bs hd => xcall1 rfl (dp hd 0 rfl) (en_rect_Check _ _)) (fun hk bs hd => acheck_any x _) rfl <|
    asD 1 rfl rfl rfl rfl rfl rfl <|
    arm0) fun fa fw bs hv ap z q ow => ?_
  obtain ⟨s1, s2, s3⟩ := b3 bs s1 s2 s3; have s4 := gv hv 2 rfl rfl; refine wt hK3 ?_; refine sq fun hK4 => ?_
  refine ro [yV _, yV _] 2 23 z q ow (
    mvS s4 rfl rfl rfl rfl <|
    aS (fun hk bs hd => xnei rfl (dp hd 0 rfl) rfl) rfl <|
    arm0) fun fa fw bs hv ap z q ow => ?_
  obtain ⟨s1, s2, s3, s4⟩ := b4 bs s1 s2 s3 s4; have s8 := gv hv 1 rfl rfl; refine wt hK4 ?_
  by_cases hc1 : (chkR x : Int) ≠ (0 : Int)
  ·refine ct s8 ((decide_eq_true_iff).2 hc1) ?_
   have hno : okR x = false := chkR_bad hc1; refine sq fun hK5 => ?_
   refine ro [yV _, yV _, yV _] 3 23 z q ow (
     mvS s4 rfl rfl rfl rfl <|
     aS (fun hk bs hd => xassign rfl rfl) rfl <|
     asD 0 rfl rfl rfl rfl rfl rfl <|
     arm0) fun fa fw bs hv ap z q ow => ?_
   have s1 := bg bs s1; have s2 := gv hv 1 rfl rfl; have s3 := gv hv 2 rfl rfl; refine wt hK5 ?_; refine wp_ret ?_; refine then_r ?_; refine resultsL (v := .tuple #[.int .i64 0, .int .i64 (chkR x)]) rfl (.cons (res_tmp s2) (.cons (res_tmp s3) .nil)) rfl q ?_; exact ⟨(by show Ending.returned (.tuple #[.int .i64 _, .int .i64 _]) = .returned (.tuple #[.int .i64 (size16 x), .int .i64 (chkR x)]); rw [show size16 x = _ from size_no hno, show chkR x = _ from rfl]), ow.kept⟩
  refine cf s8 (decide_eq_true_iff) hc1 ?_; have hok : okR x = true := chkR_yes hc1; obtain ⟨⟨o1, o2, o3⟩, o4, o5, o6⟩ := okR_iff.1 hok; have hp := wh_in o2 o5 (Int.le_trans (Int.sub_le_sub o3 o1) (by decide)) (Int.le_trans (Int.sub_le_sub o6 o4) (by decide)); refine wp_skip ?_; refine tn hK2 ?_; refine sq fun hK6 => ?_
  refine ro [yV (.pointer (some ⟨gb1, 2, none⟩)), yV _, yV (.pointer (some ⟨gb1, 0, none⟩)), yV _, yV _, yV _, yV (.pointer (some ⟨gb1, 3, none⟩)), yV _, yV (.pointer (some ⟨gb1, 1, none⟩)), yV _, yV _, yV _, yV _, yV _, yV _] 15 23 z q ow (
    aS (fun hk bs hd => xfieldAddr rfl (bg bs s1) (by kernel_rfl)) rfl <|
    aS (fun hk bs hd => xloadB rfl (by kernel_rfl) (dp hd 0 rfl) ((ow.keep hk).box 0 rfl) rfl) rfl <|
    aS (fun hk bs hd => xfieldAddr rfl (bg bs s1) (by kernel_rfl)) rfl <|
    aS (fun hk bs hd => xloadB rfl (by kernel_rfl) (dp hd 2 rfl) ((ow.keep hk).box 0 rfl) rfl) rfl <|
    aS (fun hk bs hd => xsub (Or.inl rfl) rfl (dp hd 1 rfl) (dp hd 3 rfl) (by omega) (by omega)) rfl <|
    aS (fun hk bs hd => xadd (Or.inl rfl) rfl (dp hd 4 rfl) rfl (by omega) (by omega)) rfl <|
    aS (fun hk bs hd => xfieldAddr rfl (bg bs s1) (by kernel_rfl)) rfl <|
    aS (fun hk bs hd => xloadB rfl (by kernel_rfl) (dp hd 6 rfl) ((ow.keep hk).box 0 rfl) rfl) rfl <|
    aS (fun hk bs hd => xfieldAddr rfl (bg bs s1) (by kernel_rfl)) rfl <|
    aS (fun hk bs hd => xloadB rfl (by kernel_rfl) (dp hd 8 rfl) ((ow.keep hk).box 0 rfl) rfl) rfl <|
    aS (fun hk bs hd => xsub (Or.inl rfl) rfl (dp hd 7 rfl) (dp hd 9 rfl) (by omega) (by omega)) rfl <|
    aS (fun hk bs hd => xadd (Or.inl rfl) rfl (dp hd 10 rfl) rfl (by omega) (by omega)) rfl <|
    aS (fun hk bs hd => xmul (Or.inl rfl) rfl (dp hd 5 rfl) (dp hd 11 rfl) hp.1 hp.2) rfl <|
    asD 12 rfl rfl rfl rfl rfl rfl <|
    aS (fun hk bs hd => xassign rfl rfl) rfl <|
    arm0) fun fa fw bs hv ap z q ow => ?_
  have s2 := gv hv 13 rfl rfl; have s3 := gv hv 14 rfl rfl; refine wt hK6 ?_; refine wp_ret ?_; refine resultsL (v := .tuple #[.int .i64 (((x.c2 - x.c1) + 1) * ((x.r2 - x.r1) + 1)), .int .i64 0]) rfl (.cons (res_tmp s2) (.cons (res_tmp s3) .nil)) rfl q ?_; exact ⟨(by show Ending.returned (.tuple #[.int .i64 _, .int .i64 _]) = .returned (.tuple #[.int .i64 (size16 x), .int .i64 (chkR x)]); rw [show size16 x = _ from size_yes hok, show chkR x = _ from chkR_0 hok]), ow.kept⟩
set_option maxHeartbeats 4000000 in
theorem asize_any (x : Rc) (A : Option Addr) (n cap : Nat) (w : World) :
    Calls Tryz.prog 105 #[.agg #[.int .i64 x.c1, .int .i64 x.r1, .int .i64 x.c2, .int .i64 x.r2, .slice A n cap]] w fun e w' => e = .returned (.int .i64 (size16 x)) ∧ Kept w w' := by
  go_enter Tryz.func105, Tryz.ntmps105; refine sq fun hK1 => ?_
  refine ro [yNew w.heap.size (.cells #[.int .i64 x.c1, .int .i64 x.r1, .int .i64 x.c2, .int .i64 x.r2, .slice A n cap] 37 (0, 0)), yV _] 2 12 rfl rfl (Own.start w) (
    aP (fun hk bs hd => xbox rfl (bs.get 0 rfl rfl) (by kernel_rfl)) rfl <|
    aS (fun hk bs hd => xassign rfl rfl) rfl <|
    arm0) fun fa fw bs hv ap z q ov => ?_
  obtain ⟨gb1, s1, bgb1, hgb1⟩ := gotP hv 0 rfl rfl rfl; have ov := ov.cons hgb1 (Nat.le_trans (Own.start w).kept.size bgb1) ((Own.start w).below bgb1); have s2 := gv hv 1 rfl rfl; have ow := ov; refine wt hK1 ?_; refine sq fun hK2 => ?_
  refine ro [yV (.pointer (some ⟨gb1, 0, none⟩)), yV (.agg #[.int .i64 x.c1, .int .i64 x.r1, .int .i64 x.c2, .int .i64 x.r2]), yV (.tuple #[.int .i64 (size16 x), .int .i64 (chkR x)]), yV _, yV _, yV _, yV _, yV _] 8 12 z q ow (
    aS (fun hk bs hd => xfieldAddr rfl (bg bs s1) (by kernel_rfl)) rfl <|
    aS (fun hk bs hd => xloadN 4 rfl (by kernel_rfl) (by kernel_rfl) (dp hd 0 rfl) ((ow.keep hk).box 0 rfl) (Nat.le_of_ble_eq_true rfl) rfl) rfl <|
    aC (fun hk bs hd => xcall1 rfl (dp hd 1 rfl) (en_rect_Area _ _)) (fun hk bs hd => rarea_any x _) rfl <|
    mvD 2 rfl rfl rfl rfl rfl rfl <|
    aS (fun hk bs hd => xextract rfl (dp hd 3 rfl) rfl) rfl <|
    aS (fun hk bs hd => xextract rfl (dp hd 3 rfl) rfl) rfl <|
    asD 4 rfl rfl rfl rfl rfl rfl <|
    asD 5 rfl rfl rfl rfl rfl rfl <|
    arm0) fun fa fw bs hv ap z q ow => ?_
  have s2 := bg bs s2; have s3 := gv hv 6 rfl rfl; refine wt hK2 ?_; refine sq fun hK3 => ?_
  refine ro [yV _, yV _] 2 12 z q ow (
    mvS s3 rfl rfl rfl rfl <|
    asD 0 rfl rfl rfl rfl rfl rfl <|
    arm0) fun fa fw bs hv ap z q ow => ?_
  have s2 := gv hv 1 rfl rfl; refine wt hK3 ?_; refine wp_ret ?_; refine results_one rfl (res_tmp s2) q ?_; exact ⟨rfl, ow.kept⟩
set_option maxHeartbeats 4000000 in
theorem aindex_any (x : Rc) (A : Option Addr) (n cap : Nat) (c r : Int) (w : World) (ho : okR x = true) (hh : hasR x c r = true) :
    Calls Tryz.prog 62 #[.agg #[.int .i64 x.c1, .int .i64 x.r1, .int .i64 x.c2, .int .i64 x.r2, .slice A n cap], .agg #[.int .i64 c, .int .i64 r]] w fun e w' => e = .returned (.int .i64 (idx16 x c r)) ∧ Kept w w' := by
  obtain ⟨⟨o1, o2, o3⟩, o4, o5, o6⟩ := okR_iff.1 ho; have i1 := idx_in hh; have i2 := has_in hh; have i3 := mul_in (a := r - x.r1) (b := x.c2 - x.c1 + 1) (by omega) (by omega) (by omega) (by omega); go_enter Tryz.func62, Tryz.ntmps62; refine sq fun hK1 => ?_
  refine ro [yNew w.heap.size (.cells #[.int .i64 x.c1, .int .i64 x.r1, .int .i64 x.c2, .int .i64 x.r2, .slice A n cap] 37 (0, 0)), yNew w.heap.size (.cells #[.int .i64 c, .int .i64 r] 44 (0, 0)), yV _] 3 27 rfl rfl (Own.start w) (
    aP (fun hk bs hd => xbox rfl (bs.get 0 rfl rfl) (by kernel_rfl)) rfl <|
    aP (fun hk bs hd => xbox rfl (bs.get 1 rfl rfl) (by kernel_rfl)) rfl <|
    aS (fun hk bs hd => xassign rfl rfl) rfl <|
    arm0) fun fa fw bs hv ap z q ov => ?_
  obtain ⟨gb1, s2, bgb1, hgb1⟩ := gotP hv 0 rfl rfl rfl; have ov := ov.cons hgb1 (Nat.le_trans (Own.start w).kept.size bgb1) ((Own.start w).below bgb1); obtain ⟨gb2, s3, bgb2, hgb2⟩ := gotP hv 1 rfl rfl rfl; have ov := ov.cons hgb2 (Nat.le_trans (Own.start w).kept.size bgb2) (ne_cons (apartP ap 0 1 rfl rfl rfl s2 rfl s3 rfl) ((Own.start w).below bgb2)); have s4 := gv hv 2 rfl rfl; have ow := ov; refine wt hK1 ?_; refine sq fun hK2 => ?_
  refine ro [yV (.pointer (some ⟨gb2, 1, none⟩)), yV _, yV (.pointer (some ⟨gb1, 0, none⟩)), yV (.pointer (some ⟨gb1, 1, none⟩)), yV _, yV _, yV (.pointer (some ⟨gb1, 0, none⟩)), yV (.pointer (some ⟨gb1, 2, none⟩)), yV _, yV (.pointer (some ⟨gb1, 0, none⟩)), yV (.pointer (some ⟨gb1, 0, none⟩)), yV _, yV _, yV _, yV _, yV (.pointer (some ⟨gb2, 0, none⟩)), yV _, yV _, yV (.pointer (some ⟨gb1, 0, none⟩)), yV (.pointer (some ⟨gb1, 0, none⟩)), yV _, yV _, yV _] 23 27 z q ow (
    aS (fun hk bs hd => xfieldAddr rfl (bg bs s3) (by kernel_rfl)) rfl <|
    aS (fun hk bs hd => xloadB rfl (by kernel_rfl) (dp hd 0 rfl) ((ow.keep hk).box 0 rfl) rfl) rfl <|
    aS (fun hk bs hd => xfieldAddr rfl (bg bs s2) (by kernel_rfl)) rfl <|
    aS (fun hk bs hd => xfieldAddr rfl (dp hd 2 rfl) (by kernel_rfl)) rfl <|
    aS (fun hk bs hd => xloadB rfl (by kernel_rfl) (dp hd 3 rfl) ((ow.keep hk).box 1 rfl) rfl) rfl <|
    aS (fun hk bs hd => xsub (Or.inl rfl) rfl (dp hd 1 rfl) (dp hd 4 rfl) (by omega) (by omega)) rfl <|
    aS (fun hk bs hd => xfieldAddr rfl (bg bs s2) (by kernel_rfl)) rfl <|
    aS (fun hk bs hd => xfieldAddr rfl (dp hd 6 rfl) (by kernel_rfl)) rfl <|
    aS (fun hk bs hd => xloadB rfl (by kernel_rfl) (dp hd 7 rfl) ((ow.keep hk).box 1 rfl) rfl) rfl <|
    aS (fun hk bs hd => xfieldAddr rfl (bg bs s2) (by kernel_rfl)) rfl <|
    aS (fun hk bs hd => xfieldAddr rfl (dp hd 9 rfl) (by kernel_rfl)) rfl <|
    aS (fun hk bs hd => xloadB rfl (by kernel_rfl) (dp hd 10 rfl) ((ow.keep hk).box 1 rfl) rfl) rfl <|
    aS (fun hk bs hd => xsub (Or.inl rfl) rfl (dp hd 8 rfl) (dp hd 11 rfl) (by omega) (by omega)) rfl <|
    aS (fun hk bs hd => xadd (Or.inl rfl) rfl (dp hd 12 rfl) rfl (by omega) (by omega)) rfl <|
    aS (fun hk bs hd => xmul (Or.inl rfl) rfl (dp hd 5 rfl) (dp hd 13 rfl) (by omega) (by omega)) rfl <|
    aS (fun hk bs hd => xfieldAddr rfl (bg bs s3) (by kernel_rfl)) rfl <|
    aS (fun hk bs hd => xloadB rfl (by kernel_rfl) (dp hd 15 rfl) ((ow.keep hk).box 0 rfl) rfl) rfl <|
    aS (fun hk bs hd => xadd (Or.inl rfl) rfl (dp hd 14 rfl) (dp hd 16 rfl) (by omega) (by omega)) rfl <|
    aS (fun hk bs hd => xfieldAddr rfl (bg bs s2) (by kernel_rfl)) rfl <|
    aS (fun hk bs hd => xfieldAddr rfl (dp hd 18 rfl) (by kernel_rfl)) rfl <|
    aS (fun hk bs hd => xloadB rfl (by kernel_rfl) (dp hd 19 rfl) ((ow.keep hk).box 1 rfl) rfl) rfl <|
    aS (fun hk bs hd => xsub (Or.inl rfl) rfl (dp hd 17 rfl) (dp hd 20 rfl) (by omega) (by omega)) rfl <|
    asD 21 rfl rfl rfl rfl rfl rfl <|
    arm0) fun fa fw bs hv ap z q ow => ?_
  have s4 := gv hv 22 rfl rfl; refine wt hK2 ?_; refine wp_ret ?_; refine results_one rfl (res_tmp s4) q ?_; exact ⟨(congrArg (fun n => Ending.returned (.int .i64 n)) (show _ = idx16 x c r by rfl)), ow.kept⟩
set_option maxHeartbeats 4000000 in
theorem rless_any (c1 c2 : Cl) (w : World) :
    Calls Tryz.prog 42 #[.agg #[.int .i64 c1.c, .int .i64 c1.r], .agg #[.int .i64 c2.c, .int .i64 c2.r]] w fun e w' => e = .returned (.bool (less16 c1 c2)) ∧ Kept w w' := by
  go_enter Tryz.func42, Tryz.ntmps42; refine sq fun hK1 => ?_
  refine ro [yNew w.heap.size (.cells #[.int .i64 c1.c, .int .i64 c1.r] 44 (0, 0)), yNew w.heap.size (.cells #[.int .i64 c2.c, .int .i64 c2.r] 44 (0, 0)), yV _] 3 24 rfl rfl (Own.start w) (
    aP (fun hk bs hd => xbox rfl (bs.get 0 rfl rfl) (by kernel_rfl)) rfl <|
    aP (fun hk bs hd => xbox rfl (bs.get 1 rfl rfl) (by kernel_rfl)) rfl <|
    aS (fun hk bs hd => xassign rfl rfl) rfl <|
    arm0) fun fa fw bs hv ap z q ov => ?_
  obtain ⟨gb1, s2, bgb1, hgb1⟩ := gotP hv 0 rfl rfl rfl; have ov := ov.cons hgb1 (Nat.le_trans (Own.start w).kept.size bgb1) ((Own.start w).below bgb1); obtain ⟨gb2, s3, bgb2, hgb2⟩ := gotP hv 1 rfl rfl rfl; have ov := ov.cons hgb2 (Nat.le_trans (Own.start w).kept.size bgb2) (ne_cons (apartP ap 0 1 rfl rfl rfl s2 rfl s3 rfl) ((Own.start w).below bgb2)); have s4 := gv hv 2 rfl rfl; have ow := ov; refine wt hK1 ?_; refine sq fun hK2 => ?_
  refine ro [yV (.pointer (some ⟨gb1, 1, none⟩)), yV _, yV (.pointer (some ⟨gb2, 1, none⟩)), yV _, yV _, yV _, yIf _ (yV (.pointer (some ⟨gb1, 1, none⟩))), yIf _ (yV _), yIf _ (yV (.pointer (some ⟨gb2, 1, none⟩))), yIf _ (yV _), yIf _ (yV _), yIf _ (yV _), yIf _ (yV (.pointer (some ⟨gb1, 0, none⟩))), yIf _ (yV _), yIf _ (yV (.pointer (some ⟨gb2, 0, none⟩))), yIf _ (yV _), yIf _ (yV _), yIf _ (yV _), yV _, yV _] 20 24 z q ow (
    aS (fun hk bs hd => xfieldAddr rfl (bg bs s2) (by kernel_rfl)) rfl <|
    aS (fun hk bs hd => xloadB rfl (by kernel_rfl) (dp hd 0 rfl) ((ow.keep hk).box 1 rfl) rfl) rfl <|
    aS (fun hk bs hd => xfieldAddr rfl (bg bs s3) (by kernel_rfl)) rfl <|
    aS (fun hk bs hd => xloadB rfl (by kernel_rfl) (dp hd 2 rfl) ((ow.keep hk).box 0 rfl) rfl) rfl <|
    aS (fun hk bs hd => xlss rfl (dp hd 1 rfl) (dp hd 3 rfl)) rfl <|
    mvD 4 rfl rfl rfl rfl rfl rfl <|
    ai (g1 5 rfl rfl) (fun hk bs hd hz => xfieldAddr rfl (bg bs s2) (by kernel_rfl)) rfl <|
    ai (g1 5 rfl rfl) (fun hk bs hd hz => xloadB rfl (by kernel_rfl) (di hd 6 rfl hz) ((ow.keep hk).box 1 rfl) rfl) rfl <|
    ai (g1 5 rfl rfl) (fun hk bs hd hz => xfieldAddr rfl (bg bs s3) (by kernel_rfl)) rfl <|
    ai (g1 5 rfl rfl) (fun hk bs hd hz => xloadB rfl (by kernel_rfl) (di hd 8 rfl hz) ((ow.keep hk).box 0 rfl) rfl) rfl <|
    ai (g1 5 rfl rfl) (fun hk bs hd hz => xeqi rfl (di hd 7 rfl hz) (di hd 9 rfl hz)) rfl <|
    ai (g1 5 rfl rfl) (fun hk bs hd hz => xmove rfl (di hd 10 rfl hz)) rfl <|
    ai (g2 11 rfl rfl) (fun hk bs hd hz => xfieldAddr rfl (bg bs s2) (by kernel_rfl)) rfl <|
    ai (g2 11 rfl rfl) (fun hk bs hd hz => xloadB rfl (by kernel_rfl) (di hd 12 rfl hz) ((ow.keep hk).box 1 rfl) rfl) rfl <|
    ai (g2 11 rfl rfl) (fun hk bs hd hz => xfieldAddr rfl (bg bs s3) (by kernel_rfl)) rfl <|
    ai (g2 11 rfl rfl) (fun hk bs hd hz => xloadB rfl (by kernel_rfl) (di hd 14 rfl hz) ((ow.keep hk).box 0 rfl) rfl) rfl <|
    ai (g2 11 rfl rfl) (fun hk bs hd hz => xlss rfl (di hd 13 rfl hz) (di hd 15 rfl hz)) rfl <|
    ai (g1 5 rfl rfl) (fun hk bs hd hz => xand rfl (di hd 11 rfl hz) (fun hb => di hd 16 rfl ⟨hz, hb⟩) rfl) rfl <|
    aS (fun hk bs hd => xor_ rfl (dp hd 5 rfl) rfl (fun hb => di hd 17 rfl hb)) rfl <|
    asD 18 rfl rfl rfl rfl rfl rfl <|
    arm0) fun fa fw bs hv ap z q ow => ?_
  have s4 := gv hv 19 rfl rfl; refine wt hK2 ?_; refine wp_ret ?_; refine results_one rfl (res_tmp s4) q ?_; exact ⟨(congrArg (fun b => Ending.returned (.bool b)) (show _ = less16 c1 c2 by rfl)), ow.kept⟩
end Go.Proofs.YtbkjdcpfkepheaaGreatDoor
