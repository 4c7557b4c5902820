/- The law AggRanks, walked (printed by wip/mklaw13.py). -/
import Derived.Test.YtbkjdcpfkepheaaGreatDoorUMixBF
namespace Go.Proofs.YtbkjdcpfkepheaaGreatDoor
set_option linter.unusedVariables false
set_option linter.unusedSimpArgs false
open Go.RowKit Lv
set_option maxRecDepth 100000
set_option maxHeartbeats 4000000 in
theorem lk16_any (n : Int) (h0 : -9223372036854775808 ≤ n * 10000) (h1 : n * 10000 ≤ 9223372036854775807) (w : World) :
    Calls Tryz.prog 28 #[.int .i64 n] w fun e w' => e = .returned (.agg #[.bool false, .int .u8 1, .int .i64 (n * 10000), .string ⟨#[]⟩, .int .i64 0, .int .i64 0, .int .i64 0, .int .i64 0, .slice none 0 0]) ∧ Kept w w' := by
  go_enter Tryz.func28, Tryz.ntmps28; refine sq fun hK1 => ?_
  refine ro [yNew w.heap.size (.cells #[.bool false, .int .u8 0, .int .i64 0, .string ⟨[].toArray⟩, .int .i64 0, .int .i64 0, .int .i64 0, .int .i64 0, .slice none 0 0] 39 (0, 0))] 1 7 rfl rfl (Own.start w) (
    aP (fun hk bs hd => xalloc rfl (by kernel_rfl)) rfl <|
    arm0) fun fa fw bs hv ap z q ov => ?_
  have s0 := bs.get 0 rfl rfl; obtain ⟨gb1, s2, bgb1, hgb1⟩ := gotP hv 0 rfl rfl rfl; have ov := ov.cons hgb1 (Nat.le_trans (Own.start w).kept.size bgb1) ((Own.start w).below bgb1); have ow := ov; refine wt hK1 ?_; refine sq fun hK2 => ?_
  refine ro [yV _, yV _, yV (aggV (⟨1, n * 10000, []⟩ : Vl)), yV (.agg #[.bool false, .int .u8 1, .int .i64 (n * 10000), .string ⟨[].toArray⟩, .int .i64 0, .int .i64 0, .int .i64 0, .int .i64 0, .slice none 0 0])] 4 7 z q ow (
    mvS s0 rfl rfl rfl rfl <|
    aS (fun hk bs hd => xmul (Or.inr rfl) rfl (dp hd 0 rfl) rfl (by omega) (by omega)) rfl <|
    aC (fun hk bs hd => xcall1 rfl (dp hd 1 rfl) (en_louvrelaw16_num _ _)) (fun hk bs hd => lnum16_any (n * 10000) _) rfl <|
    arm (fun aa ww hk bs hd => by
      have d2 : aa.eval (.tmp 5) = aggV (⟨1, n * 10000, []⟩ : Vl) := depX hd 2 rfl; exact stepX_same (v := .agg #[.bool false, .int .u8 1, .int .i64 (n * 10000), .string ⟨[].toArray⟩, .int .i64 0, .int .i64 0, .int .i64 0, .int .i64 0, .slice none 0 0]) (want0 rfl) (xbuild (us := #[(1, aggV (⟨1, n * 10000, []⟩ : Vl))]) rfl (by simp only [List.map_toArray, List.map_cons, List.map_nil, d2]) (by kernel_rfl)) rfl rfl
      ) <|
    arm0) fun fa fw bs hv ap z q ow => ?_
  have s2 := bg bs s2; have s6 := gv hv 3 rfl rfl; refine ws ow 0 0 s2 s6 fun fw ow => ?_; refine wt hK2 ?_; refine wp_ret ?_; refine results_one rfl (res_cell (n := 9) _ s2 (by kernel_rfl) (by kernel_rfl) (ow.box 0 rfl) (Nat.le_of_ble_eq_true rfl) rfl) q ?_; exact ⟨rfl, ow.kept⟩
theorem en_agg_Numbers : En 21 := by intro args w; go_simp
theorem en_louvrelaw16_AggRanks_1 : En 28 := by intro args w; go_simp
theorem en_louvrelaw16_Good : En 13 := by intro args w; go_simp
theorem en_louvrelaw16_awake : En 15 := by intro args w; go_simp
theorem en_louvrelaw16_of : En 17 := by intro args w; go_simp
set_option maxHeartbeats 8000000 in
theorem AggRanks_walk (x0 : Rc) (a0 : Option Addr) (cap0 : Nat) (l0 : List Cl) (w : World) (w0 : WideR x0 ∧ CellsIn w (.slice a0 l0.length cap0) l0 ∧ (∀ c ∈ l0, WideC c) ∧ l0.length ≤ 2932031007402) (mx : Int) (HM : Mx w mx) :
    Calls Tryz.prog 9 #[.agg #[.int .i64 x0.c1, .int .i64 x0.r1, .int .i64 x0.c2, .int .i64 x0.r2, .slice a0 l0.length cap0]] w fun e w' => e = .returned (.bool true) ∧ Below w.heap.size w w' := by
  obtain ⟨y, hy⟩ : ∃ y, y = goodAr (cutAr ⟨true, blankV, x0, l0⟩) := ⟨_, rfl⟩; obtain ⟨hyo, hyl, hys, hyi⟩ := area_facts hy w0.2.2.1; have fy : SmallAr y ∧ y.l.length ≤ 900 := ⟨hys, by omega⟩; go_enter Tryz.func9, Tryz.ntmps9; refine sq fun hK1 => ?_
  refine ro [yNew w.heap.size (.cells #[.int .i64 x0.c1, .int .i64 x0.r1, .int .i64 x0.c2, .int .i64 x0.r2, .slice a0 l0.length cap0] 37 (0, 0)), yV _] 2 192 rfl rfl (Own.start w) (
    aP (fun hk bs hd => xbox rfl (bs.get 0 rfl rfl) (by kernel_rfl)) rfl <|
    aS (fun hk bs hd => xassign rfl rfl) rfl <|
    arm0) fun fa fw bs hv ap z q ov => ?_
  obtain ⟨gb1, s1, bgb1, hgb1⟩ := gotP hv 0 rfl rfl rfl; have ov := ov.cons hgb1 (Nat.le_trans (Own.start w).kept.size bgb1) ((Own.start w).below bgb1); have s2 := gv hv 1 rfl rfl; have ow := ov; refine wt hK1 ?_; refine sq fun hK2 => ?_
  refine ro [yV (.agg #[.int .i64 x0.c1, .int .i64 x0.r1, .int .i64 x0.c2, .int .i64 x0.r2, .slice a0 l0.length cap0]), yV (.agg #[.bool true, .int .u8 0, .int .i64 0, .string ⟨[].toArray⟩, .int .i64 x0.c1, .int .i64 x0.r1, .int .i64 x0.c2, .int .i64 x0.r2, .slice a0 l0.length cap0]), ySlice fw.heap.size 1 (argsObj [((⟨true, ⟨0, 0, []⟩, ⟨x0.c1, x0.r1, x0.c2, x0.r2⟩, l0⟩ : Ar), .slice a0 l0.length cap0)])] 3 192 z q ow (
    aS (fun hk bs hd => xloadN 5 rfl (by kernel_rfl) (by kernel_rfl) (bg bs s1) ((ow.keep hk).box 0 rfl) (Nat.le_of_ble_eq_true rfl) rfl) rfl <|
    arm (fun aa ww hk bs hd => by
      have d0 : aa.eval (.tmp 14) = .agg #[.int .i64 x0.c1, .int .i64 x0.r1, .int .i64 x0.c2, .int .i64 x0.r2, .slice a0 l0.length cap0] := depX hd 0 rfl; exact stepX_same (v := .agg #[.bool true, .int .u8 0, .int .i64 0, .string ⟨[].toArray⟩, .int .i64 x0.c1, .int .i64 x0.r1, .int .i64 x0.c2, .int .i64 x0.r2, .slice a0 l0.length cap0]) (want0 rfl) (xbuild (us := #[(0, .bool true), (2, .agg #[.int .i64 x0.c1, .int .i64 x0.r1, .int .i64 x0.c2, .int .i64 x0.r2, .slice a0 l0.length cap0])]) rfl (by simp only [List.map_toArray, List.map_cons, List.map_nil, d0]; rfl) (by kernel_rfl)) rfl rfl
      ) <|
    arm (fun aa ww hk bs hd => by
      have d1 : aa.eval (.tmp 15) = .agg #[.bool true, .int .u8 0, .int .i64 0, .string ⟨[].toArray⟩, .int .i64 x0.c1, .int .i64 x0.r1, .int .i64 x0.c2, .int .i64 x0.r2, .slice a0 l0.length cap0] := depX hd 1 rfl; exact stepX_new _ (want0 rfl) (xbuildSlice (us := #[(0, .agg #[.bool true, .int .u8 0, .int .i64 0, .string ⟨[].toArray⟩, .int .i64 x0.c1, .int .i64 x0.r1, .int .i64 x0.c2, .int .i64 x0.r2, .slice a0 l0.length cap0])]) (b := argsObj [((⟨true, ⟨0, 0, []⟩, ⟨x0.c1, x0.r1, x0.c2, x0.r2⟩, l0⟩ : Ar), .slice a0 l0.length cap0)]) rfl (by simp only [List.map_toArray, List.map_cons, List.map_nil, d1]) (by kernel_rfl)) ⟨_, rfl, hk.size, Go.heap_alloc_new _ _⟩ ((Kept.refl _).alloc _) rfl (Nat.le_refl _)
      ) <|
    arm0) fun fa fw bs hv ap z q ov => ?_
  have s2 := bg bs s2; obtain ⟨gb2, s16, bgb2, hgb2⟩ := gotL hv 2 rfl rfl rfl; have ov := ov.cons hgb2 (Nat.le_trans ow.kept.size bgb2) (ow.below bgb2); have ow := ov; refine wl_enter (want0 rfl) (xcall1 (u := .slice (some ⟨gb2, 0, none⟩) 1 1) rfl s16 (en_louvrelaw16_Good _ _)) ((good_area hy (ow.get 0 rfl) (w0.2.1.kept ow.kept) w0.2.2.1 w0.2.2.2).mono ?_); rintro _ fw ⟨gy, cy, Ay, cly, rfl, ho⟩; refine ⟨_, rfl, ?_⟩; rcases (rfl : (0 : Nat) = 0) with _
  have ow := ow.join ho; clear ho; refine wl_value (v := .slice (some ⟨gy, 0, none⟩) 1 cy) (want0 rfl) (xassign rfl (put_in (t := 17) z rfl)) ?_; refine gt2 (put_size (put_size z)) (put_def (put_def q)) ow 2 (pb 3 (pb 17 s2 rfl) rfl) 3 (put_in (t := 3) (put_size z) rfl) fun fa fw z q ow s2 s3 => ?_; refine wt hK2 ?_; refine sq fun hK3 => ?_; refine sq fun hK4 => ?_
  refine ro [yV _, yV _, yV (.bool false), yV _, yV _, yV _, yV (.pointer (some ⟨gy, 0 + 0 * 9, none⟩)), yV _, yV _, yV _] 10 192 z q ow (
    mvS s3 rfl rfl rfl rfl <|
    aS (fun hk bs hd => xlen Tryz.underlying22 rfl (dp hd 0 rfl)) rfl <|
    aE (fun hk bs hd => xnei rfl (dp hd 1 rfl) rfl) (congrArg Value.bool rfl) rfl <|
    mvD 2 rfl rfl rfl rfl rfl rfl <|
    armS (wg (j := 3) (b := false) rfl rfl rfl) (fun aa ww hk bs hd => xmove rfl (bg bs s3)) rfl <|
    armS (wg (j := 3) (b := false) rfl rfl rfl) (fun aa ww hk bs hd => xplaceK 9 Tryz.underlying22 (by kernel_rfl) rfl (i := 0) rfl (dp hd 4 rfl) rfl (by decide)) rfl <|
    armS (wg (j := 3) (b := false) rfl rfl rfl) (fun aa ww hk bs hd => xfieldAddr rfl (dp hd 5 rfl) (by kernel_rfl)) rfl <|
    armS (wg (j := 3) (b := false) rfl rfl rfl) (fun aa ww hk bs hd => xcellK 0 rfl (by kernel_rfl) (dp hd 6 rfl) rfl (own_elem (l := [(y, (.slice Ay y.l.length cly))]) (i := 0) argE_len rfl ((ow.keep hk).row 0 rfl) rfl) rfl) rfl <|
    armS (wg (j := 3) (b := false) rfl rfl rfl) (fun aa ww hk bs hd => xnot rfl (dp hd 7 rfl)) rfl <|
    aS (fun hk bs hd => xpickF rfl (dp hd 3 rfl) (dp hd 8 rfl)) rfl <|
    arm0) fun fa fw bs hv ap z q ow => ?_
  obtain ⟨s2, s3⟩ := b2 bs s2 s3; have s27 := gv hv 9 rfl rfl; refine wt hK4 ?_
  by_cases hc1 : ¬ (y.w = true)
  ·refine ct s27 ((bnot (Iff.rfl)).2 hc1) ?_
   refine sq fun hK5 => ?_
   refine ro [yV (.bool true), yV _] 2 192 z q ow (
     aC (fun hk bs hd => xcall0 rfl (en_louvrelaw16_awake _ _)) (fun hk bs hd => awake16_any _ mx (HM.kept (ow.keep hk).kept)) rfl <|
     asD 0 rfl rfl rfl rfl rfl rfl <|
     arm0) fun fa fw bs hv ap z q ow => ?_
   have s3 := bg bs s3; have s2 := gv hv 1 rfl rfl; refine wt hK5 ?_; refine wp_ret ?_; refine then_r ?_; refine results_one rfl (res_tmp s2) q ?_; exact ⟨rfl, ow.kept⟩
  refine cf s27 (bnot (Iff.rfl)) hc1 ?_; have hyw : y.w = true := Classical.not_not.1 hc1; obtain ⟨sr0, sr1, sr2, sr3, sr4⟩ := ranks_pairs hyo hyw; refine wp_skip ?_; refine tn hK3 ?_; refine sq fun hK6 => ?_
  refine ro [yV (.agg #[.int .u8 9, .int .u8 46]), yV (.agg #[.int .u8 11, .int .u8 47]), yV (.agg #[.int .u8 14, .int .u8 48]), yV (.agg #[.int .u8 15, .int .u8 49]), yV (.agg #[.int .u8 16, .int .u8 50]), ySlice fw.heap.size 5 (.cells #[.int .u8 9, .int .u8 46, .int .u8 11, .int .u8 47, .int .u8 14, .int .u8 48, .int .u8 15, .int .u8 49, .int .u8 16, .int .u8 50] 67 (0, 0))] 6 192 z q ow (
    aS (fun hk bs hd => xbuild (us := #[(0, .int .u8 9), (1, .int .u8 46)]) rfl (by simp only [List.map_toArray, List.map_cons, List.map_nil]; rfl) (by kernel_rfl)) rfl <|
    aS (fun hk bs hd => xbuild (us := #[(0, .int .u8 11), (1, .int .u8 47)]) rfl (by simp only [List.map_toArray, List.map_cons, List.map_nil]; rfl) (by kernel_rfl)) rfl <|
    aS (fun hk bs hd => xbuild (us := #[(0, .int .u8 14), (1, .int .u8 48)]) rfl (by simp only [List.map_toArray, List.map_cons, List.map_nil]; rfl) (by kernel_rfl)) rfl <|
    aS (fun hk bs hd => xbuild (us := #[(0, .int .u8 15), (1, .int .u8 49)]) rfl (by simp only [List.map_toArray, List.map_cons, List.map_nil]; rfl) (by kernel_rfl)) rfl <|
    aS (fun hk bs hd => xbuild (us := #[(0, .int .u8 16), (1, .int .u8 50)]) rfl (by simp only [List.map_toArray, List.map_cons, List.map_nil]; rfl) (by kernel_rfl)) rfl <|
    arm (fun aa ww hk bs hd => by
      have d0 : aa.eval (.tmp 29) = .agg #[.int .u8 9, .int .u8 46] := depX hd 0 rfl; have d1 : aa.eval (.tmp 30) = .agg #[.int .u8 11, .int .u8 47] := depX hd 1 rfl; have d2 : aa.eval (.tmp 31) = .agg #[.int .u8 14, .int .u8 48] := depX hd 2 rfl; have d3 : aa.eval (.tmp 32) = .agg #[.int .u8 15, .int .u8 49] := depX hd 3 rfl; have d4 : aa.eval (.tmp 33) = .agg #[.int .u8 16, .int .u8 50] := depX hd 4 rfl; exact stepX_new _ (want0 rfl) (xbuildSlice (us := #[(0, .agg #[.int .u8 9, .int .u8 46]), (1, .agg #[.int .u8 11, .int .u8 47]), (2, .agg #[.int .u8 14, .int .u8 48]), (3, .agg #[.int .u8 15, .int .u8 49]), (4, .agg #[.int .u8 16, .int .u8 50])]) (b := .cells #[.int .u8 9, .int .u8 46, .int .u8 11, .int .u8 47, .int .u8 14, .int .u8 48, .int .u8 15, .int .u8 49, .int .u8 16, .int .u8 50] 67 (0, 0)) rfl (by simp only [List.map_toArray, List.map_cons, List.map_nil, d0, d1, d2, d3, d4]) (by kernel_rfl)) ⟨_, rfl, hk.size, Go.heap_alloc_new _ _⟩ ((Kept.refl _).alloc _) rfl (Nat.le_refl _)
      ) <|
    arm0) fun fa fw bs hv ap z q ov => ?_
  obtain ⟨s2, s3⟩ := b2 bs s2 s3; obtain ⟨gb3, s34, bgb3, hgb3⟩ := gotL hv 5 rfl rfl rfl; have ov := ov.cons hgb3 (Nat.le_trans ow.kept.size bgb3) (ow.below bgb3); have ow := ov; refine wl_value (v := .slice (some ⟨gb3, 0, none⟩) 5 5) (want0 rfl) (xassign rfl s34) ?_; refine gp2 z q ow s2 s3 fun fa fw z q ow s2 s3 s4 => ?_; refine wt hK6 ?_; refine sq fun hK7 => ?_; refine sq fun hK8 => ?_
  refine ro [yV _] 1 192 z q ow (
    aS (fun hk bs hd => xassign rfl rfl) rfl <|
    arm0) fun fa fw bs hv ap z q ow => ?_
  obtain ⟨s2, s3, s4⟩ := b3 bs s2 s3 s4; have s5 := gv hv 0 rfl rfl; refine wt hK8 ?_; refine wp_block ?_; refine wp_loop_rounds 6 ?_; refine rnd1 ?_; refine sq fun hK9 => ?_; refine sq fun hK10 => ?_
  refine ro [yV _, yV _, yV _, yV (.bool true)] 4 192 z q ow (
    mvS s5 rfl rfl rfl rfl <|
    mvS s4 rfl rfl rfl rfl <|
    aS (fun hk bs hd => xlen Tryz.underlying68 rfl (dp hd 1 rfl)) rfl <|
    aE (fun hk bs hd => xlss rfl (dp hd 0 rfl) (dp hd 2 rfl)) (congrArg Value.bool rfl) rfl <|
    arm0) fun fa fw bs hv ap z q ow => ?_
  obtain ⟨s2, s3, s4, s5⟩ := b4 bs s2 s3 s4 s5; have s38 := gv hv 3 rfl rfl; refine wt hK10 ?_; refine wp_cond_true (s38) ?_; refine wp_skip ?_; refine tn hK9 ?_; refine sq fun hK11 => ?_; refine wp_block ?_; refine sq fun hK12 => ?_
  refine ro [yV _, yV _, yV _, yV (.pointer (some ⟨gb3, 0, none⟩)), yV _, yV _, yV _, yV (.agg #[.bool y.w, .int .u8 y.v.k, .int .i64 y.v.n, .string ⟨y.v.t.toArray⟩, .int .i64 y.x.c1, .int .i64 y.x.r1, .int .i64 y.x.c2, .int .i64 y.x.r2, .slice Ay y.l.length cly]), ySlice fw.heap.size 1 (argsObj [(y, .slice Ay y.l.length cly)]), yV (aggV ((vCall16 9 [y]).1)), yV _, yV _, yV _, yV (.pointer (some ⟨gb3, 1, none⟩)), yV _, yV _, yV _, yV (.agg #[.bool y.w, .int .u8 y.v.k, .int .i64 y.v.n, .string ⟨y.v.t.toArray⟩, .int .i64 y.x.c1, .int .i64 y.x.r1, .int .i64 y.x.c2, .int .i64 y.x.r2, .slice Ay y.l.length cly]), ySlice fw.heap.size 1 (argsObj [(y, .slice Ay y.l.length cly)]), yV (aggV ((vCall16 46 [y]).1)), yV (.bool false)] 21 192 z q ow (
    mvS s4 rfl rfl rfl rfl <|
    mvS s5 rfl rfl rfl rfl <|
    aS (fun hk bs hd => xplaceK 2 Tryz.underlying68 (by kernel_rfl) rfl (i := 0) rfl (dp hd 0 rfl) (dp hd 1 rfl) (by decide)) rfl <|
    aS (fun hk bs hd => xindexAddr rfl (dp hd 2 rfl) rfl (by kernel_rfl)) rfl <|
    aS (fun hk bs hd => xloadB rfl (by kernel_rfl) (dp hd 3 rfl) ((ow.keep hk).box 0 rfl) rfl) rfl <|
    mvS s3 rfl rfl rfl rfl <|
    aS (fun hk bs hd => xplaceK 9 Tryz.underlying22 (by kernel_rfl) rfl (i := 0) rfl (dp hd 5 rfl) rfl (by decide)) rfl <|
    aS (fun hk bs hd => xpartK (n := 9) 0 rfl (by kernel_rfl) (by kernel_rfl) (dp hd 6 rfl) rfl (own_elem (l := [(y, (.slice Ay y.l.length cly))]) (i := 0) argE_len rfl ((ow.keep hk).row 1 rfl) rfl)) rfl <|
    arm (fun aa ww hk bs hd => by
      have d7 : aa.eval (.tmp 48) = .agg #[.bool y.w, .int .u8 y.v.k, .int .i64 y.v.n, .string ⟨y.v.t.toArray⟩, .int .i64 y.x.c1, .int .i64 y.x.r1, .int .i64 y.x.c2, .int .i64 y.x.r2, .slice Ay y.l.length cly] := depX hd 7 rfl; exact stepX_new _ (want0 rfl) (xbuildSlice (us := #[(0, .agg #[.bool y.w, .int .u8 y.v.k, .int .i64 y.v.n, .string ⟨y.v.t.toArray⟩, .int .i64 y.x.c1, .int .i64 y.x.r1, .int .i64 y.x.c2, .int .i64 y.x.r2, .slice Ay y.l.length cly])]) (b := argsObj [(y, .slice Ay y.l.length cly)]) rfl (by simp only [List.map_toArray, List.map_cons, List.map_nil, d7]) (by kernel_rfl)) ⟨_, rfl, hk.size, Go.heap_alloc_new _ _⟩ ((Kept.refl _).alloc _) rfl (Nat.le_refl _)
      ) <|
    arm (fun aa ww hk bs hd => by
      have d4 := dp hd 4 rfl; have d8 := dL hd 8 rfl; obtain ⟨g8, e8, _, h8⟩ := d8; exact stepX_enter (want0 rfl) (xcall2 (u := .int .u8 9) (v := .slice (some ⟨g8, 0, none⟩) 1 1) rfl (d4) e8 (en_louvrelaw16_of _ _)) ((of16_any 9 (some ⟨g8, 0, none⟩) 1 [y] ww mx (HM.kept (ow.keep hk).kept) (argsObj_at (L := [(y, .slice Ay y.l.length cly)]) h8 (atCons (cellsAt_own (p := (y, (.slice Ay y.l.length cly))) ((ow.keep hk).thing 2 rfl)) atNil)) (fit_cons fy.1 fy.2 (Nat.le_of_ble_eq_true rfl) fit_nil) (Nat.le_of_ble_eq_true rfl)).mono fun _ _ ⟨he, hk2⟩ => ⟨_, he, rfl, hk2⟩) rfl
      ) <|
    mvS s4 rfl rfl rfl rfl <|
    mvS s5 rfl rfl rfl rfl <|
    aS (fun hk bs hd => xplaceK 2 Tryz.underlying68 (by kernel_rfl) rfl (i := 0) rfl (dp hd 10 rfl) (dp hd 11 rfl) (by decide)) rfl <|
    aS (fun hk bs hd => xindexAddr rfl (dp hd 12 rfl) rfl (by kernel_rfl)) rfl <|
    aS (fun hk bs hd => xloadB rfl (by kernel_rfl) (dp hd 13 rfl) ((ow.keep hk).box 0 rfl) rfl) rfl <|
    mvS s3 rfl rfl rfl rfl <|
    aS (fun hk bs hd => xplaceK 9 Tryz.underlying22 (by kernel_rfl) rfl (i := 0) rfl (dp hd 15 rfl) rfl (by decide)) rfl <|
    aS (fun hk bs hd => xpartK (n := 9) 0 rfl (by kernel_rfl) (by kernel_rfl) (dp hd 16 rfl) rfl (own_elem (l := [(y, (.slice Ay y.l.length cly))]) (i := 0) argE_len rfl ((ow.keep hk).row 1 rfl) rfl)) rfl <|
    arm (fun aa ww hk bs hd => by
      have d17 : aa.eval (.tmp 58) = .agg #[.bool y.w, .int .u8 y.v.k, .int .i64 y.v.n, .string ⟨y.v.t.toArray⟩, .int .i64 y.x.c1, .int .i64 y.x.r1, .int .i64 y.x.c2, .int .i64 y.x.r2, .slice Ay y.l.length cly] := depX hd 17 rfl; exact stepX_new _ (want0 rfl) (xbuildSlice (us := #[(0, .agg #[.bool y.w, .int .u8 y.v.k, .int .i64 y.v.n, .string ⟨y.v.t.toArray⟩, .int .i64 y.x.c1, .int .i64 y.x.r1, .int .i64 y.x.c2, .int .i64 y.x.r2, .slice Ay y.l.length cly])]) (b := argsObj [(y, .slice Ay y.l.length cly)]) rfl (by simp only [List.map_toArray, List.map_cons, List.map_nil, d17]) (by kernel_rfl)) ⟨_, rfl, hk.size, Go.heap_alloc_new _ _⟩ ((Kept.refl _).alloc _) rfl (Nat.le_refl _)
      ) <|
    arm (fun aa ww hk bs hd => by
      have d14 := dp hd 14 rfl; have d18 := dL hd 18 rfl; obtain ⟨g18, e18, _, h18⟩ := d18; exact stepX_enter (want0 rfl) (xcall2 (u := .int .u8 46) (v := .slice (some ⟨g18, 0, none⟩) 1 1) rfl (d14) e18 (en_louvrelaw16_of _ _)) ((of16_any 46 (some ⟨g18, 0, none⟩) 1 [y] ww mx (HM.kept (ow.keep hk).kept) (argsObj_at (L := [(y, .slice Ay y.l.length cly)]) h18 (atCons (cellsAt_own (p := (y, (.slice Ay y.l.length cly))) ((ow.keep hk).thing 2 rfl)) atNil)) (fit_cons fy.1 fy.2 (Nat.le_of_ble_eq_true rfl) fit_nil) (Nat.le_of_ble_eq_true rfl)).mono fun _ _ ⟨he, hk2⟩ => ⟨_, he, rfl, hk2⟩) rfl
      ) <|
    aE (fun hk bs hd => xnev rfl (dp hd 9 rfl) (dp hd 19 rfl)) (congrArg Value.bool (by rw [sr0, sameV_self]; rfl)) rfl <|
    arm0) fun fa fw bs hv ap z q ow => ?_
  obtain ⟨s2, s3, s4, s5⟩ := b4 bs s2 s3 s4 s5; have s61 := gv hv 20 rfl rfl; refine wt hK12 ?_; refine wp_cond_false (s61) ?_; refine wp_skip ?_; refine block_n ?_; refine tn hK11 ?_
  refine ro [yV _, yV (.int .i64 1)] 2 192 z q ow (
    mvS s5 rfl rfl rfl rfl <|
    aS (fun hk bs hd => xadd (Or.inl rfl) rfl (dp hd 0 rfl) rfl (by omega) (by omega)) rfl <|
    arm0) fun fa fw bs hv ap z q ow => ?_
  obtain ⟨s2, s3, s4, s5⟩ := b4 bs s2 s3 s4 s5; have s40 := gv hv 1 rfl rfl; refine wl_value (v := .int .i64 1) (want0 rfl) (xassign rfl s40) ?_; refine gp3 z q ow s2 s3 s4 fun fa fw z q ow s2 s3 s4 s5 => ?_; refine wl_end ?_; refine then_n ?_; refine rnd1 ?_; refine sq fun hK13 => ?_; refine sq fun hK14 => ?_
  refine ro [yV _, yV _, yV _, yV (.bool true)] 4 192 z q ow (
    mvS s5 rfl rfl rfl rfl <|
    mvS s4 rfl rfl rfl rfl <|
    aS (fun hk bs hd => xlen Tryz.underlying68 rfl (dp hd 1 rfl)) rfl <|
    aE (fun hk bs hd => xlss rfl (dp hd 0 rfl) (dp hd 2 rfl)) (congrArg Value.bool rfl) rfl <|
    arm0) fun fa fw bs hv ap z q ow => ?_
  obtain ⟨s2, s3, s4, s5⟩ := b4 bs s2 s3 s4 s5; have s38 := gv hv 3 rfl rfl; refine wt hK14 ?_; refine wp_cond_true (s38) ?_; refine wp_skip ?_; refine tn hK13 ?_; refine sq fun hK15 => ?_; refine wp_block ?_; refine sq fun hK16 => ?_
  refine ro [yV _, yV _, yV _, yV (.pointer (some ⟨gb3, 2, none⟩)), yV _, yV _, yV _, yV (.agg #[.bool y.w, .int .u8 y.v.k, .int .i64 y.v.n, .string ⟨y.v.t.toArray⟩, .int .i64 y.x.c1, .int .i64 y.x.r1, .int .i64 y.x.c2, .int .i64 y.x.r2, .slice Ay y.l.length cly]), ySlice fw.heap.size 1 (argsObj [(y, .slice Ay y.l.length cly)]), yV (aggV ((vCall16 11 [y]).1)), yV _, yV _, yV _, yV (.pointer (some ⟨gb3, 3, none⟩)), yV _, yV _, yV _, yV (.agg #[.bool y.w, .int .u8 y.v.k, .int .i64 y.v.n, .string ⟨y.v.t.toArray⟩, .int .i64 y.x.c1, .int .i64 y.x.r1, .int .i64 y.x.c2, .int .i64 y.x.r2, .slice Ay y.l.length cly]), ySlice fw.heap.size 1 (argsObj [(y, .slice Ay y.l.length cly)]), yV (aggV ((vCall16 47 [y]).1)), yV (.bool false)] 21 192 z q ow (
    mvS s4 rfl rfl rfl rfl <|
    mvS s5 rfl rfl rfl rfl <|
    aS (fun hk bs hd => xplaceK 2 Tryz.underlying68 (by kernel_rfl) rfl (i := 1) rfl (dp hd 0 rfl) (dp hd 1 rfl) (by decide)) rfl <|
    aS (fun hk bs hd => xindexAddr rfl (dp hd 2 rfl) rfl (by kernel_rfl)) rfl <|
    aS (fun hk bs hd => xloadB rfl (by kernel_rfl) (dp hd 3 rfl) ((ow.keep hk).box 0 rfl) rfl) rfl <|
    mvS s3 rfl rfl rfl rfl <|
    aS (fun hk bs hd => xplaceK 9 Tryz.underlying22 (by kernel_rfl) rfl (i := 0) rfl (dp hd 5 rfl) rfl (by decide)) rfl <|
    aS (fun hk bs hd => xpartK (n := 9) 0 rfl (by kernel_rfl) (by kernel_rfl) (dp hd 6 rfl) rfl (own_elem (l := [(y, (.slice Ay y.l.length cly))]) (i := 0) argE_len rfl ((ow.keep hk).row 1 rfl) rfl)) rfl <|
    arm (fun aa ww hk bs hd => by
      have d7 : aa.eval (.tmp 48) = .agg #[.bool y.w, .int .u8 y.v.k, .int .i64 y.v.n, .string ⟨y.v.t.toArray⟩, .int .i64 y.x.c1, .int .i64 y.x.r1, .int .i64 y.x.c2, .int .i64 y.x.r2, .slice Ay y.l.length cly] := depX hd 7 rfl; exact stepX_new _ (want0 rfl) (xbuildSlice (us := #[(0, .agg #[.bool y.w, .int .u8 y.v.k, .int .i64 y.v.n, .string ⟨y.v.t.toArray⟩, .int .i64 y.x.c1, .int .i64 y.x.r1, .int .i64 y.x.c2, .int .i64 y.x.r2, .slice Ay y.l.length cly])]) (b := argsObj [(y, .slice Ay y.l.length cly)]) rfl (by simp only [List.map_toArray, List.map_cons, List.map_nil, d7]) (by kernel_rfl)) ⟨_, rfl, hk.size, Go.heap_alloc_new _ _⟩ ((Kept.refl _).alloc _) rfl (Nat.le_refl _)
      ) <|
    arm (fun aa ww hk bs hd => by
      have d4 := dp hd 4 rfl; have d8 := dL hd 8 rfl; obtain ⟨g8, e8, _, h8⟩ := d8; exact stepX_enter (want0 rfl) (xcall2 (u := .int .u8 11) (v := .slice (some ⟨g8, 0, none⟩) 1 1) rfl (d4) e8 (en_louvrelaw16_of _ _)) ((of16_any 11 (some ⟨g8, 0, none⟩) 1 [y] ww mx (HM.kept (ow.keep hk).kept) (argsObj_at (L := [(y, .slice Ay y.l.length cly)]) h8 (atCons (cellsAt_own (p := (y, (.slice Ay y.l.length cly))) ((ow.keep hk).thing 2 rfl)) atNil)) (fit_cons fy.1 fy.2 (Nat.le_of_ble_eq_true rfl) fit_nil) (Nat.le_of_ble_eq_true rfl)).mono fun _ _ ⟨he, hk2⟩ => ⟨_, he, rfl, hk2⟩) rfl
      ) <|
    mvS s4 rfl rfl rfl rfl <|
    mvS s5 rfl rfl rfl rfl <|
    aS (fun hk bs hd => xplaceK 2 Tryz.underlying68 (by kernel_rfl) rfl (i := 1) rfl (dp hd 10 rfl) (dp hd 11 rfl) (by decide)) rfl <|
    aS (fun hk bs hd => xindexAddr rfl (dp hd 12 rfl) rfl (by kernel_rfl)) rfl <|
    aS (fun hk bs hd => xloadB rfl (by kernel_rfl) (dp hd 13 rfl) ((ow.keep hk).box 0 rfl) rfl) rfl <|
    mvS s3 rfl rfl rfl rfl <|
    aS (fun hk bs hd => xplaceK 9 Tryz.underlying22 (by kernel_rfl) rfl (i := 0) rfl (dp hd 15 rfl) rfl (by decide)) rfl <|
    aS (fun hk bs hd => xpartK (n := 9) 0 rfl (by kernel_rfl) (by kernel_rfl) (dp hd 16 rfl) rfl (own_elem (l := [(y, (.slice Ay y.l.length cly))]) (i := 0) argE_len rfl ((ow.keep hk).row 1 rfl) rfl)) rfl <|
    arm (fun aa ww hk bs hd => by
      have d17 : aa.eval (.tmp 58) = .agg #[.bool y.w, .int .u8 y.v.k, .int .i64 y.v.n, .string ⟨y.v.t.toArray⟩, .int .i64 y.x.c1, .int .i64 y.x.r1, .int .i64 y.x.c2, .int .i64 y.x.r2, .slice Ay y.l.length cly] := depX hd 17 rfl; exact stepX_new _ (want0 rfl) (xbuildSlice (us := #[(0, .agg #[.bool y.w, .int .u8 y.v.k, .int .i64 y.v.n, .string ⟨y.v.t.toArray⟩, .int .i64 y.x.c1, .int .i64 y.x.r1, .int .i64 y.x.c2, .int .i64 y.x.r2, .slice Ay y.l.length cly])]) (b := argsObj [(y, .slice Ay y.l.length cly)]) rfl (by simp only [List.map_toArray, List.map_cons, List.map_nil, d17]) (by kernel_rfl)) ⟨_, rfl, hk.size, Go.heap_alloc_new _ _⟩ ((Kept.refl _).alloc _) rfl (Nat.le_refl _)
      ) <|
    arm (fun aa ww hk bs hd => by
      have d14 := dp hd 14 rfl; have d18 := dL hd 18 rfl; obtain ⟨g18, e18, _, h18⟩ := d18; exact stepX_enter (want0 rfl) (xcall2 (u := .int .u8 47) (v := .slice (some ⟨g18, 0, none⟩) 1 1) rfl (d14) e18 (en_louvrelaw16_of _ _)) ((of16_any 47 (some ⟨g18, 0, none⟩) 1 [y] ww mx (HM.kept (ow.keep hk).kept) (argsObj_at (L := [(y, .slice Ay y.l.length cly)]) h18 (atCons (cellsAt_own (p := (y, (.slice Ay y.l.length cly))) ((ow.keep hk).thing 2 rfl)) atNil)) (fit_cons fy.1 fy.2 (Nat.le_of_ble_eq_true rfl) fit_nil) (Nat.le_of_ble_eq_true rfl)).mono fun _ _ ⟨he, hk2⟩ => ⟨_, he, rfl, hk2⟩) rfl
      ) <|
    aE (fun hk bs hd => xnev rfl (dp hd 9 rfl) (dp hd 19 rfl)) (congrArg Value.bool (by rw [sr1, sameV_self]; rfl)) rfl <|
    arm0) fun fa fw bs hv ap z q ow => ?_
  obtain ⟨s2, s3, s4, s5⟩ := b4 bs s2 s3 s4 s5; have s61 := gv hv 20 rfl rfl; refine wt hK16 ?_; refine wp_cond_false (s61) ?_; refine wp_skip ?_; refine block_n ?_; refine tn hK15 ?_
  refine ro [yV _, yV (.int .i64 2)] 2 192 z q ow (
    mvS s5 rfl rfl rfl rfl <|
    aS (fun hk bs hd => xadd (Or.inl rfl) rfl (dp hd 0 rfl) rfl (by omega) (by omega)) rfl <|
    arm0) fun fa fw bs hv ap z q ow => ?_
  obtain ⟨s2, s3, s4, s5⟩ := b4 bs s2 s3 s4 s5; have s40 := gv hv 1 rfl rfl; refine wl_value (v := .int .i64 2) (want0 rfl) (xassign rfl s40) ?_; refine gp3 z q ow s2 s3 s4 fun fa fw z q ow s2 s3 s4 s5 => ?_; refine wl_end ?_; refine then_n ?_; refine rnd1 ?_; refine sq fun hK17 => ?_; refine sq fun hK18 => ?_
  refine ro [yV _, yV _, yV _, yV (.bool true)] 4 192 z q ow (
    mvS s5 rfl rfl rfl rfl <|
    mvS s4 rfl rfl rfl rfl <|
    aS (fun hk bs hd => xlen Tryz.underlying68 rfl (dp hd 1 rfl)) rfl <|
    aE (fun hk bs hd => xlss rfl (dp hd 0 rfl) (dp hd 2 rfl)) (congrArg Value.bool rfl) rfl <|
    arm0) fun fa fw bs hv ap z q ow => ?_
  obtain ⟨s2, s3, s4, s5⟩ := b4 bs s2 s3 s4 s5; have s38 := gv hv 3 rfl rfl; refine wt hK18 ?_; refine wp_cond_true (s38) ?_; refine wp_skip ?_; refine tn hK17 ?_; refine sq fun hK19 => ?_; refine wp_block ?_; refine sq fun hK20 => ?_
  refine ro [yV _, yV _, yV _, yV (.pointer (some ⟨gb3, 4, none⟩)), yV _, yV _, yV _, yV (.agg #[.bool y.w, .int .u8 y.v.k, .int .i64 y.v.n, .string ⟨y.v.t.toArray⟩, .int .i64 y.x.c1, .int .i64 y.x.r1, .int .i64 y.x.c2, .int .i64 y.x.r2, .slice Ay y.l.length cly]), ySlice fw.heap.size 1 (argsObj [(y, .slice Ay y.l.length cly)]), yV (aggV ((vCall16 14 [y]).1)), yV _, yV _, yV _, yV (.pointer (some ⟨gb3, 5, none⟩)), yV _, yV _, yV _, yV (.agg #[.bool y.w, .int .u8 y.v.k, .int .i64 y.v.n, .string ⟨y.v.t.toArray⟩, .int .i64 y.x.c1, .int .i64 y.x.r1, .int .i64 y.x.c2, .int .i64 y.x.r2, .slice Ay y.l.length cly]), ySlice fw.heap.size 1 (argsObj [(y, .slice Ay y.l.length cly)]), yV (aggV ((vCall16 48 [y]).1)), yV (.bool false)] 21 192 z q ow (
    mvS s4 rfl rfl rfl rfl <|
    mvS s5 rfl rfl rfl rfl <|
    aS (fun hk bs hd => xplaceK 2 Tryz.underlying68 (by kernel_rfl) rfl (i := 2) rfl (dp hd 0 rfl) (dp hd 1 rfl) (by decide)) rfl <|
    aS (fun hk bs hd => xindexAddr rfl (dp hd 2 rfl) rfl (by kernel_rfl)) rfl <|
    aS (fun hk bs hd => xloadB rfl (by kernel_rfl) (dp hd 3 rfl) ((ow.keep hk).box 0 rfl) rfl) rfl <|
    mvS s3 rfl rfl rfl rfl <|
    aS (fun hk bs hd => xplaceK 9 Tryz.underlying22 (by kernel_rfl) rfl (i := 0) rfl (dp hd 5 rfl) rfl (by decide)) rfl <|
    aS (fun hk bs hd => xpartK (n := 9) 0 rfl (by kernel_rfl) (by kernel_rfl) (dp hd 6 rfl) rfl (own_elem (l := [(y, (.slice Ay y.l.length cly))]) (i := 0) argE_len rfl ((ow.keep hk).row 1 rfl) rfl)) rfl <|
    arm (fun aa ww hk bs hd => by
      have d7 : aa.eval (.tmp 48) = .agg #[.bool y.w, .int .u8 y.v.k, .int .i64 y.v.n, .string ⟨y.v.t.toArray⟩, .int .i64 y.x.c1, .int .i64 y.x.r1, .int .i64 y.x.c2, .int .i64 y.x.r2, .slice Ay y.l.length cly] := depX hd 7 rfl; exact stepX_new _ (want0 rfl) (xbuildSlice (us := #[(0, .agg #[.bool y.w, .int .u8 y.v.k, .int .i64 y.v.n, .string ⟨y.v.t.toArray⟩, .int .i64 y.x.c1, .int .i64 y.x.r1, .int .i64 y.x.c2, .int .i64 y.x.r2, .slice Ay y.l.length cly])]) (b := argsObj [(y, .slice Ay y.l.length cly)]) rfl (by simp only [List.map_toArray, List.map_cons, List.map_nil, d7]) (by kernel_rfl)) ⟨_, rfl, hk.size, Go.heap_alloc_new _ _⟩ ((Kept.refl _).alloc _) rfl (Nat.le_refl _)
      ) <|
    arm (fun aa ww hk bs hd => by
      have d4 := dp hd 4 rfl; have d8 := dL hd 8 rfl; obtain ⟨g8, e8, _, h8⟩ := d8; exact stepX_enter (want0 rfl) (xcall2 (u := .int .u8 14) (v := .slice (some ⟨g8, 0, none⟩) 1 1) rfl (d4) e8 (en_louvrelaw16_of _ _)) ((of16_any 14 (some ⟨g8, 0, none⟩) 1 [y] ww mx (HM.kept (ow.keep hk).kept) (argsObj_at (L := [(y, .slice Ay y.l.length cly)]) h8 (atCons (cellsAt_own (p := (y, (.slice Ay y.l.length cly))) ((ow.keep hk).thing 2 rfl)) atNil)) (fit_cons fy.1 fy.2 (Nat.le_of_ble_eq_true rfl) fit_nil) (Nat.le_of_ble_eq_true rfl)).mono fun _ _ ⟨he, hk2⟩ => ⟨_, he, rfl, hk2⟩) rfl
      ) <|
    mvS s4 rfl rfl rfl rfl <|
    mvS s5 rfl rfl rfl rfl <|
    aS (fun hk bs hd => xplaceK 2 Tryz.underlying68 (by kernel_rfl) rfl (i := 2) rfl (dp hd 10 rfl) (dp hd 11 rfl) (by decide)) rfl <|
    aS (fun hk bs hd => xindexAddr rfl (dp hd 12 rfl) rfl (by kernel_rfl)) rfl <|
    aS (fun hk bs hd => xloadB rfl (by kernel_rfl) (dp hd 13 rfl) ((ow.keep hk).box 0 rfl) rfl) rfl <|
    mvS s3 rfl rfl rfl rfl <|
    aS (fun hk bs hd => xplaceK 9 Tryz.underlying22 (by kernel_rfl) rfl (i := 0) rfl (dp hd 15 rfl) rfl (by decide)) rfl <|
    aS (fun hk bs hd => xpartK (n := 9) 0 rfl (by kernel_rfl) (by kernel_rfl) (dp hd 16 rfl) rfl (own_elem (l := [(y, (.slice Ay y.l.length cly))]) (i := 0) argE_len rfl ((ow.keep hk).row 1 rfl) rfl)) rfl <|
    arm (fun aa ww hk bs hd => by
      have d17 : aa.eval (.tmp 58) = .agg #[.bool y.w, .int .u8 y.v.k, .int .i64 y.v.n, .string ⟨y.v.t.toArray⟩, .int .i64 y.x.c1, .int .i64 y.x.r1, .int .i64 y.x.c2, .int .i64 y.x.r2, .slice Ay y.l.length cly] := depX hd 17 rfl; exact stepX_new _ (want0 rfl) (xbuildSlice (us := #[(0, .agg #[.bool y.w, .int .u8 y.v.k, .int .i64 y.v.n, .string ⟨y.v.t.toArray⟩, .int .i64 y.x.c1, .int .i64 y.x.r1, .int .i64 y.x.c2, .int .i64 y.x.r2, .slice Ay y.l.length cly])]) (b := argsObj [(y, .slice Ay y.l.length cly)]) rfl (by simp only [List.map_toArray, List.map_cons, List.map_nil, d17]) (by kernel_rfl)) ⟨_, rfl, hk.size, Go.heap_alloc_new _ _⟩ ((Kept.refl _).alloc _) rfl (Nat.le_refl _)
      ) <|
    arm (fun aa ww hk bs hd => by
      have d14 := dp hd 14 rfl; have d18 := dL hd 18 rfl; obtain ⟨g18, e18, _, h18⟩ := d18; exact stepX_enter (want0 rfl) (xcall2 (u := .int .u8 48) (v := .slice (some ⟨g18, 0, none⟩) 1 1) rfl (d14) e18 (en_louvrelaw16_of _ _)) ((of16_any 48 (some ⟨g18, 0, none⟩) 1 [y] ww mx (HM.kept (ow.keep hk).kept) (argsObj_at (L := [(y, .slice Ay y.l.length cly)]) h18 (atCons (cellsAt_own (p := (y, (.slice Ay y.l.length cly))) ((ow.keep hk).thing 2 rfl)) atNil)) (fit_cons fy.1 fy.2 (Nat.le_of_ble_eq_true rfl) fit_nil) (Nat.le_of_ble_eq_true rfl)).mono fun _ _ ⟨he, hk2⟩ => ⟨_, he, rfl, hk2⟩) rfl
      ) <|
    aE (fun hk bs hd => xnev rfl (dp hd 9 rfl) (dp hd 19 rfl)) (congrArg Value.bool (by rw [sr2, sameV_self]; rfl)) rfl <|
    arm0) fun fa fw bs hv ap z q ow => ?_
  obtain ⟨s2, s3, s4, s5⟩ := b4 bs s2 s3 s4 s5; have s61 := gv hv 20 rfl rfl; refine wt hK20 ?_; refine wp_cond_false (s61) ?_; refine wp_skip ?_; refine block_n ?_; refine tn hK19 ?_
  refine ro [yV _, yV (.int .i64 3)] 2 192 z q ow (
    mvS s5 rfl rfl rfl rfl <|
    aS (fun hk bs hd => xadd (Or.inl rfl) rfl (dp hd 0 rfl) rfl (by omega) (by omega)) rfl <|
    arm0) fun fa fw bs hv ap z q ow => ?_
  obtain ⟨s2, s3, s4, s5⟩ := b4 bs s2 s3 s4 s5; have s40 := gv hv 1 rfl rfl; refine wl_value (v := .int .i64 3) (want0 rfl) (xassign rfl s40) ?_; refine gp3 z q ow s2 s3 s4 fun fa fw z q ow s2 s3 s4 s5 => ?_; refine wl_end ?_; refine then_n ?_; refine rnd1 ?_; refine sq fun hK21 => ?_; refine sq fun hK22 => ?_
  refine ro [yV _, yV _, yV _, yV (.bool true)] 4 192 z q ow (
    mvS s5 rfl rfl rfl rfl <|
    mvS s4 rfl rfl rfl rfl <|
    aS (fun hk bs hd => xlen Tryz.underlying68 rfl (dp hd 1 rfl)) rfl <|
    aE (fun hk bs hd => xlss rfl (dp hd 0 rfl) (dp hd 2 rfl)) (congrArg Value.bool rfl) rfl <|
    arm0) fun fa fw bs hv ap z q ow => ?_
  obtain ⟨s2, s3, s4, s5⟩ := b4 bs s2 s3 s4 s5; have s38 := gv hv 3 rfl rfl; refine wt hK22 ?_; refine wp_cond_true (s38) ?_; refine wp_skip ?_; refine tn hK21 ?_; refine sq fun hK23 => ?_; refine wp_block ?_; refine sq fun hK24 => ?_
  refine ro [yV _, yV _, yV _, yV (.pointer (some ⟨gb3, 6, none⟩)), yV _, yV _, yV _, yV (.agg #[.bool y.w, .int .u8 y.v.k, .int .i64 y.v.n, .string ⟨y.v.t.toArray⟩, .int .i64 y.x.c1, .int .i64 y.x.r1, .int .i64 y.x.c2, .int .i64 y.x.r2, .slice Ay y.l.length cly]), ySlice fw.heap.size 1 (argsObj [(y, .slice Ay y.l.length cly)]), yV (aggV ((vCall16 15 [y]).1)), yV _, yV _, yV _, yV (.pointer (some ⟨gb3, 7, none⟩)), yV _, yV _, yV _, yV (.agg #[.bool y.w, .int .u8 y.v.k, .int .i64 y.v.n, .string ⟨y.v.t.toArray⟩, .int .i64 y.x.c1, .int .i64 y.x.r1, .int .i64 y.x.c2, .int .i64 y.x.r2, .slice Ay y.l.length cly]), ySlice fw.heap.size 1 (argsObj [(y, .slice Ay y.l.length cly)]), yV (aggV ((vCall16 49 [y]).1)), yV (.bool false)] 21 192 z q ow (
    mvS s4 rfl rfl rfl rfl <|
    mvS s5 rfl rfl rfl rfl <|
    aS (fun hk bs hd => xplaceK 2 Tryz.underlying68 (by kernel_rfl) rfl (i := 3) rfl (dp hd 0 rfl) (dp hd 1 rfl) (by decide)) rfl <|
    aS (fun hk bs hd => xindexAddr rfl (dp hd 2 rfl) rfl (by kernel_rfl)) rfl <|
    aS (fun hk bs hd => xloadB rfl (by kernel_rfl) (dp hd 3 rfl) ((ow.keep hk).box 0 rfl) rfl) rfl <|
    mvS s3 rfl rfl rfl rfl <|
    aS (fun hk bs hd => xplaceK 9 Tryz.underlying22 (by kernel_rfl) rfl (i := 0) rfl (dp hd 5 rfl) rfl (by decide)) rfl <|
    aS (fun hk bs hd => xpartK (n := 9) 0 rfl (by kernel_rfl) (by kernel_rfl) (dp hd 6 rfl) rfl (own_elem (l := [(y, (.slice Ay y.l.length cly))]) (i := 0) argE_len rfl ((ow.keep hk).row 1 rfl) rfl)) rfl <|
    arm (fun aa ww hk bs hd => by
      have d7 : aa.eval (.tmp 48) = .agg #[.bool y.w, .int .u8 y.v.k, .int .i64 y.v.n, .string ⟨y.v.t.toArray⟩, .int .i64 y.x.c1, .int .i64 y.x.r1, .int .i64 y.x.c2, .int .i64 y.x.r2, .slice Ay y.l.length cly] := depX hd 7 rfl; exact stepX_new _ (want0 rfl) (xbuildSlice (us := #[(0, .agg #[.bool y.w, .int .u8 y.v.k, .int .i64 y.v.n, .string ⟨y.v.t.toArray⟩, .int .i64 y.x.c1, .int .i64 y.x.r1, .int .i64 y.x.c2, .int .i64 y.x.r2, .slice Ay y.l.length cly])]) (b := argsObj [(y, .slice Ay y.l.length cly)]) rfl (by simp only [List.map_toArray, List.map_cons, List.map_nil, d7]) (by kernel_rfl)) ⟨_, rfl, hk.size, Go.heap_alloc_new _ _⟩ ((Kept.refl _).alloc _) rfl (Nat.le_refl _)
      ) <|
    arm (fun aa ww hk bs hd => by
      have d4 := dp hd 4 rfl; have d8 := dL hd 8 rfl; obtain ⟨g8, e8, _, h8⟩ := d8; exact stepX_enter (want0 rfl) (xcall2 (u := .int .u8 15) (v := .slice (some ⟨g8, 0, none⟩) 1 1) rfl (d4) e8 (en_louvrelaw16_of _ _)) ((of16_any 15 (some ⟨g8, 0, none⟩) 1 [y] ww mx (HM.kept (ow.keep hk).kept) (argsObj_at (L := [(y, .slice Ay y.l.length cly)]) h8 (atCons (cellsAt_own (p := (y, (.slice Ay y.l.length cly))) ((ow.keep hk).thing 2 rfl)) atNil)) (fit_cons fy.1 fy.2 (Nat.le_of_ble_eq_true rfl) fit_nil) (Nat.le_of_ble_eq_true rfl)).mono fun _ _ ⟨he, hk2⟩ => ⟨_, he, rfl, hk2⟩) rfl
      ) <|
    mvS s4 rfl rfl rfl rfl <|
    mvS s5 rfl rfl rfl rfl <|
    aS (fun hk bs hd => xplaceK 2 Tryz.underlying68 (by kernel_rfl) rfl (i := 3) rfl (dp hd 10 rfl) (dp hd 11 rfl) (by decide)) rfl <|
    aS (fun hk bs hd => xindexAddr rfl (dp hd 12 rfl) rfl (by kernel_rfl)) rfl <|
    aS (fun hk bs hd => xloadB rfl (by kernel_rfl) (dp hd 13 rfl) ((ow.keep hk).box 0 rfl) rfl) rfl <|
    mvS s3 rfl rfl rfl rfl <|
    aS (fun hk bs hd => xplaceK 9 Tryz.underlying22 (by kernel_rfl) rfl (i := 0) rfl (dp hd 15 rfl) rfl (by decide)) rfl <|
    aS (fun hk bs hd => xpartK (n := 9) 0 rfl (by kernel_rfl) (by kernel_rfl) (dp hd 16 rfl) rfl (own_elem (l := [(y, (.slice Ay y.l.length cly))]) (i := 0) argE_len rfl ((ow.keep hk).row 1 rfl) rfl)) rfl <|
    arm (fun aa ww hk bs hd => by
      have d17 : aa.eval (.tmp 58) = .agg #[.bool y.w, .int .u8 y.v.k, .int .i64 y.v.n, .string ⟨y.v.t.toArray⟩, .int .i64 y.x.c1, .int .i64 y.x.r1, .int .i64 y.x.c2, .int .i64 y.x.r2, .slice Ay y.l.length cly] := depX hd 17 rfl; exact stepX_new _ (want0 rfl) (xbuildSlice (us := #[(0, .agg #[.bool y.w, .int .u8 y.v.k, .int .i64 y.v.n, .string ⟨y.v.t.toArray⟩, .int .i64 y.x.c1, .int .i64 y.x.r1, .int .i64 y.x.c2, .int .i64 y.x.r2, .slice Ay y.l.length cly])]) (b := argsObj [(y, .slice Ay y.l.length cly)]) rfl (by simp only [List.map_toArray, List.map_cons, List.map_nil, d17]) (by kernel_rfl)) ⟨_, rfl, hk.size, Go.heap_alloc_new _ _⟩ ((Kept.refl _).alloc _) rfl (Nat.le_refl _)
      ) <|
    arm (fun aa ww hk bs hd => by
      have d14 := dp hd 14 rfl; have d18 := dL hd 18 rfl; obtain ⟨g18, e18, _, h18⟩ := d18; exact stepX_enter (want0 rfl) (xcall2 (u := .int .u8 49) (v := .slice (some ⟨g18, 0, none⟩) 1 1) rfl (d14) e18 (en_louvrelaw16_of _ _)) ((of16_any 49 (some ⟨g18, 0, none⟩) 1 [y] ww mx (HM.kept (ow.keep hk).kept) (argsObj_at (L := [(y, .slice Ay y.l.length cly)]) h18 (atCons (cellsAt_own (p := (y, (.slice Ay y.l.length cly))) ((ow.keep hk).thing 2 rfl)) atNil)) (fit_cons fy.1 fy.2 (Nat.le_of_ble_eq_true rfl) fit_nil) (Nat.le_of_ble_eq_true rfl)).mono fun _ _ ⟨he, hk2⟩ => ⟨_, he, rfl, hk2⟩) rfl
      ) <|
    aE (fun hk bs hd => xnev rfl (dp hd 9 rfl) (dp hd 19 rfl)) (congrArg Value.bool (by rw [sr3, sameV_self]; rfl)) rfl <|
    arm0) fun fa fw bs hv ap z q ow => ?_
  obtain ⟨s2, s3, s4, s5⟩ := b4 bs s2 s3 s4 s5; have s61 := gv hv 20 rfl rfl; refine wt hK24 ?_; refine wp_cond_false (s61) ?_; refine wp_skip ?_; refine block_n ?_; refine tn hK23 ?_
  refine ro [yV _, yV (.int .i64 4)] 2 192 z q ow (
    mvS s5 rfl rfl rfl rfl <|
    aS (fun hk bs hd => xadd (Or.inl rfl) rfl (dp hd 0 rfl) rfl (by omega) (by omega)) rfl <|
    arm0) fun fa fw bs hv ap z q ow => ?_
  obtain ⟨s2, s3, s4, s5⟩ := b4 bs s2 s3 s4 s5; have s40 := gv hv 1 rfl rfl; refine wl_value (v := .int .i64 4) (want0 rfl) (xassign rfl s40) ?_; refine gp3 z q ow s2 s3 s4 fun fa fw z q ow s2 s3 s4 s5 => ?_; refine wl_end ?_; refine then_n ?_; refine rnd1 ?_; refine sq fun hK25 => ?_; refine sq fun hK26 => ?_
  refine ro [yV _, yV _, yV _, yV (.bool true)] 4 192 z q ow (
    mvS s5 rfl rfl rfl rfl <|
    mvS s4 rfl rfl rfl rfl <|
    aS (fun hk bs hd => xlen Tryz.underlying68 rfl (dp hd 1 rfl)) rfl <|
    aE (fun hk bs hd => xlss rfl (dp hd 0 rfl) (dp hd 2 rfl)) (congrArg Value.bool rfl) rfl <|
    arm0) fun fa fw bs hv ap z q ow => ?_
  obtain ⟨s2, s3, s4, s5⟩ := b4 bs s2 s3 s4 s5; have s38 := gv hv 3 rfl rfl; refine wt hK26 ?_; refine wp_cond_true (s38) ?_; refine wp_skip ?_; refine tn hK25 ?_; refine sq fun hK27 => ?_; refine wp_block ?_; refine sq fun hK28 => ?_
  refine ro [yV _, yV _, yV _, yV (.pointer (some ⟨gb3, 8, none⟩)), yV _, yV _, yV _, yV (.agg #[.bool y.w, .int .u8 y.v.k, .int .i64 y.v.n, .string ⟨y.v.t.toArray⟩, .int .i64 y.x.c1, .int .i64 y.x.r1, .int .i64 y.x.c2, .int .i64 y.x.r2, .slice Ay y.l.length cly]), ySlice fw.heap.size 1 (argsObj [(y, .slice Ay y.l.length cly)]), yV (aggV ((vCall16 16 [y]).1)), yV _, yV _, yV _, yV (.pointer (some ⟨gb3, 9, none⟩)), yV _, yV _, yV _, yV (.agg #[.bool y.w, .int .u8 y.v.k, .int .i64 y.v.n, .string ⟨y.v.t.toArray⟩, .int .i64 y.x.c1, .int .i64 y.x.r1, .int .i64 y.x.c2, .int .i64 y.x.r2, .slice Ay y.l.length cly]), ySlice fw.heap.size 1 (argsObj [(y, .slice Ay y.l.length cly)]), yV (aggV ((vCall16 50 [y]).1)), yV (.bool false)] 21 192 z q ow (
    mvS s4 rfl rfl rfl rfl <|
    mvS s5 rfl rfl rfl rfl <|
    aS (fun hk bs hd => xplaceK 2 Tryz.underlying68 (by kernel_rfl) rfl (i := 4) rfl (dp hd 0 rfl) (dp hd 1 rfl) (by decide)) rfl <|
    aS (fun hk bs hd => xindexAddr rfl (dp hd 2 rfl) rfl (by kernel_rfl)) rfl <|
    aS (fun hk bs hd => xloadB rfl (by kernel_rfl) (dp hd 3 rfl) ((ow.keep hk).box 0 rfl) rfl) rfl <|
    mvS s3 rfl rfl rfl rfl <|
    aS (fun hk bs hd => xplaceK 9 Tryz.underlying22 (by kernel_rfl) rfl (i := 0) rfl (dp hd 5 rfl) rfl (by decide)) rfl <|
    aS (fun hk bs hd => xpartK (n := 9) 0 rfl (by kernel_rfl) (by kernel_rfl) (dp hd 6 rfl) rfl (own_elem (l := [(y, (.slice Ay y.l.length cly))]) (i := 0) argE_len rfl ((ow.keep hk).row 1 rfl) rfl)) rfl <|
    arm (fun aa ww hk bs hd => by
      have d7 : aa.eval (.tmp 48) = .agg #[.bool y.w, .int .u8 y.v.k, .int .i64 y.v.n, .string ⟨y.v.t.toArray⟩, .int .i64 y.x.c1, .int .i64 y.x.r1, .int .i64 y.x.c2, .int .i64 y.x.r2, .slice Ay y.l.length cly] := depX hd 7 rfl; exact stepX_new _ (want0 rfl) (xbuildSlice (us := #[(0, .agg #[.bool y.w, .int .u8 y.v.k, .int .i64 y.v.n, .string ⟨y.v.t.toArray⟩, .int .i64 y.x.c1, .int .i64 y.x.r1, .int .i64 y.x.c2, .int .i64 y.x.r2, .slice Ay y.l.length cly])]) (b := argsObj [(y, .slice Ay y.l.length cly)]) rfl (by simp only [List.map_toArray, List.map_cons, List.map_nil, d7]) (by kernel_rfl)) ⟨_, rfl, hk.size, Go.heap_alloc_new _ _⟩ ((Kept.refl _).alloc _) rfl (Nat.le_refl _)
      ) <|
    arm (fun aa ww hk bs hd => by
      have d4 := dp hd 4 rfl; have d8 := dL hd 8 rfl; obtain ⟨g8, e8, _, h8⟩ := d8; exact stepX_enter (want0 rfl) (xcall2 (u := .int .u8 16) (v := .slice (some ⟨g8, 0, none⟩) 1 1) rfl (d4) e8 (en_louvrelaw16_of _ _)) ((of16_any 16 (some ⟨g8, 0, none⟩) 1 [y] ww mx (HM.kept (ow.keep hk).kept) (argsObj_at (L := [(y, .slice Ay y.l.length cly)]) h8 (atCons (cellsAt_own (p := (y, (.slice Ay y.l.length cly))) ((ow.keep hk).thing 2 rfl)) atNil)) (fit_cons fy.1 fy.2 (Nat.le_of_ble_eq_true rfl) fit_nil) (Nat.le_of_ble_eq_true rfl)).mono fun _ _ ⟨he, hk2⟩ => ⟨_, he, rfl, hk2⟩) rfl
      ) <|
    mvS s4 rfl rfl rfl rfl <|
    mvS s5 rfl rfl rfl rfl <|
    aS (fun hk bs hd => xplaceK 2 Tryz.underlying68 (by kernel_rfl) rfl (i := 4) rfl (dp hd 10 rfl) (dp hd 11 rfl) (by decide)) rfl <|
    aS (fun hk bs hd => xindexAddr rfl (dp hd 12 rfl) rfl (by kernel_rfl)) rfl <|
    aS (fun hk bs hd => xloadB rfl (by kernel_rfl) (dp hd 13 rfl) ((ow.keep hk).box 0 rfl) rfl) rfl <|
    mvS s3 rfl rfl rfl rfl <|
    aS (fun hk bs hd => xplaceK 9 Tryz.underlying22 (by kernel_rfl) rfl (i := 0) rfl (dp hd 15 rfl) rfl (by decide)) rfl <|
    aS (fun hk bs hd => xpartK (n := 9) 0 rfl (by kernel_rfl) (by kernel_rfl) (dp hd 16 rfl) rfl (own_elem (l := [(y, (.slice Ay y.l.length cly))]) (i := 0) argE_len rfl ((ow.keep hk).row 1 rfl) rfl)) rfl <|
    arm (fun aa ww hk bs hd => by
      have d17 : aa.eval (.tmp 58) = .agg #[.bool y.w, .int .u8 y.v.k, .int .i64 y.v.n, .string ⟨y.v.t.toArray⟩, .int .i64 y.x.c1, .int .i64 y.x.r1, .int .i64 y.x.c2, .int .i64 y.x.r2, .slice Ay y.l.length cly] := depX hd 17 rfl; exact stepX_new _ (want0 rfl) (xbuildSlice (us := #[(0, .agg #[.bool y.w, .int .u8 y.v.k, .int .i64 y.v.n, .string ⟨y.v.t.toArray⟩, .int .i64 y.x.c1, .int .i64 y.x.r1, .int .i64 y.x.c2, .int .i64 y.x.r2, .slice Ay y.l.length cly])]) (b := argsObj [(y, .slice Ay y.l.length cly)]) rfl (by simp only [List.map_toArray, List.map_cons, List.map_nil, d17]) (by kernel_rfl)) ⟨_, rfl, hk.size, Go.heap_alloc_new _ _⟩ ((Kept.refl _).alloc _) rfl (Nat.le_refl _)
      ) <|
    arm (fun aa ww hk bs hd => by
      have d14 := dp hd 14 rfl; have d18 := dL hd 18 rfl; obtain ⟨g18, e18, _, h18⟩ := d18; exact stepX_enter (want0 rfl) (xcall2 (u := .int .u8 50) (v := .slice (some ⟨g18, 0, none⟩) 1 1) rfl (d14) e18 (en_louvrelaw16_of _ _)) ((of16_any 50 (some ⟨g18, 0, none⟩) 1 [y] ww mx (HM.kept (ow.keep hk).kept) (argsObj_at (L := [(y, .slice Ay y.l.length cly)]) h18 (atCons (cellsAt_own (p := (y, (.slice Ay y.l.length cly))) ((ow.keep hk).thing 2 rfl)) atNil)) (fit_cons fy.1 fy.2 (Nat.le_of_ble_eq_true rfl) fit_nil) (Nat.le_of_ble_eq_true rfl)).mono fun _ _ ⟨he, hk2⟩ => ⟨_, he, rfl, hk2⟩) rfl
      ) <|
    aE (fun hk bs hd => xnev rfl (dp hd 9 rfl) (dp hd 19 rfl)) (congrArg Value.bool (by rw [sr4, sameV_self]; rfl)) rfl <|
    arm0) fun fa fw bs hv ap z q ow => ?_
  obtain ⟨s2, s3, s4, s5⟩ := b4 bs s2 s3 s4 s5; have s61 := gv hv 20 rfl rfl; refine wt hK28 ?_; refine wp_cond_false (s61) ?_; refine wp_skip ?_; refine block_n ?_; refine tn hK27 ?_
  refine ro [yV _, yV (.int .i64 5)] 2 192 z q ow (
    mvS s5 rfl rfl rfl rfl <|
    aS (fun hk bs hd => xadd (Or.inl rfl) rfl (dp hd 0 rfl) rfl (by omega) (by omega)) rfl <|
    arm0) fun fa fw bs hv ap z q ow => ?_
  obtain ⟨s2, s3, s4, s5⟩ := b4 bs s2 s3 s4 s5; have s40 := gv hv 1 rfl rfl; refine wl_value (v := .int .i64 5) (want0 rfl) (xassign rfl s40) ?_; refine gp3 z q ow s2 s3 s4 fun fa fw z q ow s2 s3 s4 s5 => ?_; refine wl_end ?_; refine then_n ?_; refine rnd1 ?_; refine sq fun hK29 => ?_; refine sq fun hK30 => ?_
  refine ro [yV _, yV _, yV _, yV (.bool false)] 4 192 z q ow (
    mvS s5 rfl rfl rfl rfl <|
    mvS s4 rfl rfl rfl rfl <|
    aS (fun hk bs hd => xlen Tryz.underlying68 rfl (dp hd 1 rfl)) rfl <|
    aE (fun hk bs hd => xlss rfl (dp hd 0 rfl) (dp hd 2 rfl)) (congrArg Value.bool rfl) rfl <|
    arm0) fun fa fw bs hv ap z q ow => ?_
  obtain ⟨s2, s3, s4, s5⟩ := b4 bs s2 s3 s4 s5; have s38 := gv hv 3 rfl rfl; refine wt hK30 ?_; refine wp_cond_false (s38) ?_; refine wp_exit ?_; refine then_e ?_; refine then_e ?_; refine block_hit ?_; refine tn hK7 ?_; refine sq fun hK31 => ?_
  refine ro [yV _, yV _, yV (.agg #[.bool y.w, .int .u8 y.v.k, .int .i64 y.v.n, .string ⟨y.v.t.toArray⟩, .int .i64 y.x.c1, .int .i64 y.x.r1, .int .i64 y.x.c2, .int .i64 y.x.r2, .slice Ay y.l.length cly]), ySlice fw.heap.size 1 (argsObj [(y, .slice Ay y.l.length cly)])] 4 192 z q ow (
    mvS s3 rfl rfl rfl rfl <|
    aS (fun hk bs hd => xplaceK 9 Tryz.underlying22 (by kernel_rfl) rfl (i := 0) rfl (dp hd 0 rfl) rfl (by decide)) rfl <|
    aS (fun hk bs hd => xpartK (n := 9) 0 rfl (by kernel_rfl) (by kernel_rfl) (dp hd 1 rfl) rfl (own_elem (l := [(y, (.slice Ay y.l.length cly))]) (i := 0) argE_len rfl ((ow.keep hk).row 1 rfl) rfl)) rfl <|
    arm (fun aa ww hk bs hd => by
      have d2 : aa.eval (.tmp 65) = .agg #[.bool y.w, .int .u8 y.v.k, .int .i64 y.v.n, .string ⟨y.v.t.toArray⟩, .int .i64 y.x.c1, .int .i64 y.x.r1, .int .i64 y.x.c2, .int .i64 y.x.r2, .slice Ay y.l.length cly] := depX hd 2 rfl; exact stepX_new _ (want0 rfl) (xbuildSlice (us := #[(0, .agg #[.bool y.w, .int .u8 y.v.k, .int .i64 y.v.n, .string ⟨y.v.t.toArray⟩, .int .i64 y.x.c1, .int .i64 y.x.r1, .int .i64 y.x.c2, .int .i64 y.x.r2, .slice Ay y.l.length cly])]) (b := argsObj [(y, .slice Ay y.l.length cly)]) rfl (by simp only [List.map_toArray, List.map_cons, List.map_nil, d2]) (by kernel_rfl)) ⟨_, rfl, hk.size, Go.heap_alloc_new _ _⟩ ((Kept.refl _).alloc _) rfl (Nat.le_refl _)
      ) <|
    arm0) fun fa fw bs hv ap z q ov => ?_
  obtain ⟨s2, s3⟩ := b2 bs s2 s3; obtain ⟨gb4, s66, bgb4, hgb4⟩ := gotL hv 3 rfl rfl rfl; have ov := ov.cons hgb4 (Nat.le_trans ow.kept.size bgb4) (ow.below bgb4); have ow := ov; refine wl_enter (want0 rfl) (xcall1 (u := .slice (some ⟨gb4, 0, none⟩) 1 1) rfl s66 (en_agg_Numbers _ _)) ((anums_fit (some ⟨gb4, 0, none⟩) 1 [y] _ mx (HM.kept ow.kept) (argsObj_at (L := [(y, (.slice Ay y.l.length cly))]) (ow.get 0 rfl) (atCons (cellsAt_own (p := (y, (.slice Ay y.l.length cly))) (ow.thing 3 rfl)) atNil)) (fit_cons fy.1 fy.2 (Nat.le_of_ble_eq_true rfl) fit_nil)).mono ?_); rintro _ fw ⟨v9, x9, bv9, rfl, hk, hn⟩; refine ⟨_, rfl, ?_⟩; rcases hn with ⟨rfl, rfl, hn⟩ | ⟨rfl, L, hn, hO⟩
  ·skip
   have ow := ow.keep hk; have hrf := ranks_fault hyo hyw hn; refine wl_value (v := .tuple #[.slice none 0 0, aggV x9, .bool false]) (want0 rfl) (xmove rfl (put_in (t := 67) z rfl)) ?_; refine wl_value (v := .slice none 0 0) (want0 rfl) (xextract rfl (put_in (t := 62) (put_size z) rfl) rfl) ?_; refine wl_value (v := aggV x9) (want0 rfl) (xextract rfl (pb 68 (put_in (t := 62) (put_size z) rfl) rfl) rfl) ?_; refine wl_value (v := .bool false) (want0 rfl) (xextract rfl (pb 69 (pb 68 (put_in (t := 62) (put_size z) rfl) rfl) rfl) rfl) ?_; refine wl_newP ow (want0 rfl) (xalloc (b := .cells #[.int .u8 0, .int .i64 0, .string ⟨[].toArray⟩] 25 (0, 0)) rfl (by kernel_rfl)) fun gb5 fw ow => ?_; refine gt6 (put_size (put_size (put_size (put_size (put_size (put_size z)))))) (put_def (put_def (put_def (put_def (put_def (put_def q)))))) ow 2 (pb 7 (pb 70 (pb 69 (pb 68 (pb 62 (pb 67 s2 rfl) rfl) rfl) rfl) rfl) rfl) 3 (pb 7 (pb 70 (pb 69 (pb 68 (pb 62 (pb 67 s3 rfl) rfl) rfl) rfl) rfl) rfl) 68 (pb 7 (pb 70 (pb 69 (put_in (t := 68) (put_size (put_size z)) rfl) rfl) rfl) rfl) 69 (pb 7 (pb 70 (put_in (t := 69) (put_size (put_size (put_size z))) rfl) rfl) rfl) 70 (pb 7 (put_in (t := 70) (put_size (put_size (put_size (put_size z)))) rfl) rfl) 7 (put_in (t := 7) (put_size (put_size (put_size (put_size (put_size z))))) rfl) fun fa fw z q ow s2 s3 s68 s69 s70 s7 => ?_; refine wl_value (v := .slice none 0 0) (want0 rfl) (xassign rfl s68) ?_; refine wl_store ow 0 0 (want0 rfl) rfl rfl (pb 6 s7 rfl) (pb 6 s69 rfl) (by kernel_rfl) rfl rfl rfl fun fw ow => ?_
   refine wl_value (v := .bool false) (want0 rfl) (xassign rfl (pb 6 s70 rfl)) ?_; refine gt5 (put_size (put_size z)) (put_def (put_def q)) ow 2 (pb 8 (pb 6 s2 rfl) rfl) 3 (pb 8 (pb 6 s3 rfl) rfl) 7 (pb 8 (pb 6 s7 rfl) rfl) 6 (pb 8 (put_in (t := 6) z rfl) rfl) 8 (put_in (t := 8) (put_size z) rfl) fun fa fw z q ow s2 s3 s7 s6 s8 => ?_; refine wt hK31 ?_; refine sq fun hK32 => ?_
   refine ro [yV _] 1 192 z q ow (
     aS (fun hk bs hd => xassign rfl rfl) rfl <|
     arm0) fun fa fw bs hv ap z q ow => ?_
   obtain ⟨s2, s3, s7, s6, s8⟩ := b5 bs s2 s3 s7 s6 s8; have s9 := gv hv 0 rfl rfl; refine wt hK32 ?_; refine sq fun hK33 => ?_; refine sq fun hK34 => ?_
   refine ro [yV _, yV _] 2 192 z q ow (
     mvS s8 rfl rfl rfl rfl <|
     aS (fun hk bs hd => xnot rfl (dp hd 0 rfl)) rfl <|
     arm0) fun fa fw bs hv ap z q ow => ?_
   obtain ⟨s2, s3, s7, s6, s9⟩ := b5 bs s2 s3 s7 s6 s9; have s72 := gv hv 1 rfl rfl; refine wt hK34 ?_; refine wp_cond_true (s72) ?_; refine sq fun hK35 => ?_
   refine ro [yV _, yV _, yV (.agg #[.bool y.w, .int .u8 y.v.k, .int .i64 y.v.n, .string ⟨y.v.t.toArray⟩, .int .i64 y.x.c1, .int .i64 y.x.r1, .int .i64 y.x.c2, .int .i64 y.x.r2, .slice Ay y.l.length cly]), yV _, yV (.agg #[.bool false, .int .u8 1, .int .i64 (1 * 10000), .string ⟨[].toArray⟩, .int .i64 0, .int .i64 0, .int .i64 0, .int .i64 0, .slice none 0 0]), ySlice fw.heap.size 2 (argsObj [(y, .slice Ay y.l.length cly), ((wv (⟨1, 1 * 10000, []⟩ : Vl)), .slice none 0 0)]), yV (aggV x9), yV (aggV x9), yV (.bool true), yV _, yV _, yV _, yV (.agg #[.bool y.w, .int .u8 y.v.k, .int .i64 y.v.n, .string ⟨y.v.t.toArray⟩, .int .i64 y.x.c1, .int .i64 y.x.r1, .int .i64 y.x.c2, .int .i64 y.x.r2, .slice Ay y.l.length cly]), ySlice fw.heap.size 1 (argsObj [(y, .slice Ay y.l.length cly)]), yV (aggV x9), yV (aggV x9), yV (.bool true), yV _, yV _, yV (.bool true), yV _, yV _] 22 192 z q ow (
     mvS s3 rfl rfl rfl rfl <|
     aS (fun hk bs hd => xplaceK 9 Tryz.underlying22 (by kernel_rfl) rfl (i := 0) rfl (dp hd 0 rfl) rfl (by decide)) rfl <|
     aS (fun hk bs hd => xpartK (n := 9) 0 rfl (by kernel_rfl) (by kernel_rfl) (dp hd 1 rfl) rfl (own_elem (l := [(y, (.slice Ay y.l.length cly))]) (i := 0) argE_len rfl ((ow.keep hk).row 3 rfl) rfl)) rfl <|
     mvS s9 rfl rfl rfl rfl <|
     aC (fun hk bs hd => xcall1V (F := 28) (u := .int .i64 1) rfl (dp hd 3 rfl) rfl (en_louvrelaw16_AggRanks_1 _ _)) (fun hk bs hd => lk16_any 1 (by omega) (by omega) _) rfl <|
     arm (fun aa ww hk bs hd => by
       have d2 : aa.eval (.tmp 75) = .agg #[.bool y.w, .int .u8 y.v.k, .int .i64 y.v.n, .string ⟨y.v.t.toArray⟩, .int .i64 y.x.c1, .int .i64 y.x.r1, .int .i64 y.x.c2, .int .i64 y.x.r2, .slice Ay y.l.length cly] := depX hd 2 rfl; have d4 : aa.eval (.tmp 77) = .agg #[.bool false, .int .u8 1, .int .i64 (1 * 10000), .string ⟨[].toArray⟩, .int .i64 0, .int .i64 0, .int .i64 0, .int .i64 0, .slice none 0 0] := depX hd 4 rfl; exact stepX_new _ (want0 rfl) (xbuildSlice (us := #[(0, .agg #[.bool y.w, .int .u8 y.v.k, .int .i64 y.v.n, .string ⟨y.v.t.toArray⟩, .int .i64 y.x.c1, .int .i64 y.x.r1, .int .i64 y.x.c2, .int .i64 y.x.r2, .slice Ay y.l.length cly]), (1, .agg #[.bool false, .int .u8 1, .int .i64 (1 * 10000), .string ⟨[].toArray⟩, .int .i64 0, .int .i64 0, .int .i64 0, .int .i64 0, .slice none 0 0])]) (b := argsObj [(y, .slice Ay y.l.length cly), ((wv (⟨1, 1 * 10000, []⟩ : Vl)), .slice none 0 0)]) rfl (by simp only [List.map_toArray, List.map_cons, List.map_nil, d2, d4]) (by kernel_rfl)) ⟨_, rfl, hk.size, Go.heap_alloc_new _ _⟩ ((Kept.refl _).alloc _) rfl (Nat.le_refl _)
       ) <|
     arm (fun aa ww hk bs hd => by
       have d5 := dL hd 5 rfl; obtain ⟨g5, e5, _, h5⟩ := d5; exact stepX_enter (want0 rfl) (xcall2 (u := .int .u8 19) (v := .slice (some ⟨g5, 0, none⟩) 2 2) rfl rfl e5 (en_louvrelaw16_of _ _)) ((of16_eq x9 19 (some ⟨g5, 0, none⟩) 2 [y, (wv (⟨1, 1 * 10000, []⟩ : Vl))] ww mx (HM.kept (ow.keep hk).kept) (argsObj_at (L := [(y, .slice Ay y.l.length cly), ((wv (⟨1, 1 * 10000, []⟩ : Vl)), .slice none 0 0)]) h5 (atCons (cellsAt_own (p := (y, (.slice Ay y.l.length cly))) ((ow.keep hk).thing 4 rfl)) (atCons (CellsAt.nil _) atNil))) (fit_cons fy.1 fy.2 (Nat.le_of_ble_eq_true rfl) (fit_cons (small_wv (nm_small16 (by omega) (by omega))).1 (small_wv (nm_small16 (by omega) (by omega))).2 (Nat.le_of_ble_eq_true rfl) fit_nil)) (Nat.le_of_ble_eq_true rfl) hrf.1).mono fun _ _ ⟨he, hk2⟩ => ⟨_, he, rfl, hk2⟩) rfl
       ) <|
     aS (fun hk bs hd => xloadN 3 rfl (by kernel_rfl) (by kernel_rfl) (bg bs s7) ((ow.keep hk).box 0 rfl) (Nat.le_of_ble_eq_true rfl) rfl) rfl <|
     aE (fun hk bs hd => xeqv rfl (dp hd 6 rfl) (dp hd 7 rfl)) (congrArg Value.bool (sameV_self _)) rfl <|
     mvD 8 rfl rfl rfl rfl rfl rfl <|
     armS (wg (j := 9) (b := true) rfl rfl rfl) (fun aa ww hk bs hd => xmove rfl (bg bs s3)) rfl <|
     armS (wg (j := 9) (b := true) rfl rfl rfl) (fun aa ww hk bs hd => xplaceK 9 Tryz.underlying22 (by kernel_rfl) rfl (i := 0) rfl (dp hd 10 rfl) rfl (by decide)) rfl <|
     armS (wg (j := 9) (b := true) rfl rfl rfl) (fun aa ww hk bs hd => xpartK (n := 9) 0 rfl (by kernel_rfl) (by kernel_rfl) (dp hd 11 rfl) rfl (own_elem (l := [(y, (.slice Ay y.l.length cly))]) (i := 0) argE_len rfl ((ow.keep hk).row 3 rfl) rfl)) rfl <|
     arm (fun aa ww hk bs hd => by
       have d9 := dp hd 9 rfl; have d12 : aa.eval (.tmp 85) = .agg #[.bool y.w, .int .u8 y.v.k, .int .i64 y.v.n, .string ⟨y.v.t.toArray⟩, .int .i64 y.x.c1, .int .i64 y.x.r1, .int .i64 y.x.c2, .int .i64 y.x.r2, .slice Ay y.l.length cly] := depX hd 12 rfl; exact stepX_new _ (want1 (j := 9) (b := true) rfl d9) (xbuildSlice (us := #[(0, .agg #[.bool y.w, .int .u8 y.v.k, .int .i64 y.v.n, .string ⟨y.v.t.toArray⟩, .int .i64 y.x.c1, .int .i64 y.x.r1, .int .i64 y.x.c2, .int .i64 y.x.r2, .slice Ay y.l.length cly])]) (b := argsObj [(y, .slice Ay y.l.length cly)]) rfl (by simp only [List.map_toArray, List.map_cons, List.map_nil, d12]) (by kernel_rfl)) ⟨_, rfl, hk.size, Go.heap_alloc_new _ _⟩ ((Kept.refl _).alloc _) rfl (Nat.le_refl _)
       ) <|
     arm (fun aa ww hk bs hd => by
       have d9 := dp hd 9 rfl; have d13 := dL hd 13 rfl; obtain ⟨g13, e13, _, h13⟩ := d13; exact stepX_enter (want1 (j := 9) (b := true) rfl d9) (xcall2 (u := .int .u8 9) (v := .slice (some ⟨g13, 0, none⟩) 1 1) rfl rfl e13 (en_louvrelaw16_of _ _)) ((of16_eq x9 9 (some ⟨g13, 0, none⟩) 1 [y] ww mx (HM.kept (ow.keep hk).kept) (argsObj_at (L := [(y, .slice Ay y.l.length cly)]) h13 (atCons (cellsAt_own (p := (y, (.slice Ay y.l.length cly))) ((ow.keep hk).thing 4 rfl)) atNil)) (fit_cons fy.1 fy.2 (Nat.le_of_ble_eq_true rfl) fit_nil) (Nat.le_of_ble_eq_true rfl) hrf.2).mono fun _ _ ⟨he, hk2⟩ => ⟨_, he, rfl, hk2⟩) rfl
       ) <|
     armS (wg (j := 9) (b := true) rfl rfl rfl) (fun aa ww hk bs hd => xloadN 3 rfl (by kernel_rfl) (by kernel_rfl) (bg bs s7) ((ow.keep hk).box 0 rfl) (Nat.le_of_ble_eq_true rfl) rfl) rfl <|
     armE (wg (j := 9) (b := true) rfl rfl rfl) (fun aa ww hk bs hd => xeqv rfl (dp hd 14 rfl) (dp hd 15 rfl)) (congrArg Value.bool (sameV_self _)) rfl <|
     aS (fun hk bs hd => xpickT rfl (dp hd 9 rfl) (dp hd 16 rfl)) rfl <|
     mvD 17 rfl rfl rfl rfl rfl rfl <|
     armC (wg (j := 18) (b := true) rfl rfl rfl) (fun aa ww hk bs hd => xcall0 rfl (en_louvrelaw16_awake _ _)) (fun aa ww hk bs hd => awake16_any ww mx (HM.kept (ow.keep hk).kept)) rfl <|
     aS (fun hk bs hd => xpickT rfl (dp hd 18 rfl) (dp hd 19 rfl)) rfl <|
     asD 20 rfl rfl rfl rfl rfl rfl <|
     arm0) fun fa fw bs hv ap z q ow => ?_
   obtain ⟨s3, s6, s9⟩ := b3 bs s3 s6 s9; have s2 := gv hv 21 rfl rfl; refine wt hK35 ?_; refine wp_ret ?_; refine then_r ?_; refine results_one rfl (res_tmp s2) q ?_; exact ⟨rfl, ow.kept⟩
  obtain ⟨A9, c9, rfl⟩ := row_slice hO; have hLl := vnums_len hyo hyl hn; have ow := ow.keep hk; refine wl_value (v := .tuple #[.slice A9 L.length c9, aggV x9, .bool true]) (want0 rfl) (xmove rfl (put_in (t := 67) z rfl)) ?_; refine wl_value (v := .slice A9 L.length c9) (want0 rfl) (xextract rfl (put_in (t := 62) (put_size z) rfl) rfl) ?_; refine wl_value (v := aggV x9) (want0 rfl) (xextract rfl (pb 68 (put_in (t := 62) (put_size z) rfl) rfl) rfl) ?_; refine wl_value (v := .bool true) (want0 rfl) (xextract rfl (pb 69 (pb 68 (put_in (t := 62) (put_size z) rfl) rfl) rfl) rfl) ?_; refine wl_newP ow (want0 rfl) (xalloc (b := .cells #[.int .u8 0, .int .i64 0, .string ⟨[].toArray⟩] 25 (0, 0)) rfl (by kernel_rfl)) fun gb6 fw ow => ?_; refine gt6 (put_size (put_size (put_size (put_size (put_size (put_size z)))))) (put_def (put_def (put_def (put_def (put_def (put_def q)))))) ow 2 (pb 7 (pb 70 (pb 69 (pb 68 (pb 62 (pb 67 s2 rfl) rfl) rfl) rfl) rfl) rfl) 3 (pb 7 (pb 70 (pb 69 (pb 68 (pb 62 (pb 67 s3 rfl) rfl) rfl) rfl) rfl) rfl) 68 (pb 7 (pb 70 (pb 69 (put_in (t := 68) (put_size (put_size z)) rfl) rfl) rfl) rfl) 69 (pb 7 (pb 70 (put_in (t := 69) (put_size (put_size (put_size z))) rfl) rfl) rfl) 70 (pb 7 (put_in (t := 70) (put_size (put_size (put_size (put_size z)))) rfl) rfl) 7 (put_in (t := 7) (put_size (put_size (put_size (put_size (put_size z))))) rfl) fun fa fw z q ow s2 s3 s68 s69 s70 s7 => ?_; refine wl_value (v := .slice A9 L.length c9) (want0 rfl) (xassign rfl s68) ?_; refine wl_store ow 0 0 (want0 rfl) rfl rfl (pb 6 s7 rfl) (pb 6 s69 rfl) (by kernel_rfl) rfl rfl rfl fun fw ow => ?_
  refine wl_value (v := .bool true) (want0 rfl) (xassign rfl (pb 6 s70 rfl)) ?_; refine gt5 (put_size (put_size z)) (put_def (put_def q)) ow 2 (pb 8 (pb 6 s2 rfl) rfl) 3 (pb 8 (pb 6 s3 rfl) rfl) 7 (pb 8 (pb 6 s7 rfl) rfl) 6 (pb 8 (put_in (t := 6) z rfl) rfl) 8 (put_in (t := 8) (put_size z) rfl) fun fa fw z q ow s2 s3 s7 s6 s8 => ?_; refine wt hK31 ?_; refine sq fun hK36 => ?_
  refine ro [yV _] 1 192 z q ow (
    aS (fun hk bs hd => xassign rfl rfl) rfl <|
    arm0) fun fa fw bs hv ap z q ow => ?_
  obtain ⟨s2, s3, s7, s6, s8⟩ := b5 bs s2 s3 s7 s6 s8; have s9 := gv hv 0 rfl rfl; refine wt hK36 ?_; refine sq fun hK37 => ?_; refine sq fun hK38 => ?_
  refine ro [yV _, yV _] 2 192 z q ow (
    mvS s8 rfl rfl rfl rfl <|
    aS (fun hk bs hd => xnot rfl (dp hd 0 rfl)) rfl <|
    arm0) fun fa fw bs hv ap z q ow => ?_
  obtain ⟨s2, s3, s7, s6, s9⟩ := b5 bs s2 s3 s7 s6 s9; have s72 := gv hv 1 rfl rfl; refine wt hK38 ?_; refine wp_cond_false (s72) ?_; refine wp_skip ?_; refine tn hK37 ?_; refine sq fun hK39 => ?_
  refine ro [yV _, yV _, yV _] 3 192 z q ow (
    mvS s6 rfl rfl rfl rfl <|
    aS (fun hk bs hd => xlen Tryz.underlying54 rfl (dp hd 0 rfl)) rfl <|
    asD 1 rfl rfl rfl rfl rfl rfl <|
    arm0) fun fa fw bs hv ap z q ow => ?_
  obtain ⟨s2, s3, s9⟩ := b3 bs s2 s3 s9; have s10 := gv hv 2 rfl rfl; refine wt hK39 ?_; refine sq fun hK40 => ?_
  refine ro [yV (aggV (⟨0, 0, []⟩ : Vl)), yNew fw.heap.size (.cells #[.int .u8 0, .int .i64 0, .string ⟨[].toArray⟩] 25 (0, 0))] 2 192 z q ow (
    aS (fun hk bs hd => xbuild (us := #[]) rfl (by simp) (by kernel_rfl)) rfl <|
    aP (fun hk bs hd => xalloc rfl (by kernel_rfl)) rfl <|
    arm0) fun fa fw bs hv ap z q ov => ?_
  obtain ⟨s2, s3, s9, s10⟩ := b4 bs s2 s3 s9 s10; have s96 := gv hv 0 rfl rfl; obtain ⟨gb7, s11, bgb7, hgb7⟩ := gotP hv 1 rfl rfl rfl; have ov := ov.cons hgb7 (Nat.le_trans ow.kept.size bgb7) (ow.below bgb7); have ow := ov; refine ws ow 0 0 s11 s96 fun fw ow => ?_; refine wt hK40 ?_; refine sq fun hK41 => ?_; refine sq fun hK42 => ?_
  refine ro [yV _] 1 192 z q ow (
    aS (fun hk bs hd => xassign rfl rfl) rfl <|
    arm0) fun fa fw bs hv ap z q ow => ?_
  obtain ⟨s2, s3, s9, s10, s11⟩ := b5 bs s2 s3 s9 s10 s11; have s12 := gv hv 0 rfl rfl; refine wt hK42 ?_; refine wp_block ?_; refine wp_loop_g (fun (k : Nat) fr u => ∃ (lv : Vl), (k ≤ (L.length + 1)) ∧ (1 ≤ k) ∧ (1 < k → lv = ⟨1, nth16 L (k - 2), []⟩) ∧ fr.tmps.size = 192 ∧ fr.defers = [] ∧ Own w [Th.obj gb7 (.cells #[.int .u8 lv.k, .int .i64 lv.n, .string ⟨lv.t.toArray⟩] 25 (0, 0)), Th.obj gb6 (.cells #[.int .u8 x9.k, .int .i64 x9.n, .string ⟨x9.t.toArray⟩] 25 (0, 0)), Th.obj gb4 (argsObj [(y, .slice Ay y.l.length cly)]), Th.obj gb3 (.cells #[.int .u8 9, .int .u8 46, .int .u8 11, .int .u8 47, .int .u8 14, .int .u8 48, .int .u8 15, .int .u8 49, .int .u8 16, .int .u8 50] 67 (0, 0)), argTh (.slice (some ⟨gy, 0, none⟩) 1 cy) [(y, (.slice Ay y.l.length cly))], cellTh (y, (.slice Ay y.l.length cly)), Th.obj gb2 (argsObj [((⟨true, ⟨0, 0, []⟩, ⟨x0.c1, x0.r1, x0.c2, x0.r2⟩, l0⟩ : Ar), .slice a0 l0.length cap0)]), Th.obj gb1 (.cells #[.int .i64 x0.c1, .int .i64 x0.r1, .int .i64 x0.c2, .int .i64 x0.r2, .slice a0 l0.length cap0] 37 (0, 0))] u ∧ fr.eval (.tmp 2) = .bool false ∧ fr.eval (.tmp 3) = .slice (some ⟨gy, 0, none⟩) 1 cy ∧ fr.eval (.tmp 9) = .func (.func 28) #[] #[] ∧ fr.eval (.tmp 10) = .int .i64 ((L.length : Nat) : Int) ∧ fr.eval (.tmp 11) = .pointer (some ⟨gb7, 0, none⟩) ∧ fr.eval (.tmp 12) = .int .i64 (k : Int)) (fun k => (L.length + 1) - k) 1 ⟨(⟨0, 0, []⟩ : Vl), (by omega), (Nat.le_refl _), (fun h => absurd h (by decide)), z, q, ow, s2, s3, s9, s10, s11, s12⟩ (fun k b_ u_ hI => ?_)
  revert b_ u_; intro fa fw hI
  obtain ⟨lv, hk0, hk1, hlv, z, q, ow, s2, s3, s9, s10, s11, s12⟩ := hI; refine sq fun hK43 => ?_; refine sq fun hK44 => ?_
  refine ro [yV _, yV _, yV _] 3 192 z q ow (
    mvS s12 rfl rfl rfl rfl <|
    mvS s10 rfl rfl rfl rfl <|
    aS (fun hk bs hd => xleq rfl (dp hd 0 rfl) (dp hd 1 rfl)) rfl <|
    arm0) fun fa fw bs hv ap z q ow => ?_
  obtain ⟨s2, s3, s9, s10, s11, s12⟩ := b6 bs s2 s3 s9 s10 s11 s12; have s99 := gv hv 2 rfl rfl; refine wt hK44 ?_
  by_cases hc2 : (k : Int) ≤ ((L.length : Nat) : Int)
  ·refine ct s99 ((decide_eq_true_iff).2 hc2) ?_
   refine wp_skip ?_; refine tn hK43 ?_; refine sq fun hK45 => ?_; refine wp_block ?_; refine sq fun hK46 => ?_; have hltk : k < L.length + 1 := by omega
   have hat := ranks_at hyo hyw hyi hyl hn hk1 (by omega)
   refine ro [yV _, yV _, yV (.agg #[.bool y.w, .int .u8 y.v.k, .int .i64 y.v.n, .string ⟨y.v.t.toArray⟩, .int .i64 y.x.c1, .int .i64 y.x.r1, .int .i64 y.x.c2, .int .i64 y.x.r2, .slice Ay y.l.length cly]), yV _, yV _, yV (.agg #[.bool false, .int .u8 1, .int .i64 ((k : Int) * 10000), .string ⟨[].toArray⟩, .int .i64 0, .int .i64 0, .int .i64 0, .int .i64 0, .slice none 0 0]), ySlice fw.heap.size 2 (argsObj [(y, .slice Ay y.l.length cly), ((wv (⟨1, (k : Int) * 10000, []⟩ : Vl)), .slice none 0 0)]), yV (aggV (⟨1, nth16 L (k - 1), []⟩ : Vl)), yNew fw.heap.size (.cells #[.int .u8 0, .int .i64 0, .string ⟨[].toArray⟩] 25 (0, 0))] 9 192 z q ow (
     mvS s3 rfl rfl rfl rfl <|
     aS (fun hk bs hd => xplaceK 9 Tryz.underlying22 (by kernel_rfl) rfl (i := 0) rfl (dp hd 0 rfl) rfl (by decide)) rfl <|
     aS (fun hk bs hd => xpartK (n := 9) 0 rfl (by kernel_rfl) (by kernel_rfl) (dp hd 1 rfl) rfl (own_elem (l := [(y, (.slice Ay y.l.length cly))]) (i := 0) argE_len rfl ((ow.keep hk).row 4 rfl) rfl)) rfl <|
     mvS s9 rfl rfl rfl rfl <|
     mvS s12 rfl rfl rfl rfl <|
     aC (fun hk bs hd => xcall1V (F := 28) (u := .int .i64 (k : Int)) rfl (dp hd 3 rfl) (dp hd 4 rfl) (en_louvrelaw16_AggRanks_1 _ _)) (fun hk bs hd => lk16_any (k : Int) (by omega) (by omega) _) rfl <|
     arm (fun aa ww hk bs hd => by
       have d2 : aa.eval (.tmp 104) = .agg #[.bool y.w, .int .u8 y.v.k, .int .i64 y.v.n, .string ⟨y.v.t.toArray⟩, .int .i64 y.x.c1, .int .i64 y.x.r1, .int .i64 y.x.c2, .int .i64 y.x.r2, .slice Ay y.l.length cly] := depX hd 2 rfl; have d5 : aa.eval (.tmp 107) = .agg #[.bool false, .int .u8 1, .int .i64 ((k : Int) * 10000), .string ⟨[].toArray⟩, .int .i64 0, .int .i64 0, .int .i64 0, .int .i64 0, .slice none 0 0] := depX hd 5 rfl; exact stepX_new _ (want0 rfl) (xbuildSlice (us := #[(0, .agg #[.bool y.w, .int .u8 y.v.k, .int .i64 y.v.n, .string ⟨y.v.t.toArray⟩, .int .i64 y.x.c1, .int .i64 y.x.r1, .int .i64 y.x.c2, .int .i64 y.x.r2, .slice Ay y.l.length cly]), (1, .agg #[.bool false, .int .u8 1, .int .i64 ((k : Int) * 10000), .string ⟨[].toArray⟩, .int .i64 0, .int .i64 0, .int .i64 0, .int .i64 0, .slice none 0 0])]) (b := argsObj [(y, .slice Ay y.l.length cly), ((wv (⟨1, (k : Int) * 10000, []⟩ : Vl)), .slice none 0 0)]) rfl (by simp only [List.map_toArray, List.map_cons, List.map_nil, d2, d5]) (by kernel_rfl)) ⟨_, rfl, hk.size, Go.heap_alloc_new _ _⟩ ((Kept.refl _).alloc _) rfl (Nat.le_refl _)
       ) <|
     arm (fun aa ww hk bs hd => by
       have d6 := dL hd 6 rfl; obtain ⟨g6, e6, _, h6⟩ := d6; exact stepX_enter (want0 rfl) (xcall2 (u := .int .u8 19) (v := .slice (some ⟨g6, 0, none⟩) 2 2) rfl rfl e6 (en_louvrelaw16_of _ _)) ((of16_eq (⟨1, nth16 L (k - 1), []⟩ : Vl) 19 (some ⟨g6, 0, none⟩) 2 [y, (wv (⟨1, (k : Int) * 10000, []⟩ : Vl))] ww mx (HM.kept (ow.keep hk).kept) (argsObj_at (L := [(y, .slice Ay y.l.length cly), ((wv (⟨1, (k : Int) * 10000, []⟩ : Vl)), .slice none 0 0)]) h6 (atCons (cellsAt_own (p := (y, (.slice Ay y.l.length cly))) ((ow.keep hk).thing 5 rfl)) (atCons (CellsAt.nil _) atNil))) (fit_cons fy.1 fy.2 (Nat.le_of_ble_eq_true rfl) (fit_cons (small_wv (nm_small16 (by omega) (by omega))).1 (small_wv (nm_small16 (by omega) (by omega))).2 (Nat.le_of_ble_eq_true rfl) fit_nil)) (Nat.le_of_ble_eq_true rfl) hat.1).mono fun _ _ ⟨he, hk2⟩ => ⟨_, he, rfl, hk2⟩) rfl
       ) <|
     aP (fun hk bs hd => xalloc rfl (by kernel_rfl)) rfl <|
     arm0) fun fa fw bs hv ap z q ov => ?_
   obtain ⟨s2, s3, s9, s10, s11, s12⟩ := b6 bs s2 s3 s9 s10 s11 s12; have s109 := gv hv 7 rfl rfl; obtain ⟨gb8, s13, bgb8, hgb8⟩ := gotP hv 8 rfl rfl rfl; have ov := ov.cons hgb8 (Nat.le_trans ow.kept.size bgb8) (ow.below bgb8); have ow := ov; refine ws ow 0 0 s13 s109 fun fw ow => ?_; refine wt hK46 ?_; refine sq fun hK47 => ?_; refine sq fun hK48 => ?_
   refine ro [yV (.pointer (some ⟨gb8, 0, none⟩)), yV _, yV (.bool false), yV _, yV (aggV (⟨1, nth16 L (k - 1), []⟩ : Vl)), yV _, yV _, yV (.agg #[.bool y.w, .int .u8 y.v.k, .int .i64 y.v.n, .string ⟨y.v.t.toArray⟩, .int .i64 y.x.c1, .int .i64 y.x.r1, .int .i64 y.x.c2, .int .i64 y.x.r2, .slice Ay y.l.length cly]), yV _, yV _, yV (.int .i64 (((L.length) + 1 : Nat) : Int)), yV _, yV _, yV (.agg #[.bool false, .int .u8 1, .int .i64 (((((L.length) + 1 : Nat) : Int) - (k : Int)) * 10000), .string ⟨[].toArray⟩, .int .i64 0, .int .i64 0, .int .i64 0, .int .i64 0, .slice none 0 0]), ySlice fw.heap.size 2 (argsObj [(y, .slice Ay y.l.length cly), ((wv (⟨1, ((((L.length) + 1 : Nat) : Int) - (k : Int)) * 10000, []⟩ : Vl)), .slice none 0 0)]), yV (aggV (⟨1, nth16 L (k - 1), []⟩ : Vl)), yV (.bool false), yV _, yV _, yV _, yV _, yV _, yIf _ (yV (.pointer (some ⟨gb8, 1, none⟩))), yIf _ (yV _), yIf _ (yV (.pointer (some ⟨gb7, 1, none⟩))), yIf _ (yV _), yIf _ (yV _), yV _, yV _] 29 192 z q ow (
     aS (fun hk bs hd => xfieldAddr rfl (bg bs s13) (by kernel_rfl)) rfl <|
     aS (fun hk bs hd => xloadB rfl (by kernel_rfl) (dp hd 0 rfl) ((ow.keep hk).box 0 rfl) rfl) rfl <|
     aE (fun hk bs hd => xnei rfl (dp hd 1 rfl) rfl) (congrArg Value.bool rfl) rfl <|
     mvD 2 rfl rfl rfl rfl rfl rfl <|
     armS (wg (j := 3) (b := false) rfl rfl rfl) (fun aa ww hk bs hd => xloadN 3 rfl (by kernel_rfl) (by kernel_rfl) (bg bs s13) ((ow.keep hk).box 0 rfl) (Nat.le_of_ble_eq_true rfl) rfl) rfl <|
     armS (wg (j := 3) (b := false) rfl rfl rfl) (fun aa ww hk bs hd => xmove rfl (bg bs s3)) rfl <|
     armS (wg (j := 3) (b := false) rfl rfl rfl) (fun aa ww hk bs hd => xplaceK 9 Tryz.underlying22 (by kernel_rfl) rfl (i := 0) rfl (dp hd 5 rfl) rfl (by decide)) rfl <|
     armS (wg (j := 3) (b := false) rfl rfl rfl) (fun aa ww hk bs hd => xpartK (n := 9) 0 rfl (by kernel_rfl) (by kernel_rfl) (dp hd 6 rfl) rfl (own_elem (l := [(y, (.slice Ay y.l.length cly))]) (i := 0) argE_len rfl ((ow.keep hk).row 5 rfl) rfl)) rfl <|
     armS (wg (j := 3) (b := false) rfl rfl rfl) (fun aa ww hk bs hd => xmove rfl (bg bs s9)) rfl <|
     armS (wg (j := 3) (b := false) rfl rfl rfl) (fun aa ww hk bs hd => xmove rfl (bg bs s10)) rfl <|
     armS (wg (j := 3) (b := false) rfl rfl rfl) (fun aa ww hk bs hd => xadd (Or.inl rfl) rfl (dp hd 9 rfl) rfl (by omega) (by omega)) rfl <|
     armS (wg (j := 3) (b := false) rfl rfl rfl) (fun aa ww hk bs hd => xmove rfl (bg bs s12)) rfl <|
     armS (wg (j := 3) (b := false) rfl rfl rfl) (fun aa ww hk bs hd => xsub (Or.inl rfl) rfl (dp hd 10 rfl) (dp hd 11 rfl) (by omega) (by omega)) rfl <|
     armC (wg (j := 3) (b := false) rfl rfl rfl) (fun aa ww hk bs hd => xcall1V (F := 28) (u := .int .i64 ((((L.length) + 1 : Nat) : Int) - (k : Int))) rfl (dp hd 8 rfl) (dp hd 12 rfl) (en_louvrelaw16_AggRanks_1 _ _)) (fun aa ww hk bs hd => lk16_any ((((L.length) + 1 : Nat) : Int) - (k : Int)) (by omega) (by omega) ww) rfl <|
     arm (fun aa ww hk bs hd => by
       have d3 := dp hd 3 rfl; have d7 : aa.eval (.tmp 117) = .agg #[.bool y.w, .int .u8 y.v.k, .int .i64 y.v.n, .string ⟨y.v.t.toArray⟩, .int .i64 y.x.c1, .int .i64 y.x.r1, .int .i64 y.x.c2, .int .i64 y.x.r2, .slice Ay y.l.length cly] := depX hd 7 rfl; have d13 : aa.eval (.tmp 123) = .agg #[.bool false, .int .u8 1, .int .i64 (((((L.length) + 1 : Nat) : Int) - (k : Int)) * 10000), .string ⟨[].toArray⟩, .int .i64 0, .int .i64 0, .int .i64 0, .int .i64 0, .slice none 0 0] := depX hd 13 rfl; exact stepX_new _ (want1 (j := 3) (b := false) rfl d3) (xbuildSlice (us := #[(0, .agg #[.bool y.w, .int .u8 y.v.k, .int .i64 y.v.n, .string ⟨y.v.t.toArray⟩, .int .i64 y.x.c1, .int .i64 y.x.r1, .int .i64 y.x.c2, .int .i64 y.x.r2, .slice Ay y.l.length cly]), (1, .agg #[.bool false, .int .u8 1, .int .i64 (((((L.length) + 1 : Nat) : Int) - (k : Int)) * 10000), .string ⟨[].toArray⟩, .int .i64 0, .int .i64 0, .int .i64 0, .int .i64 0, .slice none 0 0])]) (b := argsObj [(y, .slice Ay y.l.length cly), ((wv (⟨1, ((((L.length) + 1 : Nat) : Int) - (k : Int)) * 10000, []⟩ : Vl)), .slice none 0 0)]) rfl (by simp only [List.map_toArray, List.map_cons, List.map_nil, d7, d13]) (by kernel_rfl)) ⟨_, rfl, hk.size, Go.heap_alloc_new _ _⟩ ((Kept.refl _).alloc _) rfl (Nat.le_refl _)
       ) <|
     arm (fun aa ww hk bs hd => by
       have d3 := dp hd 3 rfl; have d14 := dL hd 14 rfl; obtain ⟨g14, e14, _, h14⟩ := d14; exact stepX_enter (want1 (j := 3) (b := false) rfl d3) (xcall2 (u := .int .u8 18) (v := .slice (some ⟨g14, 0, none⟩) 2 2) rfl rfl e14 (en_louvrelaw16_of _ _)) ((of16_eq (⟨1, nth16 L (k - 1), []⟩ : Vl) 18 (some ⟨g14, 0, none⟩) 2 [y, (wv (⟨1, ((((L.length) + 1 : Nat) : Int) - (k : Int)) * 10000, []⟩ : Vl))] ww mx (HM.kept (ow.keep hk).kept) (argsObj_at (L := [(y, .slice Ay y.l.length cly), ((wv (⟨1, ((((L.length) + 1 : Nat) : Int) - (k : Int)) * 10000, []⟩ : Vl)), .slice none 0 0)]) h14 (atCons (cellsAt_own (p := (y, (.slice Ay y.l.length cly))) ((ow.keep hk).thing 6 rfl)) (atCons (CellsAt.nil _) atNil))) (fit_cons fy.1 fy.2 (Nat.le_of_ble_eq_true rfl) (fit_cons (small_wv (nm_small16 (by omega) (by omega))).1 (small_wv (nm_small16 (by omega) (by omega))).2 (Nat.le_of_ble_eq_true rfl) fit_nil)) (Nat.le_of_ble_eq_true rfl) hat.2).mono fun _ _ ⟨he, hk2⟩ => ⟨_, he, rfl, hk2⟩) rfl
       ) <|
     armE (wg (j := 3) (b := false) rfl rfl rfl) (fun aa ww hk bs hd => xnev rfl (dp hd 4 rfl) (dp hd 15 rfl)) (congrArg Value.bool (by rw [sameV_self]; rfl)) rfl <|
     aS (fun hk bs hd => xpickF rfl (dp hd 3 rfl) (dp hd 16 rfl)) rfl <|
     mvD 17 rfl rfl rfl rfl rfl rfl <|
     armS (wg (j := 18) (b := false) rfl rfl rfl) (fun aa ww hk bs hd => xmove rfl (bg bs s12)) rfl <|
     armS (wg (j := 18) (b := false) rfl rfl rfl) (fun aa ww hk bs hd => xgtr rfl (dp hd 19 rfl) rfl) rfl <|
     armS (wg (j := 18) (b := false) rfl rfl rfl) (fun aa ww hk bs hd => xmove rfl (dp hd 20 rfl)) rfl <|
     ai (g1 21 rfl rfl) (fun hk bs hd hz => xfieldAddr rfl (bg bs s13) (by kernel_rfl)) rfl <|
     ai (g1 21 rfl rfl) (fun hk bs hd hz => xloadB rfl (by kernel_rfl) (di hd 22 rfl hz) ((ow.keep hk).box 0 rfl) rfl) rfl <|
     ai (g1 21 rfl rfl) (fun hk bs hd hz => xfieldAddr rfl (bg bs s11) (by kernel_rfl)) rfl <|
     ai (g1 21 rfl rfl) (fun hk bs hd hz => xloadB rfl (by kernel_rfl) (di hd 24 rfl hz) ((ow.keep hk).box 1 rfl) rfl) rfl <|
     ai (g1 21 rfl rfl) (fun hk bs hd hz => xlss rfl (di hd 23 rfl hz) (di hd 25 rfl hz)) rfl <|
     armS (wg (j := 18) (b := false) rfl rfl rfl) (fun aa ww hk bs hd => xand rfl (dp hd 21 rfl) (fun hb => di hd 26 rfl hb) rfl) rfl <|
     aS (fun hk bs hd => xpickF rfl (dp hd 18 rfl) (dp hd 27 rfl)) rfl <|
     arm0) fun fa fw bs hv ap z q ow => ?_
   obtain ⟨s2, s3, s9, s10, s11, s12, s13⟩ := b7 bs s2 s3 s9 s10 s11 s12 s13; have s138 := gv hv 28 rfl rfl; refine wt hK48 ?_
   by_cases hc3 : ((1 : Int) < (k : Int)) ∧ ((nth16 L (k - 1) : Int) < (lv.n : Int))
   ·refine ct s138 ((band (decide_eq_true_iff) (decide_eq_true_iff)).2 hc3) ?_
    refine sq fun hK49 => ?_; exact absurd hc3 (ranks_no hlv (by omega))
   refine cf s138 (band (decide_eq_true_iff) (decide_eq_true_iff)) hc3 ?_; refine wp_skip ?_; refine tn hK47 ?_
   refine ro [yV (aggV (⟨1, nth16 L (k - 1), []⟩ : Vl))] 1 192 z q ow (
     aS (fun hk bs hd => xloadN 3 rfl (by kernel_rfl) (by kernel_rfl) (bg bs s13) ((ow.keep hk).box 0 rfl) (Nat.le_of_ble_eq_true rfl) rfl) rfl <|
     arm0) fun fa fw bs hv ap z q ow => ?_
   obtain ⟨s2, s3, s9, s10, s11, s12⟩ := b6 bs s2 s3 s9 s10 s11 s12; have s139 := gv hv 0 rfl rfl; refine ws ow 1 0 s11 s139 fun fw ow => ?_; refine wl_end ?_; refine block_n ?_; refine tn hK45 ?_
   refine ro [yV _, yV (.int .i64 ((k + 1 : Nat) : Int))] 2 192 z q ow (
     mvS s12 rfl rfl rfl rfl <|
     aS (fun hk bs hd => xadd (Or.inl rfl) rfl (dp hd 0 rfl) rfl (by omega) (by omega)) rfl <|
     arm0) fun fa fw bs hv ap z q ow => ?_
   obtain ⟨s2, s3, s9, s10, s11, s12⟩ := b6 bs s2 s3 s9 s10 s11 s12; have s101 := gv hv 1 rfl rfl; refine wl_value (v := .int .i64 ((k + 1 : Nat) : Int)) (want0 rfl) (xassign rfl s101) ?_; refine gp5 z q ow s2 s3 s9 s10 s11 fun fa fw z q ow s2 s3 s9 s10 s11 s12 => ?_; refine wl_end ?_; exact then_n ⟨(k + 1), ⟨(⟨1, nth16 L (k - 1), []⟩ : Vl), hltk, (by omega), (fun _ => by rw [show k + 1 - 2 = k - 1 by omega]), z, q, ow.tail, s2, s3, s9, s10, s11, s12⟩, (show (L.length + 1) - (k + 1) < (L.length + 1) - k by omega)⟩
  refine cf s99 (decide_eq_true_iff) hc2 ?_; refine wp_exit ?_; refine then_e ?_; refine then_e ?_; refine block_hit ?_; refine tn hK41 ?_; refine sq fun hK50 => ?_; refine sq fun hK51 => ?_
  refine ro [yV _, yV _] 2 192 z q ow (
    mvS s10 rfl rfl rfl rfl <|
    aS (fun hk bs hd => xeqi rfl (dp hd 0 rfl) rfl) rfl <|
    arm0) fun fa fw bs hv ap z q ow => ?_
  obtain ⟨s2, s3, s9, s10, s11⟩ := b5 bs s2 s3 s9 s10 s11; have s141 := gv hv 1 rfl rfl; refine wt hK51 ?_
  by_cases hc4 : ((L.length : Nat) : Int) = (0 : Int)
  ·refine ct s141 ((decide_eq_true_iff).2 hc4) ?_
   have hout0 : (vCall16 19 [y, wv ⟨1, 1 * 10000, []⟩]).1 = ⟨4, 3, []⟩ := by have h := ranks_out hyo hyw hyl hn; rw [hc4] at h; exact h
   refine sq fun hK52 => ?_
   refine ro [yV _, yV _, yV (.agg #[.bool y.w, .int .u8 y.v.k, .int .i64 y.v.n, .string ⟨y.v.t.toArray⟩, .int .i64 y.x.c1, .int .i64 y.x.r1, .int .i64 y.x.c2, .int .i64 y.x.r2, .slice Ay y.l.length cly]), yV _, yV (.agg #[.bool false, .int .u8 1, .int .i64 (1 * 10000), .string ⟨[].toArray⟩, .int .i64 0, .int .i64 0, .int .i64 0, .int .i64 0, .slice none 0 0]), ySlice fw.heap.size 2 (argsObj [(y, .slice Ay y.l.length cly), ((wv (⟨1, 1 * 10000, []⟩ : Vl)), .slice none 0 0)]), yV (aggV (⟨4, 3, []⟩ : Vl)), yV (aggV (⟨4, 3, []⟩ : Vl)), yV (.bool true), yV _, yV (.bool true), yV _, yV _] 13 192 z q ow (
     mvS s3 rfl rfl rfl rfl <|
     aS (fun hk bs hd => xplaceK 9 Tryz.underlying22 (by kernel_rfl) rfl (i := 0) rfl (dp hd 0 rfl) rfl (by decide)) rfl <|
     aS (fun hk bs hd => xpartK (n := 9) 0 rfl (by kernel_rfl) (by kernel_rfl) (dp hd 1 rfl) rfl (own_elem (l := [(y, (.slice Ay y.l.length cly))]) (i := 0) argE_len rfl ((ow.keep hk).row 4 rfl) rfl)) rfl <|
     mvS s9 rfl rfl rfl rfl <|
     aC (fun hk bs hd => xcall1V (F := 28) (u := .int .i64 1) rfl (dp hd 3 rfl) rfl (en_louvrelaw16_AggRanks_1 _ _)) (fun hk bs hd => lk16_any 1 (by omega) (by omega) _) rfl <|
     arm (fun aa ww hk bs hd => by
       have d2 : aa.eval (.tmp 144) = .agg #[.bool y.w, .int .u8 y.v.k, .int .i64 y.v.n, .string ⟨y.v.t.toArray⟩, .int .i64 y.x.c1, .int .i64 y.x.r1, .int .i64 y.x.c2, .int .i64 y.x.r2, .slice Ay y.l.length cly] := depX hd 2 rfl; have d4 : aa.eval (.tmp 146) = .agg #[.bool false, .int .u8 1, .int .i64 (1 * 10000), .string ⟨[].toArray⟩, .int .i64 0, .int .i64 0, .int .i64 0, .int .i64 0, .slice none 0 0] := depX hd 4 rfl; exact stepX_new _ (want0 rfl) (xbuildSlice (us := #[(0, .agg #[.bool y.w, .int .u8 y.v.k, .int .i64 y.v.n, .string ⟨y.v.t.toArray⟩, .int .i64 y.x.c1, .int .i64 y.x.r1, .int .i64 y.x.c2, .int .i64 y.x.r2, .slice Ay y.l.length cly]), (1, .agg #[.bool false, .int .u8 1, .int .i64 (1 * 10000), .string ⟨[].toArray⟩, .int .i64 0, .int .i64 0, .int .i64 0, .int .i64 0, .slice none 0 0])]) (b := argsObj [(y, .slice Ay y.l.length cly), ((wv (⟨1, 1 * 10000, []⟩ : Vl)), .slice none 0 0)]) rfl (by simp only [List.map_toArray, List.map_cons, List.map_nil, d2, d4]) (by kernel_rfl)) ⟨_, rfl, hk.size, Go.heap_alloc_new _ _⟩ ((Kept.refl _).alloc _) rfl (Nat.le_refl _)
       ) <|
     arm (fun aa ww hk bs hd => by
       have d5 := dL hd 5 rfl; obtain ⟨g5, e5, _, h5⟩ := d5; exact stepX_enter (want0 rfl) (xcall2 (u := .int .u8 19) (v := .slice (some ⟨g5, 0, none⟩) 2 2) rfl rfl e5 (en_louvrelaw16_of _ _)) ((of16_eq (⟨4, 3, []⟩ : Vl) 19 (some ⟨g5, 0, none⟩) 2 [y, (wv (⟨1, 1 * 10000, []⟩ : Vl))] ww mx (HM.kept (ow.keep hk).kept) (argsObj_at (L := [(y, .slice Ay y.l.length cly), ((wv (⟨1, 1 * 10000, []⟩ : Vl)), .slice none 0 0)]) h5 (atCons (cellsAt_own (p := (y, (.slice Ay y.l.length cly))) ((ow.keep hk).thing 5 rfl)) (atCons (CellsAt.nil _) atNil))) (fit_cons fy.1 fy.2 (Nat.le_of_ble_eq_true rfl) (fit_cons (small_wv (nm_small16 (by omega) (by omega))).1 (small_wv (nm_small16 (by omega) (by omega))).2 (Nat.le_of_ble_eq_true rfl) fit_nil)) (Nat.le_of_ble_eq_true rfl) hout0).mono fun _ _ ⟨he, hk2⟩ => ⟨_, he, rfl, hk2⟩) rfl
       ) <|
     aS (fun hk bs hd => xbuild (us := #[(0, .int .u8 4), (1, .int .i64 3)]) rfl (by simp only [List.map_toArray, List.map_cons, List.map_nil]; rfl) (by kernel_rfl)) rfl <|
     aE (fun hk bs hd => xeqv rfl (dp hd 6 rfl) (dp hd 7 rfl)) (congrArg Value.bool (sameV_self _)) rfl <|
     mvD 8 rfl rfl rfl rfl rfl rfl <|
     armC (wg (j := 9) (b := true) rfl rfl rfl) (fun aa ww hk bs hd => xcall0 rfl (en_louvrelaw16_awake _ _)) (fun aa ww hk bs hd => awake16_any ww mx (HM.kept (ow.keep hk).kept)) rfl <|
     aS (fun hk bs hd => xpickT rfl (dp hd 9 rfl) (dp hd 10 rfl)) rfl <|
     asD 11 rfl rfl rfl rfl rfl rfl <|
     arm0) fun fa fw bs hv ap z q ow => ?_
   obtain ⟨s3, s9, s10, s11⟩ := b4 bs s3 s9 s10 s11; have s2 := gv hv 12 rfl rfl; refine wt hK52 ?_; refine wp_ret ?_; refine then_r ?_; refine results_one rfl (res_tmp s2) q ?_; exact ⟨rfl, ow.kept⟩
  refine cf s141 (decide_eq_true_iff) hc4 ?_; have hend := ranks_ends hyo hyw hyi hn hc4; have hL0 : 1 ≤ L.length := by omega
  have hat1 := (ranks_at hyo hyw hyi hyl hn (i := 1) (by omega) hL0).1; have hout := ranks_out hyo hyw hyl hn; have hl2 : lv = ⟨1, nth16 L (L.length - 1), []⟩ := by rw [hlv (by omega), show k - 2 = L.length - 1 by omega]
  refine wp_skip ?_; refine tn hK50 ?_; refine sq fun hK53 => ?_
  refine ro [yV _, yV _, yV (.agg #[.bool y.w, .int .u8 y.v.k, .int .i64 y.v.n, .string ⟨y.v.t.toArray⟩, .int .i64 y.x.c1, .int .i64 y.x.r1, .int .i64 y.x.c2, .int .i64 y.x.r2, .slice Ay y.l.length cly]), ySlice fw.heap.size 1 (argsObj [(y, .slice Ay y.l.length cly)]), yV (aggV (⟨1, nth16 L 0, []⟩ : Vl)), yV _, yV _, yV (.agg #[.bool y.w, .int .u8 y.v.k, .int .i64 y.v.n, .string ⟨y.v.t.toArray⟩, .int .i64 y.x.c1, .int .i64 y.x.r1, .int .i64 y.x.c2, .int .i64 y.x.r2, .slice Ay y.l.length cly]), yV _, yV (.agg #[.bool false, .int .u8 1, .int .i64 (1 * 10000), .string ⟨[].toArray⟩, .int .i64 0, .int .i64 0, .int .i64 0, .int .i64 0, .slice none 0 0]), ySlice fw.heap.size 2 (argsObj [(y, .slice Ay y.l.length cly), ((wv (⟨1, 1 * 10000, []⟩ : Vl)), .slice none 0 0)]), yV (aggV (⟨1, nth16 L 0, []⟩ : Vl)), yV (.bool true), yV _, yV _, yV _, yV (.agg #[.bool y.w, .int .u8 y.v.k, .int .i64 y.v.n, .string ⟨y.v.t.toArray⟩, .int .i64 y.x.c1, .int .i64 y.x.r1, .int .i64 y.x.c2, .int .i64 y.x.r2, .slice Ay y.l.length cly]), ySlice fw.heap.size 1 (argsObj [(y, .slice Ay y.l.length cly)]), yV (aggV (⟨1, nth16 L (L.length - 1), []⟩ : Vl)), yV (aggV lv), yV (.bool true), yV _, yV _, yV _, yV _, yV (.agg #[.bool y.w, .int .u8 y.v.k, .int .i64 y.v.n, .string ⟨y.v.t.toArray⟩, .int .i64 y.x.c1, .int .i64 y.x.r1, .int .i64 y.x.c2, .int .i64 y.x.r2, .slice Ay y.l.length cly]), yV _, yV _, yV (.int .i64 (((L.length) + 1 : Nat) : Int)), yV (.agg #[.bool false, .int .u8 1, .int .i64 ((((L.length) + 1 : Nat) : Int) * 10000), .string ⟨[].toArray⟩, .int .i64 0, .int .i64 0, .int .i64 0, .int .i64 0, .slice none 0 0]), ySlice fw.heap.size 2 (argsObj [(y, .slice Ay y.l.length cly), ((wv (⟨1, (((L.length) + 1 : Nat) : Int) * 10000, []⟩ : Vl)), .slice none 0 0)]), yV (aggV (⟨4, 3, []⟩ : Vl)), yV (aggV (⟨4, 3, []⟩ : Vl)), yV (.bool true), yV _, yV _, yV (.bool true), yV _, yV _] 39 192 z q ow (
    mvS s3 rfl rfl rfl rfl <|
    aS (fun hk bs hd => xplaceK 9 Tryz.underlying22 (by kernel_rfl) rfl (i := 0) rfl (dp hd 0 rfl) rfl (by decide)) rfl <|
    aS (fun hk bs hd => xpartK (n := 9) 0 rfl (by kernel_rfl) (by kernel_rfl) (dp hd 1 rfl) rfl (own_elem (l := [(y, (.slice Ay y.l.length cly))]) (i := 0) argE_len rfl ((ow.keep hk).row 4 rfl) rfl)) rfl <|
    arm (fun aa ww hk bs hd => by
      have d2 : aa.eval (.tmp 156) = .agg #[.bool y.w, .int .u8 y.v.k, .int .i64 y.v.n, .string ⟨y.v.t.toArray⟩, .int .i64 y.x.c1, .int .i64 y.x.r1, .int .i64 y.x.c2, .int .i64 y.x.r2, .slice Ay y.l.length cly] := depX hd 2 rfl; exact stepX_new _ (want0 rfl) (xbuildSlice (us := #[(0, .agg #[.bool y.w, .int .u8 y.v.k, .int .i64 y.v.n, .string ⟨y.v.t.toArray⟩, .int .i64 y.x.c1, .int .i64 y.x.r1, .int .i64 y.x.c2, .int .i64 y.x.r2, .slice Ay y.l.length cly])]) (b := argsObj [(y, .slice Ay y.l.length cly)]) rfl (by simp only [List.map_toArray, List.map_cons, List.map_nil, d2]) (by kernel_rfl)) ⟨_, rfl, hk.size, Go.heap_alloc_new _ _⟩ ((Kept.refl _).alloc _) rfl (Nat.le_refl _)
      ) <|
    arm (fun aa ww hk bs hd => by
      have d3 := dL hd 3 rfl; obtain ⟨g3, e3, _, h3⟩ := d3; exact stepX_enter (want0 rfl) (xcall2 (u := .int .u8 15) (v := .slice (some ⟨g3, 0, none⟩) 1 1) rfl rfl e3 (en_louvrelaw16_of _ _)) ((of16_eq (⟨1, nth16 L 0, []⟩ : Vl) 15 (some ⟨g3, 0, none⟩) 1 [y] ww mx (HM.kept (ow.keep hk).kept) (argsObj_at (L := [(y, .slice Ay y.l.length cly)]) h3 (atCons (cellsAt_own (p := (y, (.slice Ay y.l.length cly))) ((ow.keep hk).thing 5 rfl)) atNil)) (fit_cons fy.1 fy.2 (Nat.le_of_ble_eq_true rfl) fit_nil) (Nat.le_of_ble_eq_true rfl) hend.1).mono fun _ _ ⟨he, hk2⟩ => ⟨_, he, rfl, hk2⟩) rfl
      ) <|
    mvS s3 rfl rfl rfl rfl <|
    aS (fun hk bs hd => xplaceK 9 Tryz.underlying22 (by kernel_rfl) rfl (i := 0) rfl (dp hd 5 rfl) rfl (by decide)) rfl <|
    aS (fun hk bs hd => xpartK (n := 9) 0 rfl (by kernel_rfl) (by kernel_rfl) (dp hd 6 rfl) rfl (own_elem (l := [(y, (.slice Ay y.l.length cly))]) (i := 0) argE_len rfl ((ow.keep hk).row 4 rfl) rfl)) rfl <|
    mvS s9 rfl rfl rfl rfl <|
    aC (fun hk bs hd => xcall1V (F := 28) (u := .int .i64 1) rfl (dp hd 8 rfl) rfl (en_louvrelaw16_AggRanks_1 _ _)) (fun hk bs hd => lk16_any 1 (by omega) (by omega) _) rfl <|
    arm (fun aa ww hk bs hd => by
      have d7 : aa.eval (.tmp 161) = .agg #[.bool y.w, .int .u8 y.v.k, .int .i64 y.v.n, .string ⟨y.v.t.toArray⟩, .int .i64 y.x.c1, .int .i64 y.x.r1, .int .i64 y.x.c2, .int .i64 y.x.r2, .slice Ay y.l.length cly] := depX hd 7 rfl; have d9 : aa.eval (.tmp 163) = .agg #[.bool false, .int .u8 1, .int .i64 (1 * 10000), .string ⟨[].toArray⟩, .int .i64 0, .int .i64 0, .int .i64 0, .int .i64 0, .slice none 0 0] := depX hd 9 rfl; exact stepX_new _ (want0 rfl) (xbuildSlice (us := #[(0, .agg #[.bool y.w, .int .u8 y.v.k, .int .i64 y.v.n, .string ⟨y.v.t.toArray⟩, .int .i64 y.x.c1, .int .i64 y.x.r1, .int .i64 y.x.c2, .int .i64 y.x.r2, .slice Ay y.l.length cly]), (1, .agg #[.bool false, .int .u8 1, .int .i64 (1 * 10000), .string ⟨[].toArray⟩, .int .i64 0, .int .i64 0, .int .i64 0, .int .i64 0, .slice none 0 0])]) (b := argsObj [(y, .slice Ay y.l.length cly), ((wv (⟨1, 1 * 10000, []⟩ : Vl)), .slice none 0 0)]) rfl (by simp only [List.map_toArray, List.map_cons, List.map_nil, d7, d9]) (by kernel_rfl)) ⟨_, rfl, hk.size, Go.heap_alloc_new _ _⟩ ((Kept.refl _).alloc _) rfl (Nat.le_refl _)
      ) <|
    arm (fun aa ww hk bs hd => by
      have d10 := dL hd 10 rfl; obtain ⟨g10, e10, _, h10⟩ := d10; exact stepX_enter (want0 rfl) (xcall2 (u := .int .u8 19) (v := .slice (some ⟨g10, 0, none⟩) 2 2) rfl rfl e10 (en_louvrelaw16_of _ _)) ((of16_eq (⟨1, nth16 L 0, []⟩ : Vl) 19 (some ⟨g10, 0, none⟩) 2 [y, (wv (⟨1, 1 * 10000, []⟩ : Vl))] ww mx (HM.kept (ow.keep hk).kept) (argsObj_at (L := [(y, .slice Ay y.l.length cly), ((wv (⟨1, 1 * 10000, []⟩ : Vl)), .slice none 0 0)]) h10 (atCons (cellsAt_own (p := (y, (.slice Ay y.l.length cly))) ((ow.keep hk).thing 5 rfl)) (atCons (CellsAt.nil _) atNil))) (fit_cons fy.1 fy.2 (Nat.le_of_ble_eq_true rfl) (fit_cons (small_wv (nm_small16 (by omega) (by omega))).1 (small_wv (nm_small16 (by omega) (by omega))).2 (Nat.le_of_ble_eq_true rfl) fit_nil)) (Nat.le_of_ble_eq_true rfl) hat1).mono fun _ _ ⟨he, hk2⟩ => ⟨_, he, rfl, hk2⟩) rfl
      ) <|
    aE (fun hk bs hd => xeqv rfl (dp hd 4 rfl) (dp hd 11 rfl)) (congrArg Value.bool (sameV_self _)) rfl <|
    mvD 12 rfl rfl rfl rfl rfl rfl <|
    armS (wg (j := 13) (b := true) rfl rfl rfl) (fun aa ww hk bs hd => xmove rfl (bg bs s3)) rfl <|
    armS (wg (j := 13) (b := true) rfl rfl rfl) (fun aa ww hk bs hd => xplaceK 9 Tryz.underlying22 (by kernel_rfl) rfl (i := 0) rfl (dp hd 14 rfl) rfl (by decide)) rfl <|
    armS (wg (j := 13) (b := true) rfl rfl rfl) (fun aa ww hk bs hd => xpartK (n := 9) 0 rfl (by kernel_rfl) (by kernel_rfl) (dp hd 15 rfl) rfl (own_elem (l := [(y, (.slice Ay y.l.length cly))]) (i := 0) argE_len rfl ((ow.keep hk).row 4 rfl) rfl)) rfl <|
    arm (fun aa ww hk bs hd => by
      have d13 := dp hd 13 rfl; have d16 : aa.eval (.tmp 170) = .agg #[.bool y.w, .int .u8 y.v.k, .int .i64 y.v.n, .string ⟨y.v.t.toArray⟩, .int .i64 y.x.c1, .int .i64 y.x.r1, .int .i64 y.x.c2, .int .i64 y.x.r2, .slice Ay y.l.length cly] := depX hd 16 rfl; exact stepX_new _ (want1 (j := 13) (b := true) rfl d13) (xbuildSlice (us := #[(0, .agg #[.bool y.w, .int .u8 y.v.k, .int .i64 y.v.n, .string ⟨y.v.t.toArray⟩, .int .i64 y.x.c1, .int .i64 y.x.r1, .int .i64 y.x.c2, .int .i64 y.x.r2, .slice Ay y.l.length cly])]) (b := argsObj [(y, .slice Ay y.l.length cly)]) rfl (by simp only [List.map_toArray, List.map_cons, List.map_nil, d16]) (by kernel_rfl)) ⟨_, rfl, hk.size, Go.heap_alloc_new _ _⟩ ((Kept.refl _).alloc _) rfl (Nat.le_refl _)
      ) <|
    arm (fun aa ww hk bs hd => by
      have d13 := dp hd 13 rfl; have d17 := dL hd 17 rfl; obtain ⟨g17, e17, _, h17⟩ := d17; exact stepX_enter (want1 (j := 13) (b := true) rfl d13) (xcall2 (u := .int .u8 16) (v := .slice (some ⟨g17, 0, none⟩) 1 1) rfl rfl e17 (en_louvrelaw16_of _ _)) ((of16_eq (⟨1, nth16 L (L.length - 1), []⟩ : Vl) 16 (some ⟨g17, 0, none⟩) 1 [y] ww mx (HM.kept (ow.keep hk).kept) (argsObj_at (L := [(y, .slice Ay y.l.length cly)]) h17 (atCons (cellsAt_own (p := (y, (.slice Ay y.l.length cly))) ((ow.keep hk).thing 5 rfl)) atNil)) (fit_cons fy.1 fy.2 (Nat.le_of_ble_eq_true rfl) fit_nil) (Nat.le_of_ble_eq_true rfl) hend.2).mono fun _ _ ⟨he, hk2⟩ => ⟨_, he, rfl, hk2⟩) rfl
      ) <|
    armS (wg (j := 13) (b := true) rfl rfl rfl) (fun aa ww hk bs hd => xloadN 3 rfl (by kernel_rfl) (by kernel_rfl) (bg bs s11) ((ow.keep hk).box 0 rfl) (Nat.le_of_ble_eq_true rfl) rfl) rfl <|
    armE (wg (j := 13) (b := true) rfl rfl rfl) (fun aa ww hk bs hd => xeqv rfl (dp hd 18 rfl) (dp hd 19 rfl)) (congrArg Value.bool (sameV_of hl2.symm)) rfl <|
    aS (fun hk bs hd => xpickT rfl (dp hd 13 rfl) (dp hd 20 rfl)) rfl <|
    mvD 21 rfl rfl rfl rfl rfl rfl <|
    armS (wg (j := 22) (b := true) rfl rfl rfl) (fun aa ww hk bs hd => xmove rfl (bg bs s3)) rfl <|
    armS (wg (j := 22) (b := true) rfl rfl rfl) (fun aa ww hk bs hd => xplaceK 9 Tryz.underlying22 (by kernel_rfl) rfl (i := 0) rfl (dp hd 23 rfl) rfl (by decide)) rfl <|
    armS (wg (j := 22) (b := true) rfl rfl rfl) (fun aa ww hk bs hd => xpartK (n := 9) 0 rfl (by kernel_rfl) (by kernel_rfl) (dp hd 24 rfl) rfl (own_elem (l := [(y, (.slice Ay y.l.length cly))]) (i := 0) argE_len rfl ((ow.keep hk).row 4 rfl) rfl)) rfl <|
    armS (wg (j := 22) (b := true) rfl rfl rfl) (fun aa ww hk bs hd => xmove rfl (bg bs s9)) rfl <|
    armS (wg (j := 22) (b := true) rfl rfl rfl) (fun aa ww hk bs hd => xmove rfl (bg bs s10)) rfl <|
    armS (wg (j := 22) (b := true) rfl rfl rfl) (fun aa ww hk bs hd => xadd (Or.inl rfl) rfl (dp hd 27 rfl) rfl (by omega) (by omega)) rfl <|
    armC (wg (j := 22) (b := true) rfl rfl rfl) (fun aa ww hk bs hd => xcall1V (F := 28) (u := .int .i64 (((L.length) + 1 : Nat) : Int)) rfl (dp hd 26 rfl) (dp hd 28 rfl) (en_louvrelaw16_AggRanks_1 _ _)) (fun aa ww hk bs hd => lk16_any (((L.length) + 1 : Nat) : Int) (by omega) (by omega) ww) rfl <|
    arm (fun aa ww hk bs hd => by
      have d22 := dp hd 22 rfl; have d25 : aa.eval (.tmp 179) = .agg #[.bool y.w, .int .u8 y.v.k, .int .i64 y.v.n, .string ⟨y.v.t.toArray⟩, .int .i64 y.x.c1, .int .i64 y.x.r1, .int .i64 y.x.c2, .int .i64 y.x.r2, .slice Ay y.l.length cly] := depX hd 25 rfl; have d29 : aa.eval (.tmp 183) = .agg #[.bool false, .int .u8 1, .int .i64 ((((L.length) + 1 : Nat) : Int) * 10000), .string ⟨[].toArray⟩, .int .i64 0, .int .i64 0, .int .i64 0, .int .i64 0, .slice none 0 0] := depX hd 29 rfl; exact stepX_new _ (want1 (j := 22) (b := true) rfl d22) (xbuildSlice (us := #[(0, .agg #[.bool y.w, .int .u8 y.v.k, .int .i64 y.v.n, .string ⟨y.v.t.toArray⟩, .int .i64 y.x.c1, .int .i64 y.x.r1, .int .i64 y.x.c2, .int .i64 y.x.r2, .slice Ay y.l.length cly]), (1, .agg #[.bool false, .int .u8 1, .int .i64 ((((L.length) + 1 : Nat) : Int) * 10000), .string ⟨[].toArray⟩, .int .i64 0, .int .i64 0, .int .i64 0, .int .i64 0, .slice none 0 0])]) (b := argsObj [(y, .slice Ay y.l.length cly), ((wv (⟨1, (((L.length) + 1 : Nat) : Int) * 10000, []⟩ : Vl)), .slice none 0 0)]) rfl (by simp only [List.map_toArray, List.map_cons, List.map_nil, d25, d29]) (by kernel_rfl)) ⟨_, rfl, hk.size, Go.heap_alloc_new _ _⟩ ((Kept.refl _).alloc _) rfl (Nat.le_refl _)
      ) <|
    arm (fun aa ww hk bs hd => by
      have d22 := dp hd 22 rfl; have d30 := dL hd 30 rfl; obtain ⟨g30, e30, _, h30⟩ := d30; exact stepX_enter (want1 (j := 22) (b := true) rfl d22) (xcall2 (u := .int .u8 19) (v := .slice (some ⟨g30, 0, none⟩) 2 2) rfl rfl e30 (en_louvrelaw16_of _ _)) ((of16_eq (⟨4, 3, []⟩ : Vl) 19 (some ⟨g30, 0, none⟩) 2 [y, (wv (⟨1, (((L.length) + 1 : Nat) : Int) * 10000, []⟩ : Vl))] ww mx (HM.kept (ow.keep hk).kept) (argsObj_at (L := [(y, .slice Ay y.l.length cly), ((wv (⟨1, (((L.length) + 1 : Nat) : Int) * 10000, []⟩ : Vl)), .slice none 0 0)]) h30 (atCons (cellsAt_own (p := (y, (.slice Ay y.l.length cly))) ((ow.keep hk).thing 5 rfl)) (atCons (CellsAt.nil _) atNil))) (fit_cons fy.1 fy.2 (Nat.le_of_ble_eq_true rfl) (fit_cons (small_wv (nm_small16 (by omega) (by omega))).1 (small_wv (nm_small16 (by omega) (by omega))).2 (Nat.le_of_ble_eq_true rfl) fit_nil)) (Nat.le_of_ble_eq_true rfl) hout).mono fun _ _ ⟨he, hk2⟩ => ⟨_, he, rfl, hk2⟩) rfl
      ) <|
    armS (wg (j := 22) (b := true) rfl rfl rfl) (fun aa ww hk bs hd => xbuild (us := #[(0, .int .u8 4), (1, .int .i64 3)]) rfl (by simp only [List.map_toArray, List.map_cons, List.map_nil]; rfl) (by kernel_rfl)) rfl <|
    armE (wg (j := 22) (b := true) rfl rfl rfl) (fun aa ww hk bs hd => xeqv rfl (dp hd 31 rfl) (dp hd 32 rfl)) (congrArg Value.bool (sameV_self _)) rfl <|
    aS (fun hk bs hd => xpickT rfl (dp hd 22 rfl) (dp hd 33 rfl)) rfl <|
    mvD 34 rfl rfl rfl rfl rfl rfl <|
    armC (wg (j := 35) (b := true) rfl rfl rfl) (fun aa ww hk bs hd => xcall0 rfl (en_louvrelaw16_awake _ _)) (fun aa ww hk bs hd => awake16_any ww mx (HM.kept (ow.keep hk).kept)) rfl <|
    aS (fun hk bs hd => xpickT rfl (dp hd 35 rfl) (dp hd 36 rfl)) rfl <|
    asD 37 rfl rfl rfl rfl rfl rfl <|
    arm0) fun fa fw bs hv ap z q ow => ?_
  have s2 := gv hv 38 rfl rfl; refine wt hK53 ?_; refine wp_ret ?_; refine results_one rfl (res_tmp s2) q ?_; exact ⟨rfl, ow.kept⟩
end Go.Proofs.YtbkjdcpfkepheaaGreatDoor
