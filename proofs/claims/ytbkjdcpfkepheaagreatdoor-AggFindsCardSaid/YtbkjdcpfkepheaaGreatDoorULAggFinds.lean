/- The law AggFinds, walked (printed by wip/mklaw13.py). -/
import Derived.Test.YtbkjdcpfkepheaaGreatDoorUMixBF
namespace Go.Proofs.YtbkjdcpfkepheaaGreatDoor
set_option linter.unusedVariables false
set_option linter.unusedSimpArgs false
open Go.RowKit Lv
set_option maxRecDepth 100000
theorem mul_40 {r W : Int} (h0 : 1 ≤ r) (h1 : r < 40) (h2 : 0 ≤ W) (h3 : W ≤ 1024) : 0 ≤ (r - 1) * W ∧ (r - 1) * W ≤ 40960 := by
  have p0 : 0 ≤ (r - 1) * W := Int.mul_nonneg (by omega) h2; have p1 : (r - 1) * W ≤ 40 * 1024 := Int.mul_le_mul (by omega) h3 h2 (by decide)
  omega
theorem tmod_40 (n : Int) : 0 ≤ Int.tmod (Int.tmod n 40 + 40) 40 ∧ Int.tmod (Int.tmod n 40 + 40) 40 < 40 := by
  have h1 := Int.tmod_lt_of_pos n (b := 40) (by omega); have h2 := Int.tmod_lt_of_pos (-n) (b := 40) (by omega); rw [Int.neg_tmod] at h2; have h3 : 0 ≤ Int.tmod n 40 + 40 := by omega
  rw [Int.tmod_eq_emod_of_nonneg h3]; exact ⟨Int.emod_nonneg _ (by decide), Int.emod_lt_of_pos _ (by decide)⟩
theorem en_louvrelaw16_Good : En 13 := by intro args w; go_simp
theorem en_louvrelaw16_awake : En 15 := by intro args w; go_simp
theorem en_louvrelaw16_of : En 17 := by intro args w; go_simp
set_option maxHeartbeats 8000000 in
theorem AggFinds_walk (x0 : Rc) (a0 : Option Addr) (cap0 : Nat) (l0 : List Cl) (a1 : Vl) (x2 y2 : Int) (w : World) (w0 : WideR x0 ∧ CellsIn w (.slice a0 l0.length cap0) l0 ∧ (∀ c ∈ l0, WideC c) ∧ l0.length ≤ 2932031007402) (w1 : Wide a1) (w2 : i64 x2 ∧ i64 y2) (mx : Int) (HM : Mx w mx) :
    Calls Tryz.prog 5 #[.agg #[.int .i64 x0.c1, .int .i64 x0.r1, .int .i64 x0.c2, .int .i64 x0.r2, .slice a0 l0.length cap0], aggV a1, .agg #[.int .i64 x2, .int .i64 y2]] w fun e w' => e = .returned (.bool true) ∧ Below w.heap.size w w' := by
  obtain ⟨y, hy⟩ : ∃ y, y = goodAr (cutAr ⟨true, blankV, x0, l0⟩) := ⟨_, rfl⟩; obtain ⟨hyo, hyl, hys, hyi⟩ := area_facts hy w0.2.2.1; have fy : SmallAr y ∧ y.l.length ≤ 900 := ⟨hys, by omega⟩; have okv := good_ok a1; have sv : Small (vGood a1) := good_small w1.2.1; obtain ⟨⟨r1, r2⟩, r3, r4⟩ := w2; go_enter Tryz.func5, Tryz.ntmps5; refine sq fun hK1 => ?_
  refine ro [yNew w.heap.size (.cells #[.int .i64 x0.c1, .int .i64 x0.r1, .int .i64 x0.c2, .int .i64 x0.r2, .slice a0 l0.length cap0] 37 (0, 0)), yNew w.heap.size (.cells #[.int .u8 a1.k, .int .i64 a1.n, .string ⟨a1.t.toArray⟩] 25 (0, 0)), yNew w.heap.size (.cells #[.int .i64 x2, .int .i64 y2] 49 (0, 0)), yV _] 4 181 rfl rfl (Own.start w) (
    aP (fun hk bs hd => xbox rfl (bs.get 0 rfl rfl) (by kernel_rfl)) rfl <|
    aP (fun hk bs hd => xbox rfl (bs.get 1 rfl rfl) (by kernel_rfl)) rfl <|
    aP (fun hk bs hd => xbox rfl (bs.get 2 rfl rfl) (by kernel_rfl)) rfl <|
    aS (fun hk bs hd => xassign rfl rfl) rfl <|
    arm0) fun fa fw bs hv ap z q ov => ?_
  obtain ⟨gb1, s3, bgb1, hgb1⟩ := gotP hv 0 rfl rfl rfl; have ov := ov.cons hgb1 (Nat.le_trans (Own.start w).kept.size bgb1) ((Own.start w).below bgb1); obtain ⟨gb2, s4, bgb2, hgb2⟩ := gotP hv 1 rfl rfl rfl; have ov := ov.cons hgb2 (Nat.le_trans (Own.start w).kept.size bgb2) (ne_cons (apartP ap 0 1 rfl rfl rfl s3 rfl s4 rfl) ((Own.start w).below bgb2)); obtain ⟨gb3, s5, bgb3, hgb3⟩ := gotP hv 2 rfl rfl rfl; have ov := ov.cons hgb3 (Nat.le_trans (Own.start w).kept.size bgb3) (ne_cons (apartP ap 1 2 rfl rfl rfl s4 rfl s5 rfl) (ne_cons (apartP ap 0 2 rfl rfl rfl s3 rfl s5 rfl) ((Own.start w).below bgb3))); have s6 := gv hv 3 rfl rfl; have ow := ov; refine wt hK1 ?_; refine sq fun hK2 => ?_
  refine ro [yV (.agg #[.int .i64 x0.c1, .int .i64 x0.r1, .int .i64 x0.c2, .int .i64 x0.r2, .slice a0 l0.length cap0]), yV (.agg #[.bool true, .int .u8 0, .int .i64 0, .string ⟨[].toArray⟩, .int .i64 x0.c1, .int .i64 x0.r1, .int .i64 x0.c2, .int .i64 x0.r2, .slice a0 l0.length cap0]), ySlice fw.heap.size 1 (argsObj [((⟨true, ⟨0, 0, []⟩, ⟨x0.c1, x0.r1, x0.c2, x0.r2⟩, l0⟩ : Ar), .slice a0 l0.length cap0)])] 3 181 z q ow (
    aS (fun hk bs hd => xloadN 5 rfl (by kernel_rfl) (by kernel_rfl) (bg bs s3) ((ow.keep hk).box 2 rfl) (Nat.le_of_ble_eq_true rfl) rfl) rfl <|
    arm (fun aa ww hk bs hd => by
      have d0 : aa.eval (.tmp 17) = .agg #[.int .i64 x0.c1, .int .i64 x0.r1, .int .i64 x0.c2, .int .i64 x0.r2, .slice a0 l0.length cap0] := depX hd 0 rfl; exact stepX_same (v := .agg #[.bool true, .int .u8 0, .int .i64 0, .string ⟨[].toArray⟩, .int .i64 x0.c1, .int .i64 x0.r1, .int .i64 x0.c2, .int .i64 x0.r2, .slice a0 l0.length cap0]) (want0 rfl) (xbuild (us := #[(0, .bool true), (2, .agg #[.int .i64 x0.c1, .int .i64 x0.r1, .int .i64 x0.c2, .int .i64 x0.r2, .slice a0 l0.length cap0])]) rfl (by simp only [List.map_toArray, List.map_cons, List.map_nil, d0]; rfl) (by kernel_rfl)) rfl rfl
      ) <|
    arm (fun aa ww hk bs hd => by
      have d1 : aa.eval (.tmp 18) = .agg #[.bool true, .int .u8 0, .int .i64 0, .string ⟨[].toArray⟩, .int .i64 x0.c1, .int .i64 x0.r1, .int .i64 x0.c2, .int .i64 x0.r2, .slice a0 l0.length cap0] := depX hd 1 rfl; exact stepX_new _ (want0 rfl) (xbuildSlice (us := #[(0, .agg #[.bool true, .int .u8 0, .int .i64 0, .string ⟨[].toArray⟩, .int .i64 x0.c1, .int .i64 x0.r1, .int .i64 x0.c2, .int .i64 x0.r2, .slice a0 l0.length cap0])]) (b := argsObj [((⟨true, ⟨0, 0, []⟩, ⟨x0.c1, x0.r1, x0.c2, x0.r2⟩, l0⟩ : Ar), .slice a0 l0.length cap0)]) rfl (by simp only [List.map_toArray, List.map_cons, List.map_nil, d1]) (by kernel_rfl)) ⟨_, rfl, hk.size, Go.heap_alloc_new _ _⟩ ((Kept.refl _).alloc _) rfl (Nat.le_refl _)
      ) <|
    arm0) fun fa fw bs hv ap z q ov => ?_
  obtain ⟨s4, s5, s6⟩ := b3 bs s4 s5 s6; obtain ⟨gb4, s19, bgb4, hgb4⟩ := gotL hv 2 rfl rfl rfl; have ov := ov.cons hgb4 (Nat.le_trans ow.kept.size bgb4) (ow.below bgb4); have ow := ov; refine wl_enter (want0 rfl) (xcall1 (u := .slice (some ⟨gb4, 0, none⟩) 1 1) rfl s19 (en_louvrelaw16_Good _ _)) ((good_area hy (ow.get 0 rfl) (w0.2.1.kept ow.kept) w0.2.2.1 w0.2.2.2).mono ?_); rintro _ fw ⟨gy, cy, Ay, cly, rfl, ho⟩; refine ⟨_, rfl, ?_⟩; rcases (rfl : (0 : Nat) = 0) with _
  have ow := ow.join ho; clear ho; refine wl_value (v := .slice (some ⟨gy, 0, none⟩) 1 cy) (want0 rfl) (xassign rfl (put_in (t := 20) z rfl)) ?_; refine gt4 (put_size (put_size z)) (put_def (put_def q)) ow 4 (pb 7 (pb 20 s4 rfl) rfl) 5 (pb 7 (pb 20 s5 rfl) rfl) 6 (pb 7 (pb 20 s6 rfl) rfl) 7 (put_in (t := 7) (put_size z) rfl) fun fa fw z q ow s4 s5 s6 s7 => ?_; refine wt hK2 ?_; refine sq fun hK3 => ?_; refine sq fun hK4 => ?_
  refine ro [yV _, yV _, yV (.bool false), yV _, yV _, yV _, yV (.pointer (some ⟨gy, 0 + 0 * 9, none⟩)), yV _, yV _, yV _] 10 181 z q ow (
    mvS s7 rfl rfl rfl rfl <|
    aS (fun hk bs hd => xlen Tryz.underlying22 rfl (dp hd 0 rfl)) rfl <|
    aE (fun hk bs hd => xnei rfl (dp hd 1 rfl) rfl) (congrArg Value.bool rfl) rfl <|
    mvD 2 rfl rfl rfl rfl rfl rfl <|
    armS (wg (j := 3) (b := false) rfl rfl rfl) (fun aa ww hk bs hd => xmove rfl (bg bs s7)) rfl <|
    armS (wg (j := 3) (b := false) rfl rfl rfl) (fun aa ww hk bs hd => xplaceK 9 Tryz.underlying22 (by kernel_rfl) rfl (i := 0) rfl (dp hd 4 rfl) rfl (by decide)) rfl <|
    armS (wg (j := 3) (b := false) rfl rfl rfl) (fun aa ww hk bs hd => xfieldAddr rfl (dp hd 5 rfl) (by kernel_rfl)) rfl <|
    armS (wg (j := 3) (b := false) rfl rfl rfl) (fun aa ww hk bs hd => xcellK 0 rfl (by kernel_rfl) (dp hd 6 rfl) rfl (own_elem (l := [(y, (.slice Ay y.l.length cly))]) (i := 0) argE_len rfl ((ow.keep hk).row 0 rfl) rfl) rfl) rfl <|
    armS (wg (j := 3) (b := false) rfl rfl rfl) (fun aa ww hk bs hd => xnot rfl (dp hd 7 rfl)) rfl <|
    aS (fun hk bs hd => xpickF rfl (dp hd 3 rfl) (dp hd 8 rfl)) rfl <|
    arm0) fun fa fw bs hv ap z q ow => ?_
  obtain ⟨s4, s5, s6, s7⟩ := b4 bs s4 s5 s6 s7; have s30 := gv hv 9 rfl rfl; refine wt hK4 ?_
  by_cases hc1 : ¬ (y.w = true)
  ·refine ct s30 ((bnot (Iff.rfl)).2 hc1) ?_
   refine sq fun hK5 => ?_
   refine ro [yV (.bool true), yV _] 2 181 z q ow (
     aC (fun hk bs hd => xcall0 rfl (en_louvrelaw16_awake _ _)) (fun hk bs hd => awake16_any _ mx (HM.kept (ow.keep hk).kept)) rfl <|
     asD 0 rfl rfl rfl rfl rfl rfl <|
     arm0) fun fa fw bs hv ap z q ow => ?_
   obtain ⟨s4, s5, s7⟩ := b3 bs s4 s5 s7; have s6 := gv hv 1 rfl rfl; refine wt hK5 ?_; refine wp_ret ?_; refine then_r ?_; refine results_one rfl (res_tmp s6) q ?_; exact ⟨rfl, ow.kept⟩
  refine cf s30 (bnot (Iff.rfl)) hc1 ?_; have hyw : y.w = true := Classical.not_not.1 hc1; have hwd := wide_1024 hyo hyw; refine wp_skip ?_; refine tn hK3 ?_; refine sq fun hK6 => ?_
  refine ro [yV (aggV a1), yV (aggV (vGood a1)), yV (.agg #[.bool false, .int .u8 ((vGood a1).k), .int .i64 ((vGood a1).n), .string ⟨((vGood a1).t).toArray⟩, .int .i64 0, .int .i64 0, .int .i64 0, .int .i64 0, .slice none 0 0]), yNew fw.heap.size (.cells #[.bool false, .int .u8 0, .int .i64 0, .string ⟨[].toArray⟩, .int .i64 0, .int .i64 0, .int .i64 0, .int .i64 0, .slice none 0 0] 39 (0, 0))] 4 181 z q ow (
    aS (fun hk bs hd => xloadN 3 rfl (by kernel_rfl) (by kernel_rfl) (bg bs s4) ((ow.keep hk).box 4 rfl) (Nat.le_of_ble_eq_true rfl) rfl) rfl <|
    aC (fun hk bs hd => xcall1 rfl (dp hd 0 rfl) (en_louvrelaw13_Good _ _)) (fun hk bs hd => good_any a1 _ w1) rfl <|
    arm (fun aa ww hk bs hd => by
      have d1 : aa.eval (.tmp 33) = aggV (vGood a1) := depX hd 1 rfl; exact stepX_same (v := .agg #[.bool false, .int .u8 ((vGood a1).k), .int .i64 ((vGood a1).n), .string ⟨((vGood a1).t).toArray⟩, .int .i64 0, .int .i64 0, .int .i64 0, .int .i64 0, .slice none 0 0]) (want0 rfl) (xbuild (us := #[(1, aggV (vGood a1))]) rfl (by simp only [List.map_toArray, List.map_cons, List.map_nil, d1]) (by kernel_rfl)) rfl rfl
      ) <|
    aP (fun hk bs hd => xalloc rfl (by kernel_rfl)) rfl <|
    arm0) fun fa fw bs hv ap z q ov => ?_
  obtain ⟨s5, s6, s7⟩ := b3 bs s5 s6 s7; have s34 := gv hv 2 rfl rfl; obtain ⟨gb5, s8, bgb5, hgb5⟩ := gotP hv 3 rfl rfl rfl; have ov := ov.cons hgb5 (Nat.le_trans ow.kept.size bgb5) (ow.below bgb5); have ow := ov; refine ws ow 0 0 s8 s34 fun fw ow => ?_; refine wt hK6 ?_; refine sq fun hK7 => ?_
  refine ro [yV (.agg #[.bool false, .int .u8 ((vGood a1).k), .int .i64 ((vGood a1).n), .string ⟨((vGood a1).t).toArray⟩, .int .i64 0, .int .i64 0, .int .i64 0, .int .i64 0, .slice none 0 0]), yV _, yV _, yV (.agg #[.bool y.w, .int .u8 y.v.k, .int .i64 y.v.n, .string ⟨y.v.t.toArray⟩, .int .i64 y.x.c1, .int .i64 y.x.r1, .int .i64 y.x.c2, .int .i64 y.x.r2, .slice Ay y.l.length cly]), ySlice fw.heap.size 2 (argsObj [((wv (vGood a1)), .slice none 0 0), (y, .slice Ay y.l.length cly)]), yV (aggV ((vCall16 44 [(wv (vGood a1)), y]).1)), yV _, yV _, yV (.agg #[.bool y.w, .int .u8 y.v.k, .int .i64 y.v.n, .string ⟨y.v.t.toArray⟩, .int .i64 y.x.c1, .int .i64 y.x.r1, .int .i64 y.x.c2, .int .i64 y.x.r2, .slice Ay y.l.length cly]), yV (.agg #[.bool false, .int .u8 ((vGood a1).k), .int .i64 ((vGood a1).n), .string ⟨((vGood a1).t).toArray⟩, .int .i64 0, .int .i64 0, .int .i64 0, .int .i64 0, .slice none 0 0]), ySlice fw.heap.size 2 (argsObj [(y, .slice Ay y.l.length cly), ((wv (vGood a1)), .slice none 0 0)]), yV (aggV ((vCall16 45 [y, (wv (vGood a1))]).1)), yNew fw.heap.size (.cells #[.int .u8 0, .int .i64 0, .string ⟨[].toArray⟩] 25 (0, 0)), yNew fw.heap.size (.cells #[.int .u8 0, .int .i64 0, .string ⟨[].toArray⟩] 25 (0, 0))] 14 181 z q ow (
    aS (fun hk bs hd => xloadN 9 rfl (by kernel_rfl) (by kernel_rfl) (bg bs s8) ((ow.keep hk).box 0 rfl) (Nat.le_of_ble_eq_true rfl) rfl) rfl <|
    mvS s7 rfl rfl rfl rfl <|
    aS (fun hk bs hd => xplaceK 9 Tryz.underlying22 (by kernel_rfl) rfl (i := 0) rfl (dp hd 1 rfl) rfl (by decide)) rfl <|
    aS (fun hk bs hd => xpartK (n := 9) 0 rfl (by kernel_rfl) (by kernel_rfl) (dp hd 2 rfl) rfl (own_elem (l := [(y, (.slice Ay y.l.length cly))]) (i := 0) argE_len rfl ((ow.keep hk).row 1 rfl) rfl)) rfl <|
    arm (fun aa ww hk bs hd => by
      have d0 : aa.eval (.tmp 35) = .agg #[.bool false, .int .u8 ((vGood a1).k), .int .i64 ((vGood a1).n), .string ⟨((vGood a1).t).toArray⟩, .int .i64 0, .int .i64 0, .int .i64 0, .int .i64 0, .slice none 0 0] := depX hd 0 rfl; have d3 : aa.eval (.tmp 38) = .agg #[.bool y.w, .int .u8 y.v.k, .int .i64 y.v.n, .string ⟨y.v.t.toArray⟩, .int .i64 y.x.c1, .int .i64 y.x.r1, .int .i64 y.x.c2, .int .i64 y.x.r2, .slice Ay y.l.length cly] := depX hd 3 rfl; exact stepX_new _ (want0 rfl) (xbuildSlice (us := #[(0, .agg #[.bool false, .int .u8 ((vGood a1).k), .int .i64 ((vGood a1).n), .string ⟨((vGood a1).t).toArray⟩, .int .i64 0, .int .i64 0, .int .i64 0, .int .i64 0, .slice none 0 0]), (1, .agg #[.bool y.w, .int .u8 y.v.k, .int .i64 y.v.n, .string ⟨y.v.t.toArray⟩, .int .i64 y.x.c1, .int .i64 y.x.r1, .int .i64 y.x.c2, .int .i64 y.x.r2, .slice Ay y.l.length cly])]) (b := argsObj [((wv (vGood a1)), .slice none 0 0), (y, .slice Ay y.l.length cly)]) rfl (by simp only [List.map_toArray, List.map_cons, List.map_nil, d0, d3]) (by kernel_rfl)) ⟨_, rfl, hk.size, Go.heap_alloc_new _ _⟩ ((Kept.refl _).alloc _) rfl (Nat.le_refl _)
      ) <|
    arm (fun aa ww hk bs hd => by
      have d4 := dL hd 4 rfl; obtain ⟨g4, e4, _, h4⟩ := d4; exact stepX_enter (want0 rfl) (xcall2 (u := .int .u8 44) (v := .slice (some ⟨g4, 0, none⟩) 2 2) rfl rfl e4 (en_louvrelaw16_of _ _)) ((of16_any 44 (some ⟨g4, 0, none⟩) 2 [(wv (vGood a1)), y] ww mx (HM.kept (ow.keep hk).kept) (argsObj_at (L := [((wv (vGood a1)), .slice none 0 0), (y, .slice Ay y.l.length cly)]) h4 (atCons (CellsAt.nil _) (atCons (cellsAt_own (p := (y, (.slice Ay y.l.length cly))) ((ow.keep hk).thing 2 rfl)) atNil))) (fit_cons (small_wv sv).1 (small_wv sv).2 (Nat.le_of_ble_eq_true rfl) (fit_cons fy.1 fy.2 (Nat.le_of_ble_eq_true rfl) fit_nil)) (Nat.le_of_ble_eq_true rfl)).mono fun _ _ ⟨he, hk2⟩ => ⟨_, he, rfl, hk2⟩) rfl
      ) <|
    mvS s7 rfl rfl rfl rfl <|
    aS (fun hk bs hd => xplaceK 9 Tryz.underlying22 (by kernel_rfl) rfl (i := 0) rfl (dp hd 6 rfl) rfl (by decide)) rfl <|
    aS (fun hk bs hd => xpartK (n := 9) 0 rfl (by kernel_rfl) (by kernel_rfl) (dp hd 7 rfl) rfl (own_elem (l := [(y, (.slice Ay y.l.length cly))]) (i := 0) argE_len rfl ((ow.keep hk).row 1 rfl) rfl)) rfl <|
    aS (fun hk bs hd => xloadN 9 rfl (by kernel_rfl) (by kernel_rfl) (bg bs s8) ((ow.keep hk).box 0 rfl) (Nat.le_of_ble_eq_true rfl) rfl) rfl <|
    arm (fun aa ww hk bs hd => by
      have d8 : aa.eval (.tmp 43) = .agg #[.bool y.w, .int .u8 y.v.k, .int .i64 y.v.n, .string ⟨y.v.t.toArray⟩, .int .i64 y.x.c1, .int .i64 y.x.r1, .int .i64 y.x.c2, .int .i64 y.x.r2, .slice Ay y.l.length cly] := depX hd 8 rfl; have d9 : aa.eval (.tmp 44) = .agg #[.bool false, .int .u8 ((vGood a1).k), .int .i64 ((vGood a1).n), .string ⟨((vGood a1).t).toArray⟩, .int .i64 0, .int .i64 0, .int .i64 0, .int .i64 0, .slice none 0 0] := depX hd 9 rfl; exact stepX_new _ (want0 rfl) (xbuildSlice (us := #[(0, .agg #[.bool y.w, .int .u8 y.v.k, .int .i64 y.v.n, .string ⟨y.v.t.toArray⟩, .int .i64 y.x.c1, .int .i64 y.x.r1, .int .i64 y.x.c2, .int .i64 y.x.r2, .slice Ay y.l.length cly]), (1, .agg #[.bool false, .int .u8 ((vGood a1).k), .int .i64 ((vGood a1).n), .string ⟨((vGood a1).t).toArray⟩, .int .i64 0, .int .i64 0, .int .i64 0, .int .i64 0, .slice none 0 0])]) (b := argsObj [(y, .slice Ay y.l.length cly), ((wv (vGood a1)), .slice none 0 0)]) rfl (by simp only [List.map_toArray, List.map_cons, List.map_nil, d8, d9]) (by kernel_rfl)) ⟨_, rfl, hk.size, Go.heap_alloc_new _ _⟩ ((Kept.refl _).alloc _) rfl (Nat.le_refl _)
      ) <|
    arm (fun aa ww hk bs hd => by
      have d10 := dL hd 10 rfl; obtain ⟨g10, e10, _, h10⟩ := d10; exact stepX_enter (want0 rfl) (xcall2 (u := .int .u8 45) (v := .slice (some ⟨g10, 0, none⟩) 2 2) rfl rfl e10 (en_louvrelaw16_of _ _)) ((of16_any 45 (some ⟨g10, 0, none⟩) 2 [y, (wv (vGood a1))] ww mx (HM.kept (ow.keep hk).kept) (argsObj_at (L := [(y, .slice Ay y.l.length cly), ((wv (vGood a1)), .slice none 0 0)]) h10 (atCons (cellsAt_own (p := (y, (.slice Ay y.l.length cly))) ((ow.keep hk).thing 2 rfl)) (atCons (CellsAt.nil _) atNil))) (fit_cons fy.1 fy.2 (Nat.le_of_ble_eq_true rfl) (fit_cons (small_wv sv).1 (small_wv sv).2 (Nat.le_of_ble_eq_true rfl) fit_nil)) (Nat.le_of_ble_eq_true rfl)).mono fun _ _ ⟨he, hk2⟩ => ⟨_, he, rfl, hk2⟩) rfl
      ) <|
    aP (fun hk bs hd => xalloc rfl (by kernel_rfl)) rfl <|
    aP (fun hk bs hd => xalloc rfl (by kernel_rfl)) rfl <|
    arm0) fun fa fw bs hv ap z q ov => ?_
  obtain ⟨s5, s6, s7, s8⟩ := b4 bs s5 s6 s7 s8; have s40 := gv hv 5 rfl rfl; have s46 := gv hv 11 rfl rfl; obtain ⟨gb6, s9, bgb6, hgb6⟩ := gotP hv 12 rfl rfl rfl; have ov := ov.cons hgb6 (Nat.le_trans ow.kept.size bgb6) (ow.below bgb6); obtain ⟨gb7, s10, bgb7, hgb7⟩ := gotP hv 13 rfl rfl rfl; have ov := ov.cons hgb7 (Nat.le_trans ow.kept.size bgb7) (ne_cons (apartP ap 12 13 rfl rfl rfl s9 rfl s10 rfl) (ow.below bgb7)); have ow := ov; refine ws ow 1 0 s9 s40 fun fw ow => ?_; refine ws ow 0 0 s10 s46 fun fw ow => ?_; refine wt hK7 ?_; refine sq fun hK8 => ?_; refine sq fun hK9 => ?_
  refine ro [yV (.pointer (some ⟨gb5, 1, none⟩)), yV (.pointer (some ⟨gb5, 1, none⟩)), yV _, yV _] 4 181 z q ow (
    aS (fun hk bs hd => xfieldAddr rfl (bg bs s8) (by kernel_rfl)) rfl <|
    aS (fun hk bs hd => xfieldAddr rfl (dp hd 0 rfl) (by kernel_rfl)) rfl <|
    aS (fun hk bs hd => xloadB rfl (by kernel_rfl) (dp hd 1 rfl) ((ow.keep hk).box 2 rfl) rfl) rfl <|
    aS (fun hk bs hd => xeqi rfl (dp hd 2 rfl) rfl) rfl <|
    arm0) fun fa fw bs hv ap z q ow => ?_
  obtain ⟨s5, s6, s7, s8, s9, s10⟩ := b6 bs s5 s6 s7 s8 s9 s10; have s50 := gv hv 3 rfl rfl; refine wt hK9 ?_
  by_cases hc2 : ((vGood a1).k : Int) = (4 : Int)
  ·refine ct s50 ((decide_eq_true_iff).2 hc2) ?_
   have hfe := finds_err okv hyo hc2; refine sq fun hK10 => ?_
   refine ro [yV (aggV ((vCall16 44 [(wv (vGood a1)), y]).1)), yV (.pointer (some ⟨gb5, 1, none⟩)), yV (aggV (vGood a1)), yV (.bool true), yV _, yV (aggV ((vCall16 45 [y, (wv (vGood a1))]).1)), yV (.pointer (some ⟨gb5, 1, none⟩)), yV (aggV (vGood a1)), yV (.bool true), yV _, yV _, yV (.bool true), yV _, yV _] 14 181 z q ow (
     aS (fun hk bs hd => xloadN 3 rfl (by kernel_rfl) (by kernel_rfl) (bg bs s9) ((ow.keep hk).box 1 rfl) (Nat.le_of_ble_eq_true rfl) rfl) rfl <|
     aS (fun hk bs hd => xfieldAddr rfl (bg bs s8) (by kernel_rfl)) rfl <|
     aS (fun hk bs hd => xloadN 3 rfl (by kernel_rfl) (by kernel_rfl) (dp hd 1 rfl) ((ow.keep hk).box 2 rfl) (Nat.le_of_ble_eq_true rfl) rfl) rfl <|
     aE (fun hk bs hd => xeqv rfl (dp hd 0 rfl) (dp hd 2 rfl)) (congrArg Value.bool (sameV_of hfe.1)) rfl <|
     mvD 3 rfl rfl rfl rfl rfl rfl <|
     armS (wg (j := 4) (b := true) rfl rfl rfl) (fun aa ww hk bs hd => xloadN 3 rfl (by kernel_rfl) (by kernel_rfl) (bg bs s10) ((ow.keep hk).box 0 rfl) (Nat.le_of_ble_eq_true rfl) rfl) rfl <|
     armS (wg (j := 4) (b := true) rfl rfl rfl) (fun aa ww hk bs hd => xfieldAddr rfl (bg bs s8) (by kernel_rfl)) rfl <|
     armS (wg (j := 4) (b := true) rfl rfl rfl) (fun aa ww hk bs hd => xloadN 3 rfl (by kernel_rfl) (by kernel_rfl) (dp hd 6 rfl) ((ow.keep hk).box 2 rfl) (Nat.le_of_ble_eq_true rfl) rfl) rfl <|
     armE (wg (j := 4) (b := true) rfl rfl rfl) (fun aa ww hk bs hd => xeqv rfl (dp hd 5 rfl) (dp hd 7 rfl)) (congrArg Value.bool (sameV_of hfe.2)) rfl <|
     aS (fun hk bs hd => xpickT rfl (dp hd 4 rfl) (dp hd 8 rfl)) rfl <|
     mvD 9 rfl rfl rfl rfl rfl rfl <|
     armC (wg (j := 10) (b := true) rfl rfl rfl) (fun aa ww hk bs hd => xcall0 rfl (en_louvrelaw16_awake _ _)) (fun aa ww hk bs hd => awake16_any ww mx (HM.kept (ow.keep hk).kept)) rfl <|
     aS (fun hk bs hd => xpickT rfl (dp hd 10 rfl) (dp hd 11 rfl)) rfl <|
     asD 12 rfl rfl rfl rfl rfl rfl <|
     arm0) fun fa fw bs hv ap z q ow => ?_
   obtain ⟨s5, s7, s8, s9, s10⟩ := b5 bs s5 s7 s8 s9 s10; have s6 := gv hv 13 rfl rfl; refine wt hK10 ?_; refine wp_ret ?_; refine then_r ?_; refine results_one rfl (res_tmp s6) q ?_; exact ⟨rfl, ow.kept⟩
  refine cf s50 (decide_eq_true_iff) hc2 ?_; obtain ⟨m, n, eN, hn0, eM⟩ := finds_main okv hyo hyw hc2; refine wp_skip ?_; refine tn hK8 ?_; refine sq fun hK11 => ?_; refine sq fun hK12 => ?_
  refine ro [yV (.pointer (some ⟨gb7, 0, none⟩)), yV _, yV _, yV _, yIf _ (yV (.pointer (some ⟨gb6, 0, none⟩))), yIf _ (yV _), yIf _ (yV _), yIf _ (yV (.pointer (some ⟨gb7, 1, none⟩))), yIf _ (yV _), yIf _ (yV _), yIf _ (yV _), yV _, yV _, yIf _ (yV (.pointer (some ⟨gb6, 0, none⟩))), yIf _ (yV _), yIf _ (yV _), yIf _ (yV _), yIf _ (yV (aggV ((vCall16 44 [(wv (vGood a1)), y]).1))), yIf _ (yV (aggV (⟨4, 4, []⟩ : Vl))), yIf _ (yV _), yIf _ (yV _), yV _] 22 181 z q ow (
    aS (fun hk bs hd => xfieldAddr rfl (bg bs s10) (by kernel_rfl)) rfl <|
    aS (fun hk bs hd => xloadB rfl (by kernel_rfl) (dp hd 0 rfl) ((ow.keep hk).box 0 rfl) rfl) rfl <|
    aS (fun hk bs hd => xnei rfl (dp hd 1 rfl) rfl) rfl <|
    mvD 2 rfl rfl rfl rfl rfl rfl <|
    ai (g1 3 rfl rfl) (fun hk bs hd hz => xfieldAddr rfl (bg bs s9) (by kernel_rfl)) rfl <|
    ai (g1 3 rfl rfl) (fun hk bs hd hz => xloadB rfl (by kernel_rfl) (di hd 4 rfl hz) ((ow.keep hk).box 1 rfl) rfl) rfl <|
    ai (g1 3 rfl rfl) (fun hk bs hd hz => xeqi rfl (di hd 5 rfl hz) rfl) rfl <|
    ai (g1 3 rfl rfl) (fun hk bs hd hz => xfieldAddr rfl (bg bs s10) (by kernel_rfl)) rfl <|
    ai (g1 3 rfl rfl) (fun hk bs hd hz => xloadB rfl (by kernel_rfl) (di hd 7 rfl hz) ((ow.keep hk).box 0 rfl) rfl) rfl <|
    ai (g1 3 rfl rfl) (fun hk bs hd hz => xgtr rfl (di hd 8 rfl hz) rfl) rfl <|
    ai (g1 3 rfl rfl) (fun hk bs hd hz => xneB rfl (di hd 6 rfl hz) (di hd 9 rfl hz)) rfl <|
    aS (fun hk bs hd => xor_ rfl (dp hd 3 rfl) rfl (fun hb => di hd 10 rfl hb)) rfl <|
    mvD 11 rfl rfl rfl rfl rfl rfl <|
    ai (g1 12 rfl rfl) (fun hk bs hd hz => xfieldAddr rfl (bg bs s9) (by kernel_rfl)) rfl <|
    ai (g1 12 rfl rfl) (fun hk bs hd hz => xloadB rfl (by kernel_rfl) (di hd 13 rfl hz) ((ow.keep hk).box 1 rfl) rfl) rfl <|
    ai (g1 12 rfl rfl) (fun hk bs hd hz => xnei rfl (di hd 14 rfl hz) rfl) rfl <|
    ai (g1 12 rfl rfl) (fun hk bs hd hz => xmove rfl (di hd 15 rfl hz)) rfl <|
    ai (g2 16 rfl rfl) (fun hk bs hd hz => xloadN 3 rfl (by kernel_rfl) (by kernel_rfl) (bg bs s9) ((ow.keep hk).box 1 rfl) (Nat.le_of_ble_eq_true rfl) rfl) rfl <|
    ai (g2 16 rfl rfl) (fun hk bs hd hz => xbuild (us := #[(0, .int .u8 4), (1, .int .i64 4)]) rfl (by simp only [List.map_toArray, List.map_cons, List.map_nil]; rfl) (by kernel_rfl)) rfl <|
    ai (g2 16 rfl rfl) (fun hk bs hd hz => xnev rfl (di hd 17 rfl hz) (di hd 18 rfl hz)) rfl <|
    ai (g1 12 rfl rfl) (fun hk bs hd hz => xand rfl (di hd 16 rfl hz) (fun hb => di hd 19 rfl ⟨hz, hb⟩) rfl) rfl <|
    aS (fun hk bs hd => xor_ rfl (dp hd 12 rfl) rfl (fun hb => di hd 20 rfl hb)) rfl <|
    arm0) fun fa fw bs hv ap z q ow => ?_
  obtain ⟨s5, s6, s7, s8, s9⟩ := b5 bs s5 s6 s7 s8 s9; have s85 := gv hv 21 rfl rfl; refine wt hK12 ?_
  by_cases hc3 : (((((vCall16 45 [y, (wv (vGood a1))]).1).k : Int) ≠ (1 : Int)) ∨ (((decide ((((vCall16 44 [(wv (vGood a1)), y]).1).k : Int) = (1 : Int))) != (decide ((0 : Int) < (((vCall16 45 [y, (wv (vGood a1))]).1).n : Int)))) = true)) ∨ (((((vCall16 44 [(wv (vGood a1)), y]).1).k : Int) ≠ (1 : Int)) ∧ (¬ ((sameV ((vCall16 44 [(wv (vGood a1)), y]).1) (⟨4, 4, []⟩ : Vl)) = true)))
  ·refine ct s85 ((bor (bor (decide_eq_true_iff) (Iff.rfl)) (band (decide_eq_true_iff) (bnot (Iff.rfl)))).2 hc3) ?_
   refine sq fun hK13 => ?_; exact absurd hc3 (finds_no eN hn0 eM)
  refine cf s85 (bor (bor (decide_eq_true_iff) (Iff.rfl)) (band (decide_eq_true_iff) (bnot (Iff.rfl)))) hc3 ?_; refine wp_skip ?_; refine tn hK11 ?_; refine sq fun hK14 => ?_; refine sq fun hK15 => ?_
  refine ro [yV (.pointer (some ⟨gb6, 0, none⟩)), yV _, yV _] 3 181 z q ow (
    aS (fun hk bs hd => xfieldAddr rfl (bg bs s9) (by kernel_rfl)) rfl <|
    aS (fun hk bs hd => xloadB rfl (by kernel_rfl) (dp hd 0 rfl) ((ow.keep hk).box 1 rfl) rfl) rfl <|
    aS (fun hk bs hd => xeqi rfl (dp hd 1 rfl) rfl) rfl <|
    arm0) fun fa fw bs hv ap z q ow => ?_
  obtain ⟨s5, s6, s7, s8, s9⟩ := b5 bs s5 s6 s7 s8 s9; have s88 := gv hv 2 rfl rfl; refine wt hK15 ?_
  by_cases hc4 : (((vCall16 44 [(wv (vGood a1)), y]).1).k : Int) = (1 : Int)
  ·refine ct s88 ((decide_eq_true_iff).2 hc4) ?_
   have tx := tmod_rng x2 40 (by decide); have ty := tmod_rng y2 40 (by decide); obtain ⟨eM1, hn1, hmo, hm0, hm1, eC1⟩ := finds_yes eM hc4; have eC : vCmp (vCall16 43 [y, wv (vCall16 44 [wv (vGood a1), y]).1]).1 (vGood a1) = (0, 0) := by rw [eM1]; exact eC1
   have ha := find_small eM1 hyo hyw hys.2 hmo; have hb := sv; refine sq fun hK16 => ?_
   refine ro [yV _, yV _, yV (.agg #[.bool y.w, .int .u8 y.v.k, .int .i64 y.v.n, .string ⟨y.v.t.toArray⟩, .int .i64 y.x.c1, .int .i64 y.x.r1, .int .i64 y.x.c2, .int .i64 y.x.r2, .slice Ay y.l.length cly]), yV (aggV ((vCall16 44 [(wv (vGood a1)), y]).1)), yV (.agg #[.bool false, .int .u8 (((vCall16 44 [(wv (vGood a1)), y]).1).k), .int .i64 (((vCall16 44 [(wv (vGood a1)), y]).1).n), .string ⟨(((vCall16 44 [(wv (vGood a1)), y]).1).t).toArray⟩, .int .i64 0, .int .i64 0, .int .i64 0, .int .i64 0, .slice none 0 0]), ySlice fw.heap.size 2 (argsObj [(y, .slice Ay y.l.length cly), ((wv ((vCall16 44 [(wv (vGood a1)), y]).1)), .slice none 0 0)]), yV (aggV ((vCall16 43 [y, (wv ((vCall16 44 [(wv (vGood a1)), y]).1))]).1)), yV (.pointer (some ⟨gb5, 1, none⟩)), yV (aggV (vGood a1)), yV (.tuple #[.int .i64 ((vCmp ((vCall16 43 [y, (wv ((vCall16 44 [(wv (vGood a1)), y]).1))]).1) (vGood a1)).1), .int .i64 ((vCmp ((vCall16 43 [y, (wv ((vCall16 44 [(wv (vGood a1)), y]).1))]).1) (vGood a1)).2)]), yV _, yV _, yV _, yV _, yV _] 15 181 z q ow (
     mvS s7 rfl rfl rfl rfl <|
     aS (fun hk bs hd => xplaceK 9 Tryz.underlying22 (by kernel_rfl) rfl (i := 0) rfl (dp hd 0 rfl) rfl (by decide)) rfl <|
     aS (fun hk bs hd => xpartK (n := 9) 0 rfl (by kernel_rfl) (by kernel_rfl) (dp hd 1 rfl) rfl (own_elem (l := [(y, (.slice Ay y.l.length cly))]) (i := 0) argE_len rfl ((ow.keep hk).row 3 rfl) rfl)) rfl <|
     aS (fun hk bs hd => xloadN 3 rfl (by kernel_rfl) (by kernel_rfl) (bg bs s9) ((ow.keep hk).box 1 rfl) (Nat.le_of_ble_eq_true rfl) rfl) rfl <|
     arm (fun aa ww hk bs hd => by
       have d3 : aa.eval (.tmp 93) = aggV ((vCall16 44 [(wv (vGood a1)), y]).1) := depX hd 3 rfl; exact stepX_same (v := .agg #[.bool false, .int .u8 (((vCall16 44 [(wv (vGood a1)), y]).1).k), .int .i64 (((vCall16 44 [(wv (vGood a1)), y]).1).n), .string ⟨(((vCall16 44 [(wv (vGood a1)), y]).1).t).toArray⟩, .int .i64 0, .int .i64 0, .int .i64 0, .int .i64 0, .slice none 0 0]) (want0 rfl) (xbuild (us := #[(1, aggV ((vCall16 44 [(wv (vGood a1)), y]).1))]) rfl (by simp only [List.map_toArray, List.map_cons, List.map_nil, d3]) (by kernel_rfl)) rfl rfl
       ) <|
     arm (fun aa ww hk bs hd => by
       have d2 : aa.eval (.tmp 92) = .agg #[.bool y.w, .int .u8 y.v.k, .int .i64 y.v.n, .string ⟨y.v.t.toArray⟩, .int .i64 y.x.c1, .int .i64 y.x.r1, .int .i64 y.x.c2, .int .i64 y.x.r2, .slice Ay y.l.length cly] := depX hd 2 rfl; have d4 : aa.eval (.tmp 94) = .agg #[.bool false, .int .u8 (((vCall16 44 [(wv (vGood a1)), y]).1).k), .int .i64 (((vCall16 44 [(wv (vGood a1)), y]).1).n), .string ⟨(((vCall16 44 [(wv (vGood a1)), y]).1).t).toArray⟩, .int .i64 0, .int .i64 0, .int .i64 0, .int .i64 0, .slice none 0 0] := depX hd 4 rfl; exact stepX_new _ (want0 rfl) (xbuildSlice (us := #[(0, .agg #[.bool y.w, .int .u8 y.v.k, .int .i64 y.v.n, .string ⟨y.v.t.toArray⟩, .int .i64 y.x.c1, .int .i64 y.x.r1, .int .i64 y.x.c2, .int .i64 y.x.r2, .slice Ay y.l.length cly]), (1, .agg #[.bool false, .int .u8 (((vCall16 44 [(wv (vGood a1)), y]).1).k), .int .i64 (((vCall16 44 [(wv (vGood a1)), y]).1).n), .string ⟨(((vCall16 44 [(wv (vGood a1)), y]).1).t).toArray⟩, .int .i64 0, .int .i64 0, .int .i64 0, .int .i64 0, .slice none 0 0])]) (b := argsObj [(y, .slice Ay y.l.length cly), ((wv ((vCall16 44 [(wv (vGood a1)), y]).1)), .slice none 0 0)]) rfl (by simp only [List.map_toArray, List.map_cons, List.map_nil, d2, d4]) (by kernel_rfl)) ⟨_, rfl, hk.size, Go.heap_alloc_new _ _⟩ ((Kept.refl _).alloc _) rfl (Nat.le_refl _)
       ) <|
     arm (fun aa ww hk bs hd => by
       have d5 := dL hd 5 rfl; obtain ⟨g5, e5, _, h5⟩ := d5; exact stepX_enter (want0 rfl) (xcall2 (u := .int .u8 43) (v := .slice (some ⟨g5, 0, none⟩) 2 2) rfl rfl e5 (en_louvrelaw16_of _ _)) ((of16_any 43 (some ⟨g5, 0, none⟩) 2 [y, (wv ((vCall16 44 [(wv (vGood a1)), y]).1))] ww mx (HM.kept (ow.keep hk).kept) (argsObj_at (L := [(y, .slice Ay y.l.length cly), ((wv ((vCall16 44 [(wv (vGood a1)), y]).1)), .slice none 0 0)]) h5 (atCons (cellsAt_own (p := (y, (.slice Ay y.l.length cly))) ((ow.keep hk).thing 4 rfl)) (atCons (CellsAt.nil _) atNil))) (fit_cons fy.1 fy.2 (Nat.le_of_ble_eq_true rfl) (fit_cons (small_wv (by rw [eM1]; exact nm_small16 (by omega) (by omega))).1 (small_wv (by rw [eM1]; exact nm_small16 (by omega) (by omega))).2 (Nat.le_of_ble_eq_true rfl) fit_nil)) (Nat.le_of_ble_eq_true rfl)).mono fun _ _ ⟨he, hk2⟩ => ⟨_, he, rfl, hk2⟩) rfl
       ) <|
     aS (fun hk bs hd => xfieldAddr rfl (bg bs s8) (by kernel_rfl)) rfl <|
     aS (fun hk bs hd => xloadN 3 rfl (by kernel_rfl) (by kernel_rfl) (dp hd 7 rfl) ((ow.keep hk).box 2 rfl) (Nat.le_of_ble_eq_true rfl) rfl) rfl <|
     aC (fun hk bs hd => xcall2 rfl (dp hd 6 rfl) (dp hd 8 rfl) (en_val_Compare _ _)) (fun hk bs hd => vcompare_any ((vCall16 43 [y, (wv ((vCall16 44 [(wv (vGood a1)), y]).1))]).1) (vGood a1) _ ha.1 hb.1 (Nat.le_trans ha.2 (by decide)) (Nat.le_trans hb.2 (by decide))) rfl <|
     mvD 9 rfl rfl rfl rfl rfl rfl <|
     aS (fun hk bs hd => xextract rfl (dp hd 10 rfl) rfl) rfl <|
     aS (fun hk bs hd => xextract rfl (dp hd 10 rfl) rfl) rfl <|
     asD 11 rfl rfl rfl rfl rfl rfl <|
     asD 12 rfl rfl rfl rfl rfl rfl <|
     arm0) fun fa fw bs hv ap z q ow => ?_
   obtain ⟨s5, s6, s7⟩ := b3 bs s5 s6 s7; have s11 := gv hv 13 rfl rfl; have s12 := gv hv 14 rfl rfl; refine wt hK16 ?_; refine sq fun hK17 => ?_
   refine ro [yV _, yV _, yV _, yIf _ (yV _), yIf _ (yV _), yV _] 6 181 z q ow (
     mvS s12 rfl rfl rfl rfl <|
     aS (fun hk bs hd => xnei rfl (dp hd 0 rfl) rfl) rfl <|
     mvD 1 rfl rfl rfl rfl rfl rfl <|
     ai (g1 2 rfl rfl) (fun hk bs hd hz => xmove rfl (bg bs s11)) rfl <|
     ai (g1 2 rfl rfl) (fun hk bs hd hz => xnei rfl (di hd 3 rfl hz) rfl) rfl <|
     aS (fun hk bs hd => xor_ rfl (dp hd 2 rfl) rfl (fun hb => di hd 4 rfl hb)) rfl <|
     arm0) fun fa fw bs hv ap z q ow => ?_
   obtain ⟨s5, s6, s7⟩ := b3 bs s5 s6 s7; have s107 := gv hv 5 rfl rfl; refine wt hK17 ?_
   by_cases hc5 : (((vCmp ((vCall16 43 [y, (wv ((vCall16 44 [(wv (vGood a1)), y]).1))]).1) (vGood a1)).2 : Int) ≠ (0 : Int)) ∨ (((vCmp ((vCall16 43 [y, (wv ((vCall16 44 [(wv (vGood a1)), y]).1))]).1) (vGood a1)).1 : Int) ≠ (0 : Int))
   ·refine ct s107 ((bor (decide_eq_true_iff) (decide_eq_true_iff)).2 hc5) ?_
    refine sq fun hK18 => ?_; exact absurd hc5 (finds_no2 eC)
   refine cf s107 (bor (decide_eq_true_iff) (decide_eq_true_iff)) hc5 ?_; refine wp_skip ?_; refine tn hK14 ?_; refine sq fun hK19 => ?_
   refine ro [yV (.pointer (some ⟨gb3, 0, none⟩)), yV _, yV _, yV _, yV _, yV (.pointer (some ⟨gb3, 1, none⟩)), yV _, yV _, yV _, yV _, yV _, yV _] 12 181 z q ow (
     aS (fun hk bs hd => xindexAddr rfl (bg bs s5) rfl (by kernel_rfl)) rfl <|
     aS (fun hk bs hd => xloadB rfl (by kernel_rfl) (dp hd 0 rfl) ((ow.keep hk).box 6 rfl) rfl) rfl <|
     aS (fun hk bs hd => xrem (Or.inl rfl) rfl (dp hd 1 rfl) rfl (by omega) (by omega) (by omega)) rfl <|
     aS (fun hk bs hd => xadd (Or.inl rfl) rfl (dp hd 2 rfl) rfl (by omega) (by omega)) rfl <|
     aS (fun hk bs hd => xrem (Or.inl rfl) rfl (dp hd 3 rfl) rfl (by omega) (by omega) (by omega)) rfl <|
     aS (fun hk bs hd => xindexAddr rfl (bg bs s5) rfl (by kernel_rfl)) rfl <|
     aS (fun hk bs hd => xloadB rfl (by kernel_rfl) (dp hd 5 rfl) ((ow.keep hk).box 6 rfl) rfl) rfl <|
     aS (fun hk bs hd => xrem (Or.inl rfl) rfl (dp hd 6 rfl) rfl (by omega) (by omega) (by omega)) rfl <|
     aS (fun hk bs hd => xadd (Or.inl rfl) rfl (dp hd 7 rfl) rfl (by omega) (by omega)) rfl <|
     aS (fun hk bs hd => xrem (Or.inl rfl) rfl (dp hd 8 rfl) rfl (by omega) (by omega) (by omega)) rfl <|
     asD 4 rfl rfl rfl rfl rfl rfl <|
     asD 9 rfl rfl rfl rfl rfl rfl <|
     arm0) fun fa fw bs hv ap z q ow => ?_
   obtain ⟨s6, s7⟩ := b2 bs s6 s7; have s13 := gv hv 10 rfl rfl; have s14 := gv hv 11 rfl rfl; refine wl_nil (fun fr u => ∃ (r : Int), ∃ (c : Int), (0 ≤ r ∧ r < 40) ∧ (0 ≤ c ∧ c < 40) ∧ fr.tmps.size = 181 ∧ fr.defers = [] ∧ Own w [Th.obj gb7 (.cells #[.int .u8 (((vCall16 45 [y, (wv (vGood a1))]).1).k), .int .i64 (((vCall16 45 [y, (wv (vGood a1))]).1).n), .string ⟨(((vCall16 45 [y, (wv (vGood a1))]).1).t).toArray⟩] 25 (0, 0)), Th.obj gb6 (.cells #[.int .u8 (((vCall16 44 [(wv (vGood a1)), y]).1).k), .int .i64 (((vCall16 44 [(wv (vGood a1)), y]).1).n), .string ⟨(((vCall16 44 [(wv (vGood a1)), y]).1).t).toArray⟩] 25 (0, 0)), Th.obj gb5 (.cells #[.bool false, .int .u8 ((vGood a1).k), .int .i64 ((vGood a1).n), .string ⟨((vGood a1).t).toArray⟩, .int .i64 0, .int .i64 0, .int .i64 0, .int .i64 0, .slice none 0 0] 39 (0, 0)), argTh (.slice (some ⟨gy, 0, none⟩) 1 cy) [(y, (.slice Ay y.l.length cly))], cellTh (y, (.slice Ay y.l.length cly)), Th.obj gb4 (argsObj [((⟨true, ⟨0, 0, []⟩, ⟨x0.c1, x0.r1, x0.c2, x0.r2⟩, l0⟩ : Ar), .slice a0 l0.length cap0)]), Th.obj gb3 (.cells #[.int .i64 x2, .int .i64 y2] 49 (0, 0)), Th.obj gb2 (.cells #[.int .u8 a1.k, .int .i64 a1.n, .string ⟨a1.t.toArray⟩] 25 (0, 0)), Th.obj gb1 (.cells #[.int .i64 x0.c1, .int .i64 x0.r1, .int .i64 x0.c2, .int .i64 x0.r2, .slice a0 l0.length cap0] 37 (0, 0))] u ∧ fr.eval (.tmp 6) = .bool false ∧ fr.eval (.tmp 7) = .slice (some ⟨gy, 0, none⟩) 1 cy ∧ fr.eval (.tmp 13) = .int .i64 r ∧ fr.eval (.tmp 14) = .int .i64 c) ⟨(Int.tmod ((Int.tmod x2 40) + 40) 40), (Int.tmod ((Int.tmod y2 40) + 40) 40), (tmod_40 _), (tmod_40 _), z, q, ow, s6, s7, s13, s14⟩ ?_
   rintro fa fw ⟨r, c, hr, hc, z, q, ow, s6, s7, s13, s14⟩; refine tn hK19 ?_; refine sq fun hK20 => ?_
   refine ro [yV _, yV _, yV (.pointer (some ⟨gy, 0 + 0 * 9 + 4, none⟩)), yV (.pointer (some ⟨gy, 0 + 0 * 9 + 4, none⟩)), yV (.pointer (some ⟨gy, 0 + 0 * 9 + 4 + 2, none⟩)), yV _, yV _, yV _, yV (.pointer (some ⟨gy, 0 + 0 * 9 + 4, none⟩)), yV (.pointer (some ⟨gy, 0 + 0 * 9 + 4, none⟩)), yV (.pointer (some ⟨gy, 0 + 0 * 9 + 4, none⟩)), yV _, yV _, yV _, yV _] 15 181 z q ow (
     mvS s7 rfl rfl rfl rfl <|
     aS (fun hk bs hd => xplaceK 9 Tryz.underlying22 (by kernel_rfl) rfl (i := 0) rfl (dp hd 0 rfl) rfl (by decide)) rfl <|
     aS (fun hk bs hd => xfieldAddr rfl (dp hd 1 rfl) (by kernel_rfl)) rfl <|
     aS (fun hk bs hd => xfieldAddr rfl (dp hd 2 rfl) (by kernel_rfl)) rfl <|
     aS (fun hk bs hd => xfieldAddr rfl (dp hd 3 rfl) (by kernel_rfl)) rfl <|
     aS (fun hk bs hd => xcellK 6 rfl (by kernel_rfl) (dp hd 4 rfl) rfl (own_elem (l := [(y, (.slice Ay y.l.length cly))]) (i := 0) argE_len rfl ((ow.keep hk).row 3 rfl) rfl) rfl) rfl <|
     mvS s7 rfl rfl rfl rfl <|
     aS (fun hk bs hd => xplaceK 9 Tryz.underlying22 (by kernel_rfl) rfl (i := 0) rfl (dp hd 6 rfl) rfl (by decide)) rfl <|
     aS (fun hk bs hd => xfieldAddr rfl (dp hd 7 rfl) (by kernel_rfl)) rfl <|
     aS (fun hk bs hd => xfieldAddr rfl (dp hd 8 rfl) (by kernel_rfl)) rfl <|
     aS (fun hk bs hd => xfieldAddr rfl (dp hd 9 rfl) (by kernel_rfl)) rfl <|
     aS (fun hk bs hd => xcellK 4 rfl (by kernel_rfl) (dp hd 10 rfl) rfl (own_elem (l := [(y, (.slice Ay y.l.length cly))]) (i := 0) argE_len rfl ((ow.keep hk).row 3 rfl) rfl) rfl) rfl <|
     aS (fun hk bs hd => xsub (Or.inl rfl) rfl (dp hd 5 rfl) (dp hd 11 rfl) (by (try dsimp only); omega) (by (try dsimp only); omega)) rfl <|
     aS (fun hk bs hd => xadd (Or.inl rfl) rfl (dp hd 12 rfl) rfl (by (try dsimp only); omega) (by (try dsimp only); omega)) rfl <|
     asD 13 rfl rfl rfl rfl rfl rfl <|
     arm0) fun fa fw bs hv ap z q ow => ?_
   obtain ⟨s6, s7, s13, s14⟩ := b4 bs s6 s7 s13 s14; have s15 := gv hv 14 rfl rfl; refine wt hK20 ?_; refine sq fun hK21 => ?_
   refine ro [yV _, yV _, yV (.agg #[.bool y.w, .int .u8 y.v.k, .int .i64 y.v.n, .string ⟨y.v.t.toArray⟩, .int .i64 y.x.c1, .int .i64 y.x.r1, .int .i64 y.x.c2, .int .i64 y.x.r2, .slice Ay y.l.length cly]), yV _, yV _, yV (aggV (⟨1, r * 10000, []⟩ : Vl)), yV (.agg #[.bool false, .int .u8 1, .int .i64 (r * 10000), .string ⟨[].toArray⟩, .int .i64 0, .int .i64 0, .int .i64 0, .int .i64 0, .slice none 0 0]), yV _, yV _, yV (aggV (⟨1, c * 10000, []⟩ : Vl)), yV (.agg #[.bool false, .int .u8 1, .int .i64 (c * 10000), .string ⟨[].toArray⟩, .int .i64 0, .int .i64 0, .int .i64 0, .int .i64 0, .slice none 0 0]), ySlice fw.heap.size 3 (argsObj [(y, .slice Ay y.l.length cly), ((wv (⟨1, r * 10000, []⟩ : Vl)), .slice none 0 0), ((wv (⟨1, c * 10000, []⟩ : Vl)), .slice none 0 0)]), yV (aggV ((vCall16 43 [y, (wv (⟨1, r * 10000, []⟩ : Vl)), (wv (⟨1, c * 10000, []⟩ : Vl))]).1)), yNew fw.heap.size (.cells #[.int .u8 0, .int .i64 0, .string ⟨[].toArray⟩] 25 (0, 0))] 14 181 z q ow (
     mvS s7 rfl rfl rfl rfl <|
     aS (fun hk bs hd => xplaceK 9 Tryz.underlying22 (by kernel_rfl) rfl (i := 0) rfl (dp hd 0 rfl) rfl (by decide)) rfl <|
     aS (fun hk bs hd => xpartK (n := 9) 0 rfl (by kernel_rfl) (by kernel_rfl) (dp hd 1 rfl) rfl (own_elem (l := [(y, (.slice Ay y.l.length cly))]) (i := 0) argE_len rfl ((ow.keep hk).row 3 rfl) rfl)) rfl <|
     mvS s13 rfl rfl rfl rfl <|
     aS (fun hk bs hd => xmul (Or.inr rfl) rfl (dp hd 3 rfl) rfl (by omega) (by omega)) rfl <|
     aC (fun hk bs hd => xcall1 rfl (dp hd 4 rfl) (en_louvrelaw16_num _ _)) (fun hk bs hd => lnum16_any (r * 10000) _) rfl <|
     arm (fun aa ww hk bs hd => by
       have d5 : aa.eval (.tmp 137) = aggV (⟨1, r * 10000, []⟩ : Vl) := depX hd 5 rfl; exact stepX_same (v := .agg #[.bool false, .int .u8 1, .int .i64 (r * 10000), .string ⟨[].toArray⟩, .int .i64 0, .int .i64 0, .int .i64 0, .int .i64 0, .slice none 0 0]) (want0 rfl) (xbuild (us := #[(1, aggV (⟨1, r * 10000, []⟩ : Vl))]) rfl (by simp only [List.map_toArray, List.map_cons, List.map_nil, d5]) (by kernel_rfl)) rfl rfl
       ) <|
     mvS s14 rfl rfl rfl rfl <|
     aS (fun hk bs hd => xmul (Or.inr rfl) rfl (dp hd 7 rfl) rfl (by omega) (by omega)) rfl <|
     aC (fun hk bs hd => xcall1 rfl (dp hd 8 rfl) (en_louvrelaw16_num _ _)) (fun hk bs hd => lnum16_any (c * 10000) _) rfl <|
     arm (fun aa ww hk bs hd => by
       have d9 : aa.eval (.tmp 141) = aggV (⟨1, c * 10000, []⟩ : Vl) := depX hd 9 rfl; exact stepX_same (v := .agg #[.bool false, .int .u8 1, .int .i64 (c * 10000), .string ⟨[].toArray⟩, .int .i64 0, .int .i64 0, .int .i64 0, .int .i64 0, .slice none 0 0]) (want0 rfl) (xbuild (us := #[(1, aggV (⟨1, c * 10000, []⟩ : Vl))]) rfl (by simp only [List.map_toArray, List.map_cons, List.map_nil, d9]) (by kernel_rfl)) rfl rfl
       ) <|
     arm (fun aa ww hk bs hd => by
       have d2 : aa.eval (.tmp 134) = .agg #[.bool y.w, .int .u8 y.v.k, .int .i64 y.v.n, .string ⟨y.v.t.toArray⟩, .int .i64 y.x.c1, .int .i64 y.x.r1, .int .i64 y.x.c2, .int .i64 y.x.r2, .slice Ay y.l.length cly] := depX hd 2 rfl; have d6 : aa.eval (.tmp 138) = .agg #[.bool false, .int .u8 1, .int .i64 (r * 10000), .string ⟨[].toArray⟩, .int .i64 0, .int .i64 0, .int .i64 0, .int .i64 0, .slice none 0 0] := depX hd 6 rfl; have d10 : aa.eval (.tmp 142) = .agg #[.bool false, .int .u8 1, .int .i64 (c * 10000), .string ⟨[].toArray⟩, .int .i64 0, .int .i64 0, .int .i64 0, .int .i64 0, .slice none 0 0] := depX hd 10 rfl; exact stepX_new _ (want0 rfl) (xbuildSlice (us := #[(0, .agg #[.bool y.w, .int .u8 y.v.k, .int .i64 y.v.n, .string ⟨y.v.t.toArray⟩, .int .i64 y.x.c1, .int .i64 y.x.r1, .int .i64 y.x.c2, .int .i64 y.x.r2, .slice Ay y.l.length cly]), (1, .agg #[.bool false, .int .u8 1, .int .i64 (r * 10000), .string ⟨[].toArray⟩, .int .i64 0, .int .i64 0, .int .i64 0, .int .i64 0, .slice none 0 0]), (2, .agg #[.bool false, .int .u8 1, .int .i64 (c * 10000), .string ⟨[].toArray⟩, .int .i64 0, .int .i64 0, .int .i64 0, .int .i64 0, .slice none 0 0])]) (b := argsObj [(y, .slice Ay y.l.length cly), ((wv (⟨1, r * 10000, []⟩ : Vl)), .slice none 0 0), ((wv (⟨1, c * 10000, []⟩ : Vl)), .slice none 0 0)]) rfl (by simp only [List.map_toArray, List.map_cons, List.map_nil, d2, d6, d10]) (by kernel_rfl)) ⟨_, rfl, hk.size, Go.heap_alloc_new _ _⟩ ((Kept.refl _).alloc _) rfl (Nat.le_refl _)
       ) <|
     arm (fun aa ww hk bs hd => by
       have d11 := dL hd 11 rfl; obtain ⟨g11, e11, _, h11⟩ := d11; exact stepX_enter (want0 rfl) (xcall2 (u := .int .u8 43) (v := .slice (some ⟨g11, 0, none⟩) 3 3) rfl rfl e11 (en_louvrelaw16_of _ _)) ((of16_any 43 (some ⟨g11, 0, none⟩) 3 [y, (wv (⟨1, r * 10000, []⟩ : Vl)), (wv (⟨1, c * 10000, []⟩ : Vl))] ww mx (HM.kept (ow.keep hk).kept) (argsObj_at (L := [(y, .slice Ay y.l.length cly), ((wv (⟨1, r * 10000, []⟩ : Vl)), .slice none 0 0), ((wv (⟨1, c * 10000, []⟩ : Vl)), .slice none 0 0)]) h11 (atCons (cellsAt_own (p := (y, (.slice Ay y.l.length cly))) ((ow.keep hk).thing 4 rfl)) (atCons (CellsAt.nil _) (atCons (CellsAt.nil _) atNil)))) (fit_cons fy.1 fy.2 (Nat.le_of_ble_eq_true rfl) (fit_cons (small_wv (nm_small16 (by (try dsimp only); omega) (by (try dsimp only); omega))).1 (small_wv (nm_small16 (by (try dsimp only); omega) (by (try dsimp only); omega))).2 (Nat.le_of_ble_eq_true rfl) (fit_cons (small_wv (nm_small16 (by (try dsimp only); omega) (by (try dsimp only); omega))).1 (small_wv (nm_small16 (by (try dsimp only); omega) (by (try dsimp only); omega))).2 (Nat.le_of_ble_eq_true rfl) fit_nil))) (Nat.le_of_ble_eq_true rfl)).mono fun _ _ ⟨he, hk2⟩ => ⟨_, he, rfl, hk2⟩) rfl
       ) <|
     aP (fun hk bs hd => xalloc rfl (by kernel_rfl)) rfl <|
     arm0) fun fa fw bs hv ap z q ov => ?_
   obtain ⟨s6, s7, s13, s14, s15⟩ := b5 bs s6 s7 s13 s14 s15; have s144 := gv hv 12 rfl rfl; obtain ⟨gb8, s16, bgb8, hgb8⟩ := gotP hv 13 rfl rfl rfl; have ov := ov.cons hgb8 (Nat.le_trans ow.kept.size bgb8) (ow.below bgb8); have ow := ov; refine ws ow 0 0 s16 s144 fun fw ow => ?_; refine wt hK21 ?_; refine sq fun hK22 => ?_; refine sq fun hK23 => ?_
   refine ro [yV _, yV _, yV _, yIf _ (yV _), yIf _ (yV _), yV _, yV _, yIf _ (yV _), yIf _ (yV _), yIf _ (yV _), yV _] 11 181 z q ow (
     mvS s13 rfl rfl rfl rfl <|
     aS (fun hk bs hd => xlss rfl (dp hd 0 rfl) rfl) rfl <|
     mvD 1 rfl rfl rfl rfl rfl rfl <|
     ai (g1 2 rfl rfl) (fun hk bs hd hz => xmove rfl (bg bs s14)) rfl <|
     ai (g1 2 rfl rfl) (fun hk bs hd hz => xlss rfl (di hd 3 rfl hz) rfl) rfl <|
     aS (fun hk bs hd => xor_ rfl (dp hd 2 rfl) rfl (fun hb => di hd 4 rfl hb)) rfl <|
     mvD 5 rfl rfl rfl rfl rfl rfl <|
     ai (g1 6 rfl rfl) (fun hk bs hd hz => xmove rfl (bg bs s14)) rfl <|
     ai (g1 6 rfl rfl) (fun hk bs hd hz => xmove rfl (bg bs s15)) rfl <|
     ai (g1 6 rfl rfl) (fun hk bs hd hz => xgtr rfl (di hd 7 rfl hz) (di hd 8 rfl hz)) rfl <|
     aS (fun hk bs hd => xor_ rfl (dp hd 6 rfl) rfl (fun hb => di hd 9 rfl hb)) rfl <|
     arm0) fun fa fw bs hv ap z q ow => ?_
   obtain ⟨s6, s7, s13, s14, s15, s16⟩ := b6 bs s6 s7 s13 s14 s15 s16; have s155 := gv hv 10 rfl rfl; refine wt hK23 ?_
   by_cases hc6 : (((r : Int) < (1 : Int)) ∨ ((c : Int) < (1 : Int))) ∨ (((y.x.c2 - y.x.c1) + 1 : Int) < (c : Int))
   ·refine ct s155 ((bor (bor (decide_eq_true_iff) (decide_eq_true_iff)) (decide_eq_true_iff)).2 hc6) ?_
    have hlow := index_low hyo hyw hr hc hc6; refine sq fun hK24 => ?_
    refine ro [yV (aggV ((vCall16 43 [y, (wv (⟨1, r * 10000, []⟩ : Vl)), (wv (⟨1, c * 10000, []⟩ : Vl))]).1)), yV (aggV (⟨4, 5, []⟩ : Vl)), yV (.bool true), yV _, yV (.bool true), yV _, yV _] 7 181 z q ow (
      aS (fun hk bs hd => xloadN 3 rfl (by kernel_rfl) (by kernel_rfl) (bg bs s16) ((ow.keep hk).box 0 rfl) (Nat.le_of_ble_eq_true rfl) rfl) rfl <|
      aS (fun hk bs hd => xbuild (us := #[(0, .int .u8 4), (1, .int .i64 5)]) rfl (by simp only [List.map_toArray, List.map_cons, List.map_nil]; rfl) (by kernel_rfl)) rfl <|
      aE (fun hk bs hd => xeqv rfl (dp hd 0 rfl) (dp hd 1 rfl)) (congrArg Value.bool (sameV_of hlow)) rfl <|
      mvD 2 rfl rfl rfl rfl rfl rfl <|
      armC (wg (j := 3) (b := true) rfl rfl rfl) (fun aa ww hk bs hd => xcall0 rfl (en_louvrelaw16_awake _ _)) (fun aa ww hk bs hd => awake16_any ww mx (HM.kept (ow.keep hk).kept)) rfl <|
      aS (fun hk bs hd => xpickT rfl (dp hd 3 rfl) (dp hd 4 rfl)) rfl <|
      asD 5 rfl rfl rfl rfl rfl rfl <|
      arm0) fun fa fw bs hv ap z q ow => ?_
    obtain ⟨s7, s13, s14, s15, s16⟩ := b5 bs s7 s13 s14 s15 s16; have s6 := gv hv 6 rfl rfl; refine wt hK24 ?_; refine wp_ret ?_; refine then_r ?_; refine results_one rfl (res_tmp s6) q ?_; exact ⟨rfl, ow.kept⟩
   refine cf s155 (bor (bor (decide_eq_true_iff) (decide_eq_true_iff)) (decide_eq_true_iff)) hc6 ?_; have p0 := mul_40 (r := r) (W := y.x.c2 - y.x.c1 + 1) (by omega) (by omega) (by omega) (by omega); have hsame := index_same hyo hyw hr hc hc6 rfl (by omega); refine wp_skip ?_; refine tn hK22 ?_; refine sq fun hK25 => ?_
   refine ro [yV (aggV ((vCall16 43 [y, (wv (⟨1, r * 10000, []⟩ : Vl)), (wv (⟨1, c * 10000, []⟩ : Vl))]).1)), yV _, yV _, yV (.agg #[.bool y.w, .int .u8 y.v.k, .int .i64 y.v.n, .string ⟨y.v.t.toArray⟩, .int .i64 y.x.c1, .int .i64 y.x.r1, .int .i64 y.x.c2, .int .i64 y.x.r2, .slice Ay y.l.length cly]), yV _, yV _, yV _, yV _, yV _, yV _, yV _, yV (aggV (⟨1, (((r - 1) * ((y.x.c2 - y.x.c1) + 1)) + c) * 10000, []⟩ : Vl)), yV (.agg #[.bool false, .int .u8 1, .int .i64 ((((r - 1) * ((y.x.c2 - y.x.c1) + 1)) + c) * 10000), .string ⟨[].toArray⟩, .int .i64 0, .int .i64 0, .int .i64 0, .int .i64 0, .slice none 0 0]), ySlice fw.heap.size 2 (argsObj [(y, .slice Ay y.l.length cly), ((wv (⟨1, (((r - 1) * ((y.x.c2 - y.x.c1) + 1)) + c) * 10000, []⟩ : Vl)), .slice none 0 0)]), yV (aggV ((vCall16 43 [y, (wv (⟨1, (((r - 1) * ((y.x.c2 - y.x.c1) + 1)) + c) * 10000, []⟩ : Vl))]).1)), yV (.bool true), yV _, yV (.bool true), yV _, yV _] 20 181 z q ow (
     aS (fun hk bs hd => xloadN 3 rfl (by kernel_rfl) (by kernel_rfl) (bg bs s16) ((ow.keep hk).box 0 rfl) (Nat.le_of_ble_eq_true rfl) rfl) rfl <|
     mvS s7 rfl rfl rfl rfl <|
     aS (fun hk bs hd => xplaceK 9 Tryz.underlying22 (by kernel_rfl) rfl (i := 0) rfl (dp hd 1 rfl) rfl (by decide)) rfl <|
     aS (fun hk bs hd => xpartK (n := 9) 0 rfl (by kernel_rfl) (by kernel_rfl) (dp hd 2 rfl) rfl (own_elem (l := [(y, (.slice Ay y.l.length cly))]) (i := 0) argE_len rfl ((ow.keep hk).row 4 rfl) rfl)) rfl <|
     mvS s13 rfl rfl rfl rfl <|
     aS (fun hk bs hd => xsub (Or.inr rfl) rfl (dp hd 4 rfl) rfl (by (try dsimp only); omega) (by (try dsimp only); omega)) rfl <|
     mvS s15 rfl rfl rfl rfl <|
     aS (fun hk bs hd => xmul (Or.inr rfl) rfl (dp hd 5 rfl) (dp hd 6 rfl) (by (try dsimp only); omega) (by (try dsimp only); omega)) rfl <|
     mvS s14 rfl rfl rfl rfl <|
     aS (fun hk bs hd => xadd (Or.inr rfl) rfl (dp hd 7 rfl) (dp hd 8 rfl) (by (try dsimp only); omega) (by (try dsimp only); omega)) rfl <|
     aS (fun hk bs hd => xmul (Or.inr rfl) rfl (dp hd 9 rfl) rfl (by (try dsimp only); omega) (by (try dsimp only); omega)) rfl <|
     aC (fun hk bs hd => xcall1 rfl (dp hd 10 rfl) (en_louvrelaw16_num _ _)) (fun hk bs hd => lnum16_any ((((r - 1) * ((y.x.c2 - y.x.c1) + 1)) + c) * 10000) _) rfl <|
     arm (fun aa ww hk bs hd => by
       have d11 : aa.eval (.tmp 173) = aggV (⟨1, (((r - 1) * ((y.x.c2 - y.x.c1) + 1)) + c) * 10000, []⟩ : Vl) := depX hd 11 rfl; exact stepX_same (v := .agg #[.bool false, .int .u8 1, .int .i64 ((((r - 1) * ((y.x.c2 - y.x.c1) + 1)) + c) * 10000), .string ⟨[].toArray⟩, .int .i64 0, .int .i64 0, .int .i64 0, .int .i64 0, .slice none 0 0]) (want0 rfl) (xbuild (us := #[(1, aggV (⟨1, (((r - 1) * ((y.x.c2 - y.x.c1) + 1)) + c) * 10000, []⟩ : Vl))]) rfl (by simp only [List.map_toArray, List.map_cons, List.map_nil, d11]) (by kernel_rfl)) rfl rfl
       ) <|
     arm (fun aa ww hk bs hd => by
       have d3 : aa.eval (.tmp 165) = .agg #[.bool y.w, .int .u8 y.v.k, .int .i64 y.v.n, .string ⟨y.v.t.toArray⟩, .int .i64 y.x.c1, .int .i64 y.x.r1, .int .i64 y.x.c2, .int .i64 y.x.r2, .slice Ay y.l.length cly] := depX hd 3 rfl; have d12 : aa.eval (.tmp 174) = .agg #[.bool false, .int .u8 1, .int .i64 ((((r - 1) * ((y.x.c2 - y.x.c1) + 1)) + c) * 10000), .string ⟨[].toArray⟩, .int .i64 0, .int .i64 0, .int .i64 0, .int .i64 0, .slice none 0 0] := depX hd 12 rfl; exact stepX_new _ (want0 rfl) (xbuildSlice (us := #[(0, .agg #[.bool y.w, .int .u8 y.v.k, .int .i64 y.v.n, .string ⟨y.v.t.toArray⟩, .int .i64 y.x.c1, .int .i64 y.x.r1, .int .i64 y.x.c2, .int .i64 y.x.r2, .slice Ay y.l.length cly]), (1, .agg #[.bool false, .int .u8 1, .int .i64 ((((r - 1) * ((y.x.c2 - y.x.c1) + 1)) + c) * 10000), .string ⟨[].toArray⟩, .int .i64 0, .int .i64 0, .int .i64 0, .int .i64 0, .slice none 0 0])]) (b := argsObj [(y, .slice Ay y.l.length cly), ((wv (⟨1, (((r - 1) * ((y.x.c2 - y.x.c1) + 1)) + c) * 10000, []⟩ : Vl)), .slice none 0 0)]) rfl (by simp only [List.map_toArray, List.map_cons, List.map_nil, d3, d12]) (by kernel_rfl)) ⟨_, rfl, hk.size, Go.heap_alloc_new _ _⟩ ((Kept.refl _).alloc _) rfl (Nat.le_refl _)
       ) <|
     arm (fun aa ww hk bs hd => by
       have d13 := dL hd 13 rfl; obtain ⟨g13, e13, _, h13⟩ := d13; exact stepX_enter (want0 rfl) (xcall2 (u := .int .u8 43) (v := .slice (some ⟨g13, 0, none⟩) 2 2) rfl rfl e13 (en_louvrelaw16_of _ _)) ((of16_any 43 (some ⟨g13, 0, none⟩) 2 [y, (wv (⟨1, (((r - 1) * ((y.x.c2 - y.x.c1) + 1)) + c) * 10000, []⟩ : Vl))] ww mx (HM.kept (ow.keep hk).kept) (argsObj_at (L := [(y, .slice Ay y.l.length cly), ((wv (⟨1, (((r - 1) * ((y.x.c2 - y.x.c1) + 1)) + c) * 10000, []⟩ : Vl)), .slice none 0 0)]) h13 (atCons (cellsAt_own (p := (y, (.slice Ay y.l.length cly))) ((ow.keep hk).thing 5 rfl)) (atCons (CellsAt.nil _) atNil))) (fit_cons fy.1 fy.2 (Nat.le_of_ble_eq_true rfl) (fit_cons (small_wv (nm_small16 (by (try dsimp only); omega) (by (try dsimp only); omega))).1 (small_wv (nm_small16 (by (try dsimp only); omega) (by (try dsimp only); omega))).2 (Nat.le_of_ble_eq_true rfl) fit_nil)) (Nat.le_of_ble_eq_true rfl)).mono fun _ _ ⟨he, hk2⟩ => ⟨_, he, rfl, hk2⟩) rfl
       ) <|
     aE (fun hk bs hd => xeqv rfl (dp hd 0 rfl) (dp hd 14 rfl)) (congrArg Value.bool (sameV_of hsame)) rfl <|
     mvD 15 rfl rfl rfl rfl rfl rfl <|
     armC (wg (j := 16) (b := true) rfl rfl rfl) (fun aa ww hk bs hd => xcall0 rfl (en_louvrelaw16_awake _ _)) (fun aa ww hk bs hd => awake16_any ww mx (HM.kept (ow.keep hk).kept)) rfl <|
     aS (fun hk bs hd => xpickT rfl (dp hd 16 rfl) (dp hd 17 rfl)) rfl <|
     asD 18 rfl rfl rfl rfl rfl rfl <|
     arm0) fun fa fw bs hv ap z q ow => ?_
   have s6 := gv hv 19 rfl rfl; refine wt hK25 ?_; refine wp_ret ?_; refine results_one rfl (res_tmp s6) q ?_; exact ⟨rfl, ow.kept⟩
  refine cf s88 (decide_eq_true_iff) hc4 ?_; have tx := tmod_rng x2 40 (by decide); have ty := tmod_rng y2 40 (by decide); refine wp_skip ?_; refine tn hK14 ?_; refine sq fun hK26 => ?_
  refine ro [yV (.pointer (some ⟨gb3, 0, none⟩)), yV _, yV _, yV _, yV _, yV (.pointer (some ⟨gb3, 1, none⟩)), yV _, yV _, yV _, yV _, yV _, yV _] 12 181 z q ow (
    aS (fun hk bs hd => xindexAddr rfl (bg bs s5) rfl (by kernel_rfl)) rfl <|
    aS (fun hk bs hd => xloadB rfl (by kernel_rfl) (dp hd 0 rfl) ((ow.keep hk).box 6 rfl) rfl) rfl <|
    aS (fun hk bs hd => xrem (Or.inl rfl) rfl (dp hd 1 rfl) rfl (by omega) (by omega) (by omega)) rfl <|
    aS (fun hk bs hd => xadd (Or.inl rfl) rfl (dp hd 2 rfl) rfl (by omega) (by omega)) rfl <|
    aS (fun hk bs hd => xrem (Or.inl rfl) rfl (dp hd 3 rfl) rfl (by omega) (by omega) (by omega)) rfl <|
    aS (fun hk bs hd => xindexAddr rfl (bg bs s5) rfl (by kernel_rfl)) rfl <|
    aS (fun hk bs hd => xloadB rfl (by kernel_rfl) (dp hd 5 rfl) ((ow.keep hk).box 6 rfl) rfl) rfl <|
    aS (fun hk bs hd => xrem (Or.inl rfl) rfl (dp hd 6 rfl) rfl (by omega) (by omega) (by omega)) rfl <|
    aS (fun hk bs hd => xadd (Or.inl rfl) rfl (dp hd 7 rfl) rfl (by omega) (by omega)) rfl <|
    aS (fun hk bs hd => xrem (Or.inl rfl) rfl (dp hd 8 rfl) rfl (by omega) (by omega) (by omega)) rfl <|
    asD 4 rfl rfl rfl rfl rfl rfl <|
    asD 9 rfl rfl rfl rfl rfl rfl <|
    arm0) fun fa fw bs hv ap z q ow => ?_
  obtain ⟨s6, s7⟩ := b2 bs s6 s7; have s13 := gv hv 10 rfl rfl; have s14 := gv hv 11 rfl rfl; refine wl_nil (fun fr u => ∃ (r : Int), ∃ (c : Int), (0 ≤ r ∧ r < 40) ∧ (0 ≤ c ∧ c < 40) ∧ fr.tmps.size = 181 ∧ fr.defers = [] ∧ Own w [Th.obj gb7 (.cells #[.int .u8 (((vCall16 45 [y, (wv (vGood a1))]).1).k), .int .i64 (((vCall16 45 [y, (wv (vGood a1))]).1).n), .string ⟨(((vCall16 45 [y, (wv (vGood a1))]).1).t).toArray⟩] 25 (0, 0)), Th.obj gb6 (.cells #[.int .u8 (((vCall16 44 [(wv (vGood a1)), y]).1).k), .int .i64 (((vCall16 44 [(wv (vGood a1)), y]).1).n), .string ⟨(((vCall16 44 [(wv (vGood a1)), y]).1).t).toArray⟩] 25 (0, 0)), Th.obj gb5 (.cells #[.bool false, .int .u8 ((vGood a1).k), .int .i64 ((vGood a1).n), .string ⟨((vGood a1).t).toArray⟩, .int .i64 0, .int .i64 0, .int .i64 0, .int .i64 0, .slice none 0 0] 39 (0, 0)), argTh (.slice (some ⟨gy, 0, none⟩) 1 cy) [(y, (.slice Ay y.l.length cly))], cellTh (y, (.slice Ay y.l.length cly)), Th.obj gb4 (argsObj [((⟨true, ⟨0, 0, []⟩, ⟨x0.c1, x0.r1, x0.c2, x0.r2⟩, l0⟩ : Ar), .slice a0 l0.length cap0)]), Th.obj gb3 (.cells #[.int .i64 x2, .int .i64 y2] 49 (0, 0)), Th.obj gb2 (.cells #[.int .u8 a1.k, .int .i64 a1.n, .string ⟨a1.t.toArray⟩] 25 (0, 0)), Th.obj gb1 (.cells #[.int .i64 x0.c1, .int .i64 x0.r1, .int .i64 x0.c2, .int .i64 x0.r2, .slice a0 l0.length cap0] 37 (0, 0))] u ∧ fr.eval (.tmp 6) = .bool false ∧ fr.eval (.tmp 7) = .slice (some ⟨gy, 0, none⟩) 1 cy ∧ fr.eval (.tmp 13) = .int .i64 r ∧ fr.eval (.tmp 14) = .int .i64 c) ⟨(Int.tmod ((Int.tmod x2 40) + 40) 40), (Int.tmod ((Int.tmod y2 40) + 40) 40), (tmod_40 _), (tmod_40 _), z, q, ow, s6, s7, s13, s14⟩ ?_
  rintro fa fw ⟨r, c, hr, hc, z, q, ow, s6, s7, s13, s14⟩; refine tn hK26 ?_; refine sq fun hK27 => ?_
  refine ro [yV _, yV _, yV (.pointer (some ⟨gy, 0 + 0 * 9 + 4, none⟩)), yV (.pointer (some ⟨gy, 0 + 0 * 9 + 4, none⟩)), yV (.pointer (some ⟨gy, 0 + 0 * 9 + 4 + 2, none⟩)), yV _, yV _, yV _, yV (.pointer (some ⟨gy, 0 + 0 * 9 + 4, none⟩)), yV (.pointer (some ⟨gy, 0 + 0 * 9 + 4, none⟩)), yV (.pointer (some ⟨gy, 0 + 0 * 9 + 4, none⟩)), yV _, yV _, yV _, yV _] 15 181 z q ow (
    mvS s7 rfl rfl rfl rfl <|
    aS (fun hk bs hd => xplaceK 9 Tryz.underlying22 (by kernel_rfl) rfl (i := 0) rfl (dp hd 0 rfl) rfl (by decide)) rfl <|
    aS (fun hk bs hd => xfieldAddr rfl (dp hd 1 rfl) (by kernel_rfl)) rfl <|
    aS (fun hk bs hd => xfieldAddr rfl (dp hd 2 rfl) (by kernel_rfl)) rfl <|
    aS (fun hk bs hd => xfieldAddr rfl (dp hd 3 rfl) (by kernel_rfl)) rfl <|
    aS (fun hk bs hd => xcellK 6 rfl (by kernel_rfl) (dp hd 4 rfl) rfl (own_elem (l := [(y, (.slice Ay y.l.length cly))]) (i := 0) argE_len rfl ((ow.keep hk).row 3 rfl) rfl) rfl) rfl <|
    mvS s7 rfl rfl rfl rfl <|
    aS (fun hk bs hd => xplaceK 9 Tryz.underlying22 (by kernel_rfl) rfl (i := 0) rfl (dp hd 6 rfl) rfl (by decide)) rfl <|
    aS (fun hk bs hd => xfieldAddr rfl (dp hd 7 rfl) (by kernel_rfl)) rfl <|
    aS (fun hk bs hd => xfieldAddr rfl (dp hd 8 rfl) (by kernel_rfl)) rfl <|
    aS (fun hk bs hd => xfieldAddr rfl (dp hd 9 rfl) (by kernel_rfl)) rfl <|
    aS (fun hk bs hd => xcellK 4 rfl (by kernel_rfl) (dp hd 10 rfl) rfl (own_elem (l := [(y, (.slice Ay y.l.length cly))]) (i := 0) argE_len rfl ((ow.keep hk).row 3 rfl) rfl) rfl) rfl <|
    aS (fun hk bs hd => xsub (Or.inl rfl) rfl (dp hd 5 rfl) (dp hd 11 rfl) (by (try dsimp only); omega) (by (try dsimp only); omega)) rfl <|
    aS (fun hk bs hd => xadd (Or.inl rfl) rfl (dp hd 12 rfl) rfl (by (try dsimp only); omega) (by (try dsimp only); omega)) rfl <|
    asD 13 rfl rfl rfl rfl rfl rfl <|
    arm0) fun fa fw bs hv ap z q ow => ?_
  obtain ⟨s6, s7, s13, s14⟩ := b4 bs s6 s7 s13 s14; have s15 := gv hv 14 rfl rfl; refine wt hK27 ?_; refine sq fun hK28 => ?_
  refine ro [yV _, yV _, yV (.agg #[.bool y.w, .int .u8 y.v.k, .int .i64 y.v.n, .string ⟨y.v.t.toArray⟩, .int .i64 y.x.c1, .int .i64 y.x.r1, .int .i64 y.x.c2, .int .i64 y.x.r2, .slice Ay y.l.length cly]), yV _, yV _, yV (aggV (⟨1, r * 10000, []⟩ : Vl)), yV (.agg #[.bool false, .int .u8 1, .int .i64 (r * 10000), .string ⟨[].toArray⟩, .int .i64 0, .int .i64 0, .int .i64 0, .int .i64 0, .slice none 0 0]), yV _, yV _, yV (aggV (⟨1, c * 10000, []⟩ : Vl)), yV (.agg #[.bool false, .int .u8 1, .int .i64 (c * 10000), .string ⟨[].toArray⟩, .int .i64 0, .int .i64 0, .int .i64 0, .int .i64 0, .slice none 0 0]), ySlice fw.heap.size 3 (argsObj [(y, .slice Ay y.l.length cly), ((wv (⟨1, r * 10000, []⟩ : Vl)), .slice none 0 0), ((wv (⟨1, c * 10000, []⟩ : Vl)), .slice none 0 0)]), yV (aggV ((vCall16 43 [y, (wv (⟨1, r * 10000, []⟩ : Vl)), (wv (⟨1, c * 10000, []⟩ : Vl))]).1)), yNew fw.heap.size (.cells #[.int .u8 0, .int .i64 0, .string ⟨[].toArray⟩] 25 (0, 0))] 14 181 z q ow (
    mvS s7 rfl rfl rfl rfl <|
    aS (fun hk bs hd => xplaceK 9 Tryz.underlying22 (by kernel_rfl) rfl (i := 0) rfl (dp hd 0 rfl) rfl (by decide)) rfl <|
    aS (fun hk bs hd => xpartK (n := 9) 0 rfl (by kernel_rfl) (by kernel_rfl) (dp hd 1 rfl) rfl (own_elem (l := [(y, (.slice Ay y.l.length cly))]) (i := 0) argE_len rfl ((ow.keep hk).row 3 rfl) rfl)) rfl <|
    mvS s13 rfl rfl rfl rfl <|
    aS (fun hk bs hd => xmul (Or.inr rfl) rfl (dp hd 3 rfl) rfl (by omega) (by omega)) rfl <|
    aC (fun hk bs hd => xcall1 rfl (dp hd 4 rfl) (en_louvrelaw16_num _ _)) (fun hk bs hd => lnum16_any (r * 10000) _) rfl <|
    arm (fun aa ww hk bs hd => by
      have d5 : aa.eval (.tmp 137) = aggV (⟨1, r * 10000, []⟩ : Vl) := depX hd 5 rfl; exact stepX_same (v := .agg #[.bool false, .int .u8 1, .int .i64 (r * 10000), .string ⟨[].toArray⟩, .int .i64 0, .int .i64 0, .int .i64 0, .int .i64 0, .slice none 0 0]) (want0 rfl) (xbuild (us := #[(1, aggV (⟨1, r * 10000, []⟩ : Vl))]) rfl (by simp only [List.map_toArray, List.map_cons, List.map_nil, d5]) (by kernel_rfl)) rfl rfl
      ) <|
    mvS s14 rfl rfl rfl rfl <|
    aS (fun hk bs hd => xmul (Or.inr rfl) rfl (dp hd 7 rfl) rfl (by omega) (by omega)) rfl <|
    aC (fun hk bs hd => xcall1 rfl (dp hd 8 rfl) (en_louvrelaw16_num _ _)) (fun hk bs hd => lnum16_any (c * 10000) _) rfl <|
    arm (fun aa ww hk bs hd => by
      have d9 : aa.eval (.tmp 141) = aggV (⟨1, c * 10000, []⟩ : Vl) := depX hd 9 rfl; exact stepX_same (v := .agg #[.bool false, .int .u8 1, .int .i64 (c * 10000), .string ⟨[].toArray⟩, .int .i64 0, .int .i64 0, .int .i64 0, .int .i64 0, .slice none 0 0]) (want0 rfl) (xbuild (us := #[(1, aggV (⟨1, c * 10000, []⟩ : Vl))]) rfl (by simp only [List.map_toArray, List.map_cons, List.map_nil, d9]) (by kernel_rfl)) rfl rfl
      ) <|
    arm (fun aa ww hk bs hd => by
      have d2 : aa.eval (.tmp 134) = .agg #[.bool y.w, .int .u8 y.v.k, .int .i64 y.v.n, .string ⟨y.v.t.toArray⟩, .int .i64 y.x.c1, .int .i64 y.x.r1, .int .i64 y.x.c2, .int .i64 y.x.r2, .slice Ay y.l.length cly] := depX hd 2 rfl; have d6 : aa.eval (.tmp 138) = .agg #[.bool false, .int .u8 1, .int .i64 (r * 10000), .string ⟨[].toArray⟩, .int .i64 0, .int .i64 0, .int .i64 0, .int .i64 0, .slice none 0 0] := depX hd 6 rfl; have d10 : aa.eval (.tmp 142) = .agg #[.bool false, .int .u8 1, .int .i64 (c * 10000), .string ⟨[].toArray⟩, .int .i64 0, .int .i64 0, .int .i64 0, .int .i64 0, .slice none 0 0] := depX hd 10 rfl; exact stepX_new _ (want0 rfl) (xbuildSlice (us := #[(0, .agg #[.bool y.w, .int .u8 y.v.k, .int .i64 y.v.n, .string ⟨y.v.t.toArray⟩, .int .i64 y.x.c1, .int .i64 y.x.r1, .int .i64 y.x.c2, .int .i64 y.x.r2, .slice Ay y.l.length cly]), (1, .agg #[.bool false, .int .u8 1, .int .i64 (r * 10000), .string ⟨[].toArray⟩, .int .i64 0, .int .i64 0, .int .i64 0, .int .i64 0, .slice none 0 0]), (2, .agg #[.bool false, .int .u8 1, .int .i64 (c * 10000), .string ⟨[].toArray⟩, .int .i64 0, .int .i64 0, .int .i64 0, .int .i64 0, .slice none 0 0])]) (b := argsObj [(y, .slice Ay y.l.length cly), ((wv (⟨1, r * 10000, []⟩ : Vl)), .slice none 0 0), ((wv (⟨1, c * 10000, []⟩ : Vl)), .slice none 0 0)]) rfl (by simp only [List.map_toArray, List.map_cons, List.map_nil, d2, d6, d10]) (by kernel_rfl)) ⟨_, rfl, hk.size, Go.heap_alloc_new _ _⟩ ((Kept.refl _).alloc _) rfl (Nat.le_refl _)
      ) <|
    arm (fun aa ww hk bs hd => by
      have d11 := dL hd 11 rfl; obtain ⟨g11, e11, _, h11⟩ := d11; exact stepX_enter (want0 rfl) (xcall2 (u := .int .u8 43) (v := .slice (some ⟨g11, 0, none⟩) 3 3) rfl rfl e11 (en_louvrelaw16_of _ _)) ((of16_any 43 (some ⟨g11, 0, none⟩) 3 [y, (wv (⟨1, r * 10000, []⟩ : Vl)), (wv (⟨1, c * 10000, []⟩ : Vl))] ww mx (HM.kept (ow.keep hk).kept) (argsObj_at (L := [(y, .slice Ay y.l.length cly), ((wv (⟨1, r * 10000, []⟩ : Vl)), .slice none 0 0), ((wv (⟨1, c * 10000, []⟩ : Vl)), .slice none 0 0)]) h11 (atCons (cellsAt_own (p := (y, (.slice Ay y.l.length cly))) ((ow.keep hk).thing 4 rfl)) (atCons (CellsAt.nil _) (atCons (CellsAt.nil _) atNil)))) (fit_cons fy.1 fy.2 (Nat.le_of_ble_eq_true rfl) (fit_cons (small_wv (nm_small16 (by (try dsimp only); omega) (by (try dsimp only); omega))).1 (small_wv (nm_small16 (by (try dsimp only); omega) (by (try dsimp only); omega))).2 (Nat.le_of_ble_eq_true rfl) (fit_cons (small_wv (nm_small16 (by (try dsimp only); omega) (by (try dsimp only); omega))).1 (small_wv (nm_small16 (by (try dsimp only); omega) (by (try dsimp only); omega))).2 (Nat.le_of_ble_eq_true rfl) fit_nil))) (Nat.le_of_ble_eq_true rfl)).mono fun _ _ ⟨he, hk2⟩ => ⟨_, he, rfl, hk2⟩) rfl
      ) <|
    aP (fun hk bs hd => xalloc rfl (by kernel_rfl)) rfl <|
    arm0) fun fa fw bs hv ap z q ov => ?_
  obtain ⟨s6, s7, s13, s14, s15⟩ := b5 bs s6 s7 s13 s14 s15; have s144 := gv hv 12 rfl rfl; obtain ⟨gb9, s16, bgb9, hgb9⟩ := gotP hv 13 rfl rfl rfl; have ov := ov.cons hgb9 (Nat.le_trans ow.kept.size bgb9) (ow.below bgb9); have ow := ov; refine ws ow 0 0 s16 s144 fun fw ow => ?_; refine wt hK28 ?_; refine sq fun hK29 => ?_; refine sq fun hK30 => ?_
  refine ro [yV _, yV _, yV _, yIf _ (yV _), yIf _ (yV _), yV _, yV _, yIf _ (yV _), yIf _ (yV _), yIf _ (yV _), yV _] 11 181 z q ow (
    mvS s13 rfl rfl rfl rfl <|
    aS (fun hk bs hd => xlss rfl (dp hd 0 rfl) rfl) rfl <|
    mvD 1 rfl rfl rfl rfl rfl rfl <|
    ai (g1 2 rfl rfl) (fun hk bs hd hz => xmove rfl (bg bs s14)) rfl <|
    ai (g1 2 rfl rfl) (fun hk bs hd hz => xlss rfl (di hd 3 rfl hz) rfl) rfl <|
    aS (fun hk bs hd => xor_ rfl (dp hd 2 rfl) rfl (fun hb => di hd 4 rfl hb)) rfl <|
    mvD 5 rfl rfl rfl rfl rfl rfl <|
    ai (g1 6 rfl rfl) (fun hk bs hd hz => xmove rfl (bg bs s14)) rfl <|
    ai (g1 6 rfl rfl) (fun hk bs hd hz => xmove rfl (bg bs s15)) rfl <|
    ai (g1 6 rfl rfl) (fun hk bs hd hz => xgtr rfl (di hd 7 rfl hz) (di hd 8 rfl hz)) rfl <|
    aS (fun hk bs hd => xor_ rfl (dp hd 6 rfl) rfl (fun hb => di hd 9 rfl hb)) rfl <|
    arm0) fun fa fw bs hv ap z q ow => ?_
  obtain ⟨s6, s7, s13, s14, s15, s16⟩ := b6 bs s6 s7 s13 s14 s15 s16; have s155 := gv hv 10 rfl rfl; refine wt hK30 ?_
  by_cases hc7 : (((r : Int) < (1 : Int)) ∨ ((c : Int) < (1 : Int))) ∨ (((y.x.c2 - y.x.c1) + 1 : Int) < (c : Int))
  ·refine ct s155 ((bor (bor (decide_eq_true_iff) (decide_eq_true_iff)) (decide_eq_true_iff)).2 hc7) ?_
   have hlow := index_low hyo hyw hr hc hc7; refine sq fun hK31 => ?_
   refine ro [yV (aggV ((vCall16 43 [y, (wv (⟨1, r * 10000, []⟩ : Vl)), (wv (⟨1, c * 10000, []⟩ : Vl))]).1)), yV (aggV (⟨4, 5, []⟩ : Vl)), yV (.bool true), yV _, yV (.bool true), yV _, yV _] 7 181 z q ow (
     aS (fun hk bs hd => xloadN 3 rfl (by kernel_rfl) (by kernel_rfl) (bg bs s16) ((ow.keep hk).box 0 rfl) (Nat.le_of_ble_eq_true rfl) rfl) rfl <|
     aS (fun hk bs hd => xbuild (us := #[(0, .int .u8 4), (1, .int .i64 5)]) rfl (by simp only [List.map_toArray, List.map_cons, List.map_nil]; rfl) (by kernel_rfl)) rfl <|
     aE (fun hk bs hd => xeqv rfl (dp hd 0 rfl) (dp hd 1 rfl)) (congrArg Value.bool (sameV_of hlow)) rfl <|
     mvD 2 rfl rfl rfl rfl rfl rfl <|
     armC (wg (j := 3) (b := true) rfl rfl rfl) (fun aa ww hk bs hd => xcall0 rfl (en_louvrelaw16_awake _ _)) (fun aa ww hk bs hd => awake16_any ww mx (HM.kept (ow.keep hk).kept)) rfl <|
     aS (fun hk bs hd => xpickT rfl (dp hd 3 rfl) (dp hd 4 rfl)) rfl <|
     asD 5 rfl rfl rfl rfl rfl rfl <|
     arm0) fun fa fw bs hv ap z q ow => ?_
   obtain ⟨s7, s13, s14, s15, s16⟩ := b5 bs s7 s13 s14 s15 s16; have s6 := gv hv 6 rfl rfl; refine wt hK31 ?_; refine wp_ret ?_; refine then_r ?_; refine results_one rfl (res_tmp s6) q ?_; exact ⟨rfl, ow.kept⟩
  refine cf s155 (bor (bor (decide_eq_true_iff) (decide_eq_true_iff)) (decide_eq_true_iff)) hc7 ?_; have p0 := mul_40 (r := r) (W := y.x.c2 - y.x.c1 + 1) (by omega) (by omega) (by omega) (by omega); have hsame := index_same hyo hyw hr hc hc7 rfl (by omega); refine wp_skip ?_; refine tn hK29 ?_; refine sq fun hK32 => ?_
  refine ro [yV (aggV ((vCall16 43 [y, (wv (⟨1, r * 10000, []⟩ : Vl)), (wv (⟨1, c * 10000, []⟩ : Vl))]).1)), yV _, yV _, yV (.agg #[.bool y.w, .int .u8 y.v.k, .int .i64 y.v.n, .string ⟨y.v.t.toArray⟩, .int .i64 y.x.c1, .int .i64 y.x.r1, .int .i64 y.x.c2, .int .i64 y.x.r2, .slice Ay y.l.length cly]), yV _, yV _, yV _, yV _, yV _, yV _, yV _, yV (aggV (⟨1, (((r - 1) * ((y.x.c2 - y.x.c1) + 1)) + c) * 10000, []⟩ : Vl)), yV (.agg #[.bool false, .int .u8 1, .int .i64 ((((r - 1) * ((y.x.c2 - y.x.c1) + 1)) + c) * 10000), .string ⟨[].toArray⟩, .int .i64 0, .int .i64 0, .int .i64 0, .int .i64 0, .slice none 0 0]), ySlice fw.heap.size 2 (argsObj [(y, .slice Ay y.l.length cly), ((wv (⟨1, (((r - 1) * ((y.x.c2 - y.x.c1) + 1)) + c) * 10000, []⟩ : Vl)), .slice none 0 0)]), yV (aggV ((vCall16 43 [y, (wv (⟨1, (((r - 1) * ((y.x.c2 - y.x.c1) + 1)) + c) * 10000, []⟩ : Vl))]).1)), yV (.bool true), yV _, yV (.bool true), yV _, yV _] 20 181 z q ow (
    aS (fun hk bs hd => xloadN 3 rfl (by kernel_rfl) (by kernel_rfl) (bg bs s16) ((ow.keep hk).box 0 rfl) (Nat.le_of_ble_eq_true rfl) rfl) rfl <|
    mvS s7 rfl rfl rfl rfl <|
    aS (fun hk bs hd => xplaceK 9 Tryz.underlying22 (by kernel_rfl) rfl (i := 0) rfl (dp hd 1 rfl) rfl (by decide)) rfl <|
    aS (fun hk bs hd => xpartK (n := 9) 0 rfl (by kernel_rfl) (by kernel_rfl) (dp hd 2 rfl) rfl (own_elem (l := [(y, (.slice Ay y.l.length cly))]) (i := 0) argE_len rfl ((ow.keep hk).row 4 rfl) rfl)) rfl <|
    mvS s13 rfl rfl rfl rfl <|
    aS (fun hk bs hd => xsub (Or.inr rfl) rfl (dp hd 4 rfl) rfl (by (try dsimp only); omega) (by (try dsimp only); omega)) rfl <|
    mvS s15 rfl rfl rfl rfl <|
    aS (fun hk bs hd => xmul (Or.inr rfl) rfl (dp hd 5 rfl) (dp hd 6 rfl) (by (try dsimp only); omega) (by (try dsimp only); omega)) rfl <|
    mvS s14 rfl rfl rfl rfl <|
    aS (fun hk bs hd => xadd (Or.inr rfl) rfl (dp hd 7 rfl) (dp hd 8 rfl) (by (try dsimp only); omega) (by (try dsimp only); omega)) rfl <|
    aS (fun hk bs hd => xmul (Or.inr rfl) rfl (dp hd 9 rfl) rfl (by (try dsimp only); omega) (by (try dsimp only); omega)) rfl <|
    aC (fun hk bs hd => xcall1 rfl (dp hd 10 rfl) (en_louvrelaw16_num _ _)) (fun hk bs hd => lnum16_any ((((r - 1) * ((y.x.c2 - y.x.c1) + 1)) + c) * 10000) _) rfl <|
    arm (fun aa ww hk bs hd => by
      have d11 : aa.eval (.tmp 173) = aggV (⟨1, (((r - 1) * ((y.x.c2 - y.x.c1) + 1)) + c) * 10000, []⟩ : Vl) := depX hd 11 rfl; exact stepX_same (v := .agg #[.bool false, .int .u8 1, .int .i64 ((((r - 1) * ((y.x.c2 - y.x.c1) + 1)) + c) * 10000), .string ⟨[].toArray⟩, .int .i64 0, .int .i64 0, .int .i64 0, .int .i64 0, .slice none 0 0]) (want0 rfl) (xbuild (us := #[(1, aggV (⟨1, (((r - 1) * ((y.x.c2 - y.x.c1) + 1)) + c) * 10000, []⟩ : Vl))]) rfl (by simp only [List.map_toArray, List.map_cons, List.map_nil, d11]) (by kernel_rfl)) rfl rfl
      ) <|
    arm (fun aa ww hk bs hd => by
      have d3 : aa.eval (.tmp 165) = .agg #[.bool y.w, .int .u8 y.v.k, .int .i64 y.v.n, .string ⟨y.v.t.toArray⟩, .int .i64 y.x.c1, .int .i64 y.x.r1, .int .i64 y.x.c2, .int .i64 y.x.r2, .slice Ay y.l.length cly] := depX hd 3 rfl; have d12 : aa.eval (.tmp 174) = .agg #[.bool false, .int .u8 1, .int .i64 ((((r - 1) * ((y.x.c2 - y.x.c1) + 1)) + c) * 10000), .string ⟨[].toArray⟩, .int .i64 0, .int .i64 0, .int .i64 0, .int .i64 0, .slice none 0 0] := depX hd 12 rfl; exact stepX_new _ (want0 rfl) (xbuildSlice (us := #[(0, .agg #[.bool y.w, .int .u8 y.v.k, .int .i64 y.v.n, .string ⟨y.v.t.toArray⟩, .int .i64 y.x.c1, .int .i64 y.x.r1, .int .i64 y.x.c2, .int .i64 y.x.r2, .slice Ay y.l.length cly]), (1, .agg #[.bool false, .int .u8 1, .int .i64 ((((r - 1) * ((y.x.c2 - y.x.c1) + 1)) + c) * 10000), .string ⟨[].toArray⟩, .int .i64 0, .int .i64 0, .int .i64 0, .int .i64 0, .slice none 0 0])]) (b := argsObj [(y, .slice Ay y.l.length cly), ((wv (⟨1, (((r - 1) * ((y.x.c2 - y.x.c1) + 1)) + c) * 10000, []⟩ : Vl)), .slice none 0 0)]) rfl (by simp only [List.map_toArray, List.map_cons, List.map_nil, d3, d12]) (by kernel_rfl)) ⟨_, rfl, hk.size, Go.heap_alloc_new _ _⟩ ((Kept.refl _).alloc _) rfl (Nat.le_refl _)
      ) <|
    arm (fun aa ww hk bs hd => by
      have d13 := dL hd 13 rfl; obtain ⟨g13, e13, _, h13⟩ := d13; exact stepX_enter (want0 rfl) (xcall2 (u := .int .u8 43) (v := .slice (some ⟨g13, 0, none⟩) 2 2) rfl rfl e13 (en_louvrelaw16_of _ _)) ((of16_any 43 (some ⟨g13, 0, none⟩) 2 [y, (wv (⟨1, (((r - 1) * ((y.x.c2 - y.x.c1) + 1)) + c) * 10000, []⟩ : Vl))] ww mx (HM.kept (ow.keep hk).kept) (argsObj_at (L := [(y, .slice Ay y.l.length cly), ((wv (⟨1, (((r - 1) * ((y.x.c2 - y.x.c1) + 1)) + c) * 10000, []⟩ : Vl)), .slice none 0 0)]) h13 (atCons (cellsAt_own (p := (y, (.slice Ay y.l.length cly))) ((ow.keep hk).thing 5 rfl)) (atCons (CellsAt.nil _) atNil))) (fit_cons fy.1 fy.2 (Nat.le_of_ble_eq_true rfl) (fit_cons (small_wv (nm_small16 (by (try dsimp only); omega) (by (try dsimp only); omega))).1 (small_wv (nm_small16 (by (try dsimp only); omega) (by (try dsimp only); omega))).2 (Nat.le_of_ble_eq_true rfl) fit_nil)) (Nat.le_of_ble_eq_true rfl)).mono fun _ _ ⟨he, hk2⟩ => ⟨_, he, rfl, hk2⟩) rfl
      ) <|
    aE (fun hk bs hd => xeqv rfl (dp hd 0 rfl) (dp hd 14 rfl)) (congrArg Value.bool (sameV_of hsame)) rfl <|
    mvD 15 rfl rfl rfl rfl rfl rfl <|
    armC (wg (j := 16) (b := true) rfl rfl rfl) (fun aa ww hk bs hd => xcall0 rfl (en_louvrelaw16_awake _ _)) (fun aa ww hk bs hd => awake16_any ww mx (HM.kept (ow.keep hk).kept)) rfl <|
    aS (fun hk bs hd => xpickT rfl (dp hd 16 rfl) (dp hd 17 rfl)) rfl <|
    asD 18 rfl rfl rfl rfl rfl rfl <|
    arm0) fun fa fw bs hv ap z q ow => ?_
  have s6 := gv hv 19 rfl rfl; refine wt hK32 ?_; refine wp_ret ?_; refine results_one rfl (res_tmp s6) q ?_; exact ⟨rfl, ow.kept⟩
end Go.Proofs.YtbkjdcpfkepheaaGreatDoor
