/- Layer 14: the examples of the law's package: num, text, is, awake (printed by wip/mkawake14.py). -/
import Derived.Test.YtbpkfnoenkoabaaGreatDoorFhGText4
namespace Go.Proofs.YtbpkfnoenkoabaaGreatDoor
set_option linter.unusedVariables false
set_option linter.unusedSimpArgs false
open Go.RowKit Lv
set_option maxRecDepth 100000
theorem smalls14 {l : List Vl} (h : (l.all fun v => decide (-9223372036854775808 ≤ v.n ∧ v.n ≤ 9223372036854775807 ∧ v.t.length ≤ 2000)) = true) : ∀ v ∈ l, Small v := fun v hv => by
  have := List.all_eq_true.1 h v hv; rw [decide_eq_true_eq] at this; exact ⟨⟨this.1, this.2.1⟩, this.2.2⟩
theorem en_ftext_Call : En 21 := by intro args w; go_simp
theorem en_louvrelaw14_is : En 67 := by intro args w; go_simp
theorem en_louvrelaw14_num : En 26 := by intro args w; go_simp
theorem en_louvrelaw14_text : En 68 := by intro args w; go_simp
set_option maxHeartbeats 2000000 in
theorem lnum14_any (n : Int) (w : World) :
    Calls Tryz.prog 26 #[.int .i64 n] w fun e w' => e = .returned (aggV (⟨1, n, []⟩ : Vl)) ∧ Kept w w' := by
  go_enter Tryz.func26, Tryz.ntmps26; refine sq fun hK1 => ?_
  refine ro [yNew w.heap.size (.cells #[.int .u8 0, .int .i64 0, .string ⟨[].toArray⟩] 25 (0, 0))] 1 5 rfl rfl (Own.start w) (
    aP (fun hk bs hd => xalloc rfl (by kernel_rfl)) rfl <|
    arm0) fun fa fw bs hv ap z q ov => ?_
  have s0 := bs.get 0 rfl rfl; obtain ⟨gb1, s2, bgb1, hgb1⟩ := gotP hv 0 rfl rfl rfl; have ov := ov.cons hgb1 (Nat.le_trans (Own.start w).kept.size bgb1) ((Own.start w).below bgb1); have ow := ov; refine wt hK1 ?_; refine sq fun hK2 => ?_
  refine ro [yV _, yV (aggV (⟨1, n, []⟩ : Vl))] 2 5 z q ow (
    mvS s0 rfl rfl rfl rfl <|
    arm (fun aa ww hk bs hd => by
      have d0 : aa.eval (.tmp 3) = .int .i64 n := depX hd 0 rfl; exact stepX_same (v := aggV (⟨1, n, []⟩ : Vl)) (want0 rfl) (xbuild (us := #[(0, .int .u8 1), (1, .int .i64 n)]) rfl (by simp only [List.map_toArray, List.map_cons, List.map_nil, d0]; rfl) (by kernel_rfl)) rfl rfl
      ) <|
    arm0) fun fa fw bs hv ap z q ow => ?_
  have s2 := bg bs s2; have s4 := gv hv 1 rfl rfl; refine ws ow 0 0 s2 s4 fun fw ow => ?_; refine wt hK2 ?_; refine wp_ret ?_; refine rs3 s2 (ow.box 0 rfl) q ?_; exact ⟨rfl, ow.kept⟩
set_option maxHeartbeats 2000000 in
theorem ltext14_any (s : List UInt8) (w : World) :
    Calls Tryz.prog 68 #[.string ⟨s.toArray⟩] w fun e w' => e = .returned (aggV (⟨3, 0, s⟩ : Vl)) ∧ Kept w w' := by
  go_enter Tryz.func68, Tryz.ntmps68; refine sq fun hK1 => ?_
  refine ro [yNew w.heap.size (.cells #[.int .u8 0, .int .i64 0, .string ⟨[].toArray⟩] 25 (0, 0))] 1 5 rfl rfl (Own.start w) (
    aP (fun hk bs hd => xalloc rfl (by kernel_rfl)) rfl <|
    arm0) fun fa fw bs hv ap z q ov => ?_
  have s0 := bs.get 0 rfl rfl; obtain ⟨gb1, s2, bgb1, hgb1⟩ := gotP hv 0 rfl rfl rfl; have ov := ov.cons hgb1 (Nat.le_trans (Own.start w).kept.size bgb1) ((Own.start w).below bgb1); have ow := ov; refine wt hK1 ?_; refine sq fun hK2 => ?_
  refine ro [yV _, yV (aggV (⟨3, 0, s⟩ : Vl))] 2 5 z q ow (
    mvS s0 rfl rfl rfl rfl <|
    arm (fun aa ww hk bs hd => by
      have d0 : aa.eval (.tmp 3) = .string ⟨s.toArray⟩ := depX hd 0 rfl; exact stepX_same (v := aggV (⟨3, 0, s⟩ : Vl)) (want0 rfl) (xbuild (us := #[(0, .int .u8 3), (2, .string ⟨s.toArray⟩)]) rfl (by simp only [List.map_toArray, List.map_cons, List.map_nil, d0]; rfl) (by kernel_rfl)) rfl rfl
      ) <|
    arm0) fun fa fw bs hv ap z q ow => ?_
  have s2 := bg bs s2; have s4 := gv hv 1 rfl rfl; refine ws ow 0 0 s2 s4 fun fw ow => ?_; refine wt hK2 ?_; refine wp_ret ?_; refine rs3 s2 (ow.box 0 rfl) q ?_; exact ⟨rfl, ow.kept⟩
set_option maxHeartbeats 2000000 in
theorem is14_any (x : Vl) (fn : Nat) (A : Option Addr) (cap : Nat) (l : List Vl) (w : World) (mx : Int) (HM : Mx w mx) (hr : RowV w A l) (hs : ∀ v ∈ l, Small v) (hl : l.length ≤ 1000000) (hc : l.length ≤ cap) (hx : vCall14 fn l = (x, 0)) :
    Calls Tryz.prog 67 #[aggV x, .int .u8 fn, .slice A l.length cap] w fun e w' => e = .returned (.bool true) ∧ Kept w w' := by
  go_enter Tryz.func67, Tryz.ntmps67; refine sq fun hK1 => ?_
  refine ro [yNew w.heap.size (.cells #[.int .u8 x.k, .int .i64 x.n, .string ⟨x.t.toArray⟩] 25 (0, 0)), yV _] 2 22 rfl rfl (Own.start w) (
    aP (fun hk bs hd => xbox rfl (bs.get 0 rfl rfl) (by kernel_rfl)) rfl <|
    aS (fun hk bs hd => xassign rfl rfl) rfl <|
    arm0) fun fa fw bs hv ap z q ov => ?_
  have s1 := bs.get 1 rfl rfl; have s2 := bs.get 2 rfl rfl; obtain ⟨gb1, s3, bgb1, hgb1⟩ := gotP hv 0 rfl rfl rfl; have ov := ov.cons hgb1 (Nat.le_trans (Own.start w).kept.size bgb1) ((Own.start w).below bgb1); have s6 := gv hv 1 rfl rfl; have ow := ov; refine wt hK1 ?_; refine sq fun hK2 => ?_
  refine ro [yV _, yV _, yV (.tuple #[aggV x, .int .i64 0]), yV _, yV (aggV x), yV _, yNew fw.heap.size (.cells #[.int .u8 0, .int .i64 0, .string ⟨[].toArray⟩] 25 (0, 0))] 7 22 z q ow (
    mvS s1 rfl rfl rfl rfl <|
    mvS s2 rfl rfl rfl rfl <|
    aC (fun hk bs hd => xcall2 rfl (dp hd 0 rfl) (dp hd 1 rfl) (en_ftext_Call _ _)) (fun hk bs hd => (by have h := call14_any fn A cap l _ mx (HM.kept (ow.keep hk).kept) (hr.kept (ow.keep hk).kept) hs hl hc; rw [hx] at h; exact h)) rfl <|
    mvD 2 rfl rfl rfl rfl rfl rfl <|
    aS (fun hk bs hd => xextract rfl (dp hd 3 rfl) rfl) rfl <|
    aS (fun hk bs hd => xextract rfl (dp hd 3 rfl) rfl) rfl <|
    aP (fun hk bs hd => xalloc rfl (by kernel_rfl)) rfl <|
    arm0) fun fa fw bs hv ap z q ov => ?_
  obtain ⟨s3, s6⟩ := b2 bs s3 s6; have s13 := gv hv 4 rfl rfl; have s14 := gv hv 5 rfl rfl; obtain ⟨gb2, s7, bgb2, hgb2⟩ := gotP hv 6 rfl rfl rfl; have ov := ov.cons hgb2 (Nat.le_trans ow.kept.size bgb2) (ow.below bgb2); have ow := ov; refine ws ow 0 0 s7 s13 fun fw ow => ?_; refine wl_value (v := .int .i64 0) (want0 rfl) (xassign rfl s14) ?_; refine gp3 z q ow s3 s6 s7 fun fa fw z q ow s3 s6 s7 s8 => ?_; refine wt hK2 ?_; refine sq fun hK3 => ?_
  refine ro [yV (aggV x), yV (aggV x), yV (.bool true), yV _, yV _, yV (.bool true), yV _, yV _] 8 22 z q ow (
    aS (fun hk bs hd => xloadN 3 rfl (by kernel_rfl) (by kernel_rfl) (bg bs s7) ((ow.keep hk).box 0 rfl) (Nat.le_of_ble_eq_true rfl) rfl) rfl <|
    aS (fun hk bs hd => xloadN 3 rfl (by kernel_rfl) (by kernel_rfl) (bg bs s3) ((ow.keep hk).box 1 rfl) (Nat.le_of_ble_eq_true rfl) rfl) rfl <|
    aE (fun hk bs hd => xeqv rfl (dp hd 0 rfl) (dp hd 1 rfl)) (congrArg Value.bool (sameV_self x)) rfl <|
    mvD 2 rfl rfl rfl rfl rfl rfl <|
    armS (wg (j := 3) (b := true) rfl rfl rfl) (fun aa ww hk bs hd => xmove rfl (bg bs s8)) rfl <|
    armE (wg (j := 3) (b := true) rfl rfl rfl) (fun aa ww hk bs hd => xeqi rfl (dp hd 4 rfl) rfl) (congrArg Value.bool rfl) rfl <|
    aS (fun hk bs hd => xpickT rfl (dp hd 3 rfl) (dp hd 5 rfl)) rfl <|
    asD 6 rfl rfl rfl rfl rfl rfl <|
    arm0) fun fa fw bs hv ap z q ow => ?_
  have s6 := gv hv 7 rfl rfl; refine wt hK3 ?_; refine wp_ret ?_; refine results_one rfl (res_tmp s6) q ?_; exact ⟨rfl, ow.kept⟩
set_option maxHeartbeats 8000000 in
theorem awake14_any (w : World) (mx : Int) (HM : Mx w mx) :
    Calls Tryz.prog 24 #[] w fun e w' => e = .returned (.bool true) ∧ Kept w w' := by
  go_enter Tryz.func24, Tryz.ntmps24; refine sq fun hK1 => ?_
  refine ro [yV _] 1 108 rfl rfl (Own.start w) (
    aS (fun hk bs hd => xassign rfl rfl) rfl <|
    arm0) fun fa fw bs hv ap z q ow => ?_
  have s0 := gv hv 0 rfl rfl; refine wt hK1 ?_; refine sq fun hK2 => ?_
  refine ro [yV (aggV (⟨4, 2, []⟩ : Vl)), yNew fw.heap.size (.cells #[.int .u8 0, .int .i64 0, .string ⟨[].toArray⟩] 25 (0, 0))] 2 108 z q ow (
    aS (fun hk bs hd => xbuild (us := #[(0, .int .u8 4), (1, .int .i64 2)]) rfl (by simp only [List.map_toArray, List.map_cons, List.map_nil]; rfl) (by kernel_rfl)) rfl <|
    aP (fun hk bs hd => xalloc rfl (by kernel_rfl)) rfl <|
    arm0) fun fa fw bs hv ap z q ov => ?_
  have s0 := bg bs s0; have s2 := gv hv 0 rfl rfl; obtain ⟨gb1, s1, bgb1, hgb1⟩ := gotP hv 1 rfl rfl rfl; have ov := ov.cons hgb1 (Nat.le_trans ow.kept.size bgb1) (ow.below bgb1); have ow := ov; refine ws ow 0 0 s1 s2 fun fw ow => ?_; refine wt hK2 ?_; refine sq fun hK3 => ?_
  refine ro [yV (aggV (⟨3, 0, [97, 98]⟩ : Vl)), yV (aggV (⟨3, 0, [97, 98, 99]⟩ : Vl)), yV (aggV (⟨1, 20000, []⟩ : Vl)), ySlice fw.heap.size 2 (rowObj [(⟨3, 0, [97, 98, 99]⟩ : Vl), (⟨1, 20000, []⟩ : Vl)]), yV (.bool true), yV _, yV (aggV (⟨3, 0, [97]⟩ : Vl)), yV (aggV (⟨3, 0, [97, 98, 99]⟩ : Vl)), ySlice fw.heap.size 1 (rowObj [(⟨3, 0, [97, 98, 99]⟩ : Vl)]), yV (.bool true), yV _, yV _, yV (aggV (⟨3, 0, [97, 98, 99]⟩ : Vl)), yV (aggV (⟨3, 0, [97, 98, 99]⟩ : Vl)), yV (aggV (⟨1, 90000, []⟩ : Vl)), ySlice fw.heap.size 2 (rowObj [(⟨3, 0, [97, 98, 99]⟩ : Vl), (⟨1, 90000, []⟩ : Vl)]), yV (.bool true), yV _, yV _, yV (aggV (⟨4, 2, []⟩ : Vl)), yV (aggV (⟨3, 0, [97, 98, 99]⟩ : Vl)), yV (aggV (⟨1, (-10000), []⟩ : Vl)), ySlice fw.heap.size 2 (rowObj [(⟨3, 0, [97, 98, 99]⟩ : Vl), (⟨1, (-10000), []⟩ : Vl)]), yV (.bool true), yV _, yV _, yV (aggV (⟨3, 0, [98, 99]⟩ : Vl)), yV (aggV (⟨3, 0, [97, 98, 99, 100]⟩ : Vl)), yV (aggV (⟨1, 20000, []⟩ : Vl)), yV (aggV (⟨1, 20000, []⟩ : Vl)), ySlice fw.heap.size 3 (rowObj [(⟨3, 0, [97, 98, 99, 100]⟩ : Vl), (⟨1, 20000, []⟩ : Vl), (⟨1, 20000, []⟩ : Vl)]), yV (.bool true), yV _, yV _, yV (aggV (⟨3, 0, []⟩ : Vl)), yV (aggV (⟨3, 0, [97, 98, 99, 100]⟩ : Vl)), yV (aggV (⟨1, 90000, []⟩ : Vl)), yV (aggV (⟨1, 10000, []⟩ : Vl)), ySlice fw.heap.size 3 (rowObj [(⟨3, 0, [97, 98, 99, 100]⟩ : Vl), (⟨1, 90000, []⟩ : Vl), (⟨1, 10000, []⟩ : Vl)]), yV (.bool true), yV _, yV _, yV (aggV (⟨1, 20000, []⟩ : Vl)), yV (aggV (⟨3, 0, [98]⟩ : Vl)), yV (aggV (⟨3, 0, [97, 98, 99, 98]⟩ : Vl)), ySlice fw.heap.size 2 (rowObj [(⟨3, 0, [98]⟩ : Vl), (⟨3, 0, [97, 98, 99, 98]⟩ : Vl)]), yV (.bool true), yV _, yV _, yV (aggV (⟨1, 40000, []⟩ : Vl)), yV (aggV (⟨3, 0, [98]⟩ : Vl)), yV (aggV (⟨3, 0, [97, 98, 99, 98]⟩ : Vl)), yV (aggV (⟨1, 30000, []⟩ : Vl)), ySlice fw.heap.size 3 (rowObj [(⟨3, 0, [98]⟩ : Vl), (⟨3, 0, [97, 98, 99, 98]⟩ : Vl), (⟨1, 30000, []⟩ : Vl)]), yV (.bool true), yV _, yV _, yV (aggV (⟨4, 2, []⟩ : Vl)), yV (aggV (⟨3, 0, [66]⟩ : Vl)), yV (aggV (⟨3, 0, [97, 98, 99]⟩ : Vl)), ySlice fw.heap.size 2 (rowObj [(⟨3, 0, [66]⟩ : Vl), (⟨3, 0, [97, 98, 99]⟩ : Vl)]), yV (.bool true), yV _, yV _, yV (aggV (⟨1, 30000, []⟩ : Vl)), yV (aggV (⟨3, 0, []⟩ : Vl)), yV (aggV (⟨3, 0, [97, 98]⟩ : Vl)), yV (aggV (⟨1, 30000, []⟩ : Vl)), ySlice fw.heap.size 3 (rowObj [(⟨3, 0, []⟩ : Vl), (⟨3, 0, [97, 98]⟩ : Vl), (⟨1, 30000, []⟩ : Vl)]), yV (.bool true), yV _, yV _, yV (aggV (⟨3, 0, [97, 98, 97, 98]⟩ : Vl)), yV (aggV (⟨3, 0, [97, 98]⟩ : Vl)), yV (aggV (⟨1, 29000, []⟩ : Vl)), ySlice fw.heap.size 2 (rowObj [(⟨3, 0, [97, 98]⟩ : Vl), (⟨1, 29000, []⟩ : Vl)]), yV (.bool true), yV _, yV _, yV (aggV (⟨4, 2, []⟩ : Vl)), yV (aggV (⟨3, 0, [97, 98]⟩ : Vl)), yV (aggV (⟨1, 2000000, []⟩ : Vl)), ySlice fw.heap.size 2 (rowObj [(⟨3, 0, [97, 98]⟩ : Vl), (⟨1, 2000000, []⟩ : Vl)]), yV (.bool true), yV _, yV _, yV (aggV (⟨1, 40000, []⟩ : Vl)), yV (aggV (⟨1, 125000, []⟩ : Vl)), ySlice fw.heap.size 1 (rowObj [(⟨1, 125000, []⟩ : Vl)]), yV (.bool true), yV _, yV _, yV (aggV (⟨1, 15000, []⟩ : Vl)), yV (aggV (⟨3, 0, [49, 46, 53]⟩ : Vl)), ySlice fw.heap.size 1 (rowObj [(⟨3, 0, [49, 46, 53]⟩ : Vl)]), yV (.bool true), yV _, yV _, yV (aggV (⟨4, 2, []⟩ : Vl)), yV (aggV (⟨3, 0, [97, 98, 99]⟩ : Vl)), yV (aggV (⟨3, 0, [120]⟩ : Vl)), yV (aggV (⟨4, 4, []⟩ : Vl)), ySlice fw.heap.size 3 (rowObj [(⟨3, 0, [97, 98, 99]⟩ : Vl), (⟨3, 0, [120]⟩ : Vl), (⟨4, 4, []⟩ : Vl)]), yV (.bool true), yV _, yV _] 106 108 z q ow (
    aC (fun hk bs hd => xcall1 rfl rfl (en_louvrelaw14_text _ _)) (fun hk bs hd => ltext14_any [97, 98] _) rfl <|
    aC (fun hk bs hd => xcall1 rfl rfl (en_louvrelaw14_text _ _)) (fun hk bs hd => ltext14_any [97, 98, 99] _) rfl <|
    aC (fun hk bs hd => xcall1 rfl rfl (en_louvrelaw14_num _ _)) (fun hk bs hd => lnum14_any 20000 _) rfl <|
    arm (fun aa ww hk bs hd => by
      have d1 := dp hd 1 rfl; have d2 := dp hd 2 rfl; exact stepX_new _ (want0 rfl) (xrow2 rfl (d1) (d2)) ⟨_, rfl, hk.size, Go.heap_alloc_new _ _⟩ ((Kept.refl _).alloc _) rfl (Nat.le_refl _)
      ) <|
    arm (fun aa ww hk bs hd => by
      have d0 := dp hd 0 rfl; have d3 := dL hd 3 rfl; obtain ⟨g3, e3, _, h3⟩ := d3; exact stepX_enter (want0 rfl) (xcall3 (u := aggV (⟨3, 0, [97, 98]⟩ : Vl)) (v := .int .u8 32) (s := .slice (some ⟨g3, 0, none⟩) 2 2) rfl (d0) rfl e3 (en_louvrelaw14_is _ _)) ((is14_any (⟨3, 0, [97, 98]⟩ : Vl) 32 (some ⟨g3, 0, none⟩) 2 [(⟨3, 0, [97, 98, 99]⟩ : Vl), (⟨1, 20000, []⟩ : Vl)] ww mx (HM.kept (ow.keep hk).kept) (rowObj_row h3) (smalls14 (by decide)) (by decide) (by decide) (by kernel_rfl)).mono fun _ _ ⟨he, hk2⟩ => ⟨_, he, rfl, hk2⟩) rfl
      ) <|
    mvD 4 rfl rfl rfl rfl rfl rfl <|
    armC (wg (j := 5) (b := true) rfl rfl rfl) (fun aa ww hk bs hd => xcall1 rfl rfl (en_louvrelaw14_text _ _)) (fun aa ww hk bs hd => ltext14_any [97] ww) rfl <|
    armC (wg (j := 5) (b := true) rfl rfl rfl) (fun aa ww hk bs hd => xcall1 rfl rfl (en_louvrelaw14_text _ _)) (fun aa ww hk bs hd => ltext14_any [97, 98, 99] ww) rfl <|
    arm (fun aa ww hk bs hd => by
      have d5 := dp hd 5 rfl; have d7 := dp hd 7 rfl; exact stepX_new _ (want1 (j := 5) (b := true) rfl d5) (xrow1 rfl (d7)) ⟨_, rfl, hk.size, Go.heap_alloc_new _ _⟩ ((Kept.refl _).alloc _) rfl (Nat.le_refl _)
      ) <|
    arm (fun aa ww hk bs hd => by
      have d5 := dp hd 5 rfl; have d6 := dp hd 6 rfl; have d8 := dL hd 8 rfl; obtain ⟨g8, e8, _, h8⟩ := d8; exact stepX_enter (want1 (j := 5) (b := true) rfl d5) (xcall3 (u := aggV (⟨3, 0, [97]⟩ : Vl)) (v := .int .u8 32) (s := .slice (some ⟨g8, 0, none⟩) 1 1) rfl (d6) rfl e8 (en_louvrelaw14_is _ _)) ((is14_any (⟨3, 0, [97]⟩ : Vl) 32 (some ⟨g8, 0, none⟩) 1 [(⟨3, 0, [97, 98, 99]⟩ : Vl)] ww mx (HM.kept (ow.keep hk).kept) (rowObj_row h8) (smalls14 (by decide)) (by decide) (by decide) (by kernel_rfl)).mono fun _ _ ⟨he, hk2⟩ => ⟨_, he, rfl, hk2⟩) rfl
      ) <|
    aS (fun hk bs hd => xpickT rfl (dp hd 5 rfl) (dp hd 9 rfl)) rfl <|
    mvD 10 rfl rfl rfl rfl rfl rfl <|
    armC (wg (j := 11) (b := true) rfl rfl rfl) (fun aa ww hk bs hd => xcall1 rfl rfl (en_louvrelaw14_text _ _)) (fun aa ww hk bs hd => ltext14_any [97, 98, 99] ww) rfl <|
    armC (wg (j := 11) (b := true) rfl rfl rfl) (fun aa ww hk bs hd => xcall1 rfl rfl (en_louvrelaw14_text _ _)) (fun aa ww hk bs hd => ltext14_any [97, 98, 99] ww) rfl <|
    armC (wg (j := 11) (b := true) rfl rfl rfl) (fun aa ww hk bs hd => xcall1 rfl rfl (en_louvrelaw14_num _ _)) (fun aa ww hk bs hd => lnum14_any 90000 ww) rfl <|
    arm (fun aa ww hk bs hd => by
      have d11 := dp hd 11 rfl; have d13 := dp hd 13 rfl; have d14 := dp hd 14 rfl; exact stepX_new _ (want1 (j := 11) (b := true) rfl d11) (xrow2 rfl (d13) (d14)) ⟨_, rfl, hk.size, Go.heap_alloc_new _ _⟩ ((Kept.refl _).alloc _) rfl (Nat.le_refl _)
      ) <|
    arm (fun aa ww hk bs hd => by
      have d11 := dp hd 11 rfl; have d12 := dp hd 12 rfl; have d15 := dL hd 15 rfl; obtain ⟨g15, e15, _, h15⟩ := d15; exact stepX_enter (want1 (j := 11) (b := true) rfl d11) (xcall3 (u := aggV (⟨3, 0, [97, 98, 99]⟩ : Vl)) (v := .int .u8 33) (s := .slice (some ⟨g15, 0, none⟩) 2 2) rfl (d12) rfl e15 (en_louvrelaw14_is _ _)) ((is14_any (⟨3, 0, [97, 98, 99]⟩ : Vl) 33 (some ⟨g15, 0, none⟩) 2 [(⟨3, 0, [97, 98, 99]⟩ : Vl), (⟨1, 90000, []⟩ : Vl)] ww mx (HM.kept (ow.keep hk).kept) (rowObj_row h15) (smalls14 (by decide)) (by decide) (by decide) (by kernel_rfl)).mono fun _ _ ⟨he, hk2⟩ => ⟨_, he, rfl, hk2⟩) rfl
      ) <|
    aS (fun hk bs hd => xpickT rfl (dp hd 11 rfl) (dp hd 16 rfl)) rfl <|
    mvD 17 rfl rfl rfl rfl rfl rfl <|
    armS (wg (j := 18) (b := true) rfl rfl rfl) (fun aa ww hk bs hd => xloadN 3 rfl (by kernel_rfl) (by kernel_rfl) (bg bs s1) ((ow.keep hk).box 0 rfl) (Nat.le_of_ble_eq_true rfl) rfl) rfl <|
    armC (wg (j := 18) (b := true) rfl rfl rfl) (fun aa ww hk bs hd => xcall1 rfl rfl (en_louvrelaw14_text _ _)) (fun aa ww hk bs hd => ltext14_any [97, 98, 99] ww) rfl <|
    armC (wg (j := 18) (b := true) rfl rfl rfl) (fun aa ww hk bs hd => xcall1 rfl rfl (en_louvrelaw14_num _ _)) (fun aa ww hk bs hd => lnum14_any (-10000) ww) rfl <|
    arm (fun aa ww hk bs hd => by
      have d18 := dp hd 18 rfl; have d20 := dp hd 20 rfl; have d21 := dp hd 21 rfl; exact stepX_new _ (want1 (j := 18) (b := true) rfl d18) (xrow2 rfl (d20) (d21)) ⟨_, rfl, hk.size, Go.heap_alloc_new _ _⟩ ((Kept.refl _).alloc _) rfl (Nat.le_refl _)
      ) <|
    arm (fun aa ww hk bs hd => by
      have d18 := dp hd 18 rfl; have d19 := dp hd 19 rfl; have d22 := dL hd 22 rfl; obtain ⟨g22, e22, _, h22⟩ := d22; exact stepX_enter (want1 (j := 18) (b := true) rfl d18) (xcall3 (u := aggV (⟨4, 2, []⟩ : Vl)) (v := .int .u8 32) (s := .slice (some ⟨g22, 0, none⟩) 2 2) rfl (d19) rfl e22 (en_louvrelaw14_is _ _)) ((is14_any (⟨4, 2, []⟩ : Vl) 32 (some ⟨g22, 0, none⟩) 2 [(⟨3, 0, [97, 98, 99]⟩ : Vl), (⟨1, (-10000), []⟩ : Vl)] ww mx (HM.kept (ow.keep hk).kept) (rowObj_row h22) (smalls14 (by decide)) (by decide) (by decide) (by kernel_rfl)).mono fun _ _ ⟨he, hk2⟩ => ⟨_, he, rfl, hk2⟩) rfl
      ) <|
    aS (fun hk bs hd => xpickT rfl (dp hd 18 rfl) (dp hd 23 rfl)) rfl <|
    mvD 24 rfl rfl rfl rfl rfl rfl <|
    armC (wg (j := 25) (b := true) rfl rfl rfl) (fun aa ww hk bs hd => xcall1 rfl rfl (en_louvrelaw14_text _ _)) (fun aa ww hk bs hd => ltext14_any [98, 99] ww) rfl <|
    armC (wg (j := 25) (b := true) rfl rfl rfl) (fun aa ww hk bs hd => xcall1 rfl rfl (en_louvrelaw14_text _ _)) (fun aa ww hk bs hd => ltext14_any [97, 98, 99, 100] ww) rfl <|
    armC (wg (j := 25) (b := true) rfl rfl rfl) (fun aa ww hk bs hd => xcall1 rfl rfl (en_louvrelaw14_num _ _)) (fun aa ww hk bs hd => lnum14_any 20000 ww) rfl <|
    armC (wg (j := 25) (b := true) rfl rfl rfl) (fun aa ww hk bs hd => xcall1 rfl rfl (en_louvrelaw14_num _ _)) (fun aa ww hk bs hd => lnum14_any 20000 ww) rfl <|
    arm (fun aa ww hk bs hd => by
      have d25 := dp hd 25 rfl; have d27 := dp hd 27 rfl; have d28 := dp hd 28 rfl; have d29 := dp hd 29 rfl; exact stepX_new _ (want1 (j := 25) (b := true) rfl d25) (xrow3 rfl (d27) (d28) (d29)) ⟨_, rfl, hk.size, Go.heap_alloc_new _ _⟩ ((Kept.refl _).alloc _) rfl (Nat.le_refl _)
      ) <|
    arm (fun aa ww hk bs hd => by
      have d25 := dp hd 25 rfl; have d26 := dp hd 26 rfl; have d30 := dL hd 30 rfl; obtain ⟨g30, e30, _, h30⟩ := d30; exact stepX_enter (want1 (j := 25) (b := true) rfl d25) (xcall3 (u := aggV (⟨3, 0, [98, 99]⟩ : Vl)) (v := .int .u8 34) (s := .slice (some ⟨g30, 0, none⟩) 3 3) rfl (d26) rfl e30 (en_louvrelaw14_is _ _)) ((is14_any (⟨3, 0, [98, 99]⟩ : Vl) 34 (some ⟨g30, 0, none⟩) 3 [(⟨3, 0, [97, 98, 99, 100]⟩ : Vl), (⟨1, 20000, []⟩ : Vl), (⟨1, 20000, []⟩ : Vl)] ww mx (HM.kept (ow.keep hk).kept) (rowObj_row h30) (smalls14 (by decide)) (by decide) (by decide) (by kernel_rfl)).mono fun _ _ ⟨he, hk2⟩ => ⟨_, he, rfl, hk2⟩) rfl
      ) <|
    aS (fun hk bs hd => xpickT rfl (dp hd 25 rfl) (dp hd 31 rfl)) rfl <|
    mvD 32 rfl rfl rfl rfl rfl rfl <|
    armC (wg (j := 33) (b := true) rfl rfl rfl) (fun aa ww hk bs hd => xcall1 rfl rfl (en_louvrelaw14_text _ _)) (fun aa ww hk bs hd => ltext14_any [] ww) rfl <|
    armC (wg (j := 33) (b := true) rfl rfl rfl) (fun aa ww hk bs hd => xcall1 rfl rfl (en_louvrelaw14_text _ _)) (fun aa ww hk bs hd => ltext14_any [97, 98, 99, 100] ww) rfl <|
    armC (wg (j := 33) (b := true) rfl rfl rfl) (fun aa ww hk bs hd => xcall1 rfl rfl (en_louvrelaw14_num _ _)) (fun aa ww hk bs hd => lnum14_any 90000 ww) rfl <|
    armC (wg (j := 33) (b := true) rfl rfl rfl) (fun aa ww hk bs hd => xcall1 rfl rfl (en_louvrelaw14_num _ _)) (fun aa ww hk bs hd => lnum14_any 10000 ww) rfl <|
    arm (fun aa ww hk bs hd => by
      have d33 := dp hd 33 rfl; have d35 := dp hd 35 rfl; have d36 := dp hd 36 rfl; have d37 := dp hd 37 rfl; exact stepX_new _ (want1 (j := 33) (b := true) rfl d33) (xrow3 rfl (d35) (d36) (d37)) ⟨_, rfl, hk.size, Go.heap_alloc_new _ _⟩ ((Kept.refl _).alloc _) rfl (Nat.le_refl _)
      ) <|
    arm (fun aa ww hk bs hd => by
      have d33 := dp hd 33 rfl; have d34 := dp hd 34 rfl; have d38 := dL hd 38 rfl; obtain ⟨g38, e38, _, h38⟩ := d38; exact stepX_enter (want1 (j := 33) (b := true) rfl d33) (xcall3 (u := aggV (⟨3, 0, []⟩ : Vl)) (v := .int .u8 34) (s := .slice (some ⟨g38, 0, none⟩) 3 3) rfl (d34) rfl e38 (en_louvrelaw14_is _ _)) ((is14_any (⟨3, 0, []⟩ : Vl) 34 (some ⟨g38, 0, none⟩) 3 [(⟨3, 0, [97, 98, 99, 100]⟩ : Vl), (⟨1, 90000, []⟩ : Vl), (⟨1, 10000, []⟩ : Vl)] ww mx (HM.kept (ow.keep hk).kept) (rowObj_row h38) (smalls14 (by decide)) (by decide) (by decide) (by kernel_rfl)).mono fun _ _ ⟨he, hk2⟩ => ⟨_, he, rfl, hk2⟩) rfl
      ) <|
    aS (fun hk bs hd => xpickT rfl (dp hd 33 rfl) (dp hd 39 rfl)) rfl <|
    mvD 40 rfl rfl rfl rfl rfl rfl <|
    armC (wg (j := 41) (b := true) rfl rfl rfl) (fun aa ww hk bs hd => xcall1 rfl rfl (en_louvrelaw14_num _ _)) (fun aa ww hk bs hd => lnum14_any 20000 ww) rfl <|
    armC (wg (j := 41) (b := true) rfl rfl rfl) (fun aa ww hk bs hd => xcall1 rfl rfl (en_louvrelaw14_text _ _)) (fun aa ww hk bs hd => ltext14_any [98] ww) rfl <|
    armC (wg (j := 41) (b := true) rfl rfl rfl) (fun aa ww hk bs hd => xcall1 rfl rfl (en_louvrelaw14_text _ _)) (fun aa ww hk bs hd => ltext14_any [97, 98, 99, 98] ww) rfl <|
    arm (fun aa ww hk bs hd => by
      have d41 := dp hd 41 rfl; have d43 := dp hd 43 rfl; have d44 := dp hd 44 rfl; exact stepX_new _ (want1 (j := 41) (b := true) rfl d41) (xrow2 rfl (d43) (d44)) ⟨_, rfl, hk.size, Go.heap_alloc_new _ _⟩ ((Kept.refl _).alloc _) rfl (Nat.le_refl _)
      ) <|
    arm (fun aa ww hk bs hd => by
      have d41 := dp hd 41 rfl; have d42 := dp hd 42 rfl; have d45 := dL hd 45 rfl; obtain ⟨g45, e45, _, h45⟩ := d45; exact stepX_enter (want1 (j := 41) (b := true) rfl d41) (xcall3 (u := aggV (⟨1, 20000, []⟩ : Vl)) (v := .int .u8 41) (s := .slice (some ⟨g45, 0, none⟩) 2 2) rfl (d42) rfl e45 (en_louvrelaw14_is _ _)) ((is14_any (⟨1, 20000, []⟩ : Vl) 41 (some ⟨g45, 0, none⟩) 2 [(⟨3, 0, [98]⟩ : Vl), (⟨3, 0, [97, 98, 99, 98]⟩ : Vl)] ww mx (HM.kept (ow.keep hk).kept) (rowObj_row h45) (smalls14 (by decide)) (by decide) (by decide) (by kernel_rfl)).mono fun _ _ ⟨he, hk2⟩ => ⟨_, he, rfl, hk2⟩) rfl
      ) <|
    aS (fun hk bs hd => xpickT rfl (dp hd 41 rfl) (dp hd 46 rfl)) rfl <|
    mvD 47 rfl rfl rfl rfl rfl rfl <|
    armC (wg (j := 48) (b := true) rfl rfl rfl) (fun aa ww hk bs hd => xcall1 rfl rfl (en_louvrelaw14_num _ _)) (fun aa ww hk bs hd => lnum14_any 40000 ww) rfl <|
    armC (wg (j := 48) (b := true) rfl rfl rfl) (fun aa ww hk bs hd => xcall1 rfl rfl (en_louvrelaw14_text _ _)) (fun aa ww hk bs hd => ltext14_any [98] ww) rfl <|
    armC (wg (j := 48) (b := true) rfl rfl rfl) (fun aa ww hk bs hd => xcall1 rfl rfl (en_louvrelaw14_text _ _)) (fun aa ww hk bs hd => ltext14_any [97, 98, 99, 98] ww) rfl <|
    armC (wg (j := 48) (b := true) rfl rfl rfl) (fun aa ww hk bs hd => xcall1 rfl rfl (en_louvrelaw14_num _ _)) (fun aa ww hk bs hd => lnum14_any 30000 ww) rfl <|
    arm (fun aa ww hk bs hd => by
      have d48 := dp hd 48 rfl; have d50 := dp hd 50 rfl; have d51 := dp hd 51 rfl; have d52 := dp hd 52 rfl; exact stepX_new _ (want1 (j := 48) (b := true) rfl d48) (xrow3 rfl (d50) (d51) (d52)) ⟨_, rfl, hk.size, Go.heap_alloc_new _ _⟩ ((Kept.refl _).alloc _) rfl (Nat.le_refl _)
      ) <|
    arm (fun aa ww hk bs hd => by
      have d48 := dp hd 48 rfl; have d49 := dp hd 49 rfl; have d53 := dL hd 53 rfl; obtain ⟨g53, e53, _, h53⟩ := d53; exact stepX_enter (want1 (j := 48) (b := true) rfl d48) (xcall3 (u := aggV (⟨1, 40000, []⟩ : Vl)) (v := .int .u8 41) (s := .slice (some ⟨g53, 0, none⟩) 3 3) rfl (d49) rfl e53 (en_louvrelaw14_is _ _)) ((is14_any (⟨1, 40000, []⟩ : Vl) 41 (some ⟨g53, 0, none⟩) 3 [(⟨3, 0, [98]⟩ : Vl), (⟨3, 0, [97, 98, 99, 98]⟩ : Vl), (⟨1, 30000, []⟩ : Vl)] ww mx (HM.kept (ow.keep hk).kept) (rowObj_row h53) (smalls14 (by decide)) (by decide) (by decide) (by kernel_rfl)).mono fun _ _ ⟨he, hk2⟩ => ⟨_, he, rfl, hk2⟩) rfl
      ) <|
    aS (fun hk bs hd => xpickT rfl (dp hd 48 rfl) (dp hd 54 rfl)) rfl <|
    mvD 55 rfl rfl rfl rfl rfl rfl <|
    armS (wg (j := 56) (b := true) rfl rfl rfl) (fun aa ww hk bs hd => xloadN 3 rfl (by kernel_rfl) (by kernel_rfl) (bg bs s1) ((ow.keep hk).box 0 rfl) (Nat.le_of_ble_eq_true rfl) rfl) rfl <|
    armC (wg (j := 56) (b := true) rfl rfl rfl) (fun aa ww hk bs hd => xcall1 rfl rfl (en_louvrelaw14_text _ _)) (fun aa ww hk bs hd => ltext14_any [66] ww) rfl <|
    armC (wg (j := 56) (b := true) rfl rfl rfl) (fun aa ww hk bs hd => xcall1 rfl rfl (en_louvrelaw14_text _ _)) (fun aa ww hk bs hd => ltext14_any [97, 98, 99] ww) rfl <|
    arm (fun aa ww hk bs hd => by
      have d56 := dp hd 56 rfl; have d58 := dp hd 58 rfl; have d59 := dp hd 59 rfl; exact stepX_new _ (want1 (j := 56) (b := true) rfl d56) (xrow2 rfl (d58) (d59)) ⟨_, rfl, hk.size, Go.heap_alloc_new _ _⟩ ((Kept.refl _).alloc _) rfl (Nat.le_refl _)
      ) <|
    arm (fun aa ww hk bs hd => by
      have d56 := dp hd 56 rfl; have d57 := dp hd 57 rfl; have d60 := dL hd 60 rfl; obtain ⟨g60, e60, _, h60⟩ := d60; exact stepX_enter (want1 (j := 56) (b := true) rfl d56) (xcall3 (u := aggV (⟨4, 2, []⟩ : Vl)) (v := .int .u8 41) (s := .slice (some ⟨g60, 0, none⟩) 2 2) rfl (d57) rfl e60 (en_louvrelaw14_is _ _)) ((is14_any (⟨4, 2, []⟩ : Vl) 41 (some ⟨g60, 0, none⟩) 2 [(⟨3, 0, [66]⟩ : Vl), (⟨3, 0, [97, 98, 99]⟩ : Vl)] ww mx (HM.kept (ow.keep hk).kept) (rowObj_row h60) (smalls14 (by decide)) (by decide) (by decide) (by kernel_rfl)).mono fun _ _ ⟨he, hk2⟩ => ⟨_, he, rfl, hk2⟩) rfl
      ) <|
    aS (fun hk bs hd => xpickT rfl (dp hd 56 rfl) (dp hd 61 rfl)) rfl <|
    mvD 62 rfl rfl rfl rfl rfl rfl <|
    armC (wg (j := 63) (b := true) rfl rfl rfl) (fun aa ww hk bs hd => xcall1 rfl rfl (en_louvrelaw14_num _ _)) (fun aa ww hk bs hd => lnum14_any 30000 ww) rfl <|
    armC (wg (j := 63) (b := true) rfl rfl rfl) (fun aa ww hk bs hd => xcall1 rfl rfl (en_louvrelaw14_text _ _)) (fun aa ww hk bs hd => ltext14_any [] ww) rfl <|
    armC (wg (j := 63) (b := true) rfl rfl rfl) (fun aa ww hk bs hd => xcall1 rfl rfl (en_louvrelaw14_text _ _)) (fun aa ww hk bs hd => ltext14_any [97, 98] ww) rfl <|
    armC (wg (j := 63) (b := true) rfl rfl rfl) (fun aa ww hk bs hd => xcall1 rfl rfl (en_louvrelaw14_num _ _)) (fun aa ww hk bs hd => lnum14_any 30000 ww) rfl <|
    arm (fun aa ww hk bs hd => by
      have d63 := dp hd 63 rfl; have d65 := dp hd 65 rfl; have d66 := dp hd 66 rfl; have d67 := dp hd 67 rfl; exact stepX_new _ (want1 (j := 63) (b := true) rfl d63) (xrow3 rfl (d65) (d66) (d67)) ⟨_, rfl, hk.size, Go.heap_alloc_new _ _⟩ ((Kept.refl _).alloc _) rfl (Nat.le_refl _)
      ) <|
    arm (fun aa ww hk bs hd => by
      have d63 := dp hd 63 rfl; have d64 := dp hd 64 rfl; have d68 := dL hd 68 rfl; obtain ⟨g68, e68, _, h68⟩ := d68; exact stepX_enter (want1 (j := 63) (b := true) rfl d63) (xcall3 (u := aggV (⟨1, 30000, []⟩ : Vl)) (v := .int .u8 41) (s := .slice (some ⟨g68, 0, none⟩) 3 3) rfl (d64) rfl e68 (en_louvrelaw14_is _ _)) ((is14_any (⟨1, 30000, []⟩ : Vl) 41 (some ⟨g68, 0, none⟩) 3 [(⟨3, 0, []⟩ : Vl), (⟨3, 0, [97, 98]⟩ : Vl), (⟨1, 30000, []⟩ : Vl)] ww mx (HM.kept (ow.keep hk).kept) (rowObj_row h68) (smalls14 (by decide)) (by decide) (by decide) (by kernel_rfl)).mono fun _ _ ⟨he, hk2⟩ => ⟨_, he, rfl, hk2⟩) rfl
      ) <|
    aS (fun hk bs hd => xpickT rfl (dp hd 63 rfl) (dp hd 69 rfl)) rfl <|
    mvD 70 rfl rfl rfl rfl rfl rfl <|
    armC (wg (j := 71) (b := true) rfl rfl rfl) (fun aa ww hk bs hd => xcall1 rfl rfl (en_louvrelaw14_text _ _)) (fun aa ww hk bs hd => ltext14_any [97, 98, 97, 98] ww) rfl <|
    armC (wg (j := 71) (b := true) rfl rfl rfl) (fun aa ww hk bs hd => xcall1 rfl rfl (en_louvrelaw14_text _ _)) (fun aa ww hk bs hd => ltext14_any [97, 98] ww) rfl <|
    armC (wg (j := 71) (b := true) rfl rfl rfl) (fun aa ww hk bs hd => xcall1 rfl rfl (en_louvrelaw14_num _ _)) (fun aa ww hk bs hd => lnum14_any 29000 ww) rfl <|
    arm (fun aa ww hk bs hd => by
      have d71 := dp hd 71 rfl; have d73 := dp hd 73 rfl; have d74 := dp hd 74 rfl; exact stepX_new _ (want1 (j := 71) (b := true) rfl d71) (xrow2 rfl (d73) (d74)) ⟨_, rfl, hk.size, Go.heap_alloc_new _ _⟩ ((Kept.refl _).alloc _) rfl (Nat.le_refl _)
      ) <|
    arm (fun aa ww hk bs hd => by
      have d71 := dp hd 71 rfl; have d72 := dp hd 72 rfl; have d75 := dL hd 75 rfl; obtain ⟨g75, e75, _, h75⟩ := d75; exact stepX_enter (want1 (j := 71) (b := true) rfl d71) (xcall3 (u := aggV (⟨3, 0, [97, 98, 97, 98]⟩ : Vl)) (v := .int .u8 39) (s := .slice (some ⟨g75, 0, none⟩) 2 2) rfl (d72) rfl e75 (en_louvrelaw14_is _ _)) ((is14_any (⟨3, 0, [97, 98, 97, 98]⟩ : Vl) 39 (some ⟨g75, 0, none⟩) 2 [(⟨3, 0, [97, 98]⟩ : Vl), (⟨1, 29000, []⟩ : Vl)] ww mx (HM.kept (ow.keep hk).kept) (rowObj_row h75) (smalls14 (by decide)) (by decide) (by decide) (by kernel_rfl)).mono fun _ _ ⟨he, hk2⟩ => ⟨_, he, rfl, hk2⟩) rfl
      ) <|
    aS (fun hk bs hd => xpickT rfl (dp hd 71 rfl) (dp hd 76 rfl)) rfl <|
    mvD 77 rfl rfl rfl rfl rfl rfl <|
    armS (wg (j := 78) (b := true) rfl rfl rfl) (fun aa ww hk bs hd => xloadN 3 rfl (by kernel_rfl) (by kernel_rfl) (bg bs s1) ((ow.keep hk).box 0 rfl) (Nat.le_of_ble_eq_true rfl) rfl) rfl <|
    armC (wg (j := 78) (b := true) rfl rfl rfl) (fun aa ww hk bs hd => xcall1 rfl rfl (en_louvrelaw14_text _ _)) (fun aa ww hk bs hd => ltext14_any [97, 98] ww) rfl <|
    armC (wg (j := 78) (b := true) rfl rfl rfl) (fun aa ww hk bs hd => xcall1 rfl rfl (en_louvrelaw14_num _ _)) (fun aa ww hk bs hd => lnum14_any 2000000 ww) rfl <|
    arm (fun aa ww hk bs hd => by
      have d78 := dp hd 78 rfl; have d80 := dp hd 80 rfl; have d81 := dp hd 81 rfl; exact stepX_new _ (want1 (j := 78) (b := true) rfl d78) (xrow2 rfl (d80) (d81)) ⟨_, rfl, hk.size, Go.heap_alloc_new _ _⟩ ((Kept.refl _).alloc _) rfl (Nat.le_refl _)
      ) <|
    arm (fun aa ww hk bs hd => by
      have d78 := dp hd 78 rfl; have d79 := dp hd 79 rfl; have d82 := dL hd 82 rfl; obtain ⟨g82, e82, _, h82⟩ := d82; exact stepX_enter (want1 (j := 78) (b := true) rfl d78) (xcall3 (u := aggV (⟨4, 2, []⟩ : Vl)) (v := .int .u8 39) (s := .slice (some ⟨g82, 0, none⟩) 2 2) rfl (d79) rfl e82 (en_louvrelaw14_is _ _)) ((is14_any (⟨4, 2, []⟩ : Vl) 39 (some ⟨g82, 0, none⟩) 2 [(⟨3, 0, [97, 98]⟩ : Vl), (⟨1, 2000000, []⟩ : Vl)] ww mx (HM.kept (ow.keep hk).kept) (rowObj_row h82) (smalls14 (by decide)) (by decide) (by decide) (by kernel_rfl)).mono fun _ _ ⟨he, hk2⟩ => ⟨_, he, rfl, hk2⟩) rfl
      ) <|
    aS (fun hk bs hd => xpickT rfl (dp hd 78 rfl) (dp hd 83 rfl)) rfl <|
    mvD 84 rfl rfl rfl rfl rfl rfl <|
    armC (wg (j := 85) (b := true) rfl rfl rfl) (fun aa ww hk bs hd => xcall1 rfl rfl (en_louvrelaw14_num _ _)) (fun aa ww hk bs hd => lnum14_any 40000 ww) rfl <|
    armC (wg (j := 85) (b := true) rfl rfl rfl) (fun aa ww hk bs hd => xcall1 rfl rfl (en_louvrelaw14_num _ _)) (fun aa ww hk bs hd => lnum14_any 125000 ww) rfl <|
    arm (fun aa ww hk bs hd => by
      have d85 := dp hd 85 rfl; have d87 := dp hd 87 rfl; exact stepX_new _ (want1 (j := 85) (b := true) rfl d85) (xrow1 rfl (d87)) ⟨_, rfl, hk.size, Go.heap_alloc_new _ _⟩ ((Kept.refl _).alloc _) rfl (Nat.le_refl _)
      ) <|
    arm (fun aa ww hk bs hd => by
      have d85 := dp hd 85 rfl; have d86 := dp hd 86 rfl; have d88 := dL hd 88 rfl; obtain ⟨g88, e88, _, h88⟩ := d88; exact stepX_enter (want1 (j := 85) (b := true) rfl d85) (xcall3 (u := aggV (⟨1, 40000, []⟩ : Vl)) (v := .int .u8 31) (s := .slice (some ⟨g88, 0, none⟩) 1 1) rfl (d86) rfl e88 (en_louvrelaw14_is _ _)) ((is14_any (⟨1, 40000, []⟩ : Vl) 31 (some ⟨g88, 0, none⟩) 1 [(⟨1, 125000, []⟩ : Vl)] ww mx (HM.kept (ow.keep hk).kept) (rowObj_row h88) (smalls14 (by decide)) (by decide) (by decide) (by kernel_rfl)).mono fun _ _ ⟨he, hk2⟩ => ⟨_, he, rfl, hk2⟩) rfl
      ) <|
    aS (fun hk bs hd => xpickT rfl (dp hd 85 rfl) (dp hd 89 rfl)) rfl <|
    mvD 90 rfl rfl rfl rfl rfl rfl <|
    armC (wg (j := 91) (b := true) rfl rfl rfl) (fun aa ww hk bs hd => xcall1 rfl rfl (en_louvrelaw14_num _ _)) (fun aa ww hk bs hd => lnum14_any 15000 ww) rfl <|
    armC (wg (j := 91) (b := true) rfl rfl rfl) (fun aa ww hk bs hd => xcall1 rfl rfl (en_louvrelaw14_text _ _)) (fun aa ww hk bs hd => ltext14_any [49, 46, 53] ww) rfl <|
    arm (fun aa ww hk bs hd => by
      have d91 := dp hd 91 rfl; have d93 := dp hd 93 rfl; exact stepX_new _ (want1 (j := 91) (b := true) rfl d91) (xrow1 rfl (d93)) ⟨_, rfl, hk.size, Go.heap_alloc_new _ _⟩ ((Kept.refl _).alloc _) rfl (Nat.le_refl _)
      ) <|
    arm (fun aa ww hk bs hd => by
      have d91 := dp hd 91 rfl; have d92 := dp hd 92 rfl; have d94 := dL hd 94 rfl; obtain ⟨g94, e94, _, h94⟩ := d94; exact stepX_enter (want1 (j := 91) (b := true) rfl d91) (xcall3 (u := aggV (⟨1, 15000, []⟩ : Vl)) (v := .int .u8 42) (s := .slice (some ⟨g94, 0, none⟩) 1 1) rfl (d92) rfl e94 (en_louvrelaw14_is _ _)) ((is14_any (⟨1, 15000, []⟩ : Vl) 42 (some ⟨g94, 0, none⟩) 1 [(⟨3, 0, [49, 46, 53]⟩ : Vl)] ww mx (HM.kept (ow.keep hk).kept) (rowObj_row h94) (smalls14 (by decide)) (by decide) (by decide) (by kernel_rfl)).mono fun _ _ ⟨he, hk2⟩ => ⟨_, he, rfl, hk2⟩) rfl
      ) <|
    aS (fun hk bs hd => xpickT rfl (dp hd 91 rfl) (dp hd 95 rfl)) rfl <|
    mvD 96 rfl rfl rfl rfl rfl rfl <|
    armS (wg (j := 97) (b := true) rfl rfl rfl) (fun aa ww hk bs hd => xloadN 3 rfl (by kernel_rfl) (by kernel_rfl) (bg bs s1) ((ow.keep hk).box 0 rfl) (Nat.le_of_ble_eq_true rfl) rfl) rfl <|
    armC (wg (j := 97) (b := true) rfl rfl rfl) (fun aa ww hk bs hd => xcall1 rfl rfl (en_louvrelaw14_text _ _)) (fun aa ww hk bs hd => ltext14_any [97, 98, 99] ww) rfl <|
    armC (wg (j := 97) (b := true) rfl rfl rfl) (fun aa ww hk bs hd => xcall1 rfl rfl (en_louvrelaw14_text _ _)) (fun aa ww hk bs hd => ltext14_any [120] ww) rfl <|
    armS (wg (j := 97) (b := true) rfl rfl rfl) (fun aa ww hk bs hd => xbuild (us := #[(0, .int .u8 4), (1, .int .i64 4)]) rfl (by simp only [List.map_toArray, List.map_cons, List.map_nil]; rfl) (by kernel_rfl)) rfl <|
    arm (fun aa ww hk bs hd => by
      have d97 := dp hd 97 rfl; have d99 := dp hd 99 rfl; have d100 := dp hd 100 rfl; have d101 := dp hd 101 rfl; exact stepX_new _ (want1 (j := 97) (b := true) rfl d97) (xrow3 rfl (d99) (d100) (d101)) ⟨_, rfl, hk.size, Go.heap_alloc_new _ _⟩ ((Kept.refl _).alloc _) rfl (Nat.le_refl _)
      ) <|
    arm (fun aa ww hk bs hd => by
      have d97 := dp hd 97 rfl; have d98 := dp hd 98 rfl; have d102 := dL hd 102 rfl; obtain ⟨g102, e102, _, h102⟩ := d102; exact stepX_enter (want1 (j := 97) (b := true) rfl d97) (xcall3 (u := aggV (⟨4, 2, []⟩ : Vl)) (v := .int .u8 34) (s := .slice (some ⟨g102, 0, none⟩) 3 3) rfl (d98) rfl e102 (en_louvrelaw14_is _ _)) ((is14_any (⟨4, 2, []⟩ : Vl) 34 (some ⟨g102, 0, none⟩) 3 [(⟨3, 0, [97, 98, 99]⟩ : Vl), (⟨3, 0, [120]⟩ : Vl), (⟨4, 4, []⟩ : Vl)] ww mx (HM.kept (ow.keep hk).kept) (rowObj_row h102) (smalls14 (by decide)) (by decide) (by decide) (by kernel_rfl)).mono fun _ _ ⟨he, hk2⟩ => ⟨_, he, rfl, hk2⟩) rfl
      ) <|
    aS (fun hk bs hd => xpickT rfl (dp hd 97 rfl) (dp hd 103 rfl)) rfl <|
    asD 104 rfl rfl rfl rfl rfl rfl <|
    arm0) fun fa fw bs hv ap z q ow => ?_
  have s0 := gv hv 105 rfl rfl; refine wt hK3 ?_; refine wp_ret ?_; refine results_one rfl (res_tmp s0) q ?_; exact ⟨rfl, ow.kept⟩
end Go.Proofs.YtbpkfnoenkoabaaGreatDoor
