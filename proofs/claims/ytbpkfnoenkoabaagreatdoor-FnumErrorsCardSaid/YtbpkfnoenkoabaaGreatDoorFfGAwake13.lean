/- Layer 13: the examples of the law's package: num, fail, calls, ops, awake (printed by wip/mkawake13.py). -/
import Derived.Test.YtbpkfnoenkoabaaGreatDoorFfGNum13b
namespace Go.Proofs.YtbpkfnoenkoabaaGreatDoor
set_option linter.unusedVariables false
set_option linter.unusedSimpArgs false
open Go.RowKit Lv
set_option maxRecDepth 100000
theorem smalls13 {l : List Vl} (h : (l.all fun v => decide (-9223372036854775808 ≤ v.n ∧ v.n ≤ 9223372036854775807 ∧ v.t.length ≤ 2000)) = true) : ∀ v ∈ l, Small v := fun v hv => by
  have := List.all_eq_true.1 h v hv; rw [decide_eq_true_eq] at this; exact ⟨⟨this.1, this.2.1⟩, this.2.2⟩
theorem sqrt_ex : vCall13 8 [(⟨1, 20000, []⟩ : Vl)] = ((⟨1, 14142, []⟩ : Vl), 0) := by
  have e : (root 20000 : Int) = 14142 := (root_unique (by decide) (by decide) (by decide) (by decide)).symm; rw [c13_val1 (by decide) (by decide) (by kernel_rfl) (by kernel_rfl)]; have e2 : (vNum (⟨1, 20000, []⟩ : Vl)).n = 20000 := by kernel_rfl
  rw [e2]
  have e3 : val13 8 20000 0 = vRes ((root 20000 : Int), true) := by
    unfold val13 dSqrt
    simp
  rw [e3, e]
  rfl
theorem en_fnum_Binary : En 30 := by intro args w; go_simp
theorem en_fnum_Call : En 27 := by intro args w; go_simp
theorem en_fnum_Neg : En 32 := by intro args w; go_simp
theorem en_fnum_Percent : En 34 := by intro args w; go_simp
theorem en_louvrelaw13_calls : En 75 := by intro args w; go_simp
theorem en_louvrelaw13_fail : En 41 := by intro args w; go_simp
theorem en_louvrelaw13_num : En 40 := by intro args w; go_simp
theorem en_louvrelaw13_ops : En 76 := by intro args w; go_simp
set_option maxHeartbeats 4000000 in
theorem lnum13_any (n : Int) (w : World) :
    Calls Tryz.prog 40 #[.int .i64 n] w fun e w' => e = .returned (aggV (⟨1, n, []⟩ : Vl)) ∧ Kept w w' := by
  go_enter Tryz.func40, Tryz.ntmps40; refine sq fun hK1 => ?_
  refine ro [yNew w.heap.size (.cells #[.int .u8 0, .int .i64 0, .string ⟨[].toArray⟩] 25 (0, 0))] 1 5 rfl rfl (Own.start w) (
    aP (fun hk bs hd => xalloc rfl (by kernel_rfl)) rfl <|
    arm0) fun fa fw bs hv ap z q ov => ?_
  have s0 := bs.get 0 rfl rfl; obtain ⟨gb1, s2, bgb1, hgb1⟩ := gotP hv 0 rfl rfl rfl; have ov := ov.cons hgb1 (Nat.le_trans (Own.start w).kept.size bgb1) ((Own.start w).below bgb1); have ow := ov; refine wt hK1 ?_; refine sq fun hK2 => ?_
  refine ro [yV _, yV (aggV (⟨1, n, []⟩ : Vl))] 2 5 z q ow (
    mvS s0 rfl rfl rfl rfl <|
    arm (fun aa ww hk bs hd => by
      have d0 : aa.eval (.tmp 3) = .int .i64 n := depX hd 0 rfl; exact stepX_same (v := aggV (⟨1, n, []⟩ : Vl)) (want0 rfl) (xbuild (us := #[(0, .int .u8 1), (1, .int .i64 n)]) rfl (by simp only [List.map_toArray, List.map_cons, List.map_nil, d0]; rfl) (by kernel_rfl)) rfl rfl
      ) <|
    arm0) fun fa fw bs hv ap z q ow => ?_
  have s2 := bg bs s2; have s4 := gv hv 1 rfl rfl; refine ws ow 0 0 s2 s4 fun fw ow => ?_; refine wt hK2 ?_; refine wp_ret ?_; refine rs3 s2 (ow.box 0 rfl) q ?_; exact ⟨rfl, ow.kept⟩
set_option maxHeartbeats 4000000 in
theorem lfail13_any (n : Int) (w : World) :
    Calls Tryz.prog 41 #[.int .i64 n] w fun e w' => e = .returned (aggV (⟨4, n, []⟩ : Vl)) ∧ Kept w w' := by
  go_enter Tryz.func41, Tryz.ntmps41; refine sq fun hK1 => ?_
  refine ro [yNew w.heap.size (.cells #[.int .u8 0, .int .i64 0, .string ⟨[].toArray⟩] 25 (0, 0))] 1 5 rfl rfl (Own.start w) (
    aP (fun hk bs hd => xalloc rfl (by kernel_rfl)) rfl <|
    arm0) fun fa fw bs hv ap z q ov => ?_
  have s0 := bs.get 0 rfl rfl; obtain ⟨gb1, s2, bgb1, hgb1⟩ := gotP hv 0 rfl rfl rfl; have ov := ov.cons hgb1 (Nat.le_trans (Own.start w).kept.size bgb1) ((Own.start w).below bgb1); have ow := ov; refine wt hK1 ?_; refine sq fun hK2 => ?_
  refine ro [yV _, yV (aggV (⟨4, n, []⟩ : Vl))] 2 5 z q ow (
    mvS s0 rfl rfl rfl rfl <|
    arm (fun aa ww hk bs hd => by
      have d0 : aa.eval (.tmp 3) = .int .i64 n := depX hd 0 rfl; exact stepX_same (v := aggV (⟨4, n, []⟩ : Vl)) (want0 rfl) (xbuild (us := #[(0, .int .u8 4), (1, .int .i64 n)]) rfl (by simp only [List.map_toArray, List.map_cons, List.map_nil, d0]; rfl) (by kernel_rfl)) rfl rfl
      ) <|
    arm0) fun fa fw bs hv ap z q ow => ?_
  have s2 := bg bs s2; have s4 := gv hv 1 rfl rfl; refine ws ow 0 0 s2 s4 fun fw ow => ?_; refine wt hK2 ?_; refine wp_ret ?_; refine rs3 s2 (ow.box 0 rfl) q ?_; exact ⟨rfl, ow.kept⟩
set_option maxHeartbeats 4000000 in
theorem calls13_any (x : Vl) (fn : Nat) (A : Option Addr) (cap : Nat) (l : List Vl) (w : World) (mx : Int) (HM : Mx w mx) (hr : RowV w A l) (hs : ∀ v ∈ l, Small v) (hl : l.length ≤ 1000000) (hc : l.length ≤ cap) (hx : vCall13 fn l = (x, 0)) :
    Calls Tryz.prog 75 #[.int .u8 fn, aggV x, .slice A l.length cap] w fun e w' => e = .returned (.bool true) ∧ Kept w w' := by
  go_enter Tryz.func75, Tryz.ntmps75; refine sq fun hK1 => ?_
  refine ro [yNew w.heap.size (.cells #[.int .u8 x.k, .int .i64 x.n, .string ⟨x.t.toArray⟩] 25 (0, 0)), yV _] 2 22 rfl rfl (Own.start w) (
    aP (fun hk bs hd => xbox rfl (bs.get 1 rfl rfl) (by kernel_rfl)) rfl <|
    aS (fun hk bs hd => xassign rfl rfl) rfl <|
    arm0) fun fa fw bs hv ap z q ov => ?_
  have s0 := bs.get 0 rfl rfl; have s2 := bs.get 2 rfl rfl; obtain ⟨gb1, s4, bgb1, hgb1⟩ := gotP hv 0 rfl rfl rfl; have ov := ov.cons hgb1 (Nat.le_trans (Own.start w).kept.size bgb1) ((Own.start w).below bgb1); have s6 := gv hv 1 rfl rfl; have ow := ov; refine wt hK1 ?_; refine sq fun hK2 => ?_
  refine ro [yV _, yV _, yV (.tuple #[aggV x, .int .i64 0]), yV _, yV (aggV x), yV _, yNew fw.heap.size (.cells #[.int .u8 0, .int .i64 0, .string ⟨[].toArray⟩] 25 (0, 0))] 7 22 z q ow (
    mvS s0 rfl rfl rfl rfl <|
    mvS s2 rfl rfl rfl rfl <|
    aC (fun hk bs hd => xcall2 rfl (dp hd 0 rfl) (dp hd 1 rfl) (en_fnum_Call _ _)) (fun {_ ww} hk bs hd => (by have h := call13_any fn A cap l ww mx (HM.kept (ow.keep hk).kept) (hr.kept (ow.keep hk).kept) hs hl hc; rw [hx] at h; exact h)) rfl <|
    mvD 2 rfl rfl rfl rfl rfl rfl <|
    aS (fun hk bs hd => xextract rfl (dp hd 3 rfl) rfl) rfl <|
    aS (fun hk bs hd => xextract rfl (dp hd 3 rfl) rfl) rfl <|
    aP (fun hk bs hd => xalloc rfl (by kernel_rfl)) rfl <|
    arm0) fun fa fw bs hv ap z q ov => ?_
  obtain ⟨s4, s6⟩ := b2 bs s4 s6; have s13 := gv hv 4 rfl rfl; have s14 := gv hv 5 rfl rfl; obtain ⟨gb2, s7, bgb2, hgb2⟩ := gotP hv 6 rfl rfl rfl; have ov := ov.cons hgb2 (Nat.le_trans ow.kept.size bgb2) (ow.below bgb2); have ow := ov; refine ws ow 0 0 s7 s13 fun fw ow => ?_; refine wl_value (v := .int .i64 0) (want0 rfl) (xassign rfl s14) ?_; refine gp3 z q ow s4 s6 s7 fun fa fw z q ow s4 s6 s7 s8 => ?_; refine wt hK2 ?_; refine sq fun hK3 => ?_
  refine ro [yV (aggV x), yV (aggV x), yV (.bool true), yV _, yV _, yV (.bool true), yV _, yV _] 8 22 z q ow (
    aS (fun hk bs hd => xloadN 3 rfl (by kernel_rfl) (by kernel_rfl) (bg bs s7) ((ow.keep hk).box 0 rfl) (Nat.le_of_ble_eq_true rfl) rfl) rfl <|
    aS (fun hk bs hd => xloadN 3 rfl (by kernel_rfl) (by kernel_rfl) (bg bs s4) ((ow.keep hk).box 1 rfl) (Nat.le_of_ble_eq_true rfl) rfl) rfl <|
    aE (fun hk bs hd => xeqv rfl (dp hd 0 rfl) (dp hd 1 rfl)) (congrArg Value.bool (sameV_self x)) rfl <|
    mvD 2 rfl rfl rfl rfl rfl rfl <|
    armS (wg (j := 3) (b := true) rfl rfl rfl) (fun aa ww hk bs hd => xmove rfl (bg bs s8)) rfl <|
    armE (wg (j := 3) (b := true) rfl rfl rfl) (fun aa ww hk bs hd => xeqi rfl (dp hd 4 rfl) rfl) (congrArg Value.bool rfl) rfl <|
    aS (fun hk bs hd => xpickT rfl (dp hd 3 rfl) (dp hd 5 rfl)) rfl <|
    asD 6 rfl rfl rfl rfl rfl rfl <|
    arm0) fun fa fw bs hv ap z q ow => ?_
  have s6 := gv hv 7 rfl rfl; refine wt hK3 ?_; refine wp_ret ?_; refine results_one rfl (res_tmp s6) q ?_; exact ⟨rfl, ow.kept⟩
set_option maxHeartbeats 4000000 in
theorem ops13_any (op : Int) (a b x : Vl) (w : World) (mx : Int) (HM : Mx w mx) (ha : Small a) (hb : Small b) (hx : vBin13 op a b = (x, 0)) :
    Calls Tryz.prog 76 #[.int .i64 op, aggV a, aggV b, aggV x] w fun e w' => e = .returned (.bool true) ∧ Kept w w' := by
  go_enter Tryz.func76, Tryz.ntmps76; refine sq fun hK1 => ?_
  refine ro [yNew w.heap.size (.cells #[.int .u8 a.k, .int .i64 a.n, .string ⟨a.t.toArray⟩] 25 (0, 0)), yNew w.heap.size (.cells #[.int .u8 b.k, .int .i64 b.n, .string ⟨b.t.toArray⟩] 25 (0, 0)), yNew w.heap.size (.cells #[.int .u8 x.k, .int .i64 x.n, .string ⟨x.t.toArray⟩] 25 (0, 0)), yV _] 4 25 rfl rfl (Own.start w) (
    aP (fun hk bs hd => xbox rfl (bs.get 1 rfl rfl) (by kernel_rfl)) rfl <|
    aP (fun hk bs hd => xbox rfl (bs.get 2 rfl rfl) (by kernel_rfl)) rfl <|
    aP (fun hk bs hd => xbox rfl (bs.get 3 rfl rfl) (by kernel_rfl)) rfl <|
    aS (fun hk bs hd => xassign rfl rfl) rfl <|
    arm0) fun fa fw bs hv ap z q ov => ?_
  have s0 := bs.get 0 rfl rfl; obtain ⟨gb1, s5, bgb1, hgb1⟩ := gotP hv 0 rfl rfl rfl; have ov := ov.cons hgb1 (Nat.le_trans (Own.start w).kept.size bgb1) ((Own.start w).below bgb1); obtain ⟨gb2, s6, bgb2, hgb2⟩ := gotP hv 1 rfl rfl rfl; have ov := ov.cons hgb2 (Nat.le_trans (Own.start w).kept.size bgb2) (ne_cons (apartP ap 0 1 rfl rfl rfl s5 rfl s6 rfl) ((Own.start w).below bgb2)); obtain ⟨gb3, s7, bgb3, hgb3⟩ := gotP hv 2 rfl rfl rfl; have ov := ov.cons hgb3 (Nat.le_trans (Own.start w).kept.size bgb3) (ne_cons (apartP ap 1 2 rfl rfl rfl s6 rfl s7 rfl) (ne_cons (apartP ap 0 2 rfl rfl rfl s5 rfl s7 rfl) ((Own.start w).below bgb3))); have s8 := gv hv 3 rfl rfl; have ow := ov; refine wt hK1 ?_; refine sq fun hK2 => ?_
  refine ro [yV _, yV (aggV a), yV (aggV b), yV (.tuple #[aggV x, .int .i64 0]), yV _, yV (aggV x), yV _, yNew fw.heap.size (.cells #[.int .u8 0, .int .i64 0, .string ⟨[].toArray⟩] 25 (0, 0))] 8 25 z q ow (
    mvS s0 rfl rfl rfl rfl <|
    aS (fun hk bs hd => xloadN 3 rfl (by kernel_rfl) (by kernel_rfl) (bg bs s5) ((ow.keep hk).box 2 rfl) (Nat.le_of_ble_eq_true rfl) rfl) rfl <|
    aS (fun hk bs hd => xloadN 3 rfl (by kernel_rfl) (by kernel_rfl) (bg bs s6) ((ow.keep hk).box 1 rfl) (Nat.le_of_ble_eq_true rfl) rfl) rfl <|
    aC (fun hk bs hd => xcall3 rfl (dp hd 0 rfl) (dp hd 1 rfl) (dp hd 2 rfl) (en_fnum_Binary _ _)) (fun {_ ww} hk bs hd => (by have h := binary13_any op a b ww mx (HM.kept (ow.keep hk).kept) ha hb; rw [hx] at h; exact h)) rfl <|
    mvD 3 rfl rfl rfl rfl rfl rfl <|
    aS (fun hk bs hd => xextract rfl (dp hd 4 rfl) rfl) rfl <|
    aS (fun hk bs hd => xextract rfl (dp hd 4 rfl) rfl) rfl <|
    aP (fun hk bs hd => xalloc rfl (by kernel_rfl)) rfl <|
    arm0) fun fa fw bs hv ap z q ov => ?_
  obtain ⟨s7, s8⟩ := b2 bs s7 s8; have s16 := gv hv 5 rfl rfl; have s17 := gv hv 6 rfl rfl; obtain ⟨gb4, s9, bgb4, hgb4⟩ := gotP hv 7 rfl rfl rfl; have ov := ov.cons hgb4 (Nat.le_trans ow.kept.size bgb4) (ow.below bgb4); have ow := ov; refine ws ow 0 0 s9 s16 fun fw ow => ?_; refine wl_value (v := .int .i64 0) (want0 rfl) (xassign rfl s17) ?_; refine gp3 z q ow s7 s8 s9 fun fa fw z q ow s7 s8 s9 s10 => ?_; refine wt hK2 ?_; refine sq fun hK3 => ?_
  refine ro [yV (aggV x), yV (aggV x), yV (.bool true), yV _, yV _, yV (.bool true), yV _, yV _] 8 25 z q ow (
    aS (fun hk bs hd => xloadN 3 rfl (by kernel_rfl) (by kernel_rfl) (bg bs s9) ((ow.keep hk).box 0 rfl) (Nat.le_of_ble_eq_true rfl) rfl) rfl <|
    aS (fun hk bs hd => xloadN 3 rfl (by kernel_rfl) (by kernel_rfl) (bg bs s7) ((ow.keep hk).box 1 rfl) (Nat.le_of_ble_eq_true rfl) rfl) rfl <|
    aE (fun hk bs hd => xeqv rfl (dp hd 0 rfl) (dp hd 1 rfl)) (congrArg Value.bool (sameV_self x)) rfl <|
    mvD 2 rfl rfl rfl rfl rfl rfl <|
    armS (wg (j := 3) (b := true) rfl rfl rfl) (fun aa ww hk bs hd => xmove rfl (bg bs s10)) rfl <|
    armE (wg (j := 3) (b := true) rfl rfl rfl) (fun aa ww hk bs hd => xeqi rfl (dp hd 4 rfl) rfl) (congrArg Value.bool rfl) rfl <|
    aS (fun hk bs hd => xpickT rfl (dp hd 3 rfl) (dp hd 5 rfl)) rfl <|
    asD 6 rfl rfl rfl rfl rfl rfl <|
    arm0) fun fa fw bs hv ap z q ow => ?_
  have s8 := gv hv 7 rfl rfl; refine wt hK3 ?_; refine wp_ret ?_; refine results_one rfl (res_tmp s8) q ?_; exact ⟨rfl, ow.kept⟩
set_option maxHeartbeats 8000000 in
theorem awake13_any (w : World) (mx : Int) (HM : Mx w mx) :
    Calls Tryz.prog 29 #[] w fun e w' => e = .returned (.bool true) ∧ Kept w w' := by
  go_enter Tryz.func29, Tryz.ntmps29; refine sq fun hK1 => ?_
  refine ro [yV _] 1 129 rfl rfl (Own.start w) (
    aS (fun hk bs hd => xassign rfl rfl) rfl <|
    arm0) fun fa fw bs hv ap z q ow => ?_
  have s0 := gv hv 0 rfl rfl; refine wt hK1 ?_; refine sq fun hK2 => ?_
  refine ro [yV (aggV (⟨3, 0, [120]⟩ : Vl)), yV (aggV (⟨2, 1, []⟩ : Vl)), yNew fw.heap.size (.cells #[.int .u8 0, .int .i64 0, .string ⟨[].toArray⟩] 25 (0, 0)), yNew fw.heap.size (.cells #[.int .u8 0, .int .i64 0, .string ⟨[].toArray⟩] 25 (0, 0))] 4 129 z q ow (
    aS (fun hk bs hd => xbuild (us := #[(0, .int .u8 3), (2, .string ⟨[120].toArray⟩)]) rfl (by simp only [List.map_toArray, List.map_cons, List.map_nil]; rfl) (by kernel_rfl)) rfl <|
    aS (fun hk bs hd => xbuild (us := #[(0, .int .u8 2), (1, .int .i64 1)]) rfl (by simp only [List.map_toArray, List.map_cons, List.map_nil]; rfl) (by kernel_rfl)) rfl <|
    aP (fun hk bs hd => xalloc rfl (by kernel_rfl)) rfl <|
    aP (fun hk bs hd => xalloc rfl (by kernel_rfl)) rfl <|
    arm0) fun fa fw bs hv ap z q ov => ?_
  have s0 := bg bs s0; have s3 := gv hv 0 rfl rfl; have s4 := gv hv 1 rfl rfl; obtain ⟨gb1, s1, bgb1, hgb1⟩ := gotP hv 2 rfl rfl rfl; have ov := ov.cons hgb1 (Nat.le_trans ow.kept.size bgb1) (ow.below bgb1); obtain ⟨gb2, s2, bgb2, hgb2⟩ := gotP hv 3 rfl rfl rfl; have ov := ov.cons hgb2 (Nat.le_trans ow.kept.size bgb2) (ne_cons (apartP ap 2 3 rfl rfl rfl s1 rfl s2 rfl) (ow.below bgb2)); have ow := ov; refine ws ow 1 0 s1 s3 fun fw ow => ?_; refine ws ow 0 0 s2 s4 fun fw ow => ?_; refine wt hK2 ?_; refine sq fun hK3 => ?_
  refine ro [yV (aggV (⟨1, 23500, []⟩ : Vl)), yV (aggV (⟨1, 23450, []⟩ : Vl)), yV (aggV (⟨1, 20000, []⟩ : Vl)), ySlice fw.heap.size 2 (rowObj [(⟨1, 23450, []⟩ : Vl), (⟨1, 20000, []⟩ : Vl)]), yV (.bool true), yV _, yV (aggV (⟨1, (-23500), []⟩ : Vl)), yV (aggV (⟨1, (-23450), []⟩ : Vl)), yV (aggV (⟨1, 20000, []⟩ : Vl)), ySlice fw.heap.size 2 (rowObj [(⟨1, (-23450), []⟩ : Vl), (⟨1, 20000, []⟩ : Vl)]), yV (.bool true), yV _, yV _, yV (aggV (⟨1, 13000000, []⟩ : Vl)), yV (aggV (⟨1, 12500000, []⟩ : Vl)), yV (aggV (⟨1, (-20000), []⟩ : Vl)), ySlice fw.heap.size 2 (rowObj [(⟨1, 12500000, []⟩ : Vl), (⟨1, (-20000), []⟩ : Vl)]), yV (.bool true), yV _, yV _, yV (aggV (⟨1, 20000, []⟩ : Vl)), yV (aggV (⟨1, (-70000), []⟩ : Vl)), yV (aggV (⟨1, 30000, []⟩ : Vl)), ySlice fw.heap.size 2 (rowObj [(⟨1, (-70000), []⟩ : Vl), (⟨1, 30000, []⟩ : Vl)]), yV (.bool true), yV _, yV _, yV (aggV (⟨1, (-20000), []⟩ : Vl)), yV (aggV (⟨1, 70000, []⟩ : Vl)), yV (aggV (⟨1, (-30000), []⟩ : Vl)), ySlice fw.heap.size 2 (rowObj [(⟨1, 70000, []⟩ : Vl), (⟨1, (-30000), []⟩ : Vl)]), yV (.bool true), yV _, yV _, yV (aggV (⟨4, 1, []⟩ : Vl)), yV (aggV (⟨1, 55000, []⟩ : Vl)), yV (aggV (⟨1, 0, []⟩ : Vl)), ySlice fw.heap.size 2 (rowObj [(⟨1, 55000, []⟩ : Vl), (⟨1, 0, []⟩ : Vl)]), yV (.bool true), yV _, yV _, yV (aggV (⟨1, (-20000), []⟩ : Vl)), yV (aggV (⟨1, (-15000), []⟩ : Vl)), ySlice fw.heap.size 1 (rowObj [(⟨1, (-15000), []⟩ : Vl)]), yV (.bool true), yV _, yV _, yV (aggV (⟨1, (-10000), []⟩ : Vl)), yV (aggV (⟨1, (-15000), []⟩ : Vl)), ySlice fw.heap.size 1 (rowObj [(⟨1, (-15000), []⟩ : Vl)]), yV (.bool true), yV _, yV _, yV (aggV (⟨1, 14142, []⟩ : Vl)), yV (aggV (⟨1, 20000, []⟩ : Vl)), ySlice fw.heap.size 1 (rowObj [(⟨1, 20000, []⟩ : Vl)]), yV (.bool true), yV _, yV _, yV (aggV (⟨4, 3, []⟩ : Vl)), yV (aggV (⟨1, (-10000), []⟩ : Vl)), ySlice fw.heap.size 1 (rowObj [(⟨1, (-10000), []⟩ : Vl)]), yV (.bool true), yV _, yV _, yV (aggV (⟨1, 20000, []⟩ : Vl)), yV (aggV (⟨1, 100000, []⟩ : Vl)), yV (aggV (⟨1, 10240000, []⟩ : Vl)), yV (.bool true), yV _, yV _, yV (aggV (⟨1, 20000, []⟩ : Vl)), yV (aggV (⟨1, (-20000), []⟩ : Vl)), yV (aggV (⟨1, 2500, []⟩ : Vl)), yV (.bool true), yV _, yV _, yV (aggV (⟨1, 0, []⟩ : Vl)), yV (aggV (⟨1, (-10000), []⟩ : Vl)), yV (aggV (⟨4, 1, []⟩ : Vl)), yV (.bool true), yV _, yV _, yV (aggV (⟨1, 20000, []⟩ : Vl)), yV (aggV (⟨1, 5000, []⟩ : Vl)), yV (aggV (⟨4, 3, []⟩ : Vl)), yV (.bool true), yV _, yV _, yV (aggV (⟨2, 1, []⟩ : Vl)), yV (aggV (⟨3, 0, [51]⟩ : Vl)), yV (aggV (⟨1, 40000, []⟩ : Vl)), yV (.bool true), yV _, yV _, yV (aggV (⟨3, 0, [120]⟩ : Vl)), yV (aggV (⟨4, 4, []⟩ : Vl)), yV (aggV (⟨4, 2, []⟩ : Vl)), yV (.bool true), yV _, yV _, yV (aggV (⟨4, 4, []⟩ : Vl)), yV (aggV (⟨3, 0, [120]⟩ : Vl)), yV (aggV (⟨4, 4, []⟩ : Vl)), yV (.bool true), yV _, yV _, yV (aggV (⟨1, 15000, []⟩ : Vl)), yV (aggV (⟨2, 1, []⟩ : Vl)), yV (aggV (⟨3, 0, [49, 46, 53, 84, 82, 85, 69]⟩ : Vl)), yV (.bool true), yV _, yV _, yV (aggV (⟨1, 500000, []⟩ : Vl)), yV (aggV (vPct13 (⟨1, 500000, []⟩ : Vl))), yV (aggV (⟨1, 5000, []⟩ : Vl)), yV (.bool true), yV _, yV _, yV (aggV (⟨3, 0, [120]⟩ : Vl)), yV (aggV (vNeg13 (⟨3, 0, [120]⟩ : Vl))), yV (aggV (⟨4, 2, []⟩ : Vl)), yV (.bool true), yV _, yV _] 125 129 z q ow (
    aC (fun hk bs hd => xcall1 rfl rfl (en_louvrelaw13_num _ _)) (fun hk bs hd => lnum13_any 23500 _) rfl <|
    aC (fun hk bs hd => xcall1 rfl rfl (en_louvrelaw13_num _ _)) (fun hk bs hd => lnum13_any 23450 _) rfl <|
    aC (fun hk bs hd => xcall1 rfl rfl (en_louvrelaw13_num _ _)) (fun hk bs hd => lnum13_any 20000 _) rfl <|
    arm (fun aa ww hk bs hd => by
      have d1 := dp hd 1 rfl; have d2 := dp hd 2 rfl; exact stepX_new _ (want0 rfl) (xrow2 rfl (d1) (d2)) ⟨_, rfl, hk.size, Go.heap_alloc_new _ _⟩ ((Kept.refl _).alloc _) rfl (Nat.le_refl _)
      ) <|
    arm (fun aa ww hk bs hd => by
      have d0 := dp hd 0 rfl; have d3 := dL hd 3 rfl; obtain ⟨g3, e3, _, h3⟩ := d3; exact stepX_enter (want0 rfl) (xcall3 (u := .int .u8 5) (v := aggV (⟨1, 23500, []⟩ : Vl)) (s := .slice (some ⟨g3, 0, none⟩) 2 2) rfl rfl (d0) e3 (en_louvrelaw13_calls _ _)) ((calls13_any (⟨1, 23500, []⟩ : Vl) 5 (some ⟨g3, 0, none⟩) 2 [(⟨1, 23450, []⟩ : Vl), (⟨1, 20000, []⟩ : Vl)] ww mx (HM.kept (ow.keep hk).kept) (rowObj_row h3) (smalls13 (by decide)) (by decide) (by decide) (by kernel_rfl)).mono fun _ _ ⟨he, hk2⟩ => ⟨_, he, rfl, hk2⟩) rfl
      ) <|
    mvD 4 rfl rfl rfl rfl rfl rfl <|
    armC (wg (j := 5) (b := true) rfl rfl rfl) (fun aa ww hk bs hd => xcall1 rfl rfl (en_louvrelaw13_num _ _)) (fun aa ww hk bs hd => lnum13_any (-23500) ww) rfl <|
    armC (wg (j := 5) (b := true) rfl rfl rfl) (fun aa ww hk bs hd => xcall1 rfl rfl (en_louvrelaw13_num _ _)) (fun aa ww hk bs hd => lnum13_any (-23450) ww) rfl <|
    armC (wg (j := 5) (b := true) rfl rfl rfl) (fun aa ww hk bs hd => xcall1 rfl rfl (en_louvrelaw13_num _ _)) (fun aa ww hk bs hd => lnum13_any 20000 ww) rfl <|
    arm (fun aa ww hk bs hd => by
      have d5 := dp hd 5 rfl; have d7 := dp hd 7 rfl; have d8 := dp hd 8 rfl; exact stepX_new _ (want1 (j := 5) (b := true) rfl d5) (xrow2 rfl (d7) (d8)) ⟨_, rfl, hk.size, Go.heap_alloc_new _ _⟩ ((Kept.refl _).alloc _) rfl (Nat.le_refl _)
      ) <|
    arm (fun aa ww hk bs hd => by
      have d5 := dp hd 5 rfl; have d6 := dp hd 6 rfl; have d9 := dL hd 9 rfl; obtain ⟨g9, e9, _, h9⟩ := d9; exact stepX_enter (want1 (j := 5) (b := true) rfl d5) (xcall3 (u := .int .u8 5) (v := aggV (⟨1, (-23500), []⟩ : Vl)) (s := .slice (some ⟨g9, 0, none⟩) 2 2) rfl rfl (d6) e9 (en_louvrelaw13_calls _ _)) ((calls13_any (⟨1, (-23500), []⟩ : Vl) 5 (some ⟨g9, 0, none⟩) 2 [(⟨1, (-23450), []⟩ : Vl), (⟨1, 20000, []⟩ : Vl)] ww mx (HM.kept (ow.keep hk).kept) (rowObj_row h9) (smalls13 (by decide)) (by decide) (by decide) (by kernel_rfl)).mono fun _ _ ⟨he, hk2⟩ => ⟨_, he, rfl, hk2⟩) rfl
      ) <|
    aS (fun hk bs hd => xpickT rfl (dp hd 5 rfl) (dp hd 10 rfl)) rfl <|
    mvD 11 rfl rfl rfl rfl rfl rfl <|
    armC (wg (j := 12) (b := true) rfl rfl rfl) (fun aa ww hk bs hd => xcall1 rfl rfl (en_louvrelaw13_num _ _)) (fun aa ww hk bs hd => lnum13_any 13000000 ww) rfl <|
    armC (wg (j := 12) (b := true) rfl rfl rfl) (fun aa ww hk bs hd => xcall1 rfl rfl (en_louvrelaw13_num _ _)) (fun aa ww hk bs hd => lnum13_any 12500000 ww) rfl <|
    armC (wg (j := 12) (b := true) rfl rfl rfl) (fun aa ww hk bs hd => xcall1 rfl rfl (en_louvrelaw13_num _ _)) (fun aa ww hk bs hd => lnum13_any (-20000) ww) rfl <|
    arm (fun aa ww hk bs hd => by
      have d12 := dp hd 12 rfl; have d14 := dp hd 14 rfl; have d15 := dp hd 15 rfl; exact stepX_new _ (want1 (j := 12) (b := true) rfl d12) (xrow2 rfl (d14) (d15)) ⟨_, rfl, hk.size, Go.heap_alloc_new _ _⟩ ((Kept.refl _).alloc _) rfl (Nat.le_refl _)
      ) <|
    arm (fun aa ww hk bs hd => by
      have d12 := dp hd 12 rfl; have d13 := dp hd 13 rfl; have d16 := dL hd 16 rfl; obtain ⟨g16, e16, _, h16⟩ := d16; exact stepX_enter (want1 (j := 12) (b := true) rfl d12) (xcall3 (u := .int .u8 5) (v := aggV (⟨1, 13000000, []⟩ : Vl)) (s := .slice (some ⟨g16, 0, none⟩) 2 2) rfl rfl (d13) e16 (en_louvrelaw13_calls _ _)) ((calls13_any (⟨1, 13000000, []⟩ : Vl) 5 (some ⟨g16, 0, none⟩) 2 [(⟨1, 12500000, []⟩ : Vl), (⟨1, (-20000), []⟩ : Vl)] ww mx (HM.kept (ow.keep hk).kept) (rowObj_row h16) (smalls13 (by decide)) (by decide) (by decide) (by kernel_rfl)).mono fun _ _ ⟨he, hk2⟩ => ⟨_, he, rfl, hk2⟩) rfl
      ) <|
    aS (fun hk bs hd => xpickT rfl (dp hd 12 rfl) (dp hd 17 rfl)) rfl <|
    mvD 18 rfl rfl rfl rfl rfl rfl <|
    armC (wg (j := 19) (b := true) rfl rfl rfl) (fun aa ww hk bs hd => xcall1 rfl rfl (en_louvrelaw13_num _ _)) (fun aa ww hk bs hd => lnum13_any 20000 ww) rfl <|
    armC (wg (j := 19) (b := true) rfl rfl rfl) (fun aa ww hk bs hd => xcall1 rfl rfl (en_louvrelaw13_num _ _)) (fun aa ww hk bs hd => lnum13_any (-70000) ww) rfl <|
    armC (wg (j := 19) (b := true) rfl rfl rfl) (fun aa ww hk bs hd => xcall1 rfl rfl (en_louvrelaw13_num _ _)) (fun aa ww hk bs hd => lnum13_any 30000 ww) rfl <|
    arm (fun aa ww hk bs hd => by
      have d19 := dp hd 19 rfl; have d21 := dp hd 21 rfl; have d22 := dp hd 22 rfl; exact stepX_new _ (want1 (j := 19) (b := true) rfl d19) (xrow2 rfl (d21) (d22)) ⟨_, rfl, hk.size, Go.heap_alloc_new _ _⟩ ((Kept.refl _).alloc _) rfl (Nat.le_refl _)
      ) <|
    arm (fun aa ww hk bs hd => by
      have d19 := dp hd 19 rfl; have d20 := dp hd 20 rfl; have d23 := dL hd 23 rfl; obtain ⟨g23, e23, _, h23⟩ := d23; exact stepX_enter (want1 (j := 19) (b := true) rfl d19) (xcall3 (u := .int .u8 6) (v := aggV (⟨1, 20000, []⟩ : Vl)) (s := .slice (some ⟨g23, 0, none⟩) 2 2) rfl rfl (d20) e23 (en_louvrelaw13_calls _ _)) ((calls13_any (⟨1, 20000, []⟩ : Vl) 6 (some ⟨g23, 0, none⟩) 2 [(⟨1, (-70000), []⟩ : Vl), (⟨1, 30000, []⟩ : Vl)] ww mx (HM.kept (ow.keep hk).kept) (rowObj_row h23) (smalls13 (by decide)) (by decide) (by decide) (by kernel_rfl)).mono fun _ _ ⟨he, hk2⟩ => ⟨_, he, rfl, hk2⟩) rfl
      ) <|
    aS (fun hk bs hd => xpickT rfl (dp hd 19 rfl) (dp hd 24 rfl)) rfl <|
    mvD 25 rfl rfl rfl rfl rfl rfl <|
    armC (wg (j := 26) (b := true) rfl rfl rfl) (fun aa ww hk bs hd => xcall1 rfl rfl (en_louvrelaw13_num _ _)) (fun aa ww hk bs hd => lnum13_any (-20000) ww) rfl <|
    armC (wg (j := 26) (b := true) rfl rfl rfl) (fun aa ww hk bs hd => xcall1 rfl rfl (en_louvrelaw13_num _ _)) (fun aa ww hk bs hd => lnum13_any 70000 ww) rfl <|
    armC (wg (j := 26) (b := true) rfl rfl rfl) (fun aa ww hk bs hd => xcall1 rfl rfl (en_louvrelaw13_num _ _)) (fun aa ww hk bs hd => lnum13_any (-30000) ww) rfl <|
    arm (fun aa ww hk bs hd => by
      have d26 := dp hd 26 rfl; have d28 := dp hd 28 rfl; have d29 := dp hd 29 rfl; exact stepX_new _ (want1 (j := 26) (b := true) rfl d26) (xrow2 rfl (d28) (d29)) ⟨_, rfl, hk.size, Go.heap_alloc_new _ _⟩ ((Kept.refl _).alloc _) rfl (Nat.le_refl _)
      ) <|
    arm (fun aa ww hk bs hd => by
      have d26 := dp hd 26 rfl; have d27 := dp hd 27 rfl; have d30 := dL hd 30 rfl; obtain ⟨g30, e30, _, h30⟩ := d30; exact stepX_enter (want1 (j := 26) (b := true) rfl d26) (xcall3 (u := .int .u8 6) (v := aggV (⟨1, (-20000), []⟩ : Vl)) (s := .slice (some ⟨g30, 0, none⟩) 2 2) rfl rfl (d27) e30 (en_louvrelaw13_calls _ _)) ((calls13_any (⟨1, (-20000), []⟩ : Vl) 6 (some ⟨g30, 0, none⟩) 2 [(⟨1, 70000, []⟩ : Vl), (⟨1, (-30000), []⟩ : Vl)] ww mx (HM.kept (ow.keep hk).kept) (rowObj_row h30) (smalls13 (by decide)) (by decide) (by decide) (by kernel_rfl)).mono fun _ _ ⟨he, hk2⟩ => ⟨_, he, rfl, hk2⟩) rfl
      ) <|
    aS (fun hk bs hd => xpickT rfl (dp hd 26 rfl) (dp hd 31 rfl)) rfl <|
    mvD 32 rfl rfl rfl rfl rfl rfl <|
    armC (wg (j := 33) (b := true) rfl rfl rfl) (fun aa ww hk bs hd => xcall1 rfl rfl (en_louvrelaw13_fail _ _)) (fun aa ww hk bs hd => lfail13_any 1 ww) rfl <|
    armC (wg (j := 33) (b := true) rfl rfl rfl) (fun aa ww hk bs hd => xcall1 rfl rfl (en_louvrelaw13_num _ _)) (fun aa ww hk bs hd => lnum13_any 55000 ww) rfl <|
    armC (wg (j := 33) (b := true) rfl rfl rfl) (fun aa ww hk bs hd => xcall1 rfl rfl (en_louvrelaw13_num _ _)) (fun aa ww hk bs hd => lnum13_any 0 ww) rfl <|
    arm (fun aa ww hk bs hd => by
      have d33 := dp hd 33 rfl; have d35 := dp hd 35 rfl; have d36 := dp hd 36 rfl; exact stepX_new _ (want1 (j := 33) (b := true) rfl d33) (xrow2 rfl (d35) (d36)) ⟨_, rfl, hk.size, Go.heap_alloc_new _ _⟩ ((Kept.refl _).alloc _) rfl (Nat.le_refl _)
      ) <|
    arm (fun aa ww hk bs hd => by
      have d33 := dp hd 33 rfl; have d34 := dp hd 34 rfl; have d37 := dL hd 37 rfl; obtain ⟨g37, e37, _, h37⟩ := d37; exact stepX_enter (want1 (j := 33) (b := true) rfl d33) (xcall3 (u := .int .u8 6) (v := aggV (⟨4, 1, []⟩ : Vl)) (s := .slice (some ⟨g37, 0, none⟩) 2 2) rfl rfl (d34) e37 (en_louvrelaw13_calls _ _)) ((calls13_any (⟨4, 1, []⟩ : Vl) 6 (some ⟨g37, 0, none⟩) 2 [(⟨1, 55000, []⟩ : Vl), (⟨1, 0, []⟩ : Vl)] ww mx (HM.kept (ow.keep hk).kept) (rowObj_row h37) (smalls13 (by decide)) (by decide) (by decide) (by kernel_rfl)).mono fun _ _ ⟨he, hk2⟩ => ⟨_, he, rfl, hk2⟩) rfl
      ) <|
    aS (fun hk bs hd => xpickT rfl (dp hd 33 rfl) (dp hd 38 rfl)) rfl <|
    mvD 39 rfl rfl rfl rfl rfl rfl <|
    armC (wg (j := 40) (b := true) rfl rfl rfl) (fun aa ww hk bs hd => xcall1 rfl rfl (en_louvrelaw13_num _ _)) (fun aa ww hk bs hd => lnum13_any (-20000) ww) rfl <|
    armC (wg (j := 40) (b := true) rfl rfl rfl) (fun aa ww hk bs hd => xcall1 rfl rfl (en_louvrelaw13_num _ _)) (fun aa ww hk bs hd => lnum13_any (-15000) ww) rfl <|
    arm (fun aa ww hk bs hd => by
      have d40 := dp hd 40 rfl; have d42 := dp hd 42 rfl; exact stepX_new _ (want1 (j := 40) (b := true) rfl d40) (xrow1 rfl (d42)) ⟨_, rfl, hk.size, Go.heap_alloc_new _ _⟩ ((Kept.refl _).alloc _) rfl (Nat.le_refl _)
      ) <|
    arm (fun aa ww hk bs hd => by
      have d40 := dp hd 40 rfl; have d41 := dp hd 41 rfl; have d43 := dL hd 43 rfl; obtain ⟨g43, e43, _, h43⟩ := d43; exact stepX_enter (want1 (j := 40) (b := true) rfl d40) (xcall3 (u := .int .u8 3) (v := aggV (⟨1, (-20000), []⟩ : Vl)) (s := .slice (some ⟨g43, 0, none⟩) 1 1) rfl rfl (d41) e43 (en_louvrelaw13_calls _ _)) ((calls13_any (⟨1, (-20000), []⟩ : Vl) 3 (some ⟨g43, 0, none⟩) 1 [(⟨1, (-15000), []⟩ : Vl)] ww mx (HM.kept (ow.keep hk).kept) (rowObj_row h43) (smalls13 (by decide)) (by decide) (by decide) (by kernel_rfl)).mono fun _ _ ⟨he, hk2⟩ => ⟨_, he, rfl, hk2⟩) rfl
      ) <|
    aS (fun hk bs hd => xpickT rfl (dp hd 40 rfl) (dp hd 44 rfl)) rfl <|
    mvD 45 rfl rfl rfl rfl rfl rfl <|
    armC (wg (j := 46) (b := true) rfl rfl rfl) (fun aa ww hk bs hd => xcall1 rfl rfl (en_louvrelaw13_num _ _)) (fun aa ww hk bs hd => lnum13_any (-10000) ww) rfl <|
    armC (wg (j := 46) (b := true) rfl rfl rfl) (fun aa ww hk bs hd => xcall1 rfl rfl (en_louvrelaw13_num _ _)) (fun aa ww hk bs hd => lnum13_any (-15000) ww) rfl <|
    arm (fun aa ww hk bs hd => by
      have d46 := dp hd 46 rfl; have d48 := dp hd 48 rfl; exact stepX_new _ (want1 (j := 46) (b := true) rfl d46) (xrow1 rfl (d48)) ⟨_, rfl, hk.size, Go.heap_alloc_new _ _⟩ ((Kept.refl _).alloc _) rfl (Nat.le_refl _)
      ) <|
    arm (fun aa ww hk bs hd => by
      have d46 := dp hd 46 rfl; have d47 := dp hd 47 rfl; have d49 := dL hd 49 rfl; obtain ⟨g49, e49, _, h49⟩ := d49; exact stepX_enter (want1 (j := 46) (b := true) rfl d46) (xcall3 (u := .int .u8 4) (v := aggV (⟨1, (-10000), []⟩ : Vl)) (s := .slice (some ⟨g49, 0, none⟩) 1 1) rfl rfl (d47) e49 (en_louvrelaw13_calls _ _)) ((calls13_any (⟨1, (-10000), []⟩ : Vl) 4 (some ⟨g49, 0, none⟩) 1 [(⟨1, (-15000), []⟩ : Vl)] ww mx (HM.kept (ow.keep hk).kept) (rowObj_row h49) (smalls13 (by decide)) (by decide) (by decide) (by kernel_rfl)).mono fun _ _ ⟨he, hk2⟩ => ⟨_, he, rfl, hk2⟩) rfl
      ) <|
    aS (fun hk bs hd => xpickT rfl (dp hd 46 rfl) (dp hd 50 rfl)) rfl <|
    mvD 51 rfl rfl rfl rfl rfl rfl <|
    armC (wg (j := 52) (b := true) rfl rfl rfl) (fun aa ww hk bs hd => xcall1 rfl rfl (en_louvrelaw13_num _ _)) (fun aa ww hk bs hd => lnum13_any 14142 ww) rfl <|
    armC (wg (j := 52) (b := true) rfl rfl rfl) (fun aa ww hk bs hd => xcall1 rfl rfl (en_louvrelaw13_num _ _)) (fun aa ww hk bs hd => lnum13_any 20000 ww) rfl <|
    arm (fun aa ww hk bs hd => by
      have d52 := dp hd 52 rfl; have d54 := dp hd 54 rfl; exact stepX_new _ (want1 (j := 52) (b := true) rfl d52) (xrow1 rfl (d54)) ⟨_, rfl, hk.size, Go.heap_alloc_new _ _⟩ ((Kept.refl _).alloc _) rfl (Nat.le_refl _)
      ) <|
    arm (fun aa ww hk bs hd => by
      have d52 := dp hd 52 rfl; have d53 := dp hd 53 rfl; have d55 := dL hd 55 rfl; obtain ⟨g55, e55, _, h55⟩ := d55; exact stepX_enter (want1 (j := 52) (b := true) rfl d52) (xcall3 (u := .int .u8 8) (v := aggV (⟨1, 14142, []⟩ : Vl)) (s := .slice (some ⟨g55, 0, none⟩) 1 1) rfl rfl (d53) e55 (en_louvrelaw13_calls _ _)) ((calls13_any (⟨1, 14142, []⟩ : Vl) 8 (some ⟨g55, 0, none⟩) 1 [(⟨1, 20000, []⟩ : Vl)] ww mx (HM.kept (ow.keep hk).kept) (rowObj_row h55) (smalls13 (by decide)) (by decide) (by decide) sqrt_ex).mono fun _ _ ⟨he, hk2⟩ => ⟨_, he, rfl, hk2⟩) rfl
      ) <|
    aS (fun hk bs hd => xpickT rfl (dp hd 52 rfl) (dp hd 56 rfl)) rfl <|
    mvD 57 rfl rfl rfl rfl rfl rfl <|
    armC (wg (j := 58) (b := true) rfl rfl rfl) (fun aa ww hk bs hd => xcall1 rfl rfl (en_louvrelaw13_fail _ _)) (fun aa ww hk bs hd => lfail13_any 3 ww) rfl <|
    armC (wg (j := 58) (b := true) rfl rfl rfl) (fun aa ww hk bs hd => xcall1 rfl rfl (en_louvrelaw13_num _ _)) (fun aa ww hk bs hd => lnum13_any (-10000) ww) rfl <|
    arm (fun aa ww hk bs hd => by
      have d58 := dp hd 58 rfl; have d60 := dp hd 60 rfl; exact stepX_new _ (want1 (j := 58) (b := true) rfl d58) (xrow1 rfl (d60)) ⟨_, rfl, hk.size, Go.heap_alloc_new _ _⟩ ((Kept.refl _).alloc _) rfl (Nat.le_refl _)
      ) <|
    arm (fun aa ww hk bs hd => by
      have d58 := dp hd 58 rfl; have d59 := dp hd 59 rfl; have d61 := dL hd 61 rfl; obtain ⟨g61, e61, _, h61⟩ := d61; exact stepX_enter (want1 (j := 58) (b := true) rfl d58) (xcall3 (u := .int .u8 8) (v := aggV (⟨4, 3, []⟩ : Vl)) (s := .slice (some ⟨g61, 0, none⟩) 1 1) rfl rfl (d59) e61 (en_louvrelaw13_calls _ _)) ((calls13_any (⟨4, 3, []⟩ : Vl) 8 (some ⟨g61, 0, none⟩) 1 [(⟨1, (-10000), []⟩ : Vl)] ww mx (HM.kept (ow.keep hk).kept) (rowObj_row h61) (smalls13 (by decide)) (by decide) (by decide) (by kernel_rfl)).mono fun _ _ ⟨he, hk2⟩ => ⟨_, he, rfl, hk2⟩) rfl
      ) <|
    aS (fun hk bs hd => xpickT rfl (dp hd 58 rfl) (dp hd 62 rfl)) rfl <|
    mvD 63 rfl rfl rfl rfl rfl rfl <|
    armC (wg (j := 64) (b := true) rfl rfl rfl) (fun aa ww hk bs hd => xcall1 rfl rfl (en_louvrelaw13_num _ _)) (fun aa ww hk bs hd => lnum13_any 20000 ww) rfl <|
    armC (wg (j := 64) (b := true) rfl rfl rfl) (fun aa ww hk bs hd => xcall1 rfl rfl (en_louvrelaw13_num _ _)) (fun aa ww hk bs hd => lnum13_any 100000 ww) rfl <|
    armC (wg (j := 64) (b := true) rfl rfl rfl) (fun aa ww hk bs hd => xcall1 rfl rfl (en_louvrelaw13_num _ _)) (fun aa ww hk bs hd => lnum13_any 10240000 ww) rfl <|
    armC (wg (j := 64) (b := true) rfl rfl rfl) (fun aa ww hk bs hd => xcall4 rfl rfl (dp hd 65 rfl) (dp hd 66 rfl) (dp hd 67 rfl) (en_louvrelaw13_ops _ _)) (fun aa ww hk bs hd => ops13_any 5 (⟨1, 20000, []⟩ : Vl) (⟨1, 100000, []⟩ : Vl) (⟨1, 10240000, []⟩ : Vl) ww mx (HM.kept (ow.keep hk).kept) ⟨⟨by decide, by decide⟩, by decide⟩ ⟨⟨by decide, by decide⟩, by decide⟩ (by kernel_rfl)) rfl <|
    aS (fun hk bs hd => xpickT rfl (dp hd 64 rfl) (dp hd 68 rfl)) rfl <|
    mvD 69 rfl rfl rfl rfl rfl rfl <|
    armC (wg (j := 70) (b := true) rfl rfl rfl) (fun aa ww hk bs hd => xcall1 rfl rfl (en_louvrelaw13_num _ _)) (fun aa ww hk bs hd => lnum13_any 20000 ww) rfl <|
    armC (wg (j := 70) (b := true) rfl rfl rfl) (fun aa ww hk bs hd => xcall1 rfl rfl (en_louvrelaw13_num _ _)) (fun aa ww hk bs hd => lnum13_any (-20000) ww) rfl <|
    armC (wg (j := 70) (b := true) rfl rfl rfl) (fun aa ww hk bs hd => xcall1 rfl rfl (en_louvrelaw13_num _ _)) (fun aa ww hk bs hd => lnum13_any 2500 ww) rfl <|
    armC (wg (j := 70) (b := true) rfl rfl rfl) (fun aa ww hk bs hd => xcall4 rfl rfl (dp hd 71 rfl) (dp hd 72 rfl) (dp hd 73 rfl) (en_louvrelaw13_ops _ _)) (fun aa ww hk bs hd => ops13_any 5 (⟨1, 20000, []⟩ : Vl) (⟨1, (-20000), []⟩ : Vl) (⟨1, 2500, []⟩ : Vl) ww mx (HM.kept (ow.keep hk).kept) ⟨⟨by decide, by decide⟩, by decide⟩ ⟨⟨by decide, by decide⟩, by decide⟩ (by kernel_rfl)) rfl <|
    aS (fun hk bs hd => xpickT rfl (dp hd 70 rfl) (dp hd 74 rfl)) rfl <|
    mvD 75 rfl rfl rfl rfl rfl rfl <|
    armC (wg (j := 76) (b := true) rfl rfl rfl) (fun aa ww hk bs hd => xcall1 rfl rfl (en_louvrelaw13_num _ _)) (fun aa ww hk bs hd => lnum13_any 0 ww) rfl <|
    armC (wg (j := 76) (b := true) rfl rfl rfl) (fun aa ww hk bs hd => xcall1 rfl rfl (en_louvrelaw13_num _ _)) (fun aa ww hk bs hd => lnum13_any (-10000) ww) rfl <|
    armC (wg (j := 76) (b := true) rfl rfl rfl) (fun aa ww hk bs hd => xcall1 rfl rfl (en_louvrelaw13_fail _ _)) (fun aa ww hk bs hd => lfail13_any 1 ww) rfl <|
    armC (wg (j := 76) (b := true) rfl rfl rfl) (fun aa ww hk bs hd => xcall4 rfl rfl (dp hd 77 rfl) (dp hd 78 rfl) (dp hd 79 rfl) (en_louvrelaw13_ops _ _)) (fun aa ww hk bs hd => ops13_any 5 (⟨1, 0, []⟩ : Vl) (⟨1, (-10000), []⟩ : Vl) (⟨4, 1, []⟩ : Vl) ww mx (HM.kept (ow.keep hk).kept) ⟨⟨by decide, by decide⟩, by decide⟩ ⟨⟨by decide, by decide⟩, by decide⟩ (by kernel_rfl)) rfl <|
    aS (fun hk bs hd => xpickT rfl (dp hd 76 rfl) (dp hd 80 rfl)) rfl <|
    mvD 81 rfl rfl rfl rfl rfl rfl <|
    armC (wg (j := 82) (b := true) rfl rfl rfl) (fun aa ww hk bs hd => xcall1 rfl rfl (en_louvrelaw13_num _ _)) (fun aa ww hk bs hd => lnum13_any 20000 ww) rfl <|
    armC (wg (j := 82) (b := true) rfl rfl rfl) (fun aa ww hk bs hd => xcall1 rfl rfl (en_louvrelaw13_num _ _)) (fun aa ww hk bs hd => lnum13_any 5000 ww) rfl <|
    armC (wg (j := 82) (b := true) rfl rfl rfl) (fun aa ww hk bs hd => xcall1 rfl rfl (en_louvrelaw13_fail _ _)) (fun aa ww hk bs hd => lfail13_any 3 ww) rfl <|
    armC (wg (j := 82) (b := true) rfl rfl rfl) (fun aa ww hk bs hd => xcall4 rfl rfl (dp hd 83 rfl) (dp hd 84 rfl) (dp hd 85 rfl) (en_louvrelaw13_ops _ _)) (fun aa ww hk bs hd => ops13_any 5 (⟨1, 20000, []⟩ : Vl) (⟨1, 5000, []⟩ : Vl) (⟨4, 3, []⟩ : Vl) ww mx (HM.kept (ow.keep hk).kept) ⟨⟨by decide, by decide⟩, by decide⟩ ⟨⟨by decide, by decide⟩, by decide⟩ (by kernel_rfl)) rfl <|
    aS (fun hk bs hd => xpickT rfl (dp hd 82 rfl) (dp hd 86 rfl)) rfl <|
    mvD 87 rfl rfl rfl rfl rfl rfl <|
    armS (wg (j := 88) (b := true) rfl rfl rfl) (fun aa ww hk bs hd => xloadN 3 rfl (by kernel_rfl) (by kernel_rfl) (bg bs s2) ((ow.keep hk).box 0 rfl) (Nat.le_of_ble_eq_true rfl) rfl) rfl <|
    armS (wg (j := 88) (b := true) rfl rfl rfl) (fun aa ww hk bs hd => xbuild (us := #[(0, .int .u8 3), (2, .string ⟨[51].toArray⟩)]) rfl (by simp only [List.map_toArray, List.map_cons, List.map_nil]; rfl) (by kernel_rfl)) rfl <|
    armC (wg (j := 88) (b := true) rfl rfl rfl) (fun aa ww hk bs hd => xcall1 rfl rfl (en_louvrelaw13_num _ _)) (fun aa ww hk bs hd => lnum13_any 40000 ww) rfl <|
    armC (wg (j := 88) (b := true) rfl rfl rfl) (fun aa ww hk bs hd => xcall4 rfl rfl (dp hd 89 rfl) (dp hd 90 rfl) (dp hd 91 rfl) (en_louvrelaw13_ops _ _)) (fun aa ww hk bs hd => ops13_any 1 (⟨2, 1, []⟩ : Vl) (⟨3, 0, [51]⟩ : Vl) (⟨1, 40000, []⟩ : Vl) ww mx (HM.kept (ow.keep hk).kept) ⟨⟨by decide, by decide⟩, by decide⟩ ⟨⟨by decide, by decide⟩, by decide⟩ (by kernel_rfl)) rfl <|
    aS (fun hk bs hd => xpickT rfl (dp hd 88 rfl) (dp hd 92 rfl)) rfl <|
    mvD 93 rfl rfl rfl rfl rfl rfl <|
    armS (wg (j := 94) (b := true) rfl rfl rfl) (fun aa ww hk bs hd => xloadN 3 rfl (by kernel_rfl) (by kernel_rfl) (bg bs s1) ((ow.keep hk).box 1 rfl) (Nat.le_of_ble_eq_true rfl) rfl) rfl <|
    armC (wg (j := 94) (b := true) rfl rfl rfl) (fun aa ww hk bs hd => xcall1 rfl rfl (en_louvrelaw13_fail _ _)) (fun aa ww hk bs hd => lfail13_any 4 ww) rfl <|
    armC (wg (j := 94) (b := true) rfl rfl rfl) (fun aa ww hk bs hd => xcall1 rfl rfl (en_louvrelaw13_fail _ _)) (fun aa ww hk bs hd => lfail13_any 2 ww) rfl <|
    armC (wg (j := 94) (b := true) rfl rfl rfl) (fun aa ww hk bs hd => xcall4 rfl rfl (dp hd 95 rfl) (dp hd 96 rfl) (dp hd 97 rfl) (en_louvrelaw13_ops _ _)) (fun aa ww hk bs hd => ops13_any 1 (⟨3, 0, [120]⟩ : Vl) (⟨4, 4, []⟩ : Vl) (⟨4, 2, []⟩ : Vl) ww mx (HM.kept (ow.keep hk).kept) ⟨⟨by decide, by decide⟩, by decide⟩ ⟨⟨by decide, by decide⟩, by decide⟩ (by kernel_rfl)) rfl <|
    aS (fun hk bs hd => xpickT rfl (dp hd 94 rfl) (dp hd 98 rfl)) rfl <|
    mvD 99 rfl rfl rfl rfl rfl rfl <|
    armC (wg (j := 100) (b := true) rfl rfl rfl) (fun aa ww hk bs hd => xcall1 rfl rfl (en_louvrelaw13_fail _ _)) (fun aa ww hk bs hd => lfail13_any 4 ww) rfl <|
    armS (wg (j := 100) (b := true) rfl rfl rfl) (fun aa ww hk bs hd => xloadN 3 rfl (by kernel_rfl) (by kernel_rfl) (bg bs s1) ((ow.keep hk).box 1 rfl) (Nat.le_of_ble_eq_true rfl) rfl) rfl <|
    armC (wg (j := 100) (b := true) rfl rfl rfl) (fun aa ww hk bs hd => xcall1 rfl rfl (en_louvrelaw13_fail _ _)) (fun aa ww hk bs hd => lfail13_any 4 ww) rfl <|
    armC (wg (j := 100) (b := true) rfl rfl rfl) (fun aa ww hk bs hd => xcall4 rfl rfl (dp hd 101 rfl) (dp hd 102 rfl) (dp hd 103 rfl) (en_louvrelaw13_ops _ _)) (fun aa ww hk bs hd => ops13_any 1 (⟨4, 4, []⟩ : Vl) (⟨3, 0, [120]⟩ : Vl) (⟨4, 4, []⟩ : Vl) ww mx (HM.kept (ow.keep hk).kept) ⟨⟨by decide, by decide⟩, by decide⟩ ⟨⟨by decide, by decide⟩, by decide⟩ (by kernel_rfl)) rfl <|
    aS (fun hk bs hd => xpickT rfl (dp hd 100 rfl) (dp hd 104 rfl)) rfl <|
    mvD 105 rfl rfl rfl rfl rfl rfl <|
    armC (wg (j := 106) (b := true) rfl rfl rfl) (fun aa ww hk bs hd => xcall1 rfl rfl (en_louvrelaw13_num _ _)) (fun aa ww hk bs hd => lnum13_any 15000 ww) rfl <|
    armS (wg (j := 106) (b := true) rfl rfl rfl) (fun aa ww hk bs hd => xloadN 3 rfl (by kernel_rfl) (by kernel_rfl) (bg bs s2) ((ow.keep hk).box 0 rfl) (Nat.le_of_ble_eq_true rfl) rfl) rfl <|
    armS (wg (j := 106) (b := true) rfl rfl rfl) (fun aa ww hk bs hd => xbuild (us := #[(0, .int .u8 3), (2, .string ⟨[49, 46, 53, 84, 82, 85, 69].toArray⟩)]) rfl (by simp only [List.map_toArray, List.map_cons, List.map_nil]; rfl) (by kernel_rfl)) rfl <|
    armC (wg (j := 106) (b := true) rfl rfl rfl) (fun aa ww hk bs hd => xcall4 rfl rfl (dp hd 107 rfl) (dp hd 108 rfl) (dp hd 109 rfl) (en_louvrelaw13_ops _ _)) (fun aa ww hk bs hd => ops13_any 6 (⟨1, 15000, []⟩ : Vl) (⟨2, 1, []⟩ : Vl) (⟨3, 0, [49, 46, 53, 84, 82, 85, 69]⟩ : Vl) ww mx (HM.kept (ow.keep hk).kept) ⟨⟨by decide, by decide⟩, by decide⟩ ⟨⟨by decide, by decide⟩, by decide⟩ (by kernel_rfl)) rfl <|
    aS (fun hk bs hd => xpickT rfl (dp hd 106 rfl) (dp hd 110 rfl)) rfl <|
    mvD 111 rfl rfl rfl rfl rfl rfl <|
    armC (wg (j := 112) (b := true) rfl rfl rfl) (fun aa ww hk bs hd => xcall1 rfl rfl (en_louvrelaw13_num _ _)) (fun aa ww hk bs hd => lnum13_any 500000 ww) rfl <|
    armC (wg (j := 112) (b := true) rfl rfl rfl) (fun aa ww hk bs hd => xcall1 rfl (dp hd 113 rfl) (en_fnum_Percent _ _)) (fun aa ww hk bs hd => percent13_any (⟨1, 500000, []⟩ : Vl) ww mx (HM.kept (ow.keep hk).kept) ⟨⟨by decide, by decide⟩, by decide⟩) rfl <|
    armC (wg (j := 112) (b := true) rfl rfl rfl) (fun aa ww hk bs hd => xcall1 rfl rfl (en_louvrelaw13_num _ _)) (fun aa ww hk bs hd => lnum13_any 5000 ww) rfl <|
    armE (wg (j := 112) (b := true) rfl rfl rfl) (fun aa ww hk bs hd => xeqv rfl (dp hd 114 rfl) (dp hd 115 rfl)) (congrArg Value.bool (by kernel_rfl)) rfl <|
    aS (fun hk bs hd => xpickT rfl (dp hd 112 rfl) (dp hd 116 rfl)) rfl <|
    mvD 117 rfl rfl rfl rfl rfl rfl <|
    armS (wg (j := 118) (b := true) rfl rfl rfl) (fun aa ww hk bs hd => xloadN 3 rfl (by kernel_rfl) (by kernel_rfl) (bg bs s1) ((ow.keep hk).box 1 rfl) (Nat.le_of_ble_eq_true rfl) rfl) rfl <|
    armC (wg (j := 118) (b := true) rfl rfl rfl) (fun aa ww hk bs hd => xcall1 rfl (dp hd 119 rfl) (en_fnum_Neg _ _)) (fun aa ww hk bs hd => neg13_any (⟨3, 0, [120]⟩ : Vl) ww mx (HM.kept (ow.keep hk).kept) ⟨⟨by decide, by decide⟩, by decide⟩) rfl <|
    armC (wg (j := 118) (b := true) rfl rfl rfl) (fun aa ww hk bs hd => xcall1 rfl rfl (en_louvrelaw13_fail _ _)) (fun aa ww hk bs hd => lfail13_any 2 ww) rfl <|
    armE (wg (j := 118) (b := true) rfl rfl rfl) (fun aa ww hk bs hd => xeqv rfl (dp hd 120 rfl) (dp hd 121 rfl)) (congrArg Value.bool (by kernel_rfl)) rfl <|
    aS (fun hk bs hd => xpickT rfl (dp hd 118 rfl) (dp hd 122 rfl)) rfl <|
    asD 123 rfl rfl rfl rfl rfl rfl <|
    arm0) fun fa fw bs hv ap z q ow => ?_
  have s0 := gv hv 124 rfl rfl; refine wt hK3 ?_; refine wp_ret ?_; refine results_one rfl (res_tmp s0) q ?_; exact ⟨rfl, ow.kept⟩
end Go.Proofs.YtbpkfnoenkoabaaGreatDoor
