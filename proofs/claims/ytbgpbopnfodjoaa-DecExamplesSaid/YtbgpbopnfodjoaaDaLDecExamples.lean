/- The law DecExamples, walked (printed by wip/mklaw13.py). -/
import Derived.Test.YtbgpbopnfodjoaaDaMixAD
import Derived.Test.YtbgpbopnfodjoaaDaMixAH
namespace Go.Proofs.Ytbgpbopnfodjoaa
set_option linter.unusedVariables false
set_option linter.unusedSimpArgs false
open Go.RowKit Lv
set_option maxRecDepth 100000
theorem row_nil (w : World) : Row w none [] := fun i hi => absurd hi (Nat.not_lt_zero i)
theorem row_of (l : List Int) {w : World} {g : Nat} {t : TypeId} (h : w.heap[g]? = some (.cells (l.map fun n => Value.int .i64 n).toArray t (0, 0))) : Row w (some ⟨g, 0, none⟩) l := Row.box h (fun i hi => by simp [hi])
theorem en_dec_Add : En 5 := by intro args w; go_simp
theorem en_dec_Floor : En 12 := by intro args w; go_simp
theorem en_dec_Format : En 18 := by intro args w; go_simp
theorem en_dec_Mean : En 16 := by intro args w; go_simp
theorem en_dec_Mul : En 8 := by intro args w; go_simp
theorem en_dec_Neg : En 7 := by intro args w; go_simp
theorem en_dec_Parse : En 17 := by intro args w; go_simp
theorem en_dec_Power : En 14 := by intro args w; go_simp
theorem en_dec_Quo : En 9 := by intro args w; go_simp
theorem en_dec_Round : En 10 := by intro args w; go_simp
theorem en_dec_Sqrt : En 13 := by intro args w; go_simp
theorem en_dec_Sub : En 6 := by intro args w; go_simp
theorem en_dec_Sum : En 15 := by intro args w; go_simp
theorem en_dec_Trunc : En 11 := by intro args w; go_simp
theorem en_louvrelaw01_pair__got : En 4 := by intro args w; go_simp
set_option maxHeartbeats 8000000 in
theorem DecExamples_walk (w : World) :
    Calls Try.prog 3 #[] w fun e w' => e = .returned (.bool true) ∧ Below w.heap.size w w' := by
  go_enter Try.func3, Try.ntmps3; refine sq fun hK1 => ?_
  refine ro [yV _] 1 396 rfl rfl (Own.start w) (
    aS (fun hk bs hd => xassign rfl rfl) rfl <|
    arm0) fun fa fw bs hv ap z q ow => ?_
  have s0 := gv hv 0 rfl rfl; refine wt hK1 ?_; refine sq fun hK2 => ?_
  refine ro [yV (.agg #[.int .i64 0, .bool true]), yNew fw.heap.size (.cells #[.int .i64 0, .bool false] 23 (0, 0))] 2 396 z q ow (
    aS (fun hk bs hd => xbuild (us := #[(1, .bool true)]) rfl (by simp only [List.map_toArray, List.map_cons, List.map_nil]; rfl) (by kernel_rfl)) rfl <|
    aP (fun hk bs hd => xalloc rfl (by kernel_rfl)) rfl <|
    arm0) fun fa fw bs hv ap z q ov => ?_
  have s0 := bg bs s0; have s10 := gv hv 0 rfl rfl; obtain ⟨gb1, s1, bgb1, hgb1⟩ := gotP hv 1 rfl rfl rfl; have ov := ov.cons hgb1 (Nat.le_trans ow.kept.size bgb1) (ow.below bgb1); have ow := ov; refine ws ow 0 0 s1 s10 fun fw ow => ?_; refine wt hK2 ?_; refine sq fun hK3 => ?_; refine sq fun hK4 => ?_
  refine ro [yV (.agg #[.int .i64 37500, .bool false]), yV (.tuple #[.int .i64 37500, .bool true]), yV _, yV _, yV (.bool true), yV _, yV _, yV (.agg #[.int .i64 (-1), .bool false]), yV (.tuple #[.int .i64 (-1), .bool true]), yV _, yV _, yV (.bool true), yV _, yV _, yV _, yV (.agg #[.int .i64 0, .bool true]), yV (.tuple #[.int .i64 0, .bool false]), yV _, yV _, yV (.bool true), yV _, yV _, yV _, yV (.agg #[.int .i64 0, .bool true]), yV (.tuple #[.int .i64 0, .bool false]), yV _, yV _, yV (.bool true), yV _, yV _, yV _, yV (.agg #[.int .i64 (-9223372036854775807), .bool false]), yV (.tuple #[.int .i64 (-9223372036854775807), .bool true]), yV _, yV _, yV (.bool true), yV _, yV _, yV _, yV (.agg #[.int .i64 0, .bool true]), yV (.tuple #[.int .i64 0, .bool false]), yV _, yV _, yV (.bool true), yV _, yV _] 46 396 z q ow (
    aS (fun hk bs hd => xbuild (us := #[(0, .int .i64 37500)]) rfl (by simp only [List.map_toArray, List.map_cons, List.map_nil]; rfl) (by kernel_rfl)) rfl <|
    aC (fun hk bs hd => xcall2 rfl rfl rfl (en_dec_Add _ _)) (fun hk bs hd => ex0 _) rfl <|
    aS (fun hk bs hd => xextract rfl (dp hd 1 rfl) rfl) rfl <|
    aS (fun hk bs hd => xextract rfl (dp hd 1 rfl) rfl) rfl <|
    aC (fun hk bs hd => xcall3 rfl (dp hd 0 rfl) (dp hd 2 rfl) (dp hd 3 rfl) (en_louvrelaw01_pair__got _ _)) (fun hk bs hd => got_yes 37500 _) rfl <|
    aS (fun hk bs hd => xnot rfl (dp hd 4 rfl)) rfl <|
    mvD 5 rfl rfl rfl rfl rfl rfl <|
    armS (wg (j := 6) (b := false) rfl rfl rfl) (fun aa ww hk bs hd => xbuild (us := #[(0, .int .i64 (-1))]) rfl (by simp only [List.map_toArray, List.map_cons, List.map_nil]; rfl) (by kernel_rfl)) rfl <|
    armC (wg (j := 6) (b := false) rfl rfl rfl) (fun aa ww hk bs hd => xcall2 rfl rfl rfl (en_dec_Sub _ _)) (fun aa ww hk bs hd => ex1 ww) rfl <|
    armS (wg (j := 6) (b := false) rfl rfl rfl) (fun aa ww hk bs hd => xextract rfl (dp hd 8 rfl) rfl) rfl <|
    armS (wg (j := 6) (b := false) rfl rfl rfl) (fun aa ww hk bs hd => xextract rfl (dp hd 8 rfl) rfl) rfl <|
    armC (wg (j := 6) (b := false) rfl rfl rfl) (fun aa ww hk bs hd => xcall3 rfl (dp hd 7 rfl) (dp hd 9 rfl) (dp hd 10 rfl) (en_louvrelaw01_pair__got _ _)) (fun aa ww hk bs hd => got_yes (-1) ww) rfl <|
    armS (wg (j := 6) (b := false) rfl rfl rfl) (fun aa ww hk bs hd => xnot rfl (dp hd 11 rfl)) rfl <|
    aS (fun hk bs hd => xpickF rfl (dp hd 6 rfl) (dp hd 12 rfl)) rfl <|
    mvD 13 rfl rfl rfl rfl rfl rfl <|
    armS (wg (j := 14) (b := false) rfl rfl rfl) (fun aa ww hk bs hd => xloadN 2 rfl (by kernel_rfl) (by kernel_rfl) (bg bs s1) ((ow.keep hk).box 0 rfl) (Nat.le_of_ble_eq_true rfl) rfl) rfl <|
    armC (wg (j := 14) (b := false) rfl rfl rfl) (fun aa ww hk bs hd => xcall2 rfl rfl rfl (en_dec_Add _ _)) (fun aa ww hk bs hd => ex2 ww) rfl <|
    armS (wg (j := 14) (b := false) rfl rfl rfl) (fun aa ww hk bs hd => xextract rfl (dp hd 16 rfl) rfl) rfl <|
    armS (wg (j := 14) (b := false) rfl rfl rfl) (fun aa ww hk bs hd => xextract rfl (dp hd 16 rfl) rfl) rfl <|
    armC (wg (j := 14) (b := false) rfl rfl rfl) (fun aa ww hk bs hd => xcall3 rfl (dp hd 15 rfl) (dp hd 17 rfl) (dp hd 18 rfl) (en_louvrelaw01_pair__got _ _)) (fun aa ww hk bs hd => got_no ww) rfl <|
    armS (wg (j := 14) (b := false) rfl rfl rfl) (fun aa ww hk bs hd => xnot rfl (dp hd 19 rfl)) rfl <|
    aS (fun hk bs hd => xpickF rfl (dp hd 14 rfl) (dp hd 20 rfl)) rfl <|
    mvD 21 rfl rfl rfl rfl rfl rfl <|
    armS (wg (j := 22) (b := false) rfl rfl rfl) (fun aa ww hk bs hd => xloadN 2 rfl (by kernel_rfl) (by kernel_rfl) (bg bs s1) ((ow.keep hk).box 0 rfl) (Nat.le_of_ble_eq_true rfl) rfl) rfl <|
    armC (wg (j := 22) (b := false) rfl rfl rfl) (fun aa ww hk bs hd => xcall2 rfl rfl rfl (en_dec_Add _ _)) (fun aa ww hk bs hd => ex3 ww) rfl <|
    armS (wg (j := 22) (b := false) rfl rfl rfl) (fun aa ww hk bs hd => xextract rfl (dp hd 24 rfl) rfl) rfl <|
    armS (wg (j := 22) (b := false) rfl rfl rfl) (fun aa ww hk bs hd => xextract rfl (dp hd 24 rfl) rfl) rfl <|
    armC (wg (j := 22) (b := false) rfl rfl rfl) (fun aa ww hk bs hd => xcall3 rfl (dp hd 23 rfl) (dp hd 25 rfl) (dp hd 26 rfl) (en_louvrelaw01_pair__got _ _)) (fun aa ww hk bs hd => got_no ww) rfl <|
    armS (wg (j := 22) (b := false) rfl rfl rfl) (fun aa ww hk bs hd => xnot rfl (dp hd 27 rfl)) rfl <|
    aS (fun hk bs hd => xpickF rfl (dp hd 22 rfl) (dp hd 28 rfl)) rfl <|
    mvD 29 rfl rfl rfl rfl rfl rfl <|
    armS (wg (j := 30) (b := false) rfl rfl rfl) (fun aa ww hk bs hd => xbuild (us := #[(0, .int .i64 (-9223372036854775807))]) rfl (by simp only [List.map_toArray, List.map_cons, List.map_nil]; rfl) (by kernel_rfl)) rfl <|
    armC (wg (j := 30) (b := false) rfl rfl rfl) (fun aa ww hk bs hd => xcall2 rfl rfl rfl (en_dec_Add _ _)) (fun aa ww hk bs hd => ex4 ww) rfl <|
    armS (wg (j := 30) (b := false) rfl rfl rfl) (fun aa ww hk bs hd => xextract rfl (dp hd 32 rfl) rfl) rfl <|
    armS (wg (j := 30) (b := false) rfl rfl rfl) (fun aa ww hk bs hd => xextract rfl (dp hd 32 rfl) rfl) rfl <|
    armC (wg (j := 30) (b := false) rfl rfl rfl) (fun aa ww hk bs hd => xcall3 rfl (dp hd 31 rfl) (dp hd 33 rfl) (dp hd 34 rfl) (en_louvrelaw01_pair__got _ _)) (fun aa ww hk bs hd => got_yes (-9223372036854775807) ww) rfl <|
    armS (wg (j := 30) (b := false) rfl rfl rfl) (fun aa ww hk bs hd => xnot rfl (dp hd 35 rfl)) rfl <|
    aS (fun hk bs hd => xpickF rfl (dp hd 30 rfl) (dp hd 36 rfl)) rfl <|
    mvD 37 rfl rfl rfl rfl rfl rfl <|
    armS (wg (j := 38) (b := false) rfl rfl rfl) (fun aa ww hk bs hd => xloadN 2 rfl (by kernel_rfl) (by kernel_rfl) (bg bs s1) ((ow.keep hk).box 0 rfl) (Nat.le_of_ble_eq_true rfl) rfl) rfl <|
    armC (wg (j := 38) (b := false) rfl rfl rfl) (fun aa ww hk bs hd => xcall1 rfl rfl (en_dec_Neg _ _)) (fun aa ww hk bs hd => ex5 ww) rfl <|
    armS (wg (j := 38) (b := false) rfl rfl rfl) (fun aa ww hk bs hd => xextract rfl (dp hd 40 rfl) rfl) rfl <|
    armS (wg (j := 38) (b := false) rfl rfl rfl) (fun aa ww hk bs hd => xextract rfl (dp hd 40 rfl) rfl) rfl <|
    armC (wg (j := 38) (b := false) rfl rfl rfl) (fun aa ww hk bs hd => xcall3 rfl (dp hd 39 rfl) (dp hd 41 rfl) (dp hd 42 rfl) (en_louvrelaw01_pair__got _ _)) (fun aa ww hk bs hd => got_no ww) rfl <|
    armS (wg (j := 38) (b := false) rfl rfl rfl) (fun aa ww hk bs hd => xnot rfl (dp hd 43 rfl)) rfl <|
    aS (fun hk bs hd => xpickF rfl (dp hd 38 rfl) (dp hd 44 rfl)) rfl <|
    arm0) fun fa fw bs hv ap z q ow => ?_
  obtain ⟨s0, s1⟩ := b2 bs s0 s1; have s56 := gv hv 45 rfl rfl; refine wt hK4 ?_; refine wp_cond_false (s56) ?_; refine wp_skip ?_; refine tn hK3 ?_; refine sq fun hK5 => ?_; refine sq fun hK6 => ?_
  refine ro [yV (.agg #[.int .i64 37500, .bool false]), yV (.tuple #[.int .i64 37500, .bool true]), yV _, yV _, yV (.bool true), yV _, yV _, yV (.agg #[.int .i64 1, .bool false]), yV (.tuple #[.int .i64 1, .bool true]), yV _, yV _, yV (.bool true), yV _, yV _, yV _, yV (.agg #[.int .i64 (-1), .bool false]), yV (.tuple #[.int .i64 (-1), .bool true]), yV _, yV _, yV (.bool true), yV _, yV _, yV _, yV (.agg #[.int .i64 0, .bool false]), yV (.tuple #[.int .i64 0, .bool true]), yV _, yV _, yV (.bool true), yV _, yV _] 30 396 z q ow (
    aS (fun hk bs hd => xbuild (us := #[(0, .int .i64 37500)]) rfl (by simp only [List.map_toArray, List.map_cons, List.map_nil]; rfl) (by kernel_rfl)) rfl <|
    aC (fun hk bs hd => xcall2 rfl rfl rfl (en_dec_Mul _ _)) (fun hk bs hd => ex6 _) rfl <|
    aS (fun hk bs hd => xextract rfl (dp hd 1 rfl) rfl) rfl <|
    aS (fun hk bs hd => xextract rfl (dp hd 1 rfl) rfl) rfl <|
    aC (fun hk bs hd => xcall3 rfl (dp hd 0 rfl) (dp hd 2 rfl) (dp hd 3 rfl) (en_louvrelaw01_pair__got _ _)) (fun hk bs hd => got_yes 37500 _) rfl <|
    aS (fun hk bs hd => xnot rfl (dp hd 4 rfl)) rfl <|
    mvD 5 rfl rfl rfl rfl rfl rfl <|
    armS (wg (j := 6) (b := false) rfl rfl rfl) (fun aa ww hk bs hd => xbuild (us := #[(0, .int .i64 1)]) rfl (by simp only [List.map_toArray, List.map_cons, List.map_nil]; rfl) (by kernel_rfl)) rfl <|
    armC (wg (j := 6) (b := false) rfl rfl rfl) (fun aa ww hk bs hd => xcall2 rfl rfl rfl (en_dec_Mul _ _)) (fun aa ww hk bs hd => ex7 ww) rfl <|
    armS (wg (j := 6) (b := false) rfl rfl rfl) (fun aa ww hk bs hd => xextract rfl (dp hd 8 rfl) rfl) rfl <|
    armS (wg (j := 6) (b := false) rfl rfl rfl) (fun aa ww hk bs hd => xextract rfl (dp hd 8 rfl) rfl) rfl <|
    armC (wg (j := 6) (b := false) rfl rfl rfl) (fun aa ww hk bs hd => xcall3 rfl (dp hd 7 rfl) (dp hd 9 rfl) (dp hd 10 rfl) (en_louvrelaw01_pair__got _ _)) (fun aa ww hk bs hd => got_yes 1 ww) rfl <|
    armS (wg (j := 6) (b := false) rfl rfl rfl) (fun aa ww hk bs hd => xnot rfl (dp hd 11 rfl)) rfl <|
    aS (fun hk bs hd => xpickF rfl (dp hd 6 rfl) (dp hd 12 rfl)) rfl <|
    mvD 13 rfl rfl rfl rfl rfl rfl <|
    armS (wg (j := 14) (b := false) rfl rfl rfl) (fun aa ww hk bs hd => xbuild (us := #[(0, .int .i64 (-1))]) rfl (by simp only [List.map_toArray, List.map_cons, List.map_nil]; rfl) (by kernel_rfl)) rfl <|
    armC (wg (j := 14) (b := false) rfl rfl rfl) (fun aa ww hk bs hd => xcall2 rfl rfl rfl (en_dec_Mul _ _)) (fun aa ww hk bs hd => ex8 ww) rfl <|
    armS (wg (j := 14) (b := false) rfl rfl rfl) (fun aa ww hk bs hd => xextract rfl (dp hd 16 rfl) rfl) rfl <|
    armS (wg (j := 14) (b := false) rfl rfl rfl) (fun aa ww hk bs hd => xextract rfl (dp hd 16 rfl) rfl) rfl <|
    armC (wg (j := 14) (b := false) rfl rfl rfl) (fun aa ww hk bs hd => xcall3 rfl (dp hd 15 rfl) (dp hd 17 rfl) (dp hd 18 rfl) (en_louvrelaw01_pair__got _ _)) (fun aa ww hk bs hd => got_yes (-1) ww) rfl <|
    armS (wg (j := 14) (b := false) rfl rfl rfl) (fun aa ww hk bs hd => xnot rfl (dp hd 19 rfl)) rfl <|
    aS (fun hk bs hd => xpickF rfl (dp hd 14 rfl) (dp hd 20 rfl)) rfl <|
    mvD 21 rfl rfl rfl rfl rfl rfl <|
    armS (wg (j := 22) (b := false) rfl rfl rfl) (fun aa ww hk bs hd => xbuild (us := #[]) rfl (by simp) (by kernel_rfl)) rfl <|
    armC (wg (j := 22) (b := false) rfl rfl rfl) (fun aa ww hk bs hd => xcall2 rfl rfl rfl (en_dec_Mul _ _)) (fun aa ww hk bs hd => ex9 ww) rfl <|
    armS (wg (j := 22) (b := false) rfl rfl rfl) (fun aa ww hk bs hd => xextract rfl (dp hd 24 rfl) rfl) rfl <|
    armS (wg (j := 22) (b := false) rfl rfl rfl) (fun aa ww hk bs hd => xextract rfl (dp hd 24 rfl) rfl) rfl <|
    armC (wg (j := 22) (b := false) rfl rfl rfl) (fun aa ww hk bs hd => xcall3 rfl (dp hd 23 rfl) (dp hd 25 rfl) (dp hd 26 rfl) (en_louvrelaw01_pair__got _ _)) (fun aa ww hk bs hd => got_yes 0 ww) rfl <|
    armS (wg (j := 22) (b := false) rfl rfl rfl) (fun aa ww hk bs hd => xnot rfl (dp hd 27 rfl)) rfl <|
    aS (fun hk bs hd => xpickF rfl (dp hd 22 rfl) (dp hd 28 rfl)) rfl <|
    arm0) fun fa fw bs hv ap z q ow => ?_
  obtain ⟨s0, s1⟩ := b2 bs s0 s1; have s86 := gv hv 29 rfl rfl; refine wt hK6 ?_; refine wp_cond_false (s86) ?_; refine wp_skip ?_; refine tn hK5 ?_; refine sq fun hK7 => ?_; refine sq fun hK8 => ?_
  refine ro [yV (.agg #[.int .i64 3333, .bool false]), yV (.tuple #[.int .i64 3333, .bool true]), yV _, yV _, yV (.bool true), yV _, yV _, yV (.agg #[.int .i64 6667, .bool false]), yV (.tuple #[.int .i64 6667, .bool true]), yV _, yV _, yV (.bool true), yV _, yV _, yV _, yV (.agg #[.int .i64 (-1), .bool false]), yV (.tuple #[.int .i64 (-1), .bool true]), yV _, yV _, yV (.bool true), yV _, yV _, yV _, yV (.agg #[.int .i64 0, .bool true]), yV (.tuple #[.int .i64 0, .bool false]), yV _, yV _, yV (.bool true), yV _, yV _, yV _, yV (.agg #[.int .i64 0, .bool true]), yV (.tuple #[.int .i64 0, .bool false]), yV _, yV _, yV (.bool true), yV _, yV _] 38 396 z q ow (
    aS (fun hk bs hd => xbuild (us := #[(0, .int .i64 3333)]) rfl (by simp only [List.map_toArray, List.map_cons, List.map_nil]; rfl) (by kernel_rfl)) rfl <|
    aC (fun hk bs hd => xcall2 rfl rfl rfl (en_dec_Quo _ _)) (fun hk bs hd => ex10 _) rfl <|
    aS (fun hk bs hd => xextract rfl (dp hd 1 rfl) rfl) rfl <|
    aS (fun hk bs hd => xextract rfl (dp hd 1 rfl) rfl) rfl <|
    aC (fun hk bs hd => xcall3 rfl (dp hd 0 rfl) (dp hd 2 rfl) (dp hd 3 rfl) (en_louvrelaw01_pair__got _ _)) (fun hk bs hd => got_yes 3333 _) rfl <|
    aS (fun hk bs hd => xnot rfl (dp hd 4 rfl)) rfl <|
    mvD 5 rfl rfl rfl rfl rfl rfl <|
    armS (wg (j := 6) (b := false) rfl rfl rfl) (fun aa ww hk bs hd => xbuild (us := #[(0, .int .i64 6667)]) rfl (by simp only [List.map_toArray, List.map_cons, List.map_nil]; rfl) (by kernel_rfl)) rfl <|
    armC (wg (j := 6) (b := false) rfl rfl rfl) (fun aa ww hk bs hd => xcall2 rfl rfl rfl (en_dec_Quo _ _)) (fun aa ww hk bs hd => ex11 ww) rfl <|
    armS (wg (j := 6) (b := false) rfl rfl rfl) (fun aa ww hk bs hd => xextract rfl (dp hd 8 rfl) rfl) rfl <|
    armS (wg (j := 6) (b := false) rfl rfl rfl) (fun aa ww hk bs hd => xextract rfl (dp hd 8 rfl) rfl) rfl <|
    armC (wg (j := 6) (b := false) rfl rfl rfl) (fun aa ww hk bs hd => xcall3 rfl (dp hd 7 rfl) (dp hd 9 rfl) (dp hd 10 rfl) (en_louvrelaw01_pair__got _ _)) (fun aa ww hk bs hd => got_yes 6667 ww) rfl <|
    armS (wg (j := 6) (b := false) rfl rfl rfl) (fun aa ww hk bs hd => xnot rfl (dp hd 11 rfl)) rfl <|
    aS (fun hk bs hd => xpickF rfl (dp hd 6 rfl) (dp hd 12 rfl)) rfl <|
    mvD 13 rfl rfl rfl rfl rfl rfl <|
    armS (wg (j := 14) (b := false) rfl rfl rfl) (fun aa ww hk bs hd => xbuild (us := #[(0, .int .i64 (-1))]) rfl (by simp only [List.map_toArray, List.map_cons, List.map_nil]; rfl) (by kernel_rfl)) rfl <|
    armC (wg (j := 14) (b := false) rfl rfl rfl) (fun aa ww hk bs hd => xcall2 rfl rfl rfl (en_dec_Quo _ _)) (fun aa ww hk bs hd => ex12 ww) rfl <|
    armS (wg (j := 14) (b := false) rfl rfl rfl) (fun aa ww hk bs hd => xextract rfl (dp hd 16 rfl) rfl) rfl <|
    armS (wg (j := 14) (b := false) rfl rfl rfl) (fun aa ww hk bs hd => xextract rfl (dp hd 16 rfl) rfl) rfl <|
    armC (wg (j := 14) (b := false) rfl rfl rfl) (fun aa ww hk bs hd => xcall3 rfl (dp hd 15 rfl) (dp hd 17 rfl) (dp hd 18 rfl) (en_louvrelaw01_pair__got _ _)) (fun aa ww hk bs hd => got_yes (-1) ww) rfl <|
    armS (wg (j := 14) (b := false) rfl rfl rfl) (fun aa ww hk bs hd => xnot rfl (dp hd 19 rfl)) rfl <|
    aS (fun hk bs hd => xpickF rfl (dp hd 14 rfl) (dp hd 20 rfl)) rfl <|
    mvD 21 rfl rfl rfl rfl rfl rfl <|
    armS (wg (j := 22) (b := false) rfl rfl rfl) (fun aa ww hk bs hd => xloadN 2 rfl (by kernel_rfl) (by kernel_rfl) (bg bs s1) ((ow.keep hk).box 0 rfl) (Nat.le_of_ble_eq_true rfl) rfl) rfl <|
    armC (wg (j := 22) (b := false) rfl rfl rfl) (fun aa ww hk bs hd => xcall2 rfl rfl rfl (en_dec_Quo _ _)) (fun aa ww hk bs hd => ex13 ww) rfl <|
    armS (wg (j := 22) (b := false) rfl rfl rfl) (fun aa ww hk bs hd => xextract rfl (dp hd 24 rfl) rfl) rfl <|
    armS (wg (j := 22) (b := false) rfl rfl rfl) (fun aa ww hk bs hd => xextract rfl (dp hd 24 rfl) rfl) rfl <|
    armC (wg (j := 22) (b := false) rfl rfl rfl) (fun aa ww hk bs hd => xcall3 rfl (dp hd 23 rfl) (dp hd 25 rfl) (dp hd 26 rfl) (en_louvrelaw01_pair__got _ _)) (fun aa ww hk bs hd => got_no ww) rfl <|
    armS (wg (j := 22) (b := false) rfl rfl rfl) (fun aa ww hk bs hd => xnot rfl (dp hd 27 rfl)) rfl <|
    aS (fun hk bs hd => xpickF rfl (dp hd 22 rfl) (dp hd 28 rfl)) rfl <|
    mvD 29 rfl rfl rfl rfl rfl rfl <|
    armS (wg (j := 30) (b := false) rfl rfl rfl) (fun aa ww hk bs hd => xloadN 2 rfl (by kernel_rfl) (by kernel_rfl) (bg bs s1) ((ow.keep hk).box 0 rfl) (Nat.le_of_ble_eq_true rfl) rfl) rfl <|
    armC (wg (j := 30) (b := false) rfl rfl rfl) (fun aa ww hk bs hd => xcall2 rfl rfl rfl (en_dec_Quo _ _)) (fun aa ww hk bs hd => ex14 ww) rfl <|
    armS (wg (j := 30) (b := false) rfl rfl rfl) (fun aa ww hk bs hd => xextract rfl (dp hd 32 rfl) rfl) rfl <|
    armS (wg (j := 30) (b := false) rfl rfl rfl) (fun aa ww hk bs hd => xextract rfl (dp hd 32 rfl) rfl) rfl <|
    armC (wg (j := 30) (b := false) rfl rfl rfl) (fun aa ww hk bs hd => xcall3 rfl (dp hd 31 rfl) (dp hd 33 rfl) (dp hd 34 rfl) (en_louvrelaw01_pair__got _ _)) (fun aa ww hk bs hd => got_no ww) rfl <|
    armS (wg (j := 30) (b := false) rfl rfl rfl) (fun aa ww hk bs hd => xnot rfl (dp hd 35 rfl)) rfl <|
    aS (fun hk bs hd => xpickF rfl (dp hd 30 rfl) (dp hd 36 rfl)) rfl <|
    arm0) fun fa fw bs hv ap z q ow => ?_
  obtain ⟨s0, s1⟩ := b2 bs s0 s1; have s124 := gv hv 37 rfl rfl; refine wt hK8 ?_; refine wp_cond_false (s124) ?_; refine wp_skip ?_; refine tn hK7 ?_; refine sq fun hK9 => ?_; refine sq fun hK10 => ?_
  refine ro [yV (.agg #[.int .i64 30000, .bool false]), yV (.tuple #[.int .i64 30000, .bool true]), yV _, yV _, yV (.bool true), yV _, yV _, yV (.agg #[.int .i64 (-12350), .bool false]), yV (.tuple #[.int .i64 (-12350), .bool true]), yV _, yV _, yV (.bool true), yV _, yV _, yV _, yV (.agg #[.int .i64 12000000, .bool false]), yV (.tuple #[.int .i64 12000000, .bool true]), yV _, yV _, yV (.bool true), yV _, yV _, yV _, yV (.agg #[.int .i64 1000000, .bool false]), yV (.tuple #[.int .i64 1000000, .bool true]), yV _, yV _, yV (.bool true), yV _, yV _, yV _, yV (.agg #[.int .i64 12345, .bool false]), yV (.tuple #[.int .i64 12345, .bool true]), yV _, yV _, yV (.bool true), yV _, yV _] 38 396 z q ow (
    aS (fun hk bs hd => xbuild (us := #[(0, .int .i64 30000)]) rfl (by simp only [List.map_toArray, List.map_cons, List.map_nil]; rfl) (by kernel_rfl)) rfl <|
    aC (fun hk bs hd => xcall2 rfl rfl rfl (en_dec_Round _ _)) (fun hk bs hd => ex15 _) rfl <|
    aS (fun hk bs hd => xextract rfl (dp hd 1 rfl) rfl) rfl <|
    aS (fun hk bs hd => xextract rfl (dp hd 1 rfl) rfl) rfl <|
    aC (fun hk bs hd => xcall3 rfl (dp hd 0 rfl) (dp hd 2 rfl) (dp hd 3 rfl) (en_louvrelaw01_pair__got _ _)) (fun hk bs hd => got_yes 30000 _) rfl <|
    aS (fun hk bs hd => xnot rfl (dp hd 4 rfl)) rfl <|
    mvD 5 rfl rfl rfl rfl rfl rfl <|
    armS (wg (j := 6) (b := false) rfl rfl rfl) (fun aa ww hk bs hd => xbuild (us := #[(0, .int .i64 (-12350))]) rfl (by simp only [List.map_toArray, List.map_cons, List.map_nil]; rfl) (by kernel_rfl)) rfl <|
    armC (wg (j := 6) (b := false) rfl rfl rfl) (fun aa ww hk bs hd => xcall2 rfl rfl rfl (en_dec_Round _ _)) (fun aa ww hk bs hd => ex16 ww) rfl <|
    armS (wg (j := 6) (b := false) rfl rfl rfl) (fun aa ww hk bs hd => xextract rfl (dp hd 8 rfl) rfl) rfl <|
    armS (wg (j := 6) (b := false) rfl rfl rfl) (fun aa ww hk bs hd => xextract rfl (dp hd 8 rfl) rfl) rfl <|
    armC (wg (j := 6) (b := false) rfl rfl rfl) (fun aa ww hk bs hd => xcall3 rfl (dp hd 7 rfl) (dp hd 9 rfl) (dp hd 10 rfl) (en_louvrelaw01_pair__got _ _)) (fun aa ww hk bs hd => got_yes (-12350) ww) rfl <|
    armS (wg (j := 6) (b := false) rfl rfl rfl) (fun aa ww hk bs hd => xnot rfl (dp hd 11 rfl)) rfl <|
    aS (fun hk bs hd => xpickF rfl (dp hd 6 rfl) (dp hd 12 rfl)) rfl <|
    mvD 13 rfl rfl rfl rfl rfl rfl <|
    armS (wg (j := 14) (b := false) rfl rfl rfl) (fun aa ww hk bs hd => xbuild (us := #[(0, .int .i64 12000000)]) rfl (by simp only [List.map_toArray, List.map_cons, List.map_nil]; rfl) (by kernel_rfl)) rfl <|
    armC (wg (j := 14) (b := false) rfl rfl rfl) (fun aa ww hk bs hd => xcall2 rfl rfl rfl (en_dec_Round _ _)) (fun aa ww hk bs hd => ex17 ww) rfl <|
    armS (wg (j := 14) (b := false) rfl rfl rfl) (fun aa ww hk bs hd => xextract rfl (dp hd 16 rfl) rfl) rfl <|
    armS (wg (j := 14) (b := false) rfl rfl rfl) (fun aa ww hk bs hd => xextract rfl (dp hd 16 rfl) rfl) rfl <|
    armC (wg (j := 14) (b := false) rfl rfl rfl) (fun aa ww hk bs hd => xcall3 rfl (dp hd 15 rfl) (dp hd 17 rfl) (dp hd 18 rfl) (en_louvrelaw01_pair__got _ _)) (fun aa ww hk bs hd => got_yes 12000000 ww) rfl <|
    armS (wg (j := 14) (b := false) rfl rfl rfl) (fun aa ww hk bs hd => xnot rfl (dp hd 19 rfl)) rfl <|
    aS (fun hk bs hd => xpickF rfl (dp hd 14 rfl) (dp hd 20 rfl)) rfl <|
    mvD 21 rfl rfl rfl rfl rfl rfl <|
    armS (wg (j := 22) (b := false) rfl rfl rfl) (fun aa ww hk bs hd => xbuild (us := #[(0, .int .i64 1000000)]) rfl (by simp only [List.map_toArray, List.map_cons, List.map_nil]; rfl) (by kernel_rfl)) rfl <|
    armC (wg (j := 22) (b := false) rfl rfl rfl) (fun aa ww hk bs hd => xcall2 rfl rfl rfl (en_dec_Round _ _)) (fun aa ww hk bs hd => ex18 ww) rfl <|
    armS (wg (j := 22) (b := false) rfl rfl rfl) (fun aa ww hk bs hd => xextract rfl (dp hd 24 rfl) rfl) rfl <|
    armS (wg (j := 22) (b := false) rfl rfl rfl) (fun aa ww hk bs hd => xextract rfl (dp hd 24 rfl) rfl) rfl <|
    armC (wg (j := 22) (b := false) rfl rfl rfl) (fun aa ww hk bs hd => xcall3 rfl (dp hd 23 rfl) (dp hd 25 rfl) (dp hd 26 rfl) (en_louvrelaw01_pair__got _ _)) (fun aa ww hk bs hd => got_yes 1000000 ww) rfl <|
    armS (wg (j := 22) (b := false) rfl rfl rfl) (fun aa ww hk bs hd => xnot rfl (dp hd 27 rfl)) rfl <|
    aS (fun hk bs hd => xpickF rfl (dp hd 22 rfl) (dp hd 28 rfl)) rfl <|
    mvD 29 rfl rfl rfl rfl rfl rfl <|
    armS (wg (j := 30) (b := false) rfl rfl rfl) (fun aa ww hk bs hd => xbuild (us := #[(0, .int .i64 12345)]) rfl (by simp only [List.map_toArray, List.map_cons, List.map_nil]; rfl) (by kernel_rfl)) rfl <|
    armC (wg (j := 30) (b := false) rfl rfl rfl) (fun aa ww hk bs hd => xcall2 rfl rfl rfl (en_dec_Round _ _)) (fun aa ww hk bs hd => ex19 ww) rfl <|
    armS (wg (j := 30) (b := false) rfl rfl rfl) (fun aa ww hk bs hd => xextract rfl (dp hd 32 rfl) rfl) rfl <|
    armS (wg (j := 30) (b := false) rfl rfl rfl) (fun aa ww hk bs hd => xextract rfl (dp hd 32 rfl) rfl) rfl <|
    armC (wg (j := 30) (b := false) rfl rfl rfl) (fun aa ww hk bs hd => xcall3 rfl (dp hd 31 rfl) (dp hd 33 rfl) (dp hd 34 rfl) (en_louvrelaw01_pair__got _ _)) (fun aa ww hk bs hd => got_yes 12345 ww) rfl <|
    armS (wg (j := 30) (b := false) rfl rfl rfl) (fun aa ww hk bs hd => xnot rfl (dp hd 35 rfl)) rfl <|
    aS (fun hk bs hd => xpickF rfl (dp hd 30 rfl) (dp hd 36 rfl)) rfl <|
    arm0) fun fa fw bs hv ap z q ow => ?_
  obtain ⟨s0, s1⟩ := b2 bs s0 s1; have s162 := gv hv 37 rfl rfl; refine wt hK10 ?_; refine wp_cond_false (s162) ?_; refine wp_skip ?_; refine tn hK9 ?_; refine sq fun hK11 => ?_; refine sq fun hK12 => ?_
  refine ro [yV (.agg #[.int .i64 0, .bool true]), yV (.tuple #[.int .i64 0, .bool false]), yV _, yV _, yV (.bool true), yV _, yV _, yV (.agg #[.int .i64 0, .bool false]), yV (.tuple #[.int .i64 0, .bool true]), yV _, yV _, yV (.bool true), yV _, yV _, yV _, yV (.agg #[.int .i64 0, .bool false]), yV (.tuple #[.int .i64 0, .bool true]), yV _, yV _, yV (.bool true), yV _, yV _, yV _, yV (.int .i64 (-10000)), yV (.bool false), yV _, yV _, yV (.agg #[.int .i64 (-20000), .bool false]), yV (.tuple #[.int .i64 (-20000), .bool true]), yV _, yV _, yV (.bool true), yV _, yV _, yV _, yV (.agg #[.int .i64 20000, .bool false]), yV (.tuple #[.int .i64 20000, .bool true]), yV _, yV _, yV (.bool true), yV _, yV _, yV _, yV (.agg #[.int .i64 0, .bool true]), yV (.tuple #[.int .i64 0, .bool false]), yV _, yV _, yV (.bool true), yV _, yV _] 50 396 z q ow (
    aS (fun hk bs hd => xloadN 2 rfl (by kernel_rfl) (by kernel_rfl) (bg bs s1) ((ow.keep hk).box 0 rfl) (Nat.le_of_ble_eq_true rfl) rfl) rfl <|
    aC (fun hk bs hd => xcall2 rfl rfl rfl (en_dec_Round _ _)) (fun hk bs hd => ex20 _) rfl <|
    aS (fun hk bs hd => xextract rfl (dp hd 1 rfl) rfl) rfl <|
    aS (fun hk bs hd => xextract rfl (dp hd 1 rfl) rfl) rfl <|
    aC (fun hk bs hd => xcall3 rfl (dp hd 0 rfl) (dp hd 2 rfl) (dp hd 3 rfl) (en_louvrelaw01_pair__got _ _)) (fun hk bs hd => got_no _) rfl <|
    aS (fun hk bs hd => xnot rfl (dp hd 4 rfl)) rfl <|
    mvD 5 rfl rfl rfl rfl rfl rfl <|
    armS (wg (j := 6) (b := false) rfl rfl rfl) (fun aa ww hk bs hd => xbuild (us := #[]) rfl (by simp) (by kernel_rfl)) rfl <|
    armC (wg (j := 6) (b := false) rfl rfl rfl) (fun aa ww hk bs hd => xcall2 rfl rfl rfl (en_dec_Round _ _)) (fun aa ww hk bs hd => ex21 ww) rfl <|
    armS (wg (j := 6) (b := false) rfl rfl rfl) (fun aa ww hk bs hd => xextract rfl (dp hd 8 rfl) rfl) rfl <|
    armS (wg (j := 6) (b := false) rfl rfl rfl) (fun aa ww hk bs hd => xextract rfl (dp hd 8 rfl) rfl) rfl <|
    armC (wg (j := 6) (b := false) rfl rfl rfl) (fun aa ww hk bs hd => xcall3 rfl (dp hd 7 rfl) (dp hd 9 rfl) (dp hd 10 rfl) (en_louvrelaw01_pair__got _ _)) (fun aa ww hk bs hd => got_yes 0 ww) rfl <|
    armS (wg (j := 6) (b := false) rfl rfl rfl) (fun aa ww hk bs hd => xnot rfl (dp hd 11 rfl)) rfl <|
    aS (fun hk bs hd => xpickF rfl (dp hd 6 rfl) (dp hd 12 rfl)) rfl <|
    mvD 13 rfl rfl rfl rfl rfl rfl <|
    armS (wg (j := 14) (b := false) rfl rfl rfl) (fun aa ww hk bs hd => xbuild (us := #[]) rfl (by simp) (by kernel_rfl)) rfl <|
    armC (wg (j := 14) (b := false) rfl rfl rfl) (fun aa ww hk bs hd => xcall2 rfl rfl rfl (en_dec_Round _ _)) (fun aa ww hk bs hd => ex22 ww) rfl <|
    armS (wg (j := 14) (b := false) rfl rfl rfl) (fun aa ww hk bs hd => xextract rfl (dp hd 16 rfl) rfl) rfl <|
    armS (wg (j := 14) (b := false) rfl rfl rfl) (fun aa ww hk bs hd => xextract rfl (dp hd 16 rfl) rfl) rfl <|
    armC (wg (j := 14) (b := false) rfl rfl rfl) (fun aa ww hk bs hd => xcall3 rfl (dp hd 15 rfl) (dp hd 17 rfl) (dp hd 18 rfl) (en_louvrelaw01_pair__got _ _)) (fun aa ww hk bs hd => got_yes 0 ww) rfl <|
    armS (wg (j := 14) (b := false) rfl rfl rfl) (fun aa ww hk bs hd => xnot rfl (dp hd 19 rfl)) rfl <|
    aS (fun hk bs hd => xpickF rfl (dp hd 14 rfl) (dp hd 20 rfl)) rfl <|
    mvD 21 rfl rfl rfl rfl rfl rfl <|
    armC (wg (j := 22) (b := false) rfl rfl rfl) (fun aa ww hk bs hd => xcall1 rfl rfl (en_dec_Trunc _ _)) (fun aa ww hk bs hd => ex23 ww) rfl <|
    armE (wg (j := 22) (b := false) rfl rfl rfl) (fun aa ww hk bs hd => xnei rfl (dp hd 23 rfl) rfl) (congrArg Value.bool rfl) rfl <|
    aS (fun hk bs hd => xpickF rfl (dp hd 22 rfl) (dp hd 24 rfl)) rfl <|
    mvD 25 rfl rfl rfl rfl rfl rfl <|
    armS (wg (j := 26) (b := false) rfl rfl rfl) (fun aa ww hk bs hd => xbuild (us := #[(0, .int .i64 (-20000))]) rfl (by simp only [List.map_toArray, List.map_cons, List.map_nil]; rfl) (by kernel_rfl)) rfl <|
    armC (wg (j := 26) (b := false) rfl rfl rfl) (fun aa ww hk bs hd => xcall1 rfl rfl (en_dec_Floor _ _)) (fun aa ww hk bs hd => ex24 ww) rfl <|
    armS (wg (j := 26) (b := false) rfl rfl rfl) (fun aa ww hk bs hd => xextract rfl (dp hd 28 rfl) rfl) rfl <|
    armS (wg (j := 26) (b := false) rfl rfl rfl) (fun aa ww hk bs hd => xextract rfl (dp hd 28 rfl) rfl) rfl <|
    armC (wg (j := 26) (b := false) rfl rfl rfl) (fun aa ww hk bs hd => xcall3 rfl (dp hd 27 rfl) (dp hd 29 rfl) (dp hd 30 rfl) (en_louvrelaw01_pair__got _ _)) (fun aa ww hk bs hd => got_yes (-20000) ww) rfl <|
    armS (wg (j := 26) (b := false) rfl rfl rfl) (fun aa ww hk bs hd => xnot rfl (dp hd 31 rfl)) rfl <|
    aS (fun hk bs hd => xpickF rfl (dp hd 26 rfl) (dp hd 32 rfl)) rfl <|
    mvD 33 rfl rfl rfl rfl rfl rfl <|
    armS (wg (j := 34) (b := false) rfl rfl rfl) (fun aa ww hk bs hd => xbuild (us := #[(0, .int .i64 20000)]) rfl (by simp only [List.map_toArray, List.map_cons, List.map_nil]; rfl) (by kernel_rfl)) rfl <|
    armC (wg (j := 34) (b := false) rfl rfl rfl) (fun aa ww hk bs hd => xcall1 rfl rfl (en_dec_Floor _ _)) (fun aa ww hk bs hd => ex25 ww) rfl <|
    armS (wg (j := 34) (b := false) rfl rfl rfl) (fun aa ww hk bs hd => xextract rfl (dp hd 36 rfl) rfl) rfl <|
    armS (wg (j := 34) (b := false) rfl rfl rfl) (fun aa ww hk bs hd => xextract rfl (dp hd 36 rfl) rfl) rfl <|
    armC (wg (j := 34) (b := false) rfl rfl rfl) (fun aa ww hk bs hd => xcall3 rfl (dp hd 35 rfl) (dp hd 37 rfl) (dp hd 38 rfl) (en_louvrelaw01_pair__got _ _)) (fun aa ww hk bs hd => got_yes 20000 ww) rfl <|
    armS (wg (j := 34) (b := false) rfl rfl rfl) (fun aa ww hk bs hd => xnot rfl (dp hd 39 rfl)) rfl <|
    aS (fun hk bs hd => xpickF rfl (dp hd 34 rfl) (dp hd 40 rfl)) rfl <|
    mvD 41 rfl rfl rfl rfl rfl rfl <|
    armS (wg (j := 42) (b := false) rfl rfl rfl) (fun aa ww hk bs hd => xloadN 2 rfl (by kernel_rfl) (by kernel_rfl) (bg bs s1) ((ow.keep hk).box 0 rfl) (Nat.le_of_ble_eq_true rfl) rfl) rfl <|
    armC (wg (j := 42) (b := false) rfl rfl rfl) (fun aa ww hk bs hd => xcall1 rfl rfl (en_dec_Floor _ _)) (fun aa ww hk bs hd => ex26 ww) rfl <|
    armS (wg (j := 42) (b := false) rfl rfl rfl) (fun aa ww hk bs hd => xextract rfl (dp hd 44 rfl) rfl) rfl <|
    armS (wg (j := 42) (b := false) rfl rfl rfl) (fun aa ww hk bs hd => xextract rfl (dp hd 44 rfl) rfl) rfl <|
    armC (wg (j := 42) (b := false) rfl rfl rfl) (fun aa ww hk bs hd => xcall3 rfl (dp hd 43 rfl) (dp hd 45 rfl) (dp hd 46 rfl) (en_louvrelaw01_pair__got _ _)) (fun aa ww hk bs hd => got_no ww) rfl <|
    armS (wg (j := 42) (b := false) rfl rfl rfl) (fun aa ww hk bs hd => xnot rfl (dp hd 47 rfl)) rfl <|
    aS (fun hk bs hd => xpickF rfl (dp hd 42 rfl) (dp hd 48 rfl)) rfl <|
    arm0) fun fa fw bs hv ap z q ow => ?_
  obtain ⟨s0, s1⟩ := b2 bs s0 s1; have s212 := gv hv 49 rfl rfl; refine wt hK12 ?_; refine wp_cond_false (s212) ?_; refine wp_skip ?_; refine tn hK11 ?_; refine sq fun hK13 => ?_; refine sq fun hK14 => ?_
  refine ro [yV (.agg #[.int .i64 14142, .bool false]), yV (.tuple #[.int .i64 14142, .bool true]), yV _, yV _, yV (.bool true), yV _, yV _, yV (.agg #[.int .i64 100, .bool false]), yV (.tuple #[.int .i64 100, .bool true]), yV _, yV _, yV (.bool true), yV _, yV _, yV _, yV (.agg #[.int .i64 0, .bool true]), yV (.tuple #[.int .i64 0, .bool false]), yV _, yV _, yV (.bool true), yV _, yV _] 22 396 z q ow (
    aS (fun hk bs hd => xbuild (us := #[(0, .int .i64 14142)]) rfl (by simp only [List.map_toArray, List.map_cons, List.map_nil]; rfl) (by kernel_rfl)) rfl <|
    aC (fun hk bs hd => xcall1 rfl rfl (en_dec_Sqrt _ _)) (fun hk bs hd => ex27 _) rfl <|
    aS (fun hk bs hd => xextract rfl (dp hd 1 rfl) rfl) rfl <|
    aS (fun hk bs hd => xextract rfl (dp hd 1 rfl) rfl) rfl <|
    aC (fun hk bs hd => xcall3 rfl (dp hd 0 rfl) (dp hd 2 rfl) (dp hd 3 rfl) (en_louvrelaw01_pair__got _ _)) (fun hk bs hd => got_yes 14142 _) rfl <|
    aS (fun hk bs hd => xnot rfl (dp hd 4 rfl)) rfl <|
    mvD 5 rfl rfl rfl rfl rfl rfl <|
    armS (wg (j := 6) (b := false) rfl rfl rfl) (fun aa ww hk bs hd => xbuild (us := #[(0, .int .i64 100)]) rfl (by simp only [List.map_toArray, List.map_cons, List.map_nil]; rfl) (by kernel_rfl)) rfl <|
    armC (wg (j := 6) (b := false) rfl rfl rfl) (fun aa ww hk bs hd => xcall1 rfl rfl (en_dec_Sqrt _ _)) (fun aa ww hk bs hd => ex28 ww) rfl <|
    armS (wg (j := 6) (b := false) rfl rfl rfl) (fun aa ww hk bs hd => xextract rfl (dp hd 8 rfl) rfl) rfl <|
    armS (wg (j := 6) (b := false) rfl rfl rfl) (fun aa ww hk bs hd => xextract rfl (dp hd 8 rfl) rfl) rfl <|
    armC (wg (j := 6) (b := false) rfl rfl rfl) (fun aa ww hk bs hd => xcall3 rfl (dp hd 7 rfl) (dp hd 9 rfl) (dp hd 10 rfl) (en_louvrelaw01_pair__got _ _)) (fun aa ww hk bs hd => got_yes 100 ww) rfl <|
    armS (wg (j := 6) (b := false) rfl rfl rfl) (fun aa ww hk bs hd => xnot rfl (dp hd 11 rfl)) rfl <|
    aS (fun hk bs hd => xpickF rfl (dp hd 6 rfl) (dp hd 12 rfl)) rfl <|
    mvD 13 rfl rfl rfl rfl rfl rfl <|
    armS (wg (j := 14) (b := false) rfl rfl rfl) (fun aa ww hk bs hd => xloadN 2 rfl (by kernel_rfl) (by kernel_rfl) (bg bs s1) ((ow.keep hk).box 0 rfl) (Nat.le_of_ble_eq_true rfl) rfl) rfl <|
    armC (wg (j := 14) (b := false) rfl rfl rfl) (fun aa ww hk bs hd => xcall1 rfl rfl (en_dec_Sqrt _ _)) (fun aa ww hk bs hd => ex29 ww) rfl <|
    armS (wg (j := 14) (b := false) rfl rfl rfl) (fun aa ww hk bs hd => xextract rfl (dp hd 16 rfl) rfl) rfl <|
    armS (wg (j := 14) (b := false) rfl rfl rfl) (fun aa ww hk bs hd => xextract rfl (dp hd 16 rfl) rfl) rfl <|
    armC (wg (j := 14) (b := false) rfl rfl rfl) (fun aa ww hk bs hd => xcall3 rfl (dp hd 15 rfl) (dp hd 17 rfl) (dp hd 18 rfl) (en_louvrelaw01_pair__got _ _)) (fun aa ww hk bs hd => got_no ww) rfl <|
    armS (wg (j := 14) (b := false) rfl rfl rfl) (fun aa ww hk bs hd => xnot rfl (dp hd 19 rfl)) rfl <|
    aS (fun hk bs hd => xpickF rfl (dp hd 14 rfl) (dp hd 20 rfl)) rfl <|
    arm0) fun fa fw bs hv ap z q ow => ?_
  obtain ⟨s0, s1⟩ := b2 bs s0 s1; have s234 := gv hv 21 rfl rfl; refine wt hK14 ?_; refine wp_cond_false (s234) ?_; refine wp_skip ?_; refine tn hK13 ?_; refine sq fun hK15 => ?_; refine sq fun hK16 => ?_
  refine ro [yV (.agg #[.int .i64 10240000, .bool false]), yV (.tuple #[.int .i64 10240000, .bool true]), yV _, yV _, yV (.bool true), yV _, yV _, yV (.agg #[.int .i64 2500, .bool false]), yV (.tuple #[.int .i64 2500, .bool true]), yV _, yV _, yV (.bool true), yV _, yV _, yV _, yV (.agg #[.int .i64 0, .bool false]), yV (.tuple #[.int .i64 0, .bool true]), yV _, yV _, yV (.bool true), yV _, yV _, yV _, yV (.agg #[.int .i64 10000, .bool false]), yV (.tuple #[.int .i64 10000, .bool true]), yV _, yV _, yV (.bool true), yV _, yV _, yV _, yV (.agg #[.int .i64 0, .bool true]), yV (.tuple #[.int .i64 0, .bool false]), yV _, yV _, yV (.bool true), yV _, yV _, yV _, yV (.agg #[.int .i64 0, .bool true]), yV (.tuple #[.int .i64 0, .bool false]), yV _, yV _, yV (.bool true), yV _, yV _, yV _, yV (.agg #[.int .i64 0, .bool true]), yV (.tuple #[.int .i64 0, .bool false]), yV _, yV _, yV (.bool true), yV _, yV _, yV _, yV (.agg #[.int .i64 10000, .bool false]), yV (.tuple #[.int .i64 10000, .bool true]), yV _, yV _, yV (.bool true), yV _, yV _] 62 396 z q ow (
    aS (fun hk bs hd => xbuild (us := #[(0, .int .i64 10240000)]) rfl (by simp only [List.map_toArray, List.map_cons, List.map_nil]; rfl) (by kernel_rfl)) rfl <|
    aC (fun hk bs hd => xcall2 rfl rfl rfl (en_dec_Power _ _)) (fun hk bs hd => ex30 _) rfl <|
    aS (fun hk bs hd => xextract rfl (dp hd 1 rfl) rfl) rfl <|
    aS (fun hk bs hd => xextract rfl (dp hd 1 rfl) rfl) rfl <|
    aC (fun hk bs hd => xcall3 rfl (dp hd 0 rfl) (dp hd 2 rfl) (dp hd 3 rfl) (en_louvrelaw01_pair__got _ _)) (fun hk bs hd => got_yes 10240000 _) rfl <|
    aS (fun hk bs hd => xnot rfl (dp hd 4 rfl)) rfl <|
    mvD 5 rfl rfl rfl rfl rfl rfl <|
    armS (wg (j := 6) (b := false) rfl rfl rfl) (fun aa ww hk bs hd => xbuild (us := #[(0, .int .i64 2500)]) rfl (by simp only [List.map_toArray, List.map_cons, List.map_nil]; rfl) (by kernel_rfl)) rfl <|
    armC (wg (j := 6) (b := false) rfl rfl rfl) (fun aa ww hk bs hd => xcall2 rfl rfl rfl (en_dec_Power _ _)) (fun aa ww hk bs hd => ex31 ww) rfl <|
    armS (wg (j := 6) (b := false) rfl rfl rfl) (fun aa ww hk bs hd => xextract rfl (dp hd 8 rfl) rfl) rfl <|
    armS (wg (j := 6) (b := false) rfl rfl rfl) (fun aa ww hk bs hd => xextract rfl (dp hd 8 rfl) rfl) rfl <|
    armC (wg (j := 6) (b := false) rfl rfl rfl) (fun aa ww hk bs hd => xcall3 rfl (dp hd 7 rfl) (dp hd 9 rfl) (dp hd 10 rfl) (en_louvrelaw01_pair__got _ _)) (fun aa ww hk bs hd => got_yes 2500 ww) rfl <|
    armS (wg (j := 6) (b := false) rfl rfl rfl) (fun aa ww hk bs hd => xnot rfl (dp hd 11 rfl)) rfl <|
    aS (fun hk bs hd => xpickF rfl (dp hd 6 rfl) (dp hd 12 rfl)) rfl <|
    mvD 13 rfl rfl rfl rfl rfl rfl <|
    armS (wg (j := 14) (b := false) rfl rfl rfl) (fun aa ww hk bs hd => xbuild (us := #[]) rfl (by simp) (by kernel_rfl)) rfl <|
    armC (wg (j := 14) (b := false) rfl rfl rfl) (fun aa ww hk bs hd => xcall2 rfl rfl rfl (en_dec_Power _ _)) (fun aa ww hk bs hd => ex32 ww) rfl <|
    armS (wg (j := 14) (b := false) rfl rfl rfl) (fun aa ww hk bs hd => xextract rfl (dp hd 16 rfl) rfl) rfl <|
    armS (wg (j := 14) (b := false) rfl rfl rfl) (fun aa ww hk bs hd => xextract rfl (dp hd 16 rfl) rfl) rfl <|
    armC (wg (j := 14) (b := false) rfl rfl rfl) (fun aa ww hk bs hd => xcall3 rfl (dp hd 15 rfl) (dp hd 17 rfl) (dp hd 18 rfl) (en_louvrelaw01_pair__got _ _)) (fun aa ww hk bs hd => got_yes 0 ww) rfl <|
    armS (wg (j := 14) (b := false) rfl rfl rfl) (fun aa ww hk bs hd => xnot rfl (dp hd 19 rfl)) rfl <|
    aS (fun hk bs hd => xpickF rfl (dp hd 14 rfl) (dp hd 20 rfl)) rfl <|
    mvD 21 rfl rfl rfl rfl rfl rfl <|
    armS (wg (j := 22) (b := false) rfl rfl rfl) (fun aa ww hk bs hd => xbuild (us := #[(0, .int .i64 10000)]) rfl (by simp only [List.map_toArray, List.map_cons, List.map_nil]; rfl) (by kernel_rfl)) rfl <|
    armC (wg (j := 22) (b := false) rfl rfl rfl) (fun aa ww hk bs hd => xcall2 rfl rfl rfl (en_dec_Power _ _)) (fun aa ww hk bs hd => ex33 ww) rfl <|
    armS (wg (j := 22) (b := false) rfl rfl rfl) (fun aa ww hk bs hd => xextract rfl (dp hd 24 rfl) rfl) rfl <|
    armS (wg (j := 22) (b := false) rfl rfl rfl) (fun aa ww hk bs hd => xextract rfl (dp hd 24 rfl) rfl) rfl <|
    armC (wg (j := 22) (b := false) rfl rfl rfl) (fun aa ww hk bs hd => xcall3 rfl (dp hd 23 rfl) (dp hd 25 rfl) (dp hd 26 rfl) (en_louvrelaw01_pair__got _ _)) (fun aa ww hk bs hd => got_yes 10000 ww) rfl <|
    armS (wg (j := 22) (b := false) rfl rfl rfl) (fun aa ww hk bs hd => xnot rfl (dp hd 27 rfl)) rfl <|
    aS (fun hk bs hd => xpickF rfl (dp hd 22 rfl) (dp hd 28 rfl)) rfl <|
    mvD 29 rfl rfl rfl rfl rfl rfl <|
    armS (wg (j := 30) (b := false) rfl rfl rfl) (fun aa ww hk bs hd => xloadN 2 rfl (by kernel_rfl) (by kernel_rfl) (bg bs s1) ((ow.keep hk).box 0 rfl) (Nat.le_of_ble_eq_true rfl) rfl) rfl <|
    armC (wg (j := 30) (b := false) rfl rfl rfl) (fun aa ww hk bs hd => xcall2 rfl rfl rfl (en_dec_Power _ _)) (fun aa ww hk bs hd => ex34 ww) rfl <|
    armS (wg (j := 30) (b := false) rfl rfl rfl) (fun aa ww hk bs hd => xextract rfl (dp hd 32 rfl) rfl) rfl <|
    armS (wg (j := 30) (b := false) rfl rfl rfl) (fun aa ww hk bs hd => xextract rfl (dp hd 32 rfl) rfl) rfl <|
    armC (wg (j := 30) (b := false) rfl rfl rfl) (fun aa ww hk bs hd => xcall3 rfl (dp hd 31 rfl) (dp hd 33 rfl) (dp hd 34 rfl) (en_louvrelaw01_pair__got _ _)) (fun aa ww hk bs hd => got_no ww) rfl <|
    armS (wg (j := 30) (b := false) rfl rfl rfl) (fun aa ww hk bs hd => xnot rfl (dp hd 35 rfl)) rfl <|
    aS (fun hk bs hd => xpickF rfl (dp hd 30 rfl) (dp hd 36 rfl)) rfl <|
    mvD 37 rfl rfl rfl rfl rfl rfl <|
    armS (wg (j := 38) (b := false) rfl rfl rfl) (fun aa ww hk bs hd => xloadN 2 rfl (by kernel_rfl) (by kernel_rfl) (bg bs s1) ((ow.keep hk).box 0 rfl) (Nat.le_of_ble_eq_true rfl) rfl) rfl <|
    armC (wg (j := 38) (b := false) rfl rfl rfl) (fun aa ww hk bs hd => xcall2 rfl rfl rfl (en_dec_Power _ _)) (fun aa ww hk bs hd => ex35 ww) rfl <|
    armS (wg (j := 38) (b := false) rfl rfl rfl) (fun aa ww hk bs hd => xextract rfl (dp hd 40 rfl) rfl) rfl <|
    armS (wg (j := 38) (b := false) rfl rfl rfl) (fun aa ww hk bs hd => xextract rfl (dp hd 40 rfl) rfl) rfl <|
    armC (wg (j := 38) (b := false) rfl rfl rfl) (fun aa ww hk bs hd => xcall3 rfl (dp hd 39 rfl) (dp hd 41 rfl) (dp hd 42 rfl) (en_louvrelaw01_pair__got _ _)) (fun aa ww hk bs hd => got_no ww) rfl <|
    armS (wg (j := 38) (b := false) rfl rfl rfl) (fun aa ww hk bs hd => xnot rfl (dp hd 43 rfl)) rfl <|
    aS (fun hk bs hd => xpickF rfl (dp hd 38 rfl) (dp hd 44 rfl)) rfl <|
    mvD 45 rfl rfl rfl rfl rfl rfl <|
    armS (wg (j := 46) (b := false) rfl rfl rfl) (fun aa ww hk bs hd => xloadN 2 rfl (by kernel_rfl) (by kernel_rfl) (bg bs s1) ((ow.keep hk).box 0 rfl) (Nat.le_of_ble_eq_true rfl) rfl) rfl <|
    armC (wg (j := 46) (b := false) rfl rfl rfl) (fun aa ww hk bs hd => xcall2 rfl rfl rfl (en_dec_Power _ _)) (fun aa ww hk bs hd => ex36 ww) rfl <|
    armS (wg (j := 46) (b := false) rfl rfl rfl) (fun aa ww hk bs hd => xextract rfl (dp hd 48 rfl) rfl) rfl <|
    armS (wg (j := 46) (b := false) rfl rfl rfl) (fun aa ww hk bs hd => xextract rfl (dp hd 48 rfl) rfl) rfl <|
    armC (wg (j := 46) (b := false) rfl rfl rfl) (fun aa ww hk bs hd => xcall3 rfl (dp hd 47 rfl) (dp hd 49 rfl) (dp hd 50 rfl) (en_louvrelaw01_pair__got _ _)) (fun aa ww hk bs hd => got_no ww) rfl <|
    armS (wg (j := 46) (b := false) rfl rfl rfl) (fun aa ww hk bs hd => xnot rfl (dp hd 51 rfl)) rfl <|
    aS (fun hk bs hd => xpickF rfl (dp hd 46 rfl) (dp hd 52 rfl)) rfl <|
    mvD 53 rfl rfl rfl rfl rfl rfl <|
    armS (wg (j := 54) (b := false) rfl rfl rfl) (fun aa ww hk bs hd => xbuild (us := #[(0, .int .i64 10000)]) rfl (by simp only [List.map_toArray, List.map_cons, List.map_nil]; rfl) (by kernel_rfl)) rfl <|
    armC (wg (j := 54) (b := false) rfl rfl rfl) (fun aa ww hk bs hd => xcall2 rfl rfl rfl (en_dec_Power _ _)) (fun aa ww hk bs hd => ex37 ww) rfl <|
    armS (wg (j := 54) (b := false) rfl rfl rfl) (fun aa ww hk bs hd => xextract rfl (dp hd 56 rfl) rfl) rfl <|
    armS (wg (j := 54) (b := false) rfl rfl rfl) (fun aa ww hk bs hd => xextract rfl (dp hd 56 rfl) rfl) rfl <|
    armC (wg (j := 54) (b := false) rfl rfl rfl) (fun aa ww hk bs hd => xcall3 rfl (dp hd 55 rfl) (dp hd 57 rfl) (dp hd 58 rfl) (en_louvrelaw01_pair__got _ _)) (fun aa ww hk bs hd => got_yes 10000 ww) rfl <|
    armS (wg (j := 54) (b := false) rfl rfl rfl) (fun aa ww hk bs hd => xnot rfl (dp hd 59 rfl)) rfl <|
    aS (fun hk bs hd => xpickF rfl (dp hd 54 rfl) (dp hd 60 rfl)) rfl <|
    arm0) fun fa fw bs hv ap z q ow => ?_
  obtain ⟨s0, s1⟩ := b2 bs s0 s1; have s296 := gv hv 61 rfl rfl; refine wt hK16 ?_; refine wp_cond_false (s296) ?_; refine wp_skip ?_; refine tn hK15 ?_; refine sq fun hK17 => ?_; refine sq fun hK18 => ?_
  refine ro [yV (.agg #[.int .i64 10000, .bool false]), ySlice fw.heap.size 3 (.cells #[.int .i64 9223372036854770000, .int .i64 10000, .int .i64 (-9223372036854770000)] 2 (0, 0)), yV (.tuple #[.int .i64 10000, .bool true]), yV _, yV _, yV (.bool true), yV _, yV _, yV (.agg #[.int .i64 16667, .bool false]), ySlice fw.heap.size 3 (.cells #[.int .i64 10000, .int .i64 20000, .int .i64 20000] 2 (0, 0)), yV (.tuple #[.int .i64 16667, .bool true]), yV _, yV _, yV (.bool true), yV _, yV _, yV _, yV (.agg #[.int .i64 1, .bool false]), ySlice fw.heap.size 2 (.cells #[.int .i64 1, .int .i64 0] 2 (0, 0)), yV (.tuple #[.int .i64 1, .bool true]), yV _, yV _, yV (.bool true), yV _, yV _, yV _, yV (.agg #[.int .i64 0, .bool true]), yV (.tuple #[.int .i64 0, .bool false]), yV _, yV _, yV (.bool true), yV _, yV _, yV _, yV (.agg #[.int .i64 0, .bool false]), yV (.tuple #[.int .i64 0, .bool true]), yV _, yV _, yV (.bool true), yV _, yV _] 41 396 z q ow (
    aS (fun hk bs hd => xbuild (us := #[(0, .int .i64 10000)]) rfl (by simp only [List.map_toArray, List.map_cons, List.map_nil]; rfl) (by kernel_rfl)) rfl <|
    aL (fun hk bs hd => xbuildSlice (us := #[(0, .int .i64 9223372036854770000), (1, .int .i64 10000), (2, .int .i64 (-9223372036854770000))]) rfl (by simp only [List.map_toArray, List.map_cons, List.map_nil]; rfl) (by kernel_rfl)) rfl <|
    arm (fun aa ww hk bs hd => by
      have d1 := dL hd 1 rfl; obtain ⟨g1, e1, _, h1⟩ := d1; exact stepX_enter (want0 rfl) (xcall1 (u := .slice (some ⟨g1, 0, none⟩) 3 3) rfl e1 (en_dec_Sum _ _)) ((ex38 (some ⟨g1, 0, none⟩) 3 ww (row_of [9223372036854770000, 10000, (-9223372036854770000)] h1)).mono fun _ _ ⟨he, hk2⟩ => ⟨_, he, rfl, hk2⟩) rfl
      ) <|
    aS (fun hk bs hd => xextract rfl (dp hd 2 rfl) rfl) rfl <|
    aS (fun hk bs hd => xextract rfl (dp hd 2 rfl) rfl) rfl <|
    aC (fun hk bs hd => xcall3 rfl (dp hd 0 rfl) (dp hd 3 rfl) (dp hd 4 rfl) (en_louvrelaw01_pair__got _ _)) (fun hk bs hd => got_yes 10000 _) rfl <|
    aS (fun hk bs hd => xnot rfl (dp hd 5 rfl)) rfl <|
    mvD 6 rfl rfl rfl rfl rfl rfl <|
    armS (wg (j := 7) (b := false) rfl rfl rfl) (fun aa ww hk bs hd => xbuild (us := #[(0, .int .i64 16667)]) rfl (by simp only [List.map_toArray, List.map_cons, List.map_nil]; rfl) (by kernel_rfl)) rfl <|
    armL (wg (j := 7) (b := false) rfl rfl rfl) (fun aa ww hk bs hd => xbuildSlice (us := #[(0, .int .i64 10000), (1, .int .i64 20000), (2, .int .i64 20000)]) rfl (by simp only [List.map_toArray, List.map_cons, List.map_nil]; rfl) (by kernel_rfl)) rfl <|
    arm (fun aa ww hk bs hd => by
      have d7 := dp hd 7 rfl; have d9 := dL hd 9 rfl; obtain ⟨g9, e9, _, h9⟩ := d9; exact stepX_enter (want1 (j := 7) (b := false) rfl d7) (xcall1 (u := .slice (some ⟨g9, 0, none⟩) 3 3) rfl e9 (en_dec_Mean _ _)) ((ex39 (some ⟨g9, 0, none⟩) 3 ww (row_of [10000, 20000, 20000] h9)).mono fun _ _ ⟨he, hk2⟩ => ⟨_, he, rfl, hk2⟩) rfl
      ) <|
    armS (wg (j := 7) (b := false) rfl rfl rfl) (fun aa ww hk bs hd => xextract rfl (dp hd 10 rfl) rfl) rfl <|
    armS (wg (j := 7) (b := false) rfl rfl rfl) (fun aa ww hk bs hd => xextract rfl (dp hd 10 rfl) rfl) rfl <|
    armC (wg (j := 7) (b := false) rfl rfl rfl) (fun aa ww hk bs hd => xcall3 rfl (dp hd 8 rfl) (dp hd 11 rfl) (dp hd 12 rfl) (en_louvrelaw01_pair__got _ _)) (fun aa ww hk bs hd => got_yes 16667 ww) rfl <|
    armS (wg (j := 7) (b := false) rfl rfl rfl) (fun aa ww hk bs hd => xnot rfl (dp hd 13 rfl)) rfl <|
    aS (fun hk bs hd => xpickF rfl (dp hd 7 rfl) (dp hd 14 rfl)) rfl <|
    mvD 15 rfl rfl rfl rfl rfl rfl <|
    armS (wg (j := 16) (b := false) rfl rfl rfl) (fun aa ww hk bs hd => xbuild (us := #[(0, .int .i64 1)]) rfl (by simp only [List.map_toArray, List.map_cons, List.map_nil]; rfl) (by kernel_rfl)) rfl <|
    armL (wg (j := 16) (b := false) rfl rfl rfl) (fun aa ww hk bs hd => xbuildSlice (us := #[(0, .int .i64 1), (1, .int .i64 0)]) rfl (by simp only [List.map_toArray, List.map_cons, List.map_nil]; rfl) (by kernel_rfl)) rfl <|
    arm (fun aa ww hk bs hd => by
      have d16 := dp hd 16 rfl; have d18 := dL hd 18 rfl; obtain ⟨g18, e18, _, h18⟩ := d18; exact stepX_enter (want1 (j := 16) (b := false) rfl d16) (xcall1 (u := .slice (some ⟨g18, 0, none⟩) 2 2) rfl e18 (en_dec_Mean _ _)) ((ex40 (some ⟨g18, 0, none⟩) 2 ww (row_of [1, 0] h18)).mono fun _ _ ⟨he, hk2⟩ => ⟨_, he, rfl, hk2⟩) rfl
      ) <|
    armS (wg (j := 16) (b := false) rfl rfl rfl) (fun aa ww hk bs hd => xextract rfl (dp hd 19 rfl) rfl) rfl <|
    armS (wg (j := 16) (b := false) rfl rfl rfl) (fun aa ww hk bs hd => xextract rfl (dp hd 19 rfl) rfl) rfl <|
    armC (wg (j := 16) (b := false) rfl rfl rfl) (fun aa ww hk bs hd => xcall3 rfl (dp hd 17 rfl) (dp hd 20 rfl) (dp hd 21 rfl) (en_louvrelaw01_pair__got _ _)) (fun aa ww hk bs hd => got_yes 1 ww) rfl <|
    armS (wg (j := 16) (b := false) rfl rfl rfl) (fun aa ww hk bs hd => xnot rfl (dp hd 22 rfl)) rfl <|
    aS (fun hk bs hd => xpickF rfl (dp hd 16 rfl) (dp hd 23 rfl)) rfl <|
    mvD 24 rfl rfl rfl rfl rfl rfl <|
    armS (wg (j := 25) (b := false) rfl rfl rfl) (fun aa ww hk bs hd => xloadN 2 rfl (by kernel_rfl) (by kernel_rfl) (bg bs s1) ((ow.keep hk).box 0 rfl) (Nat.le_of_ble_eq_true rfl) rfl) rfl <|
    armC (wg (j := 25) (b := false) rfl rfl rfl) (fun aa ww hk bs hd => xcall1 rfl rfl (en_dec_Mean _ _)) (fun aa ww hk bs hd => ex41 none 0 ww (row_nil _)) rfl <|
    armS (wg (j := 25) (b := false) rfl rfl rfl) (fun aa ww hk bs hd => xextract rfl (dp hd 27 rfl) rfl) rfl <|
    armS (wg (j := 25) (b := false) rfl rfl rfl) (fun aa ww hk bs hd => xextract rfl (dp hd 27 rfl) rfl) rfl <|
    armC (wg (j := 25) (b := false) rfl rfl rfl) (fun aa ww hk bs hd => xcall3 rfl (dp hd 26 rfl) (dp hd 28 rfl) (dp hd 29 rfl) (en_louvrelaw01_pair__got _ _)) (fun aa ww hk bs hd => got_no ww) rfl <|
    armS (wg (j := 25) (b := false) rfl rfl rfl) (fun aa ww hk bs hd => xnot rfl (dp hd 30 rfl)) rfl <|
    aS (fun hk bs hd => xpickF rfl (dp hd 25 rfl) (dp hd 31 rfl)) rfl <|
    mvD 32 rfl rfl rfl rfl rfl rfl <|
    armS (wg (j := 33) (b := false) rfl rfl rfl) (fun aa ww hk bs hd => xbuild (us := #[]) rfl (by simp) (by kernel_rfl)) rfl <|
    armC (wg (j := 33) (b := false) rfl rfl rfl) (fun aa ww hk bs hd => xcall1 rfl rfl (en_dec_Sum _ _)) (fun aa ww hk bs hd => ex42 none 0 ww (row_nil _)) rfl <|
    armS (wg (j := 33) (b := false) rfl rfl rfl) (fun aa ww hk bs hd => xextract rfl (dp hd 35 rfl) rfl) rfl <|
    armS (wg (j := 33) (b := false) rfl rfl rfl) (fun aa ww hk bs hd => xextract rfl (dp hd 35 rfl) rfl) rfl <|
    armC (wg (j := 33) (b := false) rfl rfl rfl) (fun aa ww hk bs hd => xcall3 rfl (dp hd 34 rfl) (dp hd 36 rfl) (dp hd 37 rfl) (en_louvrelaw01_pair__got _ _)) (fun aa ww hk bs hd => got_yes 0 ww) rfl <|
    armS (wg (j := 33) (b := false) rfl rfl rfl) (fun aa ww hk bs hd => xnot rfl (dp hd 38 rfl)) rfl <|
    aS (fun hk bs hd => xpickF rfl (dp hd 33 rfl) (dp hd 39 rfl)) rfl <|
    arm0) fun fa fw bs hv ap z q ow => ?_
  have s0 := bg bs s0; have s337 := gv hv 40 rfl rfl; refine wt hK18 ?_; refine wp_cond_false (s337) ?_; refine wp_skip ?_; refine tn hK17 ?_; refine sq fun hK19 => ?_
  refine ro [yV (.tuple #[.int .i64 (-123457), .int .i64 0]), yV _, yV _, yV _, yV _, yV _] 6 396 z q ow (
    aC (fun hk bs hd => xcall1 rfl rfl (en_dec_Parse _ _)) (fun hk bs hd => ex_p0 _) rfl <|
    mvD 0 rfl rfl rfl rfl rfl rfl <|
    aS (fun hk bs hd => xextract rfl (dp hd 1 rfl) rfl) rfl <|
    aS (fun hk bs hd => xextract rfl (dp hd 1 rfl) rfl) rfl <|
    asD 2 rfl rfl rfl rfl rfl rfl <|
    asD 3 rfl rfl rfl rfl rfl rfl <|
    arm0) fun fa fw bs hv ap z q ow => ?_
  have s0 := bg bs s0; have s2 := gv hv 4 rfl rfl; have s3 := gv hv 5 rfl rfl; refine wt hK19 ?_; refine sq fun hK20 => ?_
  refine ro [yV (.tuple #[.int .i64 0, .int .i64 0]), yV _, yV _, yV _, yV _, yV _] 6 396 z q ow (
    aC (fun hk bs hd => xcall1 rfl rfl (en_dec_Parse _ _)) (fun hk bs hd => ex_p1 _) rfl <|
    mvD 0 rfl rfl rfl rfl rfl rfl <|
    aS (fun hk bs hd => xextract rfl (dp hd 1 rfl) rfl) rfl <|
    aS (fun hk bs hd => xextract rfl (dp hd 1 rfl) rfl) rfl <|
    asD 2 rfl rfl rfl rfl rfl rfl <|
    asD 3 rfl rfl rfl rfl rfl rfl <|
    arm0) fun fa fw bs hv ap z q ow => ?_
  obtain ⟨s0, s2, s3⟩ := b3 bs s0 s2 s3; have s4 := gv hv 4 rfl rfl; have s5 := gv hv 5 rfl rfl; refine wt hK20 ?_; refine sq fun hK21 => ?_; refine sq fun hK22 => ?_
  refine ro [yV _, yV (.bool false), yV _, yV _, yV (.bool false), yV _, yV _, yV _, yV (.bool false), yV _, yV _, yV _, yV (.bool false), yV _] 14 396 z q ow (
    mvS s2 rfl rfl rfl rfl <|
    aE (fun hk bs hd => xnei rfl (dp hd 0 rfl) rfl) (congrArg Value.bool rfl) rfl <|
    mvD 1 rfl rfl rfl rfl rfl rfl <|
    armS (wg (j := 2) (b := false) rfl rfl rfl) (fun aa ww hk bs hd => xmove rfl (bg bs s3)) rfl <|
    armE (wg (j := 2) (b := false) rfl rfl rfl) (fun aa ww hk bs hd => xnei rfl (dp hd 3 rfl) rfl) (congrArg Value.bool rfl) rfl <|
    aS (fun hk bs hd => xpickF rfl (dp hd 2 rfl) (dp hd 4 rfl)) rfl <|
    mvD 5 rfl rfl rfl rfl rfl rfl <|
    armS (wg (j := 6) (b := false) rfl rfl rfl) (fun aa ww hk bs hd => xmove rfl (bg bs s4)) rfl <|
    armE (wg (j := 6) (b := false) rfl rfl rfl) (fun aa ww hk bs hd => xnei rfl (dp hd 7 rfl) rfl) (congrArg Value.bool rfl) rfl <|
    aS (fun hk bs hd => xpickF rfl (dp hd 6 rfl) (dp hd 8 rfl)) rfl <|
    mvD 9 rfl rfl rfl rfl rfl rfl <|
    armS (wg (j := 10) (b := false) rfl rfl rfl) (fun aa ww hk bs hd => xmove rfl (bg bs s5)) rfl <|
    armE (wg (j := 10) (b := false) rfl rfl rfl) (fun aa ww hk bs hd => xnei rfl (dp hd 11 rfl) rfl) (congrArg Value.bool rfl) rfl <|
    aS (fun hk bs hd => xpickF rfl (dp hd 10 rfl) (dp hd 12 rfl)) rfl <|
    arm0) fun fa fw bs hv ap z q ow => ?_
  obtain ⟨s0, s3⟩ := b2 bs s0 s3; have s359 := gv hv 13 rfl rfl; refine wt hK22 ?_; refine wp_cond_false (s359) ?_; refine wp_skip ?_; refine tn hK21 ?_; refine sq fun hK23 => ?_; refine sq fun hK24 => ?_
  refine ro [ySlice fw.heap.size 8 (.cells #[.string ⟨[49, 46].toArray⟩, .string ⟨[46, 53].toArray⟩, .string ⟨[43, 49].toArray⟩, .string ⟨[].toArray⟩, .string ⟨[45].toArray⟩, .string ⟨[49, 32].toArray⟩, .string ⟨[49, 46, 50, 46, 51].toArray⟩, .string ⟨[49, 101, 53].toArray⟩] 9 (0, 0))] 1 396 z q ow (
    aL (fun hk bs hd => xbuildSlice (us := #[(0, .string ⟨[49, 46].toArray⟩), (1, .string ⟨[46, 53].toArray⟩), (2, .string ⟨[43, 49].toArray⟩), (3, .string ⟨[].toArray⟩), (4, .string ⟨[45].toArray⟩), (5, .string ⟨[49, 32].toArray⟩), (6, .string ⟨[49, 46, 50, 46, 51].toArray⟩), (7, .string ⟨[49, 101, 53].toArray⟩)]) rfl (by simp only [List.map_toArray, List.map_cons, List.map_nil]; rfl) (by kernel_rfl)) rfl <|
    arm0) fun fa fw bs hv ap z q ov => ?_
  obtain ⟨s0, s3⟩ := b2 bs s0 s3; obtain ⟨gb2, s360, bgb2, hgb2⟩ := gotL hv 0 rfl rfl rfl; have ov := ov.cons hgb2 (Nat.le_trans ow.kept.size bgb2) (ow.below bgb2); have ow := ov; refine wl_value (v := .int .i64 8) (want0 rfl) (xlen Try.underlying34 rfl s360) ?_; refine wl_value (v := .int .i64 0) (want0 rfl) (xmove rfl rfl) ?_; refine gt5 (put_size (put_size z)) (put_def (put_def q)) ow 0 (pb 362 (pb 361 s0 rfl) rfl) 3 (pb 362 (pb 361 s3 rfl) rfl) 360 (pb 362 (pb 361 s360 rfl) rfl) 361 (pb 362 (put_in (t := 361) z rfl) rfl) 362 (put_in (t := 362) (put_size z) rfl) fun fa fw z q ow s0 s3 s360 s361 s362 => ?_; refine wt hK24 ?_; refine wp_block ?_; refine wp_loop_rounds 9 ?_; refine rnd1 ?_; refine sq fun hK25 => ?_
  refine ro [yV (.bool true)] 1 396 z q ow (
    aE (fun hk bs hd => xlss rfl (bg bs s362) (bg bs s361)) (congrArg Value.bool rfl) rfl <|
    arm0) fun fa fw bs hv ap z q ow => ?_
  obtain ⟨s0, s3, s360, s361, s362⟩ := b5 bs s0 s3 s360 s361 s362; have s363 := gv hv 0 rfl rfl; refine wt hK25 ?_; refine sq fun hK26 => ?_; refine wp_cond_true (s363) ?_; refine wp_skip ?_; refine tn hK26 ?_; refine sq fun hK27 => ?_; refine wp_block ?_; refine sq fun hK28 => ?_
  refine ro [yV _, yV _, yV _] 3 396 z q ow (
    aS (fun hk bs hd => xindexAddr (u := .slice (some ⟨gb2, 0, none⟩) 8 8) (z := .int .i64 0) rfl (bg bs s360) (bg bs s362) (run_place1 (off := 0) (k := 0) Try.underlying34 (by kernel_rfl) (by decide))) rfl <|
    aS (fun hk bs hd => xloadB rfl (by kernel_rfl) (dp hd 0 rfl) ((ow.keep hk).box 0 rfl) rfl) rfl <|
    asD 1 rfl rfl rfl rfl rfl rfl <|
    arm0) fun fa fw bs hv ap z q ow => ?_
  obtain ⟨s0, s3, s360, s361, s362, s363⟩ := b6 bs s0 s3 s360 s361 s362 s363; have s364 := gv hv 0 rfl rfl; have s365 := gv hv 1 rfl rfl; have s7 := gv hv 2 rfl rfl; refine wt hK28 ?_; refine sq fun hK29 => ?_
  refine ro [yV _, yV (.tuple #[.int .i64 0, .int .i64 4]), yV _, yV _, yV _, yV _, yV _] 7 396 z q ow (
    mvS s7 rfl rfl rfl rfl <|
    aC (fun hk bs hd => xcall1 rfl (dp hd 0 rfl) (en_dec_Parse _ _)) (fun hk bs hd => ex_q0 _) rfl <|
    mvD 1 rfl rfl rfl rfl rfl rfl <|
    aS (fun hk bs hd => xextract rfl (dp hd 2 rfl) rfl) rfl <|
    aS (fun hk bs hd => xextract rfl (dp hd 2 rfl) rfl) rfl <|
    asD 3 rfl rfl rfl rfl rfl rfl <|
    asD 4 rfl rfl rfl rfl rfl rfl <|
    arm0) fun fa fw bs hv ap z q ow => ?_
  obtain ⟨s0, s3, s360, s361, s362, s363, s364, s365⟩ := b8 bs s0 s3 s360 s361 s362 s363 s364 s365; have s7 := bg bs s7; have s367 := gv hv 0 rfl rfl; have s368 := gv hv 1 rfl rfl; have s366 := gv hv 2 rfl rfl; have s369 := gv hv 3 rfl rfl; have s370 := gv hv 4 rfl rfl; have s9 := gv hv 6 rfl rfl; refine wt hK29 ?_; refine sq fun hK30 => ?_
  refine ro [yV _, yV (.bool false)] 2 396 z q ow (
    mvS s9 rfl rfl rfl rfl <|
    aE (fun hk bs hd => xnei rfl (dp hd 0 rfl) rfl) (congrArg Value.bool rfl) rfl <|
    arm0) fun fa fw bs hv ap z q ow => ?_
  obtain ⟨s0, s3, s360, s361, s362, s363, s364, s365⟩ := b8 bs s0 s3 s360 s361 s362 s363 s364 s365; obtain ⟨s7, s367, s368, s366, s369, s370, s9⟩ := b7 bs s7 s367 s368 s366 s369 s370 s9; have s371 := gv hv 0 rfl rfl; have s372 := gv hv 1 rfl rfl; refine wt hK30 ?_; refine wp_cond_false (s372) ?_; refine wp_skip ?_; refine block_n ?_; refine tn hK27 ?_
  refine ro [yV (.int .i64 1)] 1 396 z q ow (
    aS (fun hk bs hd => xadd (Or.inl rfl) rfl (bg bs s362) rfl (by omega) (by omega)) rfl <|
    arm0) fun fa fw bs hv ap z q ow => ?_
  obtain ⟨s0, s3, s360, s361, s362, s363, s364, s365⟩ := b8 bs s0 s3 s360 s361 s362 s363 s364 s365; obtain ⟨s7, s367, s368, s366, s369, s370, s9, s371⟩ := b8 bs s7 s367 s368 s366 s369 s370 s9 s371; have s372 := bg bs s372; have s373 := gv hv 0 rfl rfl; refine wl_value (v := .int .i64 1) (want0 rfl) (xmove rfl s373) ?_; refine gp17 z q ow s0 s3 s360 s361 s363 s364 s365 s7 s367 s368 s366 s369 s370 s9 s371 s372 s373 fun fa fw z q ow s0 s3 s360 s361 s363 s364 s365 s7 s367 s368 s366 s369 s370 s9 s371 s372 s373 s362 => ?_; refine wl_end ?_; refine then_n ?_; refine rnd1 ?_; refine sq fun hK31 => ?_
  refine ro [yV (.bool true)] 1 396 z q ow (
    aE (fun hk bs hd => xlss rfl (bg bs s362) (bg bs s361)) (congrArg Value.bool rfl) rfl <|
    arm0) fun fa fw bs hv ap z q ow => ?_
  obtain ⟨s0, s3, s360, s361, s364, s365, s7, s367⟩ := b8 bs s0 s3 s360 s361 s364 s365 s7 s367; obtain ⟨s368, s366, s369, s370, s9, s371, s372, s373⟩ := b8 bs s368 s366 s369 s370 s9 s371 s372 s373; have s362 := bg bs s362; have s363 := gv hv 0 rfl rfl; refine wt hK31 ?_; refine sq fun hK32 => ?_; refine wp_cond_true (s363) ?_; refine wp_skip ?_; refine tn hK32 ?_; refine sq fun hK33 => ?_; refine wp_block ?_; refine sq fun hK34 => ?_
  refine ro [yV _, yV _, yV _] 3 396 z q ow (
    aS (fun hk bs hd => xindexAddr (u := .slice (some ⟨gb2, 0, none⟩) 8 8) (z := .int .i64 1) rfl (bg bs s360) (bg bs s362) (run_place1 (off := 0) (k := 1) Try.underlying34 (by kernel_rfl) (by decide))) rfl <|
    aS (fun hk bs hd => xloadB rfl (by kernel_rfl) (dp hd 0 rfl) ((ow.keep hk).box 0 rfl) rfl) rfl <|
    asD 1 rfl rfl rfl rfl rfl rfl <|
    arm0) fun fa fw bs hv ap z q ow => ?_
  obtain ⟨s0, s3, s360, s361, s367, s368, s366, s369⟩ := b8 bs s0 s3 s360 s361 s367 s368 s366 s369; obtain ⟨s370, s9, s371, s372, s373, s362, s363⟩ := b7 bs s370 s9 s371 s372 s373 s362 s363; have s364 := gv hv 0 rfl rfl; have s365 := gv hv 1 rfl rfl; have s7 := gv hv 2 rfl rfl; refine wt hK34 ?_; refine sq fun hK35 => ?_
  refine ro [yV _, yV (.tuple #[.int .i64 0, .int .i64 4]), yV _, yV _, yV _, yV _, yV _] 7 396 z q ow (
    mvS s7 rfl rfl rfl rfl <|
    aC (fun hk bs hd => xcall1 rfl (dp hd 0 rfl) (en_dec_Parse _ _)) (fun hk bs hd => ex_q1 _) rfl <|
    mvD 1 rfl rfl rfl rfl rfl rfl <|
    aS (fun hk bs hd => xextract rfl (dp hd 2 rfl) rfl) rfl <|
    aS (fun hk bs hd => xextract rfl (dp hd 2 rfl) rfl) rfl <|
    asD 3 rfl rfl rfl rfl rfl rfl <|
    asD 4 rfl rfl rfl rfl rfl rfl <|
    arm0) fun fa fw bs hv ap z q ow => ?_
  obtain ⟨s0, s3, s360, s361, s371, s372, s373, s362⟩ := b8 bs s0 s3 s360 s361 s371 s372 s373 s362; obtain ⟨s363, s364, s365, s7⟩ := b4 bs s363 s364 s365 s7; have s367 := gv hv 0 rfl rfl; have s368 := gv hv 1 rfl rfl; have s366 := gv hv 2 rfl rfl; have s369 := gv hv 3 rfl rfl; have s370 := gv hv 4 rfl rfl; have s9 := gv hv 6 rfl rfl; refine wt hK35 ?_; refine sq fun hK36 => ?_
  refine ro [yV _, yV (.bool false)] 2 396 z q ow (
    mvS s9 rfl rfl rfl rfl <|
    aE (fun hk bs hd => xnei rfl (dp hd 0 rfl) rfl) (congrArg Value.bool rfl) rfl <|
    arm0) fun fa fw bs hv ap z q ow => ?_
  obtain ⟨s0, s3, s360, s361, s373, s362, s363, s364⟩ := b8 bs s0 s3 s360 s361 s373 s362 s363 s364; obtain ⟨s365, s7, s367, s368, s366, s369, s370, s9⟩ := b8 bs s365 s7 s367 s368 s366 s369 s370 s9; have s371 := gv hv 0 rfl rfl; have s372 := gv hv 1 rfl rfl; refine wt hK36 ?_; refine wp_cond_false (s372) ?_; refine wp_skip ?_; refine block_n ?_; refine tn hK33 ?_
  refine ro [yV (.int .i64 2)] 1 396 z q ow (
    aS (fun hk bs hd => xadd (Or.inl rfl) rfl (bg bs s362) rfl (by omega) (by omega)) rfl <|
    arm0) fun fa fw bs hv ap z q ow => ?_
  obtain ⟨s0, s3, s360, s361, s362, s363, s364, s365⟩ := b8 bs s0 s3 s360 s361 s362 s363 s364 s365; obtain ⟨s7, s367, s368, s366, s369, s370, s9, s371⟩ := b8 bs s7 s367 s368 s366 s369 s370 s9 s371; have s372 := bg bs s372; have s373 := gv hv 0 rfl rfl; refine wl_value (v := .int .i64 2) (want0 rfl) (xmove rfl s373) ?_; refine gp17 z q ow s0 s3 s360 s361 s363 s364 s365 s7 s367 s368 s366 s369 s370 s9 s371 s372 s373 fun fa fw z q ow s0 s3 s360 s361 s363 s364 s365 s7 s367 s368 s366 s369 s370 s9 s371 s372 s373 s362 => ?_; refine wl_end ?_; refine then_n ?_; refine rnd1 ?_; refine sq fun hK37 => ?_
  refine ro [yV (.bool true)] 1 396 z q ow (
    aE (fun hk bs hd => xlss rfl (bg bs s362) (bg bs s361)) (congrArg Value.bool rfl) rfl <|
    arm0) fun fa fw bs hv ap z q ow => ?_
  obtain ⟨s0, s3, s360, s361, s364, s365, s7, s367⟩ := b8 bs s0 s3 s360 s361 s364 s365 s7 s367; obtain ⟨s368, s366, s369, s370, s9, s371, s372, s373⟩ := b8 bs s368 s366 s369 s370 s9 s371 s372 s373; have s362 := bg bs s362; have s363 := gv hv 0 rfl rfl; refine wt hK37 ?_; refine sq fun hK38 => ?_; refine wp_cond_true (s363) ?_; refine wp_skip ?_; refine tn hK38 ?_; refine sq fun hK39 => ?_; refine wp_block ?_; refine sq fun hK40 => ?_
  refine ro [yV _, yV _, yV _] 3 396 z q ow (
    aS (fun hk bs hd => xindexAddr (u := .slice (some ⟨gb2, 0, none⟩) 8 8) (z := .int .i64 2) rfl (bg bs s360) (bg bs s362) (run_place1 (off := 0) (k := 2) Try.underlying34 (by kernel_rfl) (by decide))) rfl <|
    aS (fun hk bs hd => xloadB rfl (by kernel_rfl) (dp hd 0 rfl) ((ow.keep hk).box 0 rfl) rfl) rfl <|
    asD 1 rfl rfl rfl rfl rfl rfl <|
    arm0) fun fa fw bs hv ap z q ow => ?_
  obtain ⟨s0, s3, s360, s361, s367, s368, s366, s369⟩ := b8 bs s0 s3 s360 s361 s367 s368 s366 s369; obtain ⟨s370, s9, s371, s372, s373, s362, s363⟩ := b7 bs s370 s9 s371 s372 s373 s362 s363; have s364 := gv hv 0 rfl rfl; have s365 := gv hv 1 rfl rfl; have s7 := gv hv 2 rfl rfl; refine wt hK40 ?_; refine sq fun hK41 => ?_
  refine ro [yV _, yV (.tuple #[.int .i64 0, .int .i64 4]), yV _, yV _, yV _, yV _, yV _] 7 396 z q ow (
    mvS s7 rfl rfl rfl rfl <|
    aC (fun hk bs hd => xcall1 rfl (dp hd 0 rfl) (en_dec_Parse _ _)) (fun hk bs hd => ex_q2 _) rfl <|
    mvD 1 rfl rfl rfl rfl rfl rfl <|
    aS (fun hk bs hd => xextract rfl (dp hd 2 rfl) rfl) rfl <|
    aS (fun hk bs hd => xextract rfl (dp hd 2 rfl) rfl) rfl <|
    asD 3 rfl rfl rfl rfl rfl rfl <|
    asD 4 rfl rfl rfl rfl rfl rfl <|
    arm0) fun fa fw bs hv ap z q ow => ?_
  obtain ⟨s0, s3, s360, s361, s371, s372, s373, s362⟩ := b8 bs s0 s3 s360 s361 s371 s372 s373 s362; obtain ⟨s363, s364, s365, s7⟩ := b4 bs s363 s364 s365 s7; have s367 := gv hv 0 rfl rfl; have s368 := gv hv 1 rfl rfl; have s366 := gv hv 2 rfl rfl; have s369 := gv hv 3 rfl rfl; have s370 := gv hv 4 rfl rfl; have s9 := gv hv 6 rfl rfl; refine wt hK41 ?_; refine sq fun hK42 => ?_
  refine ro [yV _, yV (.bool false)] 2 396 z q ow (
    mvS s9 rfl rfl rfl rfl <|
    aE (fun hk bs hd => xnei rfl (dp hd 0 rfl) rfl) (congrArg Value.bool rfl) rfl <|
    arm0) fun fa fw bs hv ap z q ow => ?_
  obtain ⟨s0, s3, s360, s361, s373, s362, s363, s364⟩ := b8 bs s0 s3 s360 s361 s373 s362 s363 s364; obtain ⟨s365, s7, s367, s368, s366, s369, s370, s9⟩ := b8 bs s365 s7 s367 s368 s366 s369 s370 s9; have s371 := gv hv 0 rfl rfl; have s372 := gv hv 1 rfl rfl; refine wt hK42 ?_; refine wp_cond_false (s372) ?_; refine wp_skip ?_; refine block_n ?_; refine tn hK39 ?_
  refine ro [yV (.int .i64 3)] 1 396 z q ow (
    aS (fun hk bs hd => xadd (Or.inl rfl) rfl (bg bs s362) rfl (by omega) (by omega)) rfl <|
    arm0) fun fa fw bs hv ap z q ow => ?_
  obtain ⟨s0, s3, s360, s361, s362, s363, s364, s365⟩ := b8 bs s0 s3 s360 s361 s362 s363 s364 s365; obtain ⟨s7, s367, s368, s366, s369, s370, s9, s371⟩ := b8 bs s7 s367 s368 s366 s369 s370 s9 s371; have s372 := bg bs s372; have s373 := gv hv 0 rfl rfl; refine wl_value (v := .int .i64 3) (want0 rfl) (xmove rfl s373) ?_; refine gp17 z q ow s0 s3 s360 s361 s363 s364 s365 s7 s367 s368 s366 s369 s370 s9 s371 s372 s373 fun fa fw z q ow s0 s3 s360 s361 s363 s364 s365 s7 s367 s368 s366 s369 s370 s9 s371 s372 s373 s362 => ?_; refine wl_end ?_; refine then_n ?_; refine rnd1 ?_; refine sq fun hK43 => ?_
  refine ro [yV (.bool true)] 1 396 z q ow (
    aE (fun hk bs hd => xlss rfl (bg bs s362) (bg bs s361)) (congrArg Value.bool rfl) rfl <|
    arm0) fun fa fw bs hv ap z q ow => ?_
  obtain ⟨s0, s3, s360, s361, s364, s365, s7, s367⟩ := b8 bs s0 s3 s360 s361 s364 s365 s7 s367; obtain ⟨s368, s366, s369, s370, s9, s371, s372, s373⟩ := b8 bs s368 s366 s369 s370 s9 s371 s372 s373; have s362 := bg bs s362; have s363 := gv hv 0 rfl rfl; refine wt hK43 ?_; refine sq fun hK44 => ?_; refine wp_cond_true (s363) ?_; refine wp_skip ?_; refine tn hK44 ?_; refine sq fun hK45 => ?_; refine wp_block ?_; refine sq fun hK46 => ?_
  refine ro [yV _, yV _, yV _] 3 396 z q ow (
    aS (fun hk bs hd => xindexAddr (u := .slice (some ⟨gb2, 0, none⟩) 8 8) (z := .int .i64 3) rfl (bg bs s360) (bg bs s362) (run_place1 (off := 0) (k := 3) Try.underlying34 (by kernel_rfl) (by decide))) rfl <|
    aS (fun hk bs hd => xloadB rfl (by kernel_rfl) (dp hd 0 rfl) ((ow.keep hk).box 0 rfl) rfl) rfl <|
    asD 1 rfl rfl rfl rfl rfl rfl <|
    arm0) fun fa fw bs hv ap z q ow => ?_
  obtain ⟨s0, s3, s360, s361, s367, s368, s366, s369⟩ := b8 bs s0 s3 s360 s361 s367 s368 s366 s369; obtain ⟨s370, s9, s371, s372, s373, s362, s363⟩ := b7 bs s370 s9 s371 s372 s373 s362 s363; have s364 := gv hv 0 rfl rfl; have s365 := gv hv 1 rfl rfl; have s7 := gv hv 2 rfl rfl; refine wt hK46 ?_; refine sq fun hK47 => ?_
  refine ro [yV _, yV (.tuple #[.int .i64 0, .int .i64 4]), yV _, yV _, yV _, yV _, yV _] 7 396 z q ow (
    mvS s7 rfl rfl rfl rfl <|
    aC (fun hk bs hd => xcall1 rfl (dp hd 0 rfl) (en_dec_Parse _ _)) (fun hk bs hd => ex_q3 _) rfl <|
    mvD 1 rfl rfl rfl rfl rfl rfl <|
    aS (fun hk bs hd => xextract rfl (dp hd 2 rfl) rfl) rfl <|
    aS (fun hk bs hd => xextract rfl (dp hd 2 rfl) rfl) rfl <|
    asD 3 rfl rfl rfl rfl rfl rfl <|
    asD 4 rfl rfl rfl rfl rfl rfl <|
    arm0) fun fa fw bs hv ap z q ow => ?_
  obtain ⟨s0, s3, s360, s361, s371, s372, s373, s362⟩ := b8 bs s0 s3 s360 s361 s371 s372 s373 s362; obtain ⟨s363, s364, s365, s7⟩ := b4 bs s363 s364 s365 s7; have s367 := gv hv 0 rfl rfl; have s368 := gv hv 1 rfl rfl; have s366 := gv hv 2 rfl rfl; have s369 := gv hv 3 rfl rfl; have s370 := gv hv 4 rfl rfl; have s9 := gv hv 6 rfl rfl; refine wt hK47 ?_; refine sq fun hK48 => ?_
  refine ro [yV _, yV (.bool false)] 2 396 z q ow (
    mvS s9 rfl rfl rfl rfl <|
    aE (fun hk bs hd => xnei rfl (dp hd 0 rfl) rfl) (congrArg Value.bool rfl) rfl <|
    arm0) fun fa fw bs hv ap z q ow => ?_
  obtain ⟨s0, s3, s360, s361, s373, s362, s363, s364⟩ := b8 bs s0 s3 s360 s361 s373 s362 s363 s364; obtain ⟨s365, s7, s367, s368, s366, s369, s370, s9⟩ := b8 bs s365 s7 s367 s368 s366 s369 s370 s9; have s371 := gv hv 0 rfl rfl; have s372 := gv hv 1 rfl rfl; refine wt hK48 ?_; refine wp_cond_false (s372) ?_; refine wp_skip ?_; refine block_n ?_; refine tn hK45 ?_
  refine ro [yV (.int .i64 4)] 1 396 z q ow (
    aS (fun hk bs hd => xadd (Or.inl rfl) rfl (bg bs s362) rfl (by omega) (by omega)) rfl <|
    arm0) fun fa fw bs hv ap z q ow => ?_
  obtain ⟨s0, s3, s360, s361, s362, s363, s364, s365⟩ := b8 bs s0 s3 s360 s361 s362 s363 s364 s365; obtain ⟨s7, s367, s368, s366, s369, s370, s9, s371⟩ := b8 bs s7 s367 s368 s366 s369 s370 s9 s371; have s372 := bg bs s372; have s373 := gv hv 0 rfl rfl; refine wl_value (v := .int .i64 4) (want0 rfl) (xmove rfl s373) ?_; refine gp17 z q ow s0 s3 s360 s361 s363 s364 s365 s7 s367 s368 s366 s369 s370 s9 s371 s372 s373 fun fa fw z q ow s0 s3 s360 s361 s363 s364 s365 s7 s367 s368 s366 s369 s370 s9 s371 s372 s373 s362 => ?_; refine wl_end ?_; refine then_n ?_; refine rnd1 ?_; refine sq fun hK49 => ?_
  refine ro [yV (.bool true)] 1 396 z q ow (
    aE (fun hk bs hd => xlss rfl (bg bs s362) (bg bs s361)) (congrArg Value.bool rfl) rfl <|
    arm0) fun fa fw bs hv ap z q ow => ?_
  obtain ⟨s0, s3, s360, s361, s364, s365, s7, s367⟩ := b8 bs s0 s3 s360 s361 s364 s365 s7 s367; obtain ⟨s368, s366, s369, s370, s9, s371, s372, s373⟩ := b8 bs s368 s366 s369 s370 s9 s371 s372 s373; have s362 := bg bs s362; have s363 := gv hv 0 rfl rfl; refine wt hK49 ?_; refine sq fun hK50 => ?_; refine wp_cond_true (s363) ?_; refine wp_skip ?_; refine tn hK50 ?_; refine sq fun hK51 => ?_; refine wp_block ?_; refine sq fun hK52 => ?_
  refine ro [yV _, yV _, yV _] 3 396 z q ow (
    aS (fun hk bs hd => xindexAddr (u := .slice (some ⟨gb2, 0, none⟩) 8 8) (z := .int .i64 4) rfl (bg bs s360) (bg bs s362) (run_place1 (off := 0) (k := 4) Try.underlying34 (by kernel_rfl) (by decide))) rfl <|
    aS (fun hk bs hd => xloadB rfl (by kernel_rfl) (dp hd 0 rfl) ((ow.keep hk).box 0 rfl) rfl) rfl <|
    asD 1 rfl rfl rfl rfl rfl rfl <|
    arm0) fun fa fw bs hv ap z q ow => ?_
  obtain ⟨s0, s3, s360, s361, s367, s368, s366, s369⟩ := b8 bs s0 s3 s360 s361 s367 s368 s366 s369; obtain ⟨s370, s9, s371, s372, s373, s362, s363⟩ := b7 bs s370 s9 s371 s372 s373 s362 s363; have s364 := gv hv 0 rfl rfl; have s365 := gv hv 1 rfl rfl; have s7 := gv hv 2 rfl rfl; refine wt hK52 ?_; refine sq fun hK53 => ?_
  refine ro [yV _, yV (.tuple #[.int .i64 0, .int .i64 4]), yV _, yV _, yV _, yV _, yV _] 7 396 z q ow (
    mvS s7 rfl rfl rfl rfl <|
    aC (fun hk bs hd => xcall1 rfl (dp hd 0 rfl) (en_dec_Parse _ _)) (fun hk bs hd => ex_q4 _) rfl <|
    mvD 1 rfl rfl rfl rfl rfl rfl <|
    aS (fun hk bs hd => xextract rfl (dp hd 2 rfl) rfl) rfl <|
    aS (fun hk bs hd => xextract rfl (dp hd 2 rfl) rfl) rfl <|
    asD 3 rfl rfl rfl rfl rfl rfl <|
    asD 4 rfl rfl rfl rfl rfl rfl <|
    arm0) fun fa fw bs hv ap z q ow => ?_
  obtain ⟨s0, s3, s360, s361, s371, s372, s373, s362⟩ := b8 bs s0 s3 s360 s361 s371 s372 s373 s362; obtain ⟨s363, s364, s365, s7⟩ := b4 bs s363 s364 s365 s7; have s367 := gv hv 0 rfl rfl; have s368 := gv hv 1 rfl rfl; have s366 := gv hv 2 rfl rfl; have s369 := gv hv 3 rfl rfl; have s370 := gv hv 4 rfl rfl; have s9 := gv hv 6 rfl rfl; refine wt hK53 ?_; refine sq fun hK54 => ?_
  refine ro [yV _, yV (.bool false)] 2 396 z q ow (
    mvS s9 rfl rfl rfl rfl <|
    aE (fun hk bs hd => xnei rfl (dp hd 0 rfl) rfl) (congrArg Value.bool rfl) rfl <|
    arm0) fun fa fw bs hv ap z q ow => ?_
  obtain ⟨s0, s3, s360, s361, s373, s362, s363, s364⟩ := b8 bs s0 s3 s360 s361 s373 s362 s363 s364; obtain ⟨s365, s7, s367, s368, s366, s369, s370, s9⟩ := b8 bs s365 s7 s367 s368 s366 s369 s370 s9; have s371 := gv hv 0 rfl rfl; have s372 := gv hv 1 rfl rfl; refine wt hK54 ?_; refine wp_cond_false (s372) ?_; refine wp_skip ?_; refine block_n ?_; refine tn hK51 ?_
  refine ro [yV (.int .i64 5)] 1 396 z q ow (
    aS (fun hk bs hd => xadd (Or.inl rfl) rfl (bg bs s362) rfl (by omega) (by omega)) rfl <|
    arm0) fun fa fw bs hv ap z q ow => ?_
  obtain ⟨s0, s3, s360, s361, s362, s363, s364, s365⟩ := b8 bs s0 s3 s360 s361 s362 s363 s364 s365; obtain ⟨s7, s367, s368, s366, s369, s370, s9, s371⟩ := b8 bs s7 s367 s368 s366 s369 s370 s9 s371; have s372 := bg bs s372; have s373 := gv hv 0 rfl rfl; refine wl_value (v := .int .i64 5) (want0 rfl) (xmove rfl s373) ?_; refine gp17 z q ow s0 s3 s360 s361 s363 s364 s365 s7 s367 s368 s366 s369 s370 s9 s371 s372 s373 fun fa fw z q ow s0 s3 s360 s361 s363 s364 s365 s7 s367 s368 s366 s369 s370 s9 s371 s372 s373 s362 => ?_; refine wl_end ?_; refine then_n ?_; refine rnd1 ?_; refine sq fun hK55 => ?_
  refine ro [yV (.bool true)] 1 396 z q ow (
    aE (fun hk bs hd => xlss rfl (bg bs s362) (bg bs s361)) (congrArg Value.bool rfl) rfl <|
    arm0) fun fa fw bs hv ap z q ow => ?_
  obtain ⟨s0, s3, s360, s361, s364, s365, s7, s367⟩ := b8 bs s0 s3 s360 s361 s364 s365 s7 s367; obtain ⟨s368, s366, s369, s370, s9, s371, s372, s373⟩ := b8 bs s368 s366 s369 s370 s9 s371 s372 s373; have s362 := bg bs s362; have s363 := gv hv 0 rfl rfl; refine wt hK55 ?_; refine sq fun hK56 => ?_; refine wp_cond_true (s363) ?_; refine wp_skip ?_; refine tn hK56 ?_; refine sq fun hK57 => ?_; refine wp_block ?_; refine sq fun hK58 => ?_
  refine ro [yV _, yV _, yV _] 3 396 z q ow (
    aS (fun hk bs hd => xindexAddr (u := .slice (some ⟨gb2, 0, none⟩) 8 8) (z := .int .i64 5) rfl (bg bs s360) (bg bs s362) (run_place1 (off := 0) (k := 5) Try.underlying34 (by kernel_rfl) (by decide))) rfl <|
    aS (fun hk bs hd => xloadB rfl (by kernel_rfl) (dp hd 0 rfl) ((ow.keep hk).box 0 rfl) rfl) rfl <|
    asD 1 rfl rfl rfl rfl rfl rfl <|
    arm0) fun fa fw bs hv ap z q ow => ?_
  obtain ⟨s0, s3, s360, s361, s367, s368, s366, s369⟩ := b8 bs s0 s3 s360 s361 s367 s368 s366 s369; obtain ⟨s370, s9, s371, s372, s373, s362, s363⟩ := b7 bs s370 s9 s371 s372 s373 s362 s363; have s364 := gv hv 0 rfl rfl; have s365 := gv hv 1 rfl rfl; have s7 := gv hv 2 rfl rfl; refine wt hK58 ?_; refine sq fun hK59 => ?_
  refine ro [yV _, yV (.tuple #[.int .i64 0, .int .i64 4]), yV _, yV _, yV _, yV _, yV _] 7 396 z q ow (
    mvS s7 rfl rfl rfl rfl <|
    aC (fun hk bs hd => xcall1 rfl (dp hd 0 rfl) (en_dec_Parse _ _)) (fun hk bs hd => ex_q5 _) rfl <|
    mvD 1 rfl rfl rfl rfl rfl rfl <|
    aS (fun hk bs hd => xextract rfl (dp hd 2 rfl) rfl) rfl <|
    aS (fun hk bs hd => xextract rfl (dp hd 2 rfl) rfl) rfl <|
    asD 3 rfl rfl rfl rfl rfl rfl <|
    asD 4 rfl rfl rfl rfl rfl rfl <|
    arm0) fun fa fw bs hv ap z q ow => ?_
  obtain ⟨s0, s3, s360, s361, s371, s372, s373, s362⟩ := b8 bs s0 s3 s360 s361 s371 s372 s373 s362; obtain ⟨s363, s364, s365, s7⟩ := b4 bs s363 s364 s365 s7; have s367 := gv hv 0 rfl rfl; have s368 := gv hv 1 rfl rfl; have s366 := gv hv 2 rfl rfl; have s369 := gv hv 3 rfl rfl; have s370 := gv hv 4 rfl rfl; have s9 := gv hv 6 rfl rfl; refine wt hK59 ?_; refine sq fun hK60 => ?_
  refine ro [yV _, yV (.bool false)] 2 396 z q ow (
    mvS s9 rfl rfl rfl rfl <|
    aE (fun hk bs hd => xnei rfl (dp hd 0 rfl) rfl) (congrArg Value.bool rfl) rfl <|
    arm0) fun fa fw bs hv ap z q ow => ?_
  obtain ⟨s0, s3, s360, s361, s373, s362, s363, s364⟩ := b8 bs s0 s3 s360 s361 s373 s362 s363 s364; obtain ⟨s365, s7, s367, s368, s366, s369, s370, s9⟩ := b8 bs s365 s7 s367 s368 s366 s369 s370 s9; have s371 := gv hv 0 rfl rfl; have s372 := gv hv 1 rfl rfl; refine wt hK60 ?_; refine wp_cond_false (s372) ?_; refine wp_skip ?_; refine block_n ?_; refine tn hK57 ?_
  refine ro [yV (.int .i64 6)] 1 396 z q ow (
    aS (fun hk bs hd => xadd (Or.inl rfl) rfl (bg bs s362) rfl (by omega) (by omega)) rfl <|
    arm0) fun fa fw bs hv ap z q ow => ?_
  obtain ⟨s0, s3, s360, s361, s362, s363, s364, s365⟩ := b8 bs s0 s3 s360 s361 s362 s363 s364 s365; obtain ⟨s7, s367, s368, s366, s369, s370, s9, s371⟩ := b8 bs s7 s367 s368 s366 s369 s370 s9 s371; have s372 := bg bs s372; have s373 := gv hv 0 rfl rfl; refine wl_value (v := .int .i64 6) (want0 rfl) (xmove rfl s373) ?_; refine gp17 z q ow s0 s3 s360 s361 s363 s364 s365 s7 s367 s368 s366 s369 s370 s9 s371 s372 s373 fun fa fw z q ow s0 s3 s360 s361 s363 s364 s365 s7 s367 s368 s366 s369 s370 s9 s371 s372 s373 s362 => ?_; refine wl_end ?_; refine then_n ?_; refine rnd1 ?_; refine sq fun hK61 => ?_
  refine ro [yV (.bool true)] 1 396 z q ow (
    aE (fun hk bs hd => xlss rfl (bg bs s362) (bg bs s361)) (congrArg Value.bool rfl) rfl <|
    arm0) fun fa fw bs hv ap z q ow => ?_
  obtain ⟨s0, s3, s360, s361, s364, s365, s7, s367⟩ := b8 bs s0 s3 s360 s361 s364 s365 s7 s367; obtain ⟨s368, s366, s369, s370, s9, s371, s372, s373⟩ := b8 bs s368 s366 s369 s370 s9 s371 s372 s373; have s362 := bg bs s362; have s363 := gv hv 0 rfl rfl; refine wt hK61 ?_; refine sq fun hK62 => ?_; refine wp_cond_true (s363) ?_; refine wp_skip ?_; refine tn hK62 ?_; refine sq fun hK63 => ?_; refine wp_block ?_; refine sq fun hK64 => ?_
  refine ro [yV _, yV _, yV _] 3 396 z q ow (
    aS (fun hk bs hd => xindexAddr (u := .slice (some ⟨gb2, 0, none⟩) 8 8) (z := .int .i64 6) rfl (bg bs s360) (bg bs s362) (run_place1 (off := 0) (k := 6) Try.underlying34 (by kernel_rfl) (by decide))) rfl <|
    aS (fun hk bs hd => xloadB rfl (by kernel_rfl) (dp hd 0 rfl) ((ow.keep hk).box 0 rfl) rfl) rfl <|
    asD 1 rfl rfl rfl rfl rfl rfl <|
    arm0) fun fa fw bs hv ap z q ow => ?_
  obtain ⟨s0, s3, s360, s361, s367, s368, s366, s369⟩ := b8 bs s0 s3 s360 s361 s367 s368 s366 s369; obtain ⟨s370, s9, s371, s372, s373, s362, s363⟩ := b7 bs s370 s9 s371 s372 s373 s362 s363; have s364 := gv hv 0 rfl rfl; have s365 := gv hv 1 rfl rfl; have s7 := gv hv 2 rfl rfl; refine wt hK64 ?_; refine sq fun hK65 => ?_
  refine ro [yV _, yV (.tuple #[.int .i64 0, .int .i64 4]), yV _, yV _, yV _, yV _, yV _] 7 396 z q ow (
    mvS s7 rfl rfl rfl rfl <|
    aC (fun hk bs hd => xcall1 rfl (dp hd 0 rfl) (en_dec_Parse _ _)) (fun hk bs hd => ex_q6 _) rfl <|
    mvD 1 rfl rfl rfl rfl rfl rfl <|
    aS (fun hk bs hd => xextract rfl (dp hd 2 rfl) rfl) rfl <|
    aS (fun hk bs hd => xextract rfl (dp hd 2 rfl) rfl) rfl <|
    asD 3 rfl rfl rfl rfl rfl rfl <|
    asD 4 rfl rfl rfl rfl rfl rfl <|
    arm0) fun fa fw bs hv ap z q ow => ?_
  obtain ⟨s0, s3, s360, s361, s371, s372, s373, s362⟩ := b8 bs s0 s3 s360 s361 s371 s372 s373 s362; obtain ⟨s363, s364, s365, s7⟩ := b4 bs s363 s364 s365 s7; have s367 := gv hv 0 rfl rfl; have s368 := gv hv 1 rfl rfl; have s366 := gv hv 2 rfl rfl; have s369 := gv hv 3 rfl rfl; have s370 := gv hv 4 rfl rfl; have s9 := gv hv 6 rfl rfl; refine wt hK65 ?_; refine sq fun hK66 => ?_
  refine ro [yV _, yV (.bool false)] 2 396 z q ow (
    mvS s9 rfl rfl rfl rfl <|
    aE (fun hk bs hd => xnei rfl (dp hd 0 rfl) rfl) (congrArg Value.bool rfl) rfl <|
    arm0) fun fa fw bs hv ap z q ow => ?_
  obtain ⟨s0, s3, s360, s361, s373, s362, s363, s364⟩ := b8 bs s0 s3 s360 s361 s373 s362 s363 s364; obtain ⟨s365, s7, s367, s368, s366, s369, s370, s9⟩ := b8 bs s365 s7 s367 s368 s366 s369 s370 s9; have s371 := gv hv 0 rfl rfl; have s372 := gv hv 1 rfl rfl; refine wt hK66 ?_; refine wp_cond_false (s372) ?_; refine wp_skip ?_; refine block_n ?_; refine tn hK63 ?_
  refine ro [yV (.int .i64 7)] 1 396 z q ow (
    aS (fun hk bs hd => xadd (Or.inl rfl) rfl (bg bs s362) rfl (by omega) (by omega)) rfl <|
    arm0) fun fa fw bs hv ap z q ow => ?_
  obtain ⟨s0, s3, s360, s361, s362, s363, s364, s365⟩ := b8 bs s0 s3 s360 s361 s362 s363 s364 s365; obtain ⟨s7, s367, s368, s366, s369, s370, s9, s371⟩ := b8 bs s7 s367 s368 s366 s369 s370 s9 s371; have s372 := bg bs s372; have s373 := gv hv 0 rfl rfl; refine wl_value (v := .int .i64 7) (want0 rfl) (xmove rfl s373) ?_; refine gp17 z q ow s0 s3 s360 s361 s363 s364 s365 s7 s367 s368 s366 s369 s370 s9 s371 s372 s373 fun fa fw z q ow s0 s3 s360 s361 s363 s364 s365 s7 s367 s368 s366 s369 s370 s9 s371 s372 s373 s362 => ?_; refine wl_end ?_; refine then_n ?_; refine rnd1 ?_; refine sq fun hK67 => ?_
  refine ro [yV (.bool true)] 1 396 z q ow (
    aE (fun hk bs hd => xlss rfl (bg bs s362) (bg bs s361)) (congrArg Value.bool rfl) rfl <|
    arm0) fun fa fw bs hv ap z q ow => ?_
  obtain ⟨s0, s3, s360, s361, s364, s365, s7, s367⟩ := b8 bs s0 s3 s360 s361 s364 s365 s7 s367; obtain ⟨s368, s366, s369, s370, s9, s371, s372, s373⟩ := b8 bs s368 s366 s369 s370 s9 s371 s372 s373; have s362 := bg bs s362; have s363 := gv hv 0 rfl rfl; refine wt hK67 ?_; refine sq fun hK68 => ?_; refine wp_cond_true (s363) ?_; refine wp_skip ?_; refine tn hK68 ?_; refine sq fun hK69 => ?_; refine wp_block ?_; refine sq fun hK70 => ?_
  refine ro [yV _, yV _, yV _] 3 396 z q ow (
    aS (fun hk bs hd => xindexAddr (u := .slice (some ⟨gb2, 0, none⟩) 8 8) (z := .int .i64 7) rfl (bg bs s360) (bg bs s362) (run_place1 (off := 0) (k := 7) Try.underlying34 (by kernel_rfl) (by decide))) rfl <|
    aS (fun hk bs hd => xloadB rfl (by kernel_rfl) (dp hd 0 rfl) ((ow.keep hk).box 0 rfl) rfl) rfl <|
    asD 1 rfl rfl rfl rfl rfl rfl <|
    arm0) fun fa fw bs hv ap z q ow => ?_
  obtain ⟨s0, s3, s360, s361, s367, s368, s366, s369⟩ := b8 bs s0 s3 s360 s361 s367 s368 s366 s369; obtain ⟨s370, s9, s371, s372, s373, s362, s363⟩ := b7 bs s370 s9 s371 s372 s373 s362 s363; have s364 := gv hv 0 rfl rfl; have s365 := gv hv 1 rfl rfl; have s7 := gv hv 2 rfl rfl; refine wt hK70 ?_; refine sq fun hK71 => ?_
  refine ro [yV _, yV (.tuple #[.int .i64 0, .int .i64 4]), yV _, yV _, yV _, yV _, yV _] 7 396 z q ow (
    mvS s7 rfl rfl rfl rfl <|
    aC (fun hk bs hd => xcall1 rfl (dp hd 0 rfl) (en_dec_Parse _ _)) (fun hk bs hd => ex_q7 _) rfl <|
    mvD 1 rfl rfl rfl rfl rfl rfl <|
    aS (fun hk bs hd => xextract rfl (dp hd 2 rfl) rfl) rfl <|
    aS (fun hk bs hd => xextract rfl (dp hd 2 rfl) rfl) rfl <|
    asD 3 rfl rfl rfl rfl rfl rfl <|
    asD 4 rfl rfl rfl rfl rfl rfl <|
    arm0) fun fa fw bs hv ap z q ow => ?_
  obtain ⟨s0, s3, s360, s361, s371, s372, s373, s362⟩ := b8 bs s0 s3 s360 s361 s371 s372 s373 s362; obtain ⟨s363, s364, s365, s7⟩ := b4 bs s363 s364 s365 s7; have s367 := gv hv 0 rfl rfl; have s368 := gv hv 1 rfl rfl; have s366 := gv hv 2 rfl rfl; have s369 := gv hv 3 rfl rfl; have s370 := gv hv 4 rfl rfl; have s9 := gv hv 6 rfl rfl; refine wt hK71 ?_; refine sq fun hK72 => ?_
  refine ro [yV _, yV (.bool false)] 2 396 z q ow (
    mvS s9 rfl rfl rfl rfl <|
    aE (fun hk bs hd => xnei rfl (dp hd 0 rfl) rfl) (congrArg Value.bool rfl) rfl <|
    arm0) fun fa fw bs hv ap z q ow => ?_
  obtain ⟨s0, s3, s360, s361, s373, s362, s363, s364⟩ := b8 bs s0 s3 s360 s361 s373 s362 s363 s364; obtain ⟨s365, s7, s367, s368, s366, s369, s370, s9⟩ := b8 bs s365 s7 s367 s368 s366 s369 s370 s9; have s371 := gv hv 0 rfl rfl; have s372 := gv hv 1 rfl rfl; refine wt hK72 ?_; refine wp_cond_false (s372) ?_; refine wp_skip ?_; refine block_n ?_; refine tn hK69 ?_
  refine ro [yV (.int .i64 8)] 1 396 z q ow (
    aS (fun hk bs hd => xadd (Or.inl rfl) rfl (bg bs s362) rfl (by omega) (by omega)) rfl <|
    arm0) fun fa fw bs hv ap z q ow => ?_
  obtain ⟨s0, s3, s360, s361, s362, s363, s364, s365⟩ := b8 bs s0 s3 s360 s361 s362 s363 s364 s365; obtain ⟨s7, s367, s368, s366, s369, s370, s9, s371⟩ := b8 bs s7 s367 s368 s366 s369 s370 s9 s371; have s372 := bg bs s372; have s373 := gv hv 0 rfl rfl; refine wl_value (v := .int .i64 8) (want0 rfl) (xmove rfl s373) ?_; refine gp17 z q ow s0 s3 s360 s361 s363 s364 s365 s7 s367 s368 s366 s369 s370 s9 s371 s372 s373 fun fa fw z q ow s0 s3 s360 s361 s363 s364 s365 s7 s367 s368 s366 s369 s370 s9 s371 s372 s373 s362 => ?_; refine wl_end ?_; refine then_n ?_; refine rnd1 ?_; refine sq fun hK73 => ?_
  refine ro [yV (.bool false)] 1 396 z q ow (
    aE (fun hk bs hd => xlss rfl (bg bs s362) (bg bs s361)) (congrArg Value.bool rfl) rfl <|
    arm0) fun fa fw bs hv ap z q ow => ?_
  obtain ⟨s0, s3, s360, s361, s364, s365, s7, s367⟩ := b8 bs s0 s3 s360 s361 s364 s365 s7 s367; obtain ⟨s368, s366, s369, s370, s9, s371, s372, s373⟩ := b8 bs s368 s366 s369 s370 s9 s371 s372 s373; have s362 := bg bs s362; have s363 := gv hv 0 rfl rfl; refine wt hK73 ?_; refine sq fun hK74 => ?_; refine wp_cond_false (s363) ?_; refine wp_exit ?_; refine then_e ?_; refine then_e ?_; refine block_hit ?_; refine tn hK23 ?_; refine sq fun hK75 => ?_
  refine ro [yV (.tuple #[.int .i64 0, .int .i64 3]), yV _, yV _, yV _, yV _] 5 396 z q ow (
    aC (fun hk bs hd => xcall1 rfl rfl (en_dec_Parse _ _)) (fun hk bs hd => ex_p2 _) rfl <|
    mvD 0 rfl rfl rfl rfl rfl rfl <|
    aS (fun hk bs hd => xextract rfl (dp hd 1 rfl) rfl) rfl <|
    aS (fun hk bs hd => xextract rfl (dp hd 1 rfl) rfl) rfl <|
    asD 3 rfl rfl rfl rfl rfl rfl <|
    arm0) fun fa fw bs hv ap z q ow => ?_
  have s0 := bg bs s0; have s3 := gv hv 4 rfl rfl; refine wt hK75 ?_; refine sq fun hK76 => ?_
  refine ro [yV _, yV (.bool true), yV _, yV (.string ⟨[48].toArray⟩), yV (.bool true), yV _, yV _, yV (.string ⟨[45, 48, 46, 53].toArray⟩), yV (.bool true), yV _, yV _, yV (.string ⟨[49, 50, 46, 51, 52].toArray⟩), yV (.bool true), yV _, yV _, yV (.string ⟨[45, 57, 50, 50, 51, 51, 55, 50, 48, 51, 54, 56, 53, 52, 55, 55, 46, 53, 56, 48, 56].toArray⟩), yV (.bool true), yV _, yV _] 19 396 z q ow (
    mvS s3 rfl rfl rfl rfl <|
    aE (fun hk bs hd => xeqi rfl (dp hd 0 rfl) rfl) (congrArg Value.bool rfl) rfl <|
    mvD 1 rfl rfl rfl rfl rfl rfl <|
    armC (wg (j := 2) (b := true) rfl rfl rfl) (fun aa ww hk bs hd => xcall1 rfl rfl (en_dec_Format _ _)) (fun aa ww hk bs hd => ex_f0 ww) rfl <|
    armE (wg (j := 2) (b := true) rfl rfl rfl) (fun aa ww hk bs hd => xeqS rfl (dp hd 3 rfl) rfl) (congrArg Value.bool (by simp)) rfl <|
    aS (fun hk bs hd => xpickT rfl (dp hd 2 rfl) (dp hd 4 rfl)) rfl <|
    mvD 5 rfl rfl rfl rfl rfl rfl <|
    armC (wg (j := 6) (b := true) rfl rfl rfl) (fun aa ww hk bs hd => xcall1 rfl rfl (en_dec_Format _ _)) (fun aa ww hk bs hd => ex_f1 ww) rfl <|
    armE (wg (j := 6) (b := true) rfl rfl rfl) (fun aa ww hk bs hd => xeqS rfl (dp hd 7 rfl) rfl) (congrArg Value.bool (by simp)) rfl <|
    aS (fun hk bs hd => xpickT rfl (dp hd 6 rfl) (dp hd 8 rfl)) rfl <|
    mvD 9 rfl rfl rfl rfl rfl rfl <|
    armC (wg (j := 10) (b := true) rfl rfl rfl) (fun aa ww hk bs hd => xcall1 rfl rfl (en_dec_Format _ _)) (fun aa ww hk bs hd => ex_f2 ww) rfl <|
    armE (wg (j := 10) (b := true) rfl rfl rfl) (fun aa ww hk bs hd => xeqS rfl (dp hd 11 rfl) rfl) (congrArg Value.bool (by simp)) rfl <|
    aS (fun hk bs hd => xpickT rfl (dp hd 10 rfl) (dp hd 12 rfl)) rfl <|
    mvD 13 rfl rfl rfl rfl rfl rfl <|
    armC (wg (j := 14) (b := true) rfl rfl rfl) (fun aa ww hk bs hd => xcall1 rfl rfl (en_dec_Format _ _)) (fun aa ww hk bs hd => ex_f3 ww) rfl <|
    armE (wg (j := 14) (b := true) rfl rfl rfl) (fun aa ww hk bs hd => xeqS rfl (dp hd 15 rfl) rfl) (congrArg Value.bool (by simp)) rfl <|
    aS (fun hk bs hd => xpickT rfl (dp hd 14 rfl) (dp hd 16 rfl)) rfl <|
    asD 17 rfl rfl rfl rfl rfl rfl <|
    arm0) fun fa fw bs hv ap z q ow => ?_
  have s0 := gv hv 18 rfl rfl; refine wt hK76 ?_; refine wp_ret ?_; refine results_one rfl (res_tmp s0) q ?_; exact ⟨rfl, ow.kept⟩
end Go.Proofs.Ytbgpbopnfodjoaa
