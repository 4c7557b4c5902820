/- The law FnumOrder, walked (printed by wip/mklaw13.py). -/
import Derived.Test.YtbpkfnoenkoabaaGreatDoorFdGAwake13
import Derived.Test.YtbpkfnoenkoabaaGreatDoorFdMixAW
import Derived.Test.YtbpkfnoenkoabaaGreatDoorFdMixAT
namespace Go.Proofs.YtbpkfnoenkoabaaGreatDoor
set_option linter.unusedVariables false
set_option linter.unusedSimpArgs false
open Go.RowKit Lv
set_option maxRecDepth 100000
theorem en_louvrelaw13_Good (args : Array Value) (w : World) : (callFunc 36 args).run Tryz.prog w = .ok (.enter 36 args) w := by go_simp
theorem en_louvrelaw13_awake (args : Array Value) (w : World) : (callFunc 29 args).run Tryz.prog w = .ok (.enter 29 args) w := by go_simp
set_option maxHeartbeats 8000000 in
theorem FnumOrder_walk (a0 a1 : Vl) (w0 : Wide a0) (w1 : Wide a1) (w : World) (mx : Int) (HM : Mx w mx) :
    Calls Tryz.prog 10 #[aggV a0, aggV a1] w fun e w' => e = .returned (.bool true) ∧ Below w.heap.size w w' := by
  have oa := good_ok a0
  have ob := good_ok a1
  have sa := good_small w0.2.1
  have sb := good_small w1.2.1
  go_enter Tryz.func10, Tryz.ntmps10
  refine wp_seq_k fun K1 hK1 => ?_
  refine rgn [yNew w.heap.size (.cells #[.int .u8 a0.k, .int .i64 a0.n, .string ⟨a0.t.toArray⟩] 25 (0, 0)), yNew w.heap.size (.cells #[.int .u8 a1.k, .int .i64 a1.n, .string ⟨a1.t.toArray⟩] 25 (0, 0)), yV _] 3 190 rfl (by kernel_rfl) (by kernel_rfl) (
    armP (wn rfl) (fun aa ww hk bs hd => xbox rfl (bs.get 0 rfl rfl) (by kernel_rfl)) rfl <|
    armP (wn rfl) (fun aa ww hk bs hd => xbox rfl (bs.get 1 rfl rfl) (by kernel_rfl)) rfl <|
    armS (wn rfl) (fun aa ww hk bs hd => xassign rfl rfl) rfl <|
    arm0) fun fa fw hk bs hv ap => ?_
  obtain ⟨z, q, ov⟩ := aft hk bs rfl rfl (Own.start w)
  obtain ⟨gb1, s2, bgb1, hgb1⟩ := gotP hv 0 rfl rfl rfl
  have ov := ov.cons hgb1 (Nat.le_trans (Own.start w).kept.size bgb1) ((Own.start w).below bgb1)
  obtain ⟨gb2, s3, bgb2, hgb2⟩ := gotP hv 1 rfl rfl rfl
  have ov := ov.cons hgb2 (Nat.le_trans (Own.start w).kept.size bgb2) (ne_cons (apartP ap 0 1 rfl rfl rfl s2 rfl s3 rfl) ((Own.start w).below bgb2))
  have s4 := got hv 2 rfl rfl rfl
  have ow := ov
  clear hv ap bs hk ov
  refine wl_then (hK1 _ _ ?_)
  try clear hK1 K1
  refine wp_seq_k fun K2 hK2 => ?_
  refine rgn [yV (aggV a0), yV (aggV (vGood a0)), yV (aggV a1), yV (aggV (vGood a1))] 4 190 z (by kernel_rfl) (by kernel_rfl) (
    armS (wn rfl) (fun aa ww hk bs hd => xloadN 3 rfl (by kernel_rfl) (by kernel_rfl) (bs.get 2 rfl s2) ((ow.keep hk).box 1 rfl) (Nat.le_of_ble_eq_true rfl) rfl) rfl <|
    armC (wn rfl) (fun aa ww hk bs hd => xcall1 rfl (dep hd 0 rfl rfl rfl) (en_louvrelaw13_Good _ _)) (fun aa ww hk bs hd => good_any a0 ww w0) rfl <|
    armS (wn rfl) (fun aa ww hk bs hd => xloadN 3 rfl (by kernel_rfl) (by kernel_rfl) (bs.get 3 rfl s3) ((ow.keep hk).box 0 rfl) (Nat.le_of_ble_eq_true rfl) rfl) rfl <|
    armC (wn rfl) (fun aa ww hk bs hd => xcall1 rfl (dep hd 2 rfl rfl rfl) (en_louvrelaw13_Good _ _)) (fun aa ww hk bs hd => good_any a1 ww w1) rfl <|
    arm0) fun fa fw hk bs hv ap => ?_
  obtain ⟨z, q, ov⟩ := aft hk bs z q ow
  have s2 := bs.get 2 rfl s2
  have s3 := bs.get 3 rfl s3
  have s4 := bs.get 4 rfl s4
  have s30 := got hv 1 rfl rfl rfl
  have s32 := got hv 3 rfl rfl rfl
  have ow := ov
  clear hv ap bs hk ov
  refine wl_store ow 1 0 (want0 rfl) rfl rfl s2 s30 (by kernel_rfl) rfl rfl rfl fun fw ow => ?_
  refine wl_store ow 0 0 (want0 rfl) rfl rfl s3 s32 (by kernel_rfl) rfl rfl rfl fun fw ow => ?_
  refine wl_then (hK2 _ _ ?_)
  try clear hK2 K2
  refine wp_seq_k fun K3 hK3 => ?_
  refine wp_seq_k fun K4 hK4 => ?_
  refine rgn [yV (.pointer (some ⟨gb1, 0, none⟩)), yV _, yV _, yV _, yIf (((decide (((vGood a0).k : Int) = (1 : Int))) = true)) (yV (.pointer (some ⟨gb2, 0, none⟩))), yIf (((decide (((vGood a0).k : Int) = (1 : Int))) = true)) (yV (.int .u8 ((vGood a1).k))), yIf (((decide (((vGood a0).k : Int) = (1 : Int))) = true)) (yV (.bool (decide (((vGood a1).k : Int) = (1 : Int))))), yV _] 8 190 z (by kernel_rfl) (by kernel_rfl) (
    armS (wn rfl) (fun aa ww hk bs hd => xfieldAddr rfl (bs.get 2 rfl s2) (by kernel_rfl)) rfl <|
    armS (wn rfl) (fun aa ww hk bs hd => xloadB rfl (by kernel_rfl) (dep hd 0 rfl rfl rfl) ((ow.keep hk).box 1 rfl) rfl) rfl <|
    armS (wn rfl) (fun aa ww hk bs hd => xeqi rfl (dep hd 1 rfl rfl rfl) rfl) rfl <|
    mvD 2 rfl rfl rfl rfl rfl rfl <|
    arm (fun aa ww hk bs hd => by
      have d3 : aa.eval (.tmp 36) = .bool (decide (((vGood a0).k : Int) = (1 : Int))) := depX hd 3 rfl
      by_cases hz : ((decide (((vGood a0).k : Int) = (1 : Int))) = true)
      · exact stepX_same (v := .pointer (some ⟨gb2, 0, none⟩)) (want1 (j := 3) (b := true) rfl (d3.trans (congrArg Value.bool hz))) (xfieldAddr rfl (bs.get 3 rfl s3) (by kernel_rfl)) ⟨fun _ => rfl, fun c => absurd hz c⟩ rfl
      · exact stepX_skip (wantN (j := 3) (b := true) (b' := false) rfl (d3.trans (congrArg Value.bool (Bool.eq_false_iff.2 hz))) rfl) ⟨fun c => absurd c hz, fun _ => rfl⟩ rfl
      ) <|
    arm (fun aa ww hk bs hd => by
      have d3 : aa.eval (.tmp 36) = .bool (decide (((vGood a0).k : Int) = (1 : Int))) := depX hd 3 rfl
      have d4 : (((decide (((vGood a0).k : Int) = (1 : Int))) = true) → aa.eval (.tmp 37) = .pointer (some ⟨gb2, 0, none⟩)) ∧ (¬ (((decide (((vGood a0).k : Int) = (1 : Int))) = true)) → aa.eval (.tmp 37) = undef) := depX hd 4 rfl
      by_cases hz : ((decide (((vGood a0).k : Int) = (1 : Int))) = true)
      · exact stepX_same (v := .int .u8 ((vGood a1).k)) (want1 (j := 3) (b := true) rfl (d3.trans (congrArg Value.bool hz))) (xloadB rfl (by kernel_rfl) (d4.1 hz) ((ow.keep hk).box 0 rfl) rfl) ⟨fun _ => rfl, fun c => absurd hz c⟩ rfl
      · exact stepX_skip (wantN (j := 3) (b := true) (b' := false) rfl (d3.trans (congrArg Value.bool (Bool.eq_false_iff.2 hz))) rfl) ⟨fun c => absurd c hz, fun _ => rfl⟩ rfl
      ) <|
    arm (fun aa ww hk bs hd => by
      have d3 : aa.eval (.tmp 36) = .bool (decide (((vGood a0).k : Int) = (1 : Int))) := depX hd 3 rfl
      have d5 : (((decide (((vGood a0).k : Int) = (1 : Int))) = true) → aa.eval (.tmp 38) = .int .u8 ((vGood a1).k)) ∧ (¬ (((decide (((vGood a0).k : Int) = (1 : Int))) = true)) → aa.eval (.tmp 38) = undef) := depX hd 5 rfl
      by_cases hz : ((decide (((vGood a0).k : Int) = (1 : Int))) = true)
      · exact stepX_same (v := .bool (decide (((vGood a1).k : Int) = (1 : Int)))) (want1 (j := 3) (b := true) rfl (d3.trans (congrArg Value.bool hz))) (xeqi rfl (d5.1 hz) rfl) ⟨fun _ => rfl, fun c => absurd hz c⟩ rfl
      · exact stepX_skip (wantN (j := 3) (b := true) (b' := false) rfl (d3.trans (congrArg Value.bool (Bool.eq_false_iff.2 hz))) rfl) ⟨fun c => absurd c hz, fun _ => rfl⟩ rfl
      ) <|
    arm (fun aa ww hk bs hd => by
      have d3 : aa.eval (.tmp 36) = .bool (decide (((vGood a0).k : Int) = (1 : Int))) := depX hd 3 rfl
      have d6 : (((decide (((vGood a0).k : Int) = (1 : Int))) = true) → aa.eval (.tmp 39) = .bool (decide (((vGood a1).k : Int) = (1 : Int)))) ∧ (¬ (((decide (((vGood a0).k : Int) = (1 : Int))) = true)) → aa.eval (.tmp 39) = undef) := depX hd 6 rfl
      exact stepX_same (v := .bool ((decide (((vGood a0).k : Int) = (1 : Int))) && (decide (((vGood a1).k : Int) = (1 : Int))))) (want0 rfl) (xand rfl (d3) (fun hb => d6.1 hb) rfl) rfl rfl
      ) <|
    arm0) fun fa fw hk bs hv ap => ?_
  obtain ⟨z, q, ov⟩ := aft hk bs z q ow
  have s2 := bs.get 2 rfl s2
  have s3 := bs.get 3 rfl s3
  have s4 := bs.get 4 rfl s4
  have s40 := got hv 7 rfl rfl rfl
  have ow := ov
  clear hv ap bs hk ov
  refine wl_then (hK4 _ _ ?_)
  try clear hK4 K4
  by_cases hc1 : (((vGood a0).k : Int) = (1 : Int)) ∧ (((vGood a1).k : Int) = (1 : Int))
  ·refine wp_cond_true (s40.trans (congrArg Value.bool ((band (decide_eq_true_iff) (decide_eq_true_iff)).2 hc1))) ?_
   refine wp_seq_k fun K5 hK5 => ?_
   refine wp_seq_k fun K6 hK6 => ?_
   refine rgn [yV (.agg #[.int .i64 1, .int .i64 3]), yV _] 2 190 z (by kernel_rfl) (by kernel_rfl) (
     armS (wn rfl) (fun aa ww hk bs hd => xbuild (us := #[(0, .int .i64 1), (1, .int .i64 3)]) rfl (by simp only [List.map_toArray, List.map_cons, List.map_nil]; rfl) (by kernel_rfl)) rfl <|
     armS (wn rfl) (fun aa ww hk bs hd => xmove rfl rfl) rfl <|
     arm0) fun fa fw hk bs hv ap => ?_
   obtain ⟨z, q, ov⟩ := aft hk bs z q ow
   have s2 := bs.get 2 rfl s2
   have s3 := bs.get 3 rfl s3
   have s4 := bs.get 4 rfl s4
   have s41 := got hv 0 rfl rfl rfl
   have s42 := got hv 1 rfl rfl rfl
   have ow := ov
   clear hv ap bs hk ov
   refine wl_then (hK6 _ _ ?_)
   try clear hK6 K6
   refine wp_block ?_
   refine wp_loop_rounds 3 ?_
   refine rnd1 ?_
   refine wp_seq_k fun K7 hK7 => ?_
   refine rgn [yV (.bool true)] 1 190 z (by kernel_rfl) (by kernel_rfl) (
     armE (wn rfl) (fun aa ww hk bs hd => xlss rfl (bs.get 42 rfl s42) rfl) (congrArg Value.bool rfl) rfl <|
     arm0) fun fa fw hk bs hv ap => ?_
   obtain ⟨z, q, ov⟩ := aft hk bs z q ow
   have s2 := bs.get 2 rfl s2
   have s3 := bs.get 3 rfl s3
   have s4 := bs.get 4 rfl s4
   have s41 := bs.get 41 rfl s41
   have s42 := bs.get 42 rfl s42
   have s43 := got hv 0 rfl rfl rfl
   have ow := ov
   clear hv ap bs hk ov
   refine wl_then (hK7 _ _ ?_)
   try clear hK7 K7
   refine wp_seq_k fun K8 hK8 => ?_
   refine wp_cond_true (s43) ?_
   refine wp_skip ?_
   refine then_n (hK8 _ _ ?_)
   try clear hK8 K8
   refine wp_seq_k fun K9 hK9 => ?_
   refine wp_block ?_
   refine wp_seq_k fun K10 hK10 => ?_
   refine rgn [yV (.int .i64 1), yV _] 2 190 z (by kernel_rfl) (by kernel_rfl) (
     armS (wn rfl) (fun aa ww hk bs hd => xindex rfl (bs.get 41 rfl s41) (bs.get 42 rfl s42) (by kernel_rfl)) rfl <|
     asD 0 rfl rfl rfl rfl rfl rfl <|
     arm0) fun fa fw hk bs hv ap => ?_
   obtain ⟨z, q, ov⟩ := aft hk bs z q ow
   have s2 := bs.get 2 rfl s2
   have s3 := bs.get 3 rfl s3
   have s4 := bs.get 4 rfl s4
   have s41 := bs.get 41 rfl s41
   have s42 := bs.get 42 rfl s42
   have s43 := bs.get 43 rfl s43
   have s44 := got hv 0 rfl rfl rfl
   have s6 := got hv 1 rfl rfl rfl
   have ow := ov
   clear hv ap bs hk ov
   refine wl_then (hK10 _ _ ?_)
   try clear hK10 K10
   refine wp_seq_k fun K11 hK11 => ?_
   refine rgn [yV _, yV (aggV (vGood a0)), yV (aggV (vGood a1)), yV (.tuple #[aggV ((vBin13 1 (vGood a0) (vGood a1)).1), .int .i64 ((vBin13 1 (vGood a0) (vGood a1)).2)]), yV _, yV (aggV ((vBin13 1 (vGood a0) (vGood a1)).1)), yV _, yNew fw.heap.size (.cells #[.int .u8 0, .int .i64 0, .string ⟨[].toArray⟩] 25 (0, 0))] 8 190 z (by kernel_rfl) (by kernel_rfl) (
     mvS s6 rfl rfl rfl rfl <|
     armS (wn rfl) (fun aa ww hk bs hd => xloadN 3 rfl (by kernel_rfl) (by kernel_rfl) (bs.get 2 rfl s2) ((ow.keep hk).box 1 rfl) (Nat.le_of_ble_eq_true rfl) rfl) rfl <|
     armS (wn rfl) (fun aa ww hk bs hd => xloadN 3 rfl (by kernel_rfl) (by kernel_rfl) (bs.get 3 rfl s3) ((ow.keep hk).box 0 rfl) (Nat.le_of_ble_eq_true rfl) rfl) rfl <|
     armC (wn rfl) (fun aa ww hk bs hd => xcall3 rfl (dep hd 0 rfl rfl rfl) (dep hd 1 rfl rfl rfl) (dep hd 2 rfl rfl rfl) (en_fnum_Binary _ _)) (fun aa ww hk bs hd => binary13_any 1 (vGood a0) (vGood a1) ww mx (HM.kept (ow.keep hk).kept) sa sb) rfl <|
     mvD 3 rfl rfl rfl rfl rfl rfl <|
     armS (wn rfl) (fun aa ww hk bs hd => xextract rfl (dep hd 4 rfl rfl rfl) rfl) rfl <|
     armS (wn rfl) (fun aa ww hk bs hd => xextract rfl (dep hd 4 rfl rfl rfl) rfl) rfl <|
     armP (wn rfl) (fun aa ww hk bs hd => xalloc rfl (by kernel_rfl)) rfl <|
     arm0) fun fa fw hk bs hv ap => ?_
   obtain ⟨z, q, ov⟩ := aft hk bs z q ow
   have s2 := bs.get 2 rfl s2
   have s3 := bs.get 3 rfl s3
   have s4 := bs.get 4 rfl s4
   have s41 := bs.get 41 rfl s41
   have s42 := bs.get 42 rfl s42
   have s43 := bs.get 43 rfl s43
   have s44 := bs.get 44 rfl s44
   have s6 := bs.get 6 rfl s6
   have s46 := got hv 0 rfl rfl rfl
   have s47 := got hv 1 rfl rfl rfl
   have s48 := got hv 2 rfl rfl rfl
   have s49 := got hv 3 rfl rfl rfl
   have s45 := got hv 4 rfl rfl rfl
   have s50 := got hv 5 rfl rfl rfl
   have s51 := got hv 6 rfl rfl rfl
   obtain ⟨gb3, s7, bgb3, hgb3⟩ := gotP hv 7 rfl rfl rfl
   have ov := ov.cons hgb3 (Nat.le_trans ow.kept.size bgb3) (ow.below bgb3)
   have ow := ov
   clear hv ap bs hk ov
   refine wl_store ow 0 0 (want0 rfl) rfl rfl s7 s50 (by kernel_rfl) rfl rfl rfl fun fw ow => ?_
   refine wl_value (v := .int .i64 ((vBin13 1 (vGood a0) (vGood a1)).2)) (want0 rfl) (xassign rfl s51) ?_
   refine gt16 (put_size z) (put_def q) ow 2 (pb 8 s2 rfl) 3 (pb 8 s3 rfl) 4 (pb 8 s4 rfl) 41 (pb 8 s41 rfl) 42 (pb 8 s42 rfl) 43 (pb 8 s43 rfl) 44 (pb 8 s44 rfl) 6 (pb 8 s6 rfl) 46 (pb 8 s46 rfl) 47 (pb 8 s47 rfl) 48 (pb 8 s48 rfl) 49 (pb 8 s49 rfl) 45 (pb 8 s45 rfl) 50 (pb 8 s50 rfl) 51 (pb 8 s51 rfl) 7 (pb 8 s7 rfl) fun fa fw z q ow s2 s3 s4 s41 s42 s43 s44 s6 s46 s47 s48 s49 s45 s50 s51 s7 => ?_
   refine wl_then (hK11 _ _ ?_)
   try clear hK11 K11
   refine wp_seq_k fun K12 hK12 => ?_
   refine rgn [yV _, yV (aggV (vGood a1)), yV (aggV (vGood a0)), yV (.tuple #[aggV ((vBin13 1 (vGood a1) (vGood a0)).1), .int .i64 ((vBin13 1 (vGood a1) (vGood a0)).2)]), yV _, yV (aggV ((vBin13 1 (vGood a1) (vGood a0)).1)), yV _, yNew fw.heap.size (.cells #[.int .u8 0, .int .i64 0, .string ⟨[].toArray⟩] 25 (0, 0))] 8 190 z (by kernel_rfl) (by kernel_rfl) (
     mvS s6 rfl rfl rfl rfl <|
     armS (wn rfl) (fun aa ww hk bs hd => xloadN 3 rfl (by kernel_rfl) (by kernel_rfl) (bs.get 3 rfl s3) ((ow.keep hk).box 1 rfl) (Nat.le_of_ble_eq_true rfl) rfl) rfl <|
     armS (wn rfl) (fun aa ww hk bs hd => xloadN 3 rfl (by kernel_rfl) (by kernel_rfl) (bs.get 2 rfl s2) ((ow.keep hk).box 2 rfl) (Nat.le_of_ble_eq_true rfl) rfl) rfl <|
     armC (wn rfl) (fun aa ww hk bs hd => xcall3 rfl (dep hd 0 rfl rfl rfl) (dep hd 1 rfl rfl rfl) (dep hd 2 rfl rfl rfl) (en_fnum_Binary _ _)) (fun aa ww hk bs hd => binary13_any 1 (vGood a1) (vGood a0) ww mx (HM.kept (ow.keep hk).kept) sb sa) rfl <|
     mvD 3 rfl rfl rfl rfl rfl rfl <|
     armS (wn rfl) (fun aa ww hk bs hd => xextract rfl (dep hd 4 rfl rfl rfl) rfl) rfl <|
     armS (wn rfl) (fun aa ww hk bs hd => xextract rfl (dep hd 4 rfl rfl rfl) rfl) rfl <|
     armP (wn rfl) (fun aa ww hk bs hd => xalloc rfl (by kernel_rfl)) rfl <|
     arm0) fun fa fw hk bs hv ap => ?_
   obtain ⟨z, q, ov⟩ := aft hk bs z q ow
   have s2 := bs.get 2 rfl s2
   have s3 := bs.get 3 rfl s3
   have s4 := bs.get 4 rfl s4
   have s41 := bs.get 41 rfl s41
   have s42 := bs.get 42 rfl s42
   have s43 := bs.get 43 rfl s43
   have s44 := bs.get 44 rfl s44
   have s6 := bs.get 6 rfl s6
   have s46 := bs.get 46 rfl s46
   have s47 := bs.get 47 rfl s47
   have s48 := bs.get 48 rfl s48
   have s49 := bs.get 49 rfl s49
   have s45 := bs.get 45 rfl s45
   have s50 := bs.get 50 rfl s50
   have s51 := bs.get 51 rfl s51
   have s7 := bs.get 7 rfl s7
   have s53 := got hv 0 rfl rfl rfl
   have s54 := got hv 1 rfl rfl rfl
   have s55 := got hv 2 rfl rfl rfl
   have s56 := got hv 3 rfl rfl rfl
   have s52 := got hv 4 rfl rfl rfl
   have s57 := got hv 5 rfl rfl rfl
   have s58 := got hv 6 rfl rfl rfl
   obtain ⟨gb4, s9, bgb4, hgb4⟩ := gotP hv 7 rfl rfl rfl
   have ov := ov.cons hgb4 (Nat.le_trans ow.kept.size bgb4) (ow.below bgb4)
   have ow := ov
   clear hv ap bs hk ov
   refine wl_store ow 0 0 (want0 rfl) rfl rfl s9 s57 (by kernel_rfl) rfl rfl rfl fun fw ow => ?_
   refine wl_value (v := .int .i64 ((vBin13 1 (vGood a1) (vGood a0)).2)) (want0 rfl) (xassign rfl s58) ?_
   refine gt24 (put_size z) (put_def q) ow 2 (pb 10 s2 rfl) 3 (pb 10 s3 rfl) 4 (pb 10 s4 rfl) 41 (pb 10 s41 rfl) 42 (pb 10 s42 rfl) 43 (pb 10 s43 rfl) 44 (pb 10 s44 rfl) 6 (pb 10 s6 rfl) 46 (pb 10 s46 rfl) 47 (pb 10 s47 rfl) 48 (pb 10 s48 rfl) 49 (pb 10 s49 rfl) 45 (pb 10 s45 rfl) 50 (pb 10 s50 rfl) 51 (pb 10 s51 rfl) 7 (pb 10 s7 rfl) 53 (pb 10 s53 rfl) 54 (pb 10 s54 rfl) 55 (pb 10 s55 rfl) 56 (pb 10 s56 rfl) 52 (pb 10 s52 rfl) 57 (pb 10 s57 rfl) 58 (pb 10 s58 rfl) 9 (pb 10 s9 rfl) fun fa fw z q ow s2 s3 s4 s41 s42 s43 s44 s6 s46 s47 s48 s49 s45 s50 s51 s7 s53 s54 s55 s56 s52 s57 s58 s9 => ?_
   refine wl_then (hK12 _ _ ?_)
   try clear hK12 K12
   refine wp_seq_k fun K13 hK13 => ?_
   refine rgn [yV (aggV ((vBin13 1 (vGood a0) (vGood a1)).1)), yV (aggV ((vBin13 1 (vGood a1) (vGood a0)).1)), yV (.bool false)] 3 190 z (by kernel_rfl) (by kernel_rfl) (
     armS (wn rfl) (fun aa ww hk bs hd => xloadN 3 rfl (by kernel_rfl) (by kernel_rfl) (bs.get 7 rfl s7) ((ow.keep hk).box 1 rfl) (Nat.le_of_ble_eq_true rfl) rfl) rfl <|
     armS (wn rfl) (fun aa ww hk bs hd => xloadN 3 rfl (by kernel_rfl) (by kernel_rfl) (bs.get 9 rfl s9) ((ow.keep hk).box 0 rfl) (Nat.le_of_ble_eq_true rfl) rfl) rfl <|
     armE (wn rfl) (fun aa ww hk bs hd => xnev rfl (dep hd 0 rfl rfl rfl) (dep hd 1 rfl rfl rfl)) (congrArg Value.bool (by rw [bin_add oa ob (by omega) (by omega), sameV_self]; rfl)) rfl <|
     arm0) fun fa fw hk bs hv ap => ?_
   obtain ⟨z, q, ov⟩ := aft hk bs z q ow
   have s2 := bs.get 2 rfl s2
   have s3 := bs.get 3 rfl s3
   have s4 := bs.get 4 rfl s4
   have s41 := bs.get 41 rfl s41
   have s42 := bs.get 42 rfl s42
   have s43 := bs.get 43 rfl s43
   have s44 := bs.get 44 rfl s44
   have s6 := bs.get 6 rfl s6
   have s46 := bs.get 46 rfl s46
   have s47 := bs.get 47 rfl s47
   have s48 := bs.get 48 rfl s48
   have s49 := bs.get 49 rfl s49
   have s45 := bs.get 45 rfl s45
   have s50 := bs.get 50 rfl s50
   have s51 := bs.get 51 rfl s51
   have s7 := bs.get 7 rfl s7
   have s53 := bs.get 53 rfl s53
   have s54 := bs.get 54 rfl s54
   have s55 := bs.get 55 rfl s55
   have s56 := bs.get 56 rfl s56
   have s52 := bs.get 52 rfl s52
   have s57 := bs.get 57 rfl s57
   have s58 := bs.get 58 rfl s58
   have s9 := bs.get 9 rfl s9
   have s59 := got hv 0 rfl rfl rfl
   have s60 := got hv 1 rfl rfl rfl
   have s61 := got hv 2 rfl rfl rfl
   have ow := ov
   clear hv ap bs hk ov
   refine wl_then (hK13 _ _ ?_)
   try clear hK13 K13
   refine wp_cond_false (s61) ?_
   refine wp_skip ?_
   refine block_n ?_
   refine then_n (hK9 _ _ ?_)
   try clear hK9 K9
   refine rgn [yV (.int .i64 1)] 1 190 z (by kernel_rfl) (by kernel_rfl) (
     armS (wn rfl) (fun aa ww hk bs hd => xadd (Or.inl rfl) rfl (bs.get 42 rfl s42) rfl (by omega) (by omega)) rfl <|
     arm0) fun fa fw hk bs hv ap => ?_
   obtain ⟨z, q, ov⟩ := aft hk bs z q ow
   have s2 := bs.get 2 rfl s2
   have s3 := bs.get 3 rfl s3
   have s4 := bs.get 4 rfl s4
   have s41 := bs.get 41 rfl s41
   have s42 := bs.get 42 rfl s42
   have s43 := bs.get 43 rfl s43
   have s44 := bs.get 44 rfl s44
   have s6 := bs.get 6 rfl s6
   have s46 := bs.get 46 rfl s46
   have s47 := bs.get 47 rfl s47
   have s48 := bs.get 48 rfl s48
   have s49 := bs.get 49 rfl s49
   have s45 := bs.get 45 rfl s45
   have s50 := bs.get 50 rfl s50
   have s51 := bs.get 51 rfl s51
   have s7 := bs.get 7 rfl s7
   have s53 := bs.get 53 rfl s53
   have s54 := bs.get 54 rfl s54
   have s55 := bs.get 55 rfl s55
   have s56 := bs.get 56 rfl s56
   have s52 := bs.get 52 rfl s52
   have s57 := bs.get 57 rfl s57
   have s58 := bs.get 58 rfl s58
   have s9 := bs.get 9 rfl s9
   have s59 := bs.get 59 rfl s59
   have s60 := bs.get 60 rfl s60
   have s61 := bs.get 61 rfl s61
   have s62 := got hv 0 rfl rfl rfl
   have ow := ov
   clear hv ap bs hk ov
   refine wl_value (v := .int .i64 1) (want0 rfl) (xmove rfl s62) ?_
   refine gt28 (put_size z) (put_def q) ow 2 (pb 42 s2 rfl) 3 (pb 42 s3 rfl) 4 (pb 42 s4 rfl) 41 (pb 42 s41 rfl) 43 (pb 42 s43 rfl) 44 (pb 42 s44 rfl) 6 (pb 42 s6 rfl) 46 (pb 42 s46 rfl) 47 (pb 42 s47 rfl) 48 (pb 42 s48 rfl) 49 (pb 42 s49 rfl) 45 (pb 42 s45 rfl) 50 (pb 42 s50 rfl) 51 (pb 42 s51 rfl) 7 (pb 42 s7 rfl) 53 (pb 42 s53 rfl) 54 (pb 42 s54 rfl) 55 (pb 42 s55 rfl) 56 (pb 42 s56 rfl) 52 (pb 42 s52 rfl) 57 (pb 42 s57 rfl) 58 (pb 42 s58 rfl) 9 (pb 42 s9 rfl) 59 (pb 42 s59 rfl) 60 (pb 42 s60 rfl) 61 (pb 42 s61 rfl) 62 (pb 42 s62 rfl) 42 (put_in (t := 42) z rfl) fun fa fw z q ow s2 s3 s4 s41 s43 s44 s6 s46 s47 s48 s49 s45 s50 s51 s7 s53 s54 s55 s56 s52 s57 s58 s9 s59 s60 s61 s62 s42 => ?_
   refine wl_end ?_
   refine then_n ?_
   refine rnd1 ?_
   refine wp_seq_k fun K14 hK14 => ?_
   refine rgn [yV (.bool true)] 1 190 z (by kernel_rfl) (by kernel_rfl) (
     armE (wn rfl) (fun aa ww hk bs hd => xlss rfl (bs.get 42 rfl s42) rfl) (congrArg Value.bool rfl) rfl <|
     arm0) fun fa fw hk bs hv ap => ?_
   obtain ⟨z, q, ov⟩ := aft hk bs z q ow
   have s2 := bs.get 2 rfl s2
   have s3 := bs.get 3 rfl s3
   have s4 := bs.get 4 rfl s4
   have s41 := bs.get 41 rfl s41
   have s44 := bs.get 44 rfl s44
   have s6 := bs.get 6 rfl s6
   have s46 := bs.get 46 rfl s46
   have s47 := bs.get 47 rfl s47
   have s48 := bs.get 48 rfl s48
   have s49 := bs.get 49 rfl s49
   have s45 := bs.get 45 rfl s45
   have s50 := bs.get 50 rfl s50
   have s51 := bs.get 51 rfl s51
   have s7 := bs.get 7 rfl s7
   have s53 := bs.get 53 rfl s53
   have s54 := bs.get 54 rfl s54
   have s55 := bs.get 55 rfl s55
   have s56 := bs.get 56 rfl s56
   have s52 := bs.get 52 rfl s52
   have s57 := bs.get 57 rfl s57
   have s58 := bs.get 58 rfl s58
   have s9 := bs.get 9 rfl s9
   have s59 := bs.get 59 rfl s59
   have s60 := bs.get 60 rfl s60
   have s61 := bs.get 61 rfl s61
   have s62 := bs.get 62 rfl s62
   have s42 := bs.get 42 rfl s42
   have s43 := got hv 0 rfl rfl rfl
   have ow := ov
   clear hv ap bs hk ov
   refine wl_then (hK14 _ _ ?_)
   try clear hK14 K14
   refine wp_seq_k fun K15 hK15 => ?_
   refine wp_cond_true (s43) ?_
   refine wp_skip ?_
   refine then_n (hK15 _ _ ?_)
   try clear hK15 K15
   refine wp_seq_k fun K16 hK16 => ?_
   refine wp_block ?_
   refine wp_seq_k fun K17 hK17 => ?_
   refine rgn [yV (.int .i64 3), yV _] 2 190 z (by kernel_rfl) (by kernel_rfl) (
     armS (wn rfl) (fun aa ww hk bs hd => xindex rfl (bs.get 41 rfl s41) (bs.get 42 rfl s42) (by kernel_rfl)) rfl <|
     asD 0 rfl rfl rfl rfl rfl rfl <|
     arm0) fun fa fw hk bs hv ap => ?_
   obtain ⟨z, q, ov⟩ := aft hk bs z q ow
   have s2 := bs.get 2 rfl s2
   have s3 := bs.get 3 rfl s3
   have s4 := bs.get 4 rfl s4
   have s41 := bs.get 41 rfl s41
   have s46 := bs.get 46 rfl s46
   have s47 := bs.get 47 rfl s47
   have s48 := bs.get 48 rfl s48
   have s49 := bs.get 49 rfl s49
   have s45 := bs.get 45 rfl s45
   have s50 := bs.get 50 rfl s50
   have s51 := bs.get 51 rfl s51
   have s7 := bs.get 7 rfl s7
   have s53 := bs.get 53 rfl s53
   have s54 := bs.get 54 rfl s54
   have s55 := bs.get 55 rfl s55
   have s56 := bs.get 56 rfl s56
   have s52 := bs.get 52 rfl s52
   have s57 := bs.get 57 rfl s57
   have s58 := bs.get 58 rfl s58
   have s9 := bs.get 9 rfl s9
   have s59 := bs.get 59 rfl s59
   have s60 := bs.get 60 rfl s60
   have s61 := bs.get 61 rfl s61
   have s62 := bs.get 62 rfl s62
   have s42 := bs.get 42 rfl s42
   have s43 := bs.get 43 rfl s43
   have s44 := got hv 0 rfl rfl rfl
   have s6 := got hv 1 rfl rfl rfl
   have ow := ov
   clear hv ap bs hk ov
   refine wl_then (hK17 _ _ ?_)
   try clear hK17 K17
   refine wp_seq_k fun K18 hK18 => ?_
   refine rgn [yV _, yV (aggV (vGood a0)), yV (aggV (vGood a1)), yV (.tuple #[aggV ((vBin13 3 (vGood a0) (vGood a1)).1), .int .i64 ((vBin13 3 (vGood a0) (vGood a1)).2)]), yV _, yV (aggV ((vBin13 3 (vGood a0) (vGood a1)).1)), yV _, yNew fw.heap.size (.cells #[.int .u8 0, .int .i64 0, .string ⟨[].toArray⟩] 25 (0, 0))] 8 190 z (by kernel_rfl) (by kernel_rfl) (
     mvS s6 rfl rfl rfl rfl <|
     armS (wn rfl) (fun aa ww hk bs hd => xloadN 3 rfl (by kernel_rfl) (by kernel_rfl) (bs.get 2 rfl s2) ((ow.keep hk).box 3 rfl) (Nat.le_of_ble_eq_true rfl) rfl) rfl <|
     armS (wn rfl) (fun aa ww hk bs hd => xloadN 3 rfl (by kernel_rfl) (by kernel_rfl) (bs.get 3 rfl s3) ((ow.keep hk).box 2 rfl) (Nat.le_of_ble_eq_true rfl) rfl) rfl <|
     armC (wn rfl) (fun aa ww hk bs hd => xcall3 rfl (dep hd 0 rfl rfl rfl) (dep hd 1 rfl rfl rfl) (dep hd 2 rfl rfl rfl) (en_fnum_Binary _ _)) (fun aa ww hk bs hd => binary13_any 3 (vGood a0) (vGood a1) ww mx (HM.kept (ow.keep hk).kept) sa sb) rfl <|
     mvD 3 rfl rfl rfl rfl rfl rfl <|
     armS (wn rfl) (fun aa ww hk bs hd => xextract rfl (dep hd 4 rfl rfl rfl) rfl) rfl <|
     armS (wn rfl) (fun aa ww hk bs hd => xextract rfl (dep hd 4 rfl rfl rfl) rfl) rfl <|
     armP (wn rfl) (fun aa ww hk bs hd => xalloc rfl (by kernel_rfl)) rfl <|
     arm0) fun fa fw hk bs hv ap => ?_
   obtain ⟨z, q, ov⟩ := aft hk bs z q ow
   have s2 := bs.get 2 rfl s2
   have s3 := bs.get 3 rfl s3
   have s4 := bs.get 4 rfl s4
   have s41 := bs.get 41 rfl s41
   have s53 := bs.get 53 rfl s53
   have s54 := bs.get 54 rfl s54
   have s55 := bs.get 55 rfl s55
   have s56 := bs.get 56 rfl s56
   have s52 := bs.get 52 rfl s52
   have s57 := bs.get 57 rfl s57
   have s58 := bs.get 58 rfl s58
   have s9 := bs.get 9 rfl s9
   have s59 := bs.get 59 rfl s59
   have s60 := bs.get 60 rfl s60
   have s61 := bs.get 61 rfl s61
   have s62 := bs.get 62 rfl s62
   have s42 := bs.get 42 rfl s42
   have s43 := bs.get 43 rfl s43
   have s44 := bs.get 44 rfl s44
   have s6 := bs.get 6 rfl s6
   have s46 := got hv 0 rfl rfl rfl
   have s47 := got hv 1 rfl rfl rfl
   have s48 := got hv 2 rfl rfl rfl
   have s49 := got hv 3 rfl rfl rfl
   have s45 := got hv 4 rfl rfl rfl
   have s50 := got hv 5 rfl rfl rfl
   have s51 := got hv 6 rfl rfl rfl
   obtain ⟨gb5, s7, bgb5, hgb5⟩ := gotP hv 7 rfl rfl rfl
   have ov := ov.cons hgb5 (Nat.le_trans ow.kept.size bgb5) (ow.below bgb5)
   have ow := ov
   clear hv ap bs hk ov
   refine wl_store ow 0 0 (want0 rfl) rfl rfl s7 s50 (by kernel_rfl) rfl rfl rfl fun fw ow => ?_
   refine wl_value (v := .int .i64 ((vBin13 3 (vGood a0) (vGood a1)).2)) (want0 rfl) (xassign rfl s51) ?_
   refine gt28 (put_size z) (put_def q) ow 2 (pb 8 s2 rfl) 3 (pb 8 s3 rfl) 4 (pb 8 s4 rfl) 41 (pb 8 s41 rfl) 53 (pb 8 s53 rfl) 54 (pb 8 s54 rfl) 55 (pb 8 s55 rfl) 56 (pb 8 s56 rfl) 52 (pb 8 s52 rfl) 57 (pb 8 s57 rfl) 58 (pb 8 s58 rfl) 9 (pb 8 s9 rfl) 59 (pb 8 s59 rfl) 60 (pb 8 s60 rfl) 61 (pb 8 s61 rfl) 62 (pb 8 s62 rfl) 42 (pb 8 s42 rfl) 43 (pb 8 s43 rfl) 44 (pb 8 s44 rfl) 6 (pb 8 s6 rfl) 46 (pb 8 s46 rfl) 47 (pb 8 s47 rfl) 48 (pb 8 s48 rfl) 49 (pb 8 s49 rfl) 45 (pb 8 s45 rfl) 50 (pb 8 s50 rfl) 51 (pb 8 s51 rfl) 7 (pb 8 s7 rfl) fun fa fw z q ow s2 s3 s4 s41 s53 s54 s55 s56 s52 s57 s58 s9 s59 s60 s61 s62 s42 s43 s44 s6 s46 s47 s48 s49 s45 s50 s51 s7 => ?_
   refine wl_then (hK18 _ _ ?_)
   try clear hK18 K18
   refine wp_seq_k fun K19 hK19 => ?_
   refine rgn [yV _, yV (aggV (vGood a1)), yV (aggV (vGood a0)), yV (.tuple #[aggV ((vBin13 3 (vGood a1) (vGood a0)).1), .int .i64 ((vBin13 3 (vGood a1) (vGood a0)).2)]), yV _, yV (aggV ((vBin13 3 (vGood a1) (vGood a0)).1)), yV _, yNew fw.heap.size (.cells #[.int .u8 0, .int .i64 0, .string ⟨[].toArray⟩] 25 (0, 0))] 8 190 z (by kernel_rfl) (by kernel_rfl) (
     mvS s6 rfl rfl rfl rfl <|
     armS (wn rfl) (fun aa ww hk bs hd => xloadN 3 rfl (by kernel_rfl) (by kernel_rfl) (bs.get 3 rfl s3) ((ow.keep hk).box 3 rfl) (Nat.le_of_ble_eq_true rfl) rfl) rfl <|
     armS (wn rfl) (fun aa ww hk bs hd => xloadN 3 rfl (by kernel_rfl) (by kernel_rfl) (bs.get 2 rfl s2) ((ow.keep hk).box 4 rfl) (Nat.le_of_ble_eq_true rfl) rfl) rfl <|
     armC (wn rfl) (fun aa ww hk bs hd => xcall3 rfl (dep hd 0 rfl rfl rfl) (dep hd 1 rfl rfl rfl) (dep hd 2 rfl rfl rfl) (en_fnum_Binary _ _)) (fun aa ww hk bs hd => binary13_any 3 (vGood a1) (vGood a0) ww mx (HM.kept (ow.keep hk).kept) sb sa) rfl <|
     mvD 3 rfl rfl rfl rfl rfl rfl <|
     armS (wn rfl) (fun aa ww hk bs hd => xextract rfl (dep hd 4 rfl rfl rfl) rfl) rfl <|
     armS (wn rfl) (fun aa ww hk bs hd => xextract rfl (dep hd 4 rfl rfl rfl) rfl) rfl <|
     armP (wn rfl) (fun aa ww hk bs hd => xalloc rfl (by kernel_rfl)) rfl <|
     arm0) fun fa fw hk bs hv ap => ?_
   obtain ⟨z, q, ov⟩ := aft hk bs z q ow
   have s2 := bs.get 2 rfl s2
   have s3 := bs.get 3 rfl s3
   have s4 := bs.get 4 rfl s4
   have s41 := bs.get 41 rfl s41
   have s59 := bs.get 59 rfl s59
   have s60 := bs.get 60 rfl s60
   have s61 := bs.get 61 rfl s61
   have s62 := bs.get 62 rfl s62
   have s42 := bs.get 42 rfl s42
   have s43 := bs.get 43 rfl s43
   have s44 := bs.get 44 rfl s44
   have s6 := bs.get 6 rfl s6
   have s46 := bs.get 46 rfl s46
   have s47 := bs.get 47 rfl s47
   have s48 := bs.get 48 rfl s48
   have s49 := bs.get 49 rfl s49
   have s45 := bs.get 45 rfl s45
   have s50 := bs.get 50 rfl s50
   have s51 := bs.get 51 rfl s51
   have s7 := bs.get 7 rfl s7
   have s53 := got hv 0 rfl rfl rfl
   have s54 := got hv 1 rfl rfl rfl
   have s55 := got hv 2 rfl rfl rfl
   have s56 := got hv 3 rfl rfl rfl
   have s52 := got hv 4 rfl rfl rfl
   have s57 := got hv 5 rfl rfl rfl
   have s58 := got hv 6 rfl rfl rfl
   obtain ⟨gb6, s9, bgb6, hgb6⟩ := gotP hv 7 rfl rfl rfl
   have ov := ov.cons hgb6 (Nat.le_trans ow.kept.size bgb6) (ow.below bgb6)
   have ow := ov
   clear hv ap bs hk ov
   refine wl_store ow 0 0 (want0 rfl) rfl rfl s9 s57 (by kernel_rfl) rfl rfl rfl fun fw ow => ?_
   refine wl_value (v := .int .i64 ((vBin13 3 (vGood a1) (vGood a0)).2)) (want0 rfl) (xassign rfl s58) ?_
   refine gt28 (put_size z) (put_def q) ow 2 (pb 10 s2 rfl) 3 (pb 10 s3 rfl) 4 (pb 10 s4 rfl) 41 (pb 10 s41 rfl) 59 (pb 10 s59 rfl) 60 (pb 10 s60 rfl) 61 (pb 10 s61 rfl) 62 (pb 10 s62 rfl) 42 (pb 10 s42 rfl) 43 (pb 10 s43 rfl) 44 (pb 10 s44 rfl) 6 (pb 10 s6 rfl) 46 (pb 10 s46 rfl) 47 (pb 10 s47 rfl) 48 (pb 10 s48 rfl) 49 (pb 10 s49 rfl) 45 (pb 10 s45 rfl) 50 (pb 10 s50 rfl) 51 (pb 10 s51 rfl) 7 (pb 10 s7 rfl) 53 (pb 10 s53 rfl) 54 (pb 10 s54 rfl) 55 (pb 10 s55 rfl) 56 (pb 10 s56 rfl) 52 (pb 10 s52 rfl) 57 (pb 10 s57 rfl) 58 (pb 10 s58 rfl) 9 (pb 10 s9 rfl) fun fa fw z q ow s2 s3 s4 s41 s59 s60 s61 s62 s42 s43 s44 s6 s46 s47 s48 s49 s45 s50 s51 s7 s53 s54 s55 s56 s52 s57 s58 s9 => ?_
   refine wl_then (hK19 _ _ ?_)
   try clear hK19 K19
   refine wp_seq_k fun K20 hK20 => ?_
   refine rgn [yV (aggV ((vBin13 3 (vGood a0) (vGood a1)).1)), yV (aggV ((vBin13 3 (vGood a1) (vGood a0)).1)), yV (.bool false)] 3 190 z (by kernel_rfl) (by kernel_rfl) (
     armS (wn rfl) (fun aa ww hk bs hd => xloadN 3 rfl (by kernel_rfl) (by kernel_rfl) (bs.get 7 rfl s7) ((ow.keep hk).box 1 rfl) (Nat.le_of_ble_eq_true rfl) rfl) rfl <|
     armS (wn rfl) (fun aa ww hk bs hd => xloadN 3 rfl (by kernel_rfl) (by kernel_rfl) (bs.get 9 rfl s9) ((ow.keep hk).box 0 rfl) (Nat.le_of_ble_eq_true rfl) rfl) rfl <|
     armE (wn rfl) (fun aa ww hk bs hd => xnev rfl (dep hd 0 rfl rfl rfl) (dep hd 1 rfl rfl rfl)) (congrArg Value.bool (by rw [bin_mul oa ob (by omega) (by omega), sameV_self]; rfl)) rfl <|
     arm0) fun fa fw hk bs hv ap => ?_
   obtain ⟨z, q, ov⟩ := aft hk bs z q ow
   have s2 := bs.get 2 rfl s2
   have s3 := bs.get 3 rfl s3
   have s4 := bs.get 4 rfl s4
   have s41 := bs.get 41 rfl s41
   have s62 := bs.get 62 rfl s62
   have s42 := bs.get 42 rfl s42
   have s43 := bs.get 43 rfl s43
   have s44 := bs.get 44 rfl s44
   have s6 := bs.get 6 rfl s6
   have s46 := bs.get 46 rfl s46
   have s47 := bs.get 47 rfl s47
   have s48 := bs.get 48 rfl s48
   have s49 := bs.get 49 rfl s49
   have s45 := bs.get 45 rfl s45
   have s50 := bs.get 50 rfl s50
   have s51 := bs.get 51 rfl s51
   have s7 := bs.get 7 rfl s7
   have s53 := bs.get 53 rfl s53
   have s54 := bs.get 54 rfl s54
   have s55 := bs.get 55 rfl s55
   have s56 := bs.get 56 rfl s56
   have s52 := bs.get 52 rfl s52
   have s57 := bs.get 57 rfl s57
   have s58 := bs.get 58 rfl s58
   have s9 := bs.get 9 rfl s9
   have s59 := got hv 0 rfl rfl rfl
   have s60 := got hv 1 rfl rfl rfl
   have s61 := got hv 2 rfl rfl rfl
   have ow := ov
   clear hv ap bs hk ov
   refine wl_then (hK20 _ _ ?_)
   try clear hK20 K20
   refine wp_cond_false (s61) ?_
   refine wp_skip ?_
   refine block_n ?_
   refine then_n (hK16 _ _ ?_)
   try clear hK16 K16
   refine rgn [yV (.int .i64 2)] 1 190 z (by kernel_rfl) (by kernel_rfl) (
     armS (wn rfl) (fun aa ww hk bs hd => xadd (Or.inl rfl) rfl (bs.get 42 rfl s42) rfl (by omega) (by omega)) rfl <|
     arm0) fun fa fw hk bs hv ap => ?_
   obtain ⟨z, q, ov⟩ := aft hk bs z q ow
   have s2 := bs.get 2 rfl s2
   have s3 := bs.get 3 rfl s3
   have s4 := bs.get 4 rfl s4
   have s41 := bs.get 41 rfl s41
   have s42 := bs.get 42 rfl s42
   have s43 := bs.get 43 rfl s43
   have s44 := bs.get 44 rfl s44
   have s6 := bs.get 6 rfl s6
   have s46 := bs.get 46 rfl s46
   have s47 := bs.get 47 rfl s47
   have s48 := bs.get 48 rfl s48
   have s49 := bs.get 49 rfl s49
   have s45 := bs.get 45 rfl s45
   have s50 := bs.get 50 rfl s50
   have s51 := bs.get 51 rfl s51
   have s7 := bs.get 7 rfl s7
   have s53 := bs.get 53 rfl s53
   have s54 := bs.get 54 rfl s54
   have s55 := bs.get 55 rfl s55
   have s56 := bs.get 56 rfl s56
   have s52 := bs.get 52 rfl s52
   have s57 := bs.get 57 rfl s57
   have s58 := bs.get 58 rfl s58
   have s9 := bs.get 9 rfl s9
   have s59 := bs.get 59 rfl s59
   have s60 := bs.get 60 rfl s60
   have s61 := bs.get 61 rfl s61
   have s62 := got hv 0 rfl rfl rfl
   have ow := ov
   clear hv ap bs hk ov
   refine wl_value (v := .int .i64 2) (want0 rfl) (xmove rfl s62) ?_
   refine gt28 (put_size z) (put_def q) ow 2 (pb 42 s2 rfl) 3 (pb 42 s3 rfl) 4 (pb 42 s4 rfl) 41 (pb 42 s41 rfl) 43 (pb 42 s43 rfl) 44 (pb 42 s44 rfl) 6 (pb 42 s6 rfl) 46 (pb 42 s46 rfl) 47 (pb 42 s47 rfl) 48 (pb 42 s48 rfl) 49 (pb 42 s49 rfl) 45 (pb 42 s45 rfl) 50 (pb 42 s50 rfl) 51 (pb 42 s51 rfl) 7 (pb 42 s7 rfl) 53 (pb 42 s53 rfl) 54 (pb 42 s54 rfl) 55 (pb 42 s55 rfl) 56 (pb 42 s56 rfl) 52 (pb 42 s52 rfl) 57 (pb 42 s57 rfl) 58 (pb 42 s58 rfl) 9 (pb 42 s9 rfl) 59 (pb 42 s59 rfl) 60 (pb 42 s60 rfl) 61 (pb 42 s61 rfl) 62 (pb 42 s62 rfl) 42 (put_in (t := 42) z rfl) fun fa fw z q ow s2 s3 s4 s41 s43 s44 s6 s46 s47 s48 s49 s45 s50 s51 s7 s53 s54 s55 s56 s52 s57 s58 s9 s59 s60 s61 s62 s42 => ?_
   refine wl_end ?_
   refine then_n ?_
   refine rnd1 ?_
   refine wp_seq_k fun K21 hK21 => ?_
   refine rgn [yV (.bool false)] 1 190 z (by kernel_rfl) (by kernel_rfl) (
     armE (wn rfl) (fun aa ww hk bs hd => xlss rfl (bs.get 42 rfl s42) rfl) (congrArg Value.bool rfl) rfl <|
     arm0) fun fa fw hk bs hv ap => ?_
   obtain ⟨z, q, ov⟩ := aft hk bs z q ow
   have s2 := bs.get 2 rfl s2
   have s3 := bs.get 3 rfl s3
   have s4 := bs.get 4 rfl s4
   have s41 := bs.get 41 rfl s41
   have s44 := bs.get 44 rfl s44
   have s6 := bs.get 6 rfl s6
   have s46 := bs.get 46 rfl s46
   have s47 := bs.get 47 rfl s47
   have s48 := bs.get 48 rfl s48
   have s49 := bs.get 49 rfl s49
   have s45 := bs.get 45 rfl s45
   have s50 := bs.get 50 rfl s50
   have s51 := bs.get 51 rfl s51
   have s7 := bs.get 7 rfl s7
   have s53 := bs.get 53 rfl s53
   have s54 := bs.get 54 rfl s54
   have s55 := bs.get 55 rfl s55
   have s56 := bs.get 56 rfl s56
   have s52 := bs.get 52 rfl s52
   have s57 := bs.get 57 rfl s57
   have s58 := bs.get 58 rfl s58
   have s9 := bs.get 9 rfl s9
   have s59 := bs.get 59 rfl s59
   have s60 := bs.get 60 rfl s60
   have s61 := bs.get 61 rfl s61
   have s62 := bs.get 62 rfl s62
   have s42 := bs.get 42 rfl s42
   have s43 := got hv 0 rfl rfl rfl
   have ow := ov
   clear hv ap bs hk ov
   refine wl_then (hK21 _ _ ?_)
   try clear hK21 K21
   refine wp_seq_k fun K22 hK22 => ?_
   refine wp_cond_false (s43) ?_
   refine wp_exit ?_
   refine then_e ?_
   refine then_e ?_
   refine block_hit ?_
   refine then_n (hK5 _ _ ?_)
   try clear hK5 K5
   refine wp_seq_k fun K23 hK23 => ?_
   refine rgn [yV (aggV (vGood a0)), yV (aggV (vGood a1)), yV (.tuple #[aggV ((vBin13 2 (vGood a0) (vGood a1)).1), .int .i64 ((vBin13 2 (vGood a0) (vGood a1)).2)]), yV _, yV (aggV ((vBin13 2 (vGood a0) (vGood a1)).1)), yV _, yNew fw.heap.size (.cells #[.int .u8 0, .int .i64 0, .string ⟨[].toArray⟩] 25 (0, 0))] 7 190 z (by kernel_rfl) (by kernel_rfl) (
     armS (wn rfl) (fun aa ww hk bs hd => xloadN 3 rfl (by kernel_rfl) (by kernel_rfl) (bs.get 2 rfl s2) ((ow.keep hk).box 5 rfl) (Nat.le_of_ble_eq_true rfl) rfl) rfl <|
     armS (wn rfl) (fun aa ww hk bs hd => xloadN 3 rfl (by kernel_rfl) (by kernel_rfl) (bs.get 3 rfl s3) ((ow.keep hk).box 4 rfl) (Nat.le_of_ble_eq_true rfl) rfl) rfl <|
     armC (wn rfl) (fun aa ww hk bs hd => xcall3 rfl rfl (dep hd 0 rfl rfl rfl) (dep hd 1 rfl rfl rfl) (en_fnum_Binary _ _)) (fun aa ww hk bs hd => binary13_any 2 (vGood a0) (vGood a1) ww mx (HM.kept (ow.keep hk).kept) sa sb) rfl <|
     mvD 2 rfl rfl rfl rfl rfl rfl <|
     armS (wn rfl) (fun aa ww hk bs hd => xextract rfl (dep hd 3 rfl rfl rfl) rfl) rfl <|
     armS (wn rfl) (fun aa ww hk bs hd => xextract rfl (dep hd 3 rfl rfl rfl) rfl) rfl <|
     armP (wn rfl) (fun aa ww hk bs hd => xalloc rfl (by kernel_rfl)) rfl <|
     arm0) fun fa fw hk bs hv ap => ?_
   obtain ⟨z, q, ov⟩ := aft hk bs z q ow
   have s2 := bs.get 2 rfl s2
   have s3 := bs.get 3 rfl s3
   have s4 := bs.get 4 rfl s4
   have s67 := got hv 4 rfl rfl rfl
   have s68 := got hv 5 rfl rfl rfl
   obtain ⟨gb7, s11, bgb7, hgb7⟩ := gotP hv 6 rfl rfl rfl
   have ov := ov.cons hgb7 (Nat.le_trans ow.kept.size bgb7) (ow.below bgb7)
   have ow := ov
   clear hv ap bs hk ov
   refine wl_store ow 0 0 (want0 rfl) rfl rfl s11 s67 (by kernel_rfl) rfl rfl rfl fun fw ow => ?_
   refine wl_value (v := .int .i64 ((vBin13 2 (vGood a0) (vGood a1)).2)) (want0 rfl) (xassign rfl s68) ?_
   refine gt4 (put_size z) (put_def q) ow 2 (pb 12 s2 rfl) 3 (pb 12 s3 rfl) 4 (pb 12 s4 rfl) 11 (pb 12 s11 rfl) fun fa fw z q ow s2 s3 s4 s11 => ?_
   refine wl_then (hK23 _ _ ?_)
   try clear hK23 K23
   refine wp_seq_k fun K24 hK24 => ?_
   refine rgn [yV (aggV (vGood a1)), yV (aggV (vGood a0)), yV (.tuple #[aggV ((vBin13 2 (vGood a1) (vGood a0)).1), .int .i64 ((vBin13 2 (vGood a1) (vGood a0)).2)]), yV _, yV (aggV ((vBin13 2 (vGood a1) (vGood a0)).1)), yV _, yNew fw.heap.size (.cells #[.int .u8 0, .int .i64 0, .string ⟨[].toArray⟩] 25 (0, 0))] 7 190 z (by kernel_rfl) (by kernel_rfl) (
     armS (wn rfl) (fun aa ww hk bs hd => xloadN 3 rfl (by kernel_rfl) (by kernel_rfl) (bs.get 3 rfl s3) ((ow.keep hk).box 5 rfl) (Nat.le_of_ble_eq_true rfl) rfl) rfl <|
     armS (wn rfl) (fun aa ww hk bs hd => xloadN 3 rfl (by kernel_rfl) (by kernel_rfl) (bs.get 2 rfl s2) ((ow.keep hk).box 6 rfl) (Nat.le_of_ble_eq_true rfl) rfl) rfl <|
     armC (wn rfl) (fun aa ww hk bs hd => xcall3 rfl rfl (dep hd 0 rfl rfl rfl) (dep hd 1 rfl rfl rfl) (en_fnum_Binary _ _)) (fun aa ww hk bs hd => binary13_any 2 (vGood a1) (vGood a0) ww mx (HM.kept (ow.keep hk).kept) sb sa) rfl <|
     mvD 2 rfl rfl rfl rfl rfl rfl <|
     armS (wn rfl) (fun aa ww hk bs hd => xextract rfl (dep hd 3 rfl rfl rfl) rfl) rfl <|
     armS (wn rfl) (fun aa ww hk bs hd => xextract rfl (dep hd 3 rfl rfl rfl) rfl) rfl <|
     armP (wn rfl) (fun aa ww hk bs hd => xalloc rfl (by kernel_rfl)) rfl <|
     arm0) fun fa fw hk bs hv ap => ?_
   obtain ⟨z, q, ov⟩ := aft hk bs z q ow
   have s2 := bs.get 2 rfl s2
   have s3 := bs.get 3 rfl s3
   have s4 := bs.get 4 rfl s4
   have s11 := bs.get 11 rfl s11
   have s73 := got hv 4 rfl rfl rfl
   have s74 := got hv 5 rfl rfl rfl
   obtain ⟨gb8, s13, bgb8, hgb8⟩ := gotP hv 6 rfl rfl rfl
   have ov := ov.cons hgb8 (Nat.le_trans ow.kept.size bgb8) (ow.below bgb8)
   have ow := ov
   clear hv ap bs hk ov
   refine wl_store ow 0 0 (want0 rfl) rfl rfl s13 s73 (by kernel_rfl) rfl rfl rfl fun fw ow => ?_
   refine wl_value (v := .int .i64 ((vBin13 2 (vGood a1) (vGood a0)).2)) (want0 rfl) (xassign rfl s74) ?_
   refine gt5 (put_size z) (put_def q) ow 2 (pb 14 s2 rfl) 3 (pb 14 s3 rfl) 4 (pb 14 s4 rfl) 11 (pb 14 s11 rfl) 13 (pb 14 s13 rfl) fun fa fw z q ow s2 s3 s4 s11 s13 => ?_
   refine wl_then (hK24 _ _ ?_)
   try clear hK24 K24
   refine wp_seq_k fun K25 hK25 => ?_
   refine rgn [yV (aggV ((vBin13 2 (vGood a0) (vGood a1)).1)), yV (aggV ((vBin13 2 (vGood a1) (vGood a0)).1)), yV (aggV (vNeg13 ((vBin13 2 (vGood a1) (vGood a0)).1))), yV (.bool false)] 4 190 z (by kernel_rfl) (by kernel_rfl) (
     armS (wn rfl) (fun aa ww hk bs hd => xloadN 3 rfl (by kernel_rfl) (by kernel_rfl) (bs.get 11 rfl s11) ((ow.keep hk).box 1 rfl) (Nat.le_of_ble_eq_true rfl) rfl) rfl <|
     armS (wn rfl) (fun aa ww hk bs hd => xloadN 3 rfl (by kernel_rfl) (by kernel_rfl) (bs.get 13 rfl s13) ((ow.keep hk).box 0 rfl) (Nat.le_of_ble_eq_true rfl) rfl) rfl <|
     armC (wn rfl) (fun aa ww hk bs hd => xcall1 rfl (dep hd 1 rfl rfl rfl) (en_fnum_Neg _ _)) (fun aa ww hk bs hd => neg13_any ((vBin13 2 (vGood a1) (vGood a0)).1) ww mx (HM.kept (ow.keep hk).kept) (bin_small 2 _ _ ob oa (by omega) (by omega) rfl)) rfl <|
     armE (wn rfl) (fun aa ww hk bs hd => xnev rfl (dep hd 0 rfl rfl rfl) (dep hd 2 rfl rfl rfl)) (congrArg Value.bool (by rw [← bin_sub oa ob (by omega) (by omega), sameV_self]; rfl)) rfl <|
     arm0) fun fa fw hk bs hv ap => ?_
   obtain ⟨z, q, ov⟩ := aft hk bs z q ow
   have s2 := bs.get 2 rfl s2
   have s3 := bs.get 3 rfl s3
   have s4 := bs.get 4 rfl s4
   have s78 := got hv 3 rfl rfl rfl
   have ow := ov
   clear hv ap bs hk ov
   refine wl_then (hK25 _ _ ?_)
   try clear hK25 K25
   refine wp_cond_false (s78) ?_
   refine wp_skip ?_
   refine then_n (hK3 _ _ ?_)
   try clear hK3 K3
   refine wp_seq_k fun K26 hK26 => ?_
   refine wp_seq_k fun K27 hK27 => ?_
   refine rgn [yV (.pointer (some ⟨gb1, 0, none⟩)), yV _, yV _, yV _, yIf (((decide (((vGood a0).k : Int) = (4 : Int))) = false)) (yV (.pointer (some ⟨gb2, 0, none⟩))), yIf (((decide (((vGood a0).k : Int) = (4 : Int))) = false)) (yV (.int .u8 ((vGood a1).k))), yIf (((decide (((vGood a0).k : Int) = (4 : Int))) = false)) (yV (.bool (decide (((vGood a1).k : Int) = (4 : Int))))), yV _] 8 190 z (by kernel_rfl) (by kernel_rfl) (
     armS (wn rfl) (fun aa ww hk bs hd => xfieldAddr rfl (bs.get 2 rfl s2) (by kernel_rfl)) rfl <|
     armS (wn rfl) (fun aa ww hk bs hd => xloadB rfl (by kernel_rfl) (dep hd 0 rfl rfl rfl) ((ow.keep hk).box 7 rfl) rfl) rfl <|
     armS (wn rfl) (fun aa ww hk bs hd => xeqi rfl (dep hd 1 rfl rfl rfl) rfl) rfl <|
     mvD 2 rfl rfl rfl rfl rfl rfl <|
     arm (fun aa ww hk bs hd => by
       have d3 : aa.eval (.tmp 82) = .bool (decide (((vGood a0).k : Int) = (4 : Int))) := depX hd 3 rfl
       by_cases hz : ((decide (((vGood a0).k : Int) = (4 : Int))) = false)
       · exact stepX_same (v := .pointer (some ⟨gb2, 0, none⟩)) (want1 (j := 3) (b := false) rfl (d3.trans (congrArg Value.bool hz))) (xfieldAddr rfl (bs.get 3 rfl s3) (by kernel_rfl)) ⟨fun _ => rfl, fun c => absurd hz c⟩ rfl
       · exact stepX_skip (wantN (j := 3) (b := false) (b' := true) rfl (d3.trans (congrArg Value.bool ((Bool.not_eq_false _).mp hz))) rfl) ⟨fun c => absurd c hz, fun _ => rfl⟩ rfl
       ) <|
     arm (fun aa ww hk bs hd => by
       have d3 : aa.eval (.tmp 82) = .bool (decide (((vGood a0).k : Int) = (4 : Int))) := depX hd 3 rfl
       have d4 : (((decide (((vGood a0).k : Int) = (4 : Int))) = false) → aa.eval (.tmp 83) = .pointer (some ⟨gb2, 0, none⟩)) ∧ (¬ (((decide (((vGood a0).k : Int) = (4 : Int))) = false)) → aa.eval (.tmp 83) = undef) := depX hd 4 rfl
       by_cases hz : ((decide (((vGood a0).k : Int) = (4 : Int))) = false)
       · exact stepX_same (v := .int .u8 ((vGood a1).k)) (want1 (j := 3) (b := false) rfl (d3.trans (congrArg Value.bool hz))) (xloadB rfl (by kernel_rfl) (d4.1 hz) ((ow.keep hk).box 6 rfl) rfl) ⟨fun _ => rfl, fun c => absurd hz c⟩ rfl
       · exact stepX_skip (wantN (j := 3) (b := false) (b' := true) rfl (d3.trans (congrArg Value.bool ((Bool.not_eq_false _).mp hz))) rfl) ⟨fun c => absurd c hz, fun _ => rfl⟩ rfl
       ) <|
     arm (fun aa ww hk bs hd => by
       have d3 : aa.eval (.tmp 82) = .bool (decide (((vGood a0).k : Int) = (4 : Int))) := depX hd 3 rfl
       have d5 : (((decide (((vGood a0).k : Int) = (4 : Int))) = false) → aa.eval (.tmp 84) = .int .u8 ((vGood a1).k)) ∧ (¬ (((decide (((vGood a0).k : Int) = (4 : Int))) = false)) → aa.eval (.tmp 84) = undef) := depX hd 5 rfl
       by_cases hz : ((decide (((vGood a0).k : Int) = (4 : Int))) = false)
       · exact stepX_same (v := .bool (decide (((vGood a1).k : Int) = (4 : Int)))) (want1 (j := 3) (b := false) rfl (d3.trans (congrArg Value.bool hz))) (xeqi rfl (d5.1 hz) rfl) ⟨fun _ => rfl, fun c => absurd hz c⟩ rfl
       · exact stepX_skip (wantN (j := 3) (b := false) (b' := true) rfl (d3.trans (congrArg Value.bool ((Bool.not_eq_false _).mp hz))) rfl) ⟨fun c => absurd c hz, fun _ => rfl⟩ rfl
       ) <|
     arm (fun aa ww hk bs hd => by
       have d3 : aa.eval (.tmp 82) = .bool (decide (((vGood a0).k : Int) = (4 : Int))) := depX hd 3 rfl
       have d6 : (((decide (((vGood a0).k : Int) = (4 : Int))) = false) → aa.eval (.tmp 85) = .bool (decide (((vGood a1).k : Int) = (4 : Int)))) ∧ (¬ (((decide (((vGood a0).k : Int) = (4 : Int))) = false)) → aa.eval (.tmp 85) = undef) := depX hd 6 rfl
       exact stepX_same (v := .bool ((decide (((vGood a0).k : Int) = (4 : Int))) || (decide (((vGood a1).k : Int) = (4 : Int))))) (want0 rfl) (xor_ rfl (d3) rfl (fun hb => d6.1 hb)) rfl rfl
       ) <|
     arm0) fun fa fw hk bs hv ap => ?_
   obtain ⟨z, q, ov⟩ := aft hk bs z q ow
   have s2 := bs.get 2 rfl s2
   have s3 := bs.get 3 rfl s3
   have s4 := bs.get 4 rfl s4
   have s86 := got hv 7 rfl rfl rfl
   have ow := ov
   clear hv ap bs hk ov
   refine wl_then (hK27 _ _ ?_)
   try clear hK27 K27
   by_cases hc2 : (((vGood a0).k : Int) = (4 : Int)) ∨ (((vGood a1).k : Int) = (4 : Int))
   ·refine wp_cond_true (s86.trans (congrArg Value.bool ((bor (decide_eq_true_iff) (decide_eq_true_iff)).2 hc2))) ?_
    refine wp_seq_k fun K28 hK28 => ?_
    refine rgn [yV (.bool true), yV _] 2 190 z (by kernel_rfl) (by kernel_rfl) (
      armC (wn rfl) (fun aa ww hk bs hd => xcall0 rfl (en_louvrelaw13_awake _ _)) (fun aa ww hk bs hd => awake13_any ww mx (HM.kept (ow.keep hk).kept)) rfl <|
      asD 0 rfl rfl rfl rfl rfl rfl <|
      arm0) fun fa fw hk bs hv ap => ?_
    obtain ⟨z, q, ov⟩ := aft hk bs z q ow
    have s2 := bs.get 2 rfl s2
    have s3 := bs.get 3 rfl s3
    have s4 := got hv 1 rfl rfl rfl
    have ow := ov
    clear hv ap bs hk ov
    refine wl_then (hK28 _ _ ?_)
    try clear hK28 K28
    refine wp_ret ?_
    refine then_r ?_
    refine results_one rfl (res_tmp s4) q ?_
    exact ⟨rfl, ow.kept⟩
   refine wp_cond_false (s86.trans (congrArg Value.bool (Bool.eq_false_iff.2 (fun c => hc2 ((bor (decide_eq_true_iff) (decide_eq_true_iff)).1 c))))) ?_
   refine wp_skip ?_
   refine then_n (hK26 _ _ ?_)
   try clear hK26 K26
   refine wp_seq_k fun K29 hK29 => ?_
   have ka : (vGood a0).k ≠ 4 := by omega
   have kb : (vGood a1).k ≠ 4 := by omega
   have b7_ := b7 oa ob ka kb
   have b8_ := b8 oa ob ka kb
   have b9_ := b9 oa ob ka kb
   have b10_ := b10 oa ob ka kb
   have b11_ := b11 oa ob ka kb
   have b12_ := b12 oa ob ka kb
   have b9r_ := b9r oa ob ka kb
   refine rgn [yV (aggV (vGood a0)), yV (aggV (vGood a1)), yV (.tuple #[aggV ((vBin13 9 (vGood a0) (vGood a1)).1), .int .i64 ((vBin13 9 (vGood a0) (vGood a1)).2)]), yV _, yV (aggV ((vBin13 9 (vGood a0) (vGood a1)).1)), yV _, yNew fw.heap.size (.cells #[.int .u8 0, .int .i64 0, .string ⟨[].toArray⟩] 25 (0, 0))] 7 190 z (by kernel_rfl) (by kernel_rfl) (
     armS (wn rfl) (fun aa ww hk bs hd => xloadN 3 rfl (by kernel_rfl) (by kernel_rfl) (bs.get 2 rfl s2) ((ow.keep hk).box 7 rfl) (Nat.le_of_ble_eq_true rfl) rfl) rfl <|
     armS (wn rfl) (fun aa ww hk bs hd => xloadN 3 rfl (by kernel_rfl) (by kernel_rfl) (bs.get 3 rfl s3) ((ow.keep hk).box 6 rfl) (Nat.le_of_ble_eq_true rfl) rfl) rfl <|
     armC (wn rfl) (fun aa ww hk bs hd => xcall3 rfl rfl (dep hd 0 rfl rfl rfl) (dep hd 1 rfl rfl rfl) (en_fnum_Binary _ _)) (fun aa ww hk bs hd => binary13_any 9 (vGood a0) (vGood a1) ww mx (HM.kept (ow.keep hk).kept) sa sb) rfl <|
     mvD 2 rfl rfl rfl rfl rfl rfl <|
     armS (wn rfl) (fun aa ww hk bs hd => xextract rfl (dep hd 3 rfl rfl rfl) rfl) rfl <|
     armS (wn rfl) (fun aa ww hk bs hd => xextract rfl (dep hd 3 rfl rfl rfl) rfl) rfl <|
     armP (wn rfl) (fun aa ww hk bs hd => xalloc rfl (by kernel_rfl)) rfl <|
     arm0) fun fa fw hk bs hv ap => ?_
   obtain ⟨z, q, ov⟩ := aft hk bs z q ow
   have s2 := bs.get 2 rfl s2
   have s3 := bs.get 3 rfl s3
   have s4 := bs.get 4 rfl s4
   have s92 := got hv 4 rfl rfl rfl
   have s93 := got hv 5 rfl rfl rfl
   obtain ⟨gb9, s15, bgb9, hgb9⟩ := gotP hv 6 rfl rfl rfl
   have ov := ov.cons hgb9 (Nat.le_trans ow.kept.size bgb9) (ow.below bgb9)
   have ow := ov
   clear hv ap bs hk ov
   refine wl_store ow 0 0 (want0 rfl) rfl rfl s15 s92 (by kernel_rfl) rfl rfl rfl fun fw ow => ?_
   refine wl_value (v := .int .i64 ((vBin13 9 (vGood a0) (vGood a1)).2)) (want0 rfl) (xassign rfl s93) ?_
   refine gt4 (put_size z) (put_def q) ow 2 (pb 16 s2 rfl) 3 (pb 16 s3 rfl) 4 (pb 16 s4 rfl) 15 (pb 16 s15 rfl) fun fa fw z q ow s2 s3 s4 s15 => ?_
   refine wl_then (hK29 _ _ ?_)
   try clear hK29 K29
   refine wp_seq_k fun K30 hK30 => ?_
   refine rgn [yV (aggV (vGood a0)), yV (aggV (vGood a1)), yV (.tuple #[aggV ((vBin13 7 (vGood a0) (vGood a1)).1), .int .i64 ((vBin13 7 (vGood a0) (vGood a1)).2)]), yV _, yV (aggV ((vBin13 7 (vGood a0) (vGood a1)).1)), yV _, yNew fw.heap.size (.cells #[.int .u8 0, .int .i64 0, .string ⟨[].toArray⟩] 25 (0, 0))] 7 190 z (by kernel_rfl) (by kernel_rfl) (
     armS (wn rfl) (fun aa ww hk bs hd => xloadN 3 rfl (by kernel_rfl) (by kernel_rfl) (bs.get 2 rfl s2) ((ow.keep hk).box 8 rfl) (Nat.le_of_ble_eq_true rfl) rfl) rfl <|
     armS (wn rfl) (fun aa ww hk bs hd => xloadN 3 rfl (by kernel_rfl) (by kernel_rfl) (bs.get 3 rfl s3) ((ow.keep hk).box 7 rfl) (Nat.le_of_ble_eq_true rfl) rfl) rfl <|
     armC (wn rfl) (fun aa ww hk bs hd => xcall3 rfl rfl (dep hd 0 rfl rfl rfl) (dep hd 1 rfl rfl rfl) (en_fnum_Binary _ _)) (fun aa ww hk bs hd => binary13_any 7 (vGood a0) (vGood a1) ww mx (HM.kept (ow.keep hk).kept) sa sb) rfl <|
     mvD 2 rfl rfl rfl rfl rfl rfl <|
     armS (wn rfl) (fun aa ww hk bs hd => xextract rfl (dep hd 3 rfl rfl rfl) rfl) rfl <|
     armS (wn rfl) (fun aa ww hk bs hd => xextract rfl (dep hd 3 rfl rfl rfl) rfl) rfl <|
     armP (wn rfl) (fun aa ww hk bs hd => xalloc rfl (by kernel_rfl)) rfl <|
     arm0) fun fa fw hk bs hv ap => ?_
   obtain ⟨z, q, ov⟩ := aft hk bs z q ow
   have s2 := bs.get 2 rfl s2
   have s3 := bs.get 3 rfl s3
   have s4 := bs.get 4 rfl s4
   have s15 := bs.get 15 rfl s15
   have s98 := got hv 4 rfl rfl rfl
   have s99 := got hv 5 rfl rfl rfl
   obtain ⟨gb10, s17, bgb10, hgb10⟩ := gotP hv 6 rfl rfl rfl
   have ov := ov.cons hgb10 (Nat.le_trans ow.kept.size bgb10) (ow.below bgb10)
   have ow := ov
   clear hv ap bs hk ov
   refine wl_store ow 0 0 (want0 rfl) rfl rfl s17 s98 (by kernel_rfl) rfl rfl rfl fun fw ow => ?_
   refine wl_value (v := .int .i64 ((vBin13 7 (vGood a0) (vGood a1)).2)) (want0 rfl) (xassign rfl s99) ?_
   refine gt5 (put_size z) (put_def q) ow 2 (pb 18 s2 rfl) 3 (pb 18 s3 rfl) 4 (pb 18 s4 rfl) 15 (pb 18 s15 rfl) 17 (pb 18 s17 rfl) fun fa fw z q ow s2 s3 s4 s15 s17 => ?_
   refine wl_then (hK30 _ _ ?_)
   try clear hK30 K30
   refine wp_seq_k fun K31 hK31 => ?_
   refine rgn [yV (aggV (vGood a0)), yV (aggV (vGood a1)), yV (.tuple #[aggV ((vBin13 11 (vGood a0) (vGood a1)).1), .int .i64 ((vBin13 11 (vGood a0) (vGood a1)).2)]), yV _, yV (aggV ((vBin13 11 (vGood a0) (vGood a1)).1)), yV _, yNew fw.heap.size (.cells #[.int .u8 0, .int .i64 0, .string ⟨[].toArray⟩] 25 (0, 0))] 7 190 z (by kernel_rfl) (by kernel_rfl) (
     armS (wn rfl) (fun aa ww hk bs hd => xloadN 3 rfl (by kernel_rfl) (by kernel_rfl) (bs.get 2 rfl s2) ((ow.keep hk).box 9 rfl) (Nat.le_of_ble_eq_true rfl) rfl) rfl <|
     armS (wn rfl) (fun aa ww hk bs hd => xloadN 3 rfl (by kernel_rfl) (by kernel_rfl) (bs.get 3 rfl s3) ((ow.keep hk).box 8 rfl) (Nat.le_of_ble_eq_true rfl) rfl) rfl <|
     armC (wn rfl) (fun aa ww hk bs hd => xcall3 rfl rfl (dep hd 0 rfl rfl rfl) (dep hd 1 rfl rfl rfl) (en_fnum_Binary _ _)) (fun aa ww hk bs hd => binary13_any 11 (vGood a0) (vGood a1) ww mx (HM.kept (ow.keep hk).kept) sa sb) rfl <|
     mvD 2 rfl rfl rfl rfl rfl rfl <|
     armS (wn rfl) (fun aa ww hk bs hd => xextract rfl (dep hd 3 rfl rfl rfl) rfl) rfl <|
     armS (wn rfl) (fun aa ww hk bs hd => xextract rfl (dep hd 3 rfl rfl rfl) rfl) rfl <|
     armP (wn rfl) (fun aa ww hk bs hd => xalloc rfl (by kernel_rfl)) rfl <|
     arm0) fun fa fw hk bs hv ap => ?_
   obtain ⟨z, q, ov⟩ := aft hk bs z q ow
   have s2 := bs.get 2 rfl s2
   have s3 := bs.get 3 rfl s3
   have s4 := bs.get 4 rfl s4
   have s15 := bs.get 15 rfl s15
   have s17 := bs.get 17 rfl s17
   have s104 := got hv 4 rfl rfl rfl
   have s105 := got hv 5 rfl rfl rfl
   obtain ⟨gb11, s19, bgb11, hgb11⟩ := gotP hv 6 rfl rfl rfl
   have ov := ov.cons hgb11 (Nat.le_trans ow.kept.size bgb11) (ow.below bgb11)
   have ow := ov
   clear hv ap bs hk ov
   refine wl_store ow 0 0 (want0 rfl) rfl rfl s19 s104 (by kernel_rfl) rfl rfl rfl fun fw ow => ?_
   refine wl_value (v := .int .i64 ((vBin13 11 (vGood a0) (vGood a1)).2)) (want0 rfl) (xassign rfl s105) ?_
   refine gt6 (put_size z) (put_def q) ow 2 (pb 20 s2 rfl) 3 (pb 20 s3 rfl) 4 (pb 20 s4 rfl) 15 (pb 20 s15 rfl) 17 (pb 20 s17 rfl) 19 (pb 20 s19 rfl) fun fa fw z q ow s2 s3 s4 s15 s17 s19 => ?_
   refine wl_then (hK31 _ _ ?_)
   try clear hK31 K31
   refine wp_seq_k fun K32 hK32 => ?_
   refine rgn [yV (aggV (vGood a1)), yV (aggV (vGood a0)), yV (.tuple #[aggV ((vBin13 9 (vGood a1) (vGood a0)).1), .int .i64 ((vBin13 9 (vGood a1) (vGood a0)).2)]), yV _, yV (aggV ((vBin13 9 (vGood a1) (vGood a0)).1)), yV _, yNew fw.heap.size (.cells #[.int .u8 0, .int .i64 0, .string ⟨[].toArray⟩] 25 (0, 0))] 7 190 z (by kernel_rfl) (by kernel_rfl) (
     armS (wn rfl) (fun aa ww hk bs hd => xloadN 3 rfl (by kernel_rfl) (by kernel_rfl) (bs.get 3 rfl s3) ((ow.keep hk).box 9 rfl) (Nat.le_of_ble_eq_true rfl) rfl) rfl <|
     armS (wn rfl) (fun aa ww hk bs hd => xloadN 3 rfl (by kernel_rfl) (by kernel_rfl) (bs.get 2 rfl s2) ((ow.keep hk).box 10 rfl) (Nat.le_of_ble_eq_true rfl) rfl) rfl <|
     armC (wn rfl) (fun aa ww hk bs hd => xcall3 rfl rfl (dep hd 0 rfl rfl rfl) (dep hd 1 rfl rfl rfl) (en_fnum_Binary _ _)) (fun aa ww hk bs hd => binary13_any 9 (vGood a1) (vGood a0) ww mx (HM.kept (ow.keep hk).kept) sb sa) rfl <|
     mvD 2 rfl rfl rfl rfl rfl rfl <|
     armS (wn rfl) (fun aa ww hk bs hd => xextract rfl (dep hd 3 rfl rfl rfl) rfl) rfl <|
     armS (wn rfl) (fun aa ww hk bs hd => xextract rfl (dep hd 3 rfl rfl rfl) rfl) rfl <|
     armP (wn rfl) (fun aa ww hk bs hd => xalloc rfl (by kernel_rfl)) rfl <|
     arm0) fun fa fw hk bs hv ap => ?_
   obtain ⟨z, q, ov⟩ := aft hk bs z q ow
   have s2 := bs.get 2 rfl s2
   have s3 := bs.get 3 rfl s3
   have s4 := bs.get 4 rfl s4
   have s15 := bs.get 15 rfl s15
   have s17 := bs.get 17 rfl s17
   have s19 := bs.get 19 rfl s19
   have s110 := got hv 4 rfl rfl rfl
   have s111 := got hv 5 rfl rfl rfl
   obtain ⟨gb12, s21, bgb12, hgb12⟩ := gotP hv 6 rfl rfl rfl
   have ov := ov.cons hgb12 (Nat.le_trans ow.kept.size bgb12) (ow.below bgb12)
   have ow := ov
   clear hv ap bs hk ov
   refine wl_store ow 0 0 (want0 rfl) rfl rfl s21 s110 (by kernel_rfl) rfl rfl rfl fun fw ow => ?_
   refine wl_value (v := .int .i64 ((vBin13 9 (vGood a1) (vGood a0)).2)) (want0 rfl) (xassign rfl s111) ?_
   refine gt7 (put_size z) (put_def q) ow 2 (pb 22 s2 rfl) 3 (pb 22 s3 rfl) 4 (pb 22 s4 rfl) 15 (pb 22 s15 rfl) 17 (pb 22 s17 rfl) 19 (pb 22 s19 rfl) 21 (pb 22 s21 rfl) fun fa fw z q ow s2 s3 s4 s15 s17 s19 s21 => ?_
   refine wl_then (hK32 _ _ ?_)
   try clear hK32 K32
   refine wp_seq_k fun K33 hK33 => ?_
   refine rgn [yV (aggV (vGood a0)), yV (aggV (vGood a1)), yV (.tuple #[aggV ((vBin13 8 (vGood a0) (vGood a1)).1), .int .i64 ((vBin13 8 (vGood a0) (vGood a1)).2)]), yV _, yV (aggV ((vBin13 8 (vGood a0) (vGood a1)).1)), yV _, yNew fw.heap.size (.cells #[.int .u8 0, .int .i64 0, .string ⟨[].toArray⟩] 25 (0, 0))] 7 190 z (by kernel_rfl) (by kernel_rfl) (
     armS (wn rfl) (fun aa ww hk bs hd => xloadN 3 rfl (by kernel_rfl) (by kernel_rfl) (bs.get 2 rfl s2) ((ow.keep hk).box 11 rfl) (Nat.le_of_ble_eq_true rfl) rfl) rfl <|
     armS (wn rfl) (fun aa ww hk bs hd => xloadN 3 rfl (by kernel_rfl) (by kernel_rfl) (bs.get 3 rfl s3) ((ow.keep hk).box 10 rfl) (Nat.le_of_ble_eq_true rfl) rfl) rfl <|
     armC (wn rfl) (fun aa ww hk bs hd => xcall3 rfl rfl (dep hd 0 rfl rfl rfl) (dep hd 1 rfl rfl rfl) (en_fnum_Binary _ _)) (fun aa ww hk bs hd => binary13_any 8 (vGood a0) (vGood a1) ww mx (HM.kept (ow.keep hk).kept) sa sb) rfl <|
     mvD 2 rfl rfl rfl rfl rfl rfl <|
     armS (wn rfl) (fun aa ww hk bs hd => xextract rfl (dep hd 3 rfl rfl rfl) rfl) rfl <|
     armS (wn rfl) (fun aa ww hk bs hd => xextract rfl (dep hd 3 rfl rfl rfl) rfl) rfl <|
     armP (wn rfl) (fun aa ww hk bs hd => xalloc rfl (by kernel_rfl)) rfl <|
     arm0) fun fa fw hk bs hv ap => ?_
   obtain ⟨z, q, ov⟩ := aft hk bs z q ow
   have s2 := bs.get 2 rfl s2
   have s3 := bs.get 3 rfl s3
   have s4 := bs.get 4 rfl s4
   have s15 := bs.get 15 rfl s15
   have s17 := bs.get 17 rfl s17
   have s19 := bs.get 19 rfl s19
   have s21 := bs.get 21 rfl s21
   have s116 := got hv 4 rfl rfl rfl
   have s117 := got hv 5 rfl rfl rfl
   obtain ⟨gb13, s23, bgb13, hgb13⟩ := gotP hv 6 rfl rfl rfl
   have ov := ov.cons hgb13 (Nat.le_trans ow.kept.size bgb13) (ow.below bgb13)
   have ow := ov
   clear hv ap bs hk ov
   refine wl_store ow 0 0 (want0 rfl) rfl rfl s23 s116 (by kernel_rfl) rfl rfl rfl fun fw ow => ?_
   refine wl_value (v := .int .i64 ((vBin13 8 (vGood a0) (vGood a1)).2)) (want0 rfl) (xassign rfl s117) ?_
   refine gt8 (put_size z) (put_def q) ow 2 (pb 24 s2 rfl) 3 (pb 24 s3 rfl) 4 (pb 24 s4 rfl) 15 (pb 24 s15 rfl) 17 (pb 24 s17 rfl) 19 (pb 24 s19 rfl) 21 (pb 24 s21 rfl) 23 (pb 24 s23 rfl) fun fa fw z q ow s2 s3 s4 s15 s17 s19 s21 s23 => ?_
   refine wl_then (hK33 _ _ ?_)
   try clear hK33 K33
   refine wp_seq_k fun K34 hK34 => ?_
   refine rgn [yV (aggV (vGood a0)), yV (aggV (vGood a1)), yV (.tuple #[aggV ((vBin13 10 (vGood a0) (vGood a1)).1), .int .i64 ((vBin13 10 (vGood a0) (vGood a1)).2)]), yV _, yV (aggV ((vBin13 10 (vGood a0) (vGood a1)).1)), yV _, yNew fw.heap.size (.cells #[.int .u8 0, .int .i64 0, .string ⟨[].toArray⟩] 25 (0, 0))] 7 190 z (by kernel_rfl) (by kernel_rfl) (
     armS (wn rfl) (fun aa ww hk bs hd => xloadN 3 rfl (by kernel_rfl) (by kernel_rfl) (bs.get 2 rfl s2) ((ow.keep hk).box 12 rfl) (Nat.le_of_ble_eq_true rfl) rfl) rfl <|
     armS (wn rfl) (fun aa ww hk bs hd => xloadN 3 rfl (by kernel_rfl) (by kernel_rfl) (bs.get 3 rfl s3) ((ow.keep hk).box 11 rfl) (Nat.le_of_ble_eq_true rfl) rfl) rfl <|
     armC (wn rfl) (fun aa ww hk bs hd => xcall3 rfl rfl (dep hd 0 rfl rfl rfl) (dep hd 1 rfl rfl rfl) (en_fnum_Binary _ _)) (fun aa ww hk bs hd => binary13_any 10 (vGood a0) (vGood a1) ww mx (HM.kept (ow.keep hk).kept) sa sb) rfl <|
     mvD 2 rfl rfl rfl rfl rfl rfl <|
     armS (wn rfl) (fun aa ww hk bs hd => xextract rfl (dep hd 3 rfl rfl rfl) rfl) rfl <|
     armS (wn rfl) (fun aa ww hk bs hd => xextract rfl (dep hd 3 rfl rfl rfl) rfl) rfl <|
     armP (wn rfl) (fun aa ww hk bs hd => xalloc rfl (by kernel_rfl)) rfl <|
     arm0) fun fa fw hk bs hv ap => ?_
   obtain ⟨z, q, ov⟩ := aft hk bs z q ow
   have s2 := bs.get 2 rfl s2
   have s3 := bs.get 3 rfl s3
   have s4 := bs.get 4 rfl s4
   have s15 := bs.get 15 rfl s15
   have s17 := bs.get 17 rfl s17
   have s19 := bs.get 19 rfl s19
   have s21 := bs.get 21 rfl s21
   have s23 := bs.get 23 rfl s23
   have s122 := got hv 4 rfl rfl rfl
   have s123 := got hv 5 rfl rfl rfl
   obtain ⟨gb14, s25, bgb14, hgb14⟩ := gotP hv 6 rfl rfl rfl
   have ov := ov.cons hgb14 (Nat.le_trans ow.kept.size bgb14) (ow.below bgb14)
   have ow := ov
   clear hv ap bs hk ov
   refine wl_store ow 0 0 (want0 rfl) rfl rfl s25 s122 (by kernel_rfl) rfl rfl rfl fun fw ow => ?_
   refine wl_value (v := .int .i64 ((vBin13 10 (vGood a0) (vGood a1)).2)) (want0 rfl) (xassign rfl s123) ?_
   refine gt9 (put_size z) (put_def q) ow 2 (pb 26 s2 rfl) 3 (pb 26 s3 rfl) 4 (pb 26 s4 rfl) 15 (pb 26 s15 rfl) 17 (pb 26 s17 rfl) 19 (pb 26 s19 rfl) 21 (pb 26 s21 rfl) 23 (pb 26 s23 rfl) 25 (pb 26 s25 rfl) fun fa fw z q ow s2 s3 s4 s15 s17 s19 s21 s23 s25 => ?_
   refine wl_then (hK34 _ _ ?_)
   try clear hK34 K34
   refine wp_seq_k fun K35 hK35 => ?_
   refine rgn [yV (aggV (vGood a0)), yV (aggV (vGood a1)), yV (.tuple #[aggV ((vBin13 12 (vGood a0) (vGood a1)).1), .int .i64 ((vBin13 12 (vGood a0) (vGood a1)).2)]), yV _, yV (aggV ((vBin13 12 (vGood a0) (vGood a1)).1)), yV _, yNew fw.heap.size (.cells #[.int .u8 0, .int .i64 0, .string ⟨[].toArray⟩] 25 (0, 0))] 7 190 z (by kernel_rfl) (by kernel_rfl) (
     armS (wn rfl) (fun aa ww hk bs hd => xloadN 3 rfl (by kernel_rfl) (by kernel_rfl) (bs.get 2 rfl s2) ((ow.keep hk).box 13 rfl) (Nat.le_of_ble_eq_true rfl) rfl) rfl <|
     armS (wn rfl) (fun aa ww hk bs hd => xloadN 3 rfl (by kernel_rfl) (by kernel_rfl) (bs.get 3 rfl s3) ((ow.keep hk).box 12 rfl) (Nat.le_of_ble_eq_true rfl) rfl) rfl <|
     armC (wn rfl) (fun aa ww hk bs hd => xcall3 rfl rfl (dep hd 0 rfl rfl rfl) (dep hd 1 rfl rfl rfl) (en_fnum_Binary _ _)) (fun aa ww hk bs hd => binary13_any 12 (vGood a0) (vGood a1) ww mx (HM.kept (ow.keep hk).kept) sa sb) rfl <|
     mvD 2 rfl rfl rfl rfl rfl rfl <|
     armS (wn rfl) (fun aa ww hk bs hd => xextract rfl (dep hd 3 rfl rfl rfl) rfl) rfl <|
     armS (wn rfl) (fun aa ww hk bs hd => xextract rfl (dep hd 3 rfl rfl rfl) rfl) rfl <|
     armP (wn rfl) (fun aa ww hk bs hd => xalloc rfl (by kernel_rfl)) rfl <|
     arm0) fun fa fw hk bs hv ap => ?_
   obtain ⟨z, q, ov⟩ := aft hk bs z q ow
   have s4 := bs.get 4 rfl s4
   have s15 := bs.get 15 rfl s15
   have s17 := bs.get 17 rfl s17
   have s19 := bs.get 19 rfl s19
   have s21 := bs.get 21 rfl s21
   have s23 := bs.get 23 rfl s23
   have s25 := bs.get 25 rfl s25
   have s128 := got hv 4 rfl rfl rfl
   have s129 := got hv 5 rfl rfl rfl
   obtain ⟨gb15, s27, bgb15, hgb15⟩ := gotP hv 6 rfl rfl rfl
   have ov := ov.cons hgb15 (Nat.le_trans ow.kept.size bgb15) (ow.below bgb15)
   have ow := ov
   clear hv ap bs hk ov
   refine wl_store ow 0 0 (want0 rfl) rfl rfl s27 s128 (by kernel_rfl) rfl rfl rfl fun fw ow => ?_
   refine wl_value (v := .int .i64 ((vBin13 12 (vGood a0) (vGood a1)).2)) (want0 rfl) (xassign rfl s129) ?_
   refine gt8 (put_size z) (put_def q) ow 4 (pb 28 s4 rfl) 15 (pb 28 s15 rfl) 17 (pb 28 s17 rfl) 19 (pb 28 s19 rfl) 21 (pb 28 s21 rfl) 23 (pb 28 s23 rfl) 25 (pb 28 s25 rfl) 27 (pb 28 s27 rfl) fun fa fw z q ow s4 s15 s17 s19 s21 s23 s25 s27 => ?_
   refine wl_then (hK35 _ _ ?_)
   try clear hK35 K35
   refine wp_seq_k fun K36 hK36 => ?_
   refine rgn [yV (.pointer (some ⟨gb9, 1, none⟩)), yV _, yV (.pointer (some ⟨gb10, 1, none⟩)), yV _, yV _, yV (.pointer (some ⟨gb11, 1, none⟩)), yV _, yV _, yV (.bool true), yV _, yV (aggV ((vBin13 11 (vGood a0) (vGood a1)).1)), yV (aggV ((vBin13 9 (vGood a1) (vGood a0)).1)), yV (.bool true), yV _, yV _, yV (.pointer (some ⟨gb13, 1, none⟩)), yV _, yV (.pointer (some ⟨gb10, 1, none⟩)), yV _, yV _, yV (.bool true), yV _, yV _, yV (.pointer (some ⟨gb14, 1, none⟩)), yV _, yV (.pointer (some ⟨gb9, 1, none⟩)), yV _, yV (.pointer (some ⟨gb10, 1, none⟩)), yV _, yV _, yV (.bool true), yV _, yV _, yV (.pointer (some ⟨gb15, 1, none⟩)), yV _, yV (.pointer (some ⟨gb11, 1, none⟩)), yV _, yV (.pointer (some ⟨gb10, 1, none⟩)), yV _, yV _, yV (.bool true), yV _, yV _, yV (.pointer (some ⟨gb9, 0, none⟩)), yV _, yV (.bool true), yV _, yV _, yV (.pointer (some ⟨gb10, 0, none⟩)), yV _, yV (.bool true), yV _, yV _, yV (.pointer (some ⟨gb11, 0, none⟩)), yV _, yV (.bool true), yV _, yV _, yV (.bool true), yV _, yV _] 61 190 z (by kernel_rfl) (by kernel_rfl) (
     armS (wn rfl) (fun aa ww hk bs hd => xfieldAddr rfl (bs.get 15 rfl s15) (by kernel_rfl)) rfl <|
     armS (wn rfl) (fun aa ww hk bs hd => xloadB rfl (by kernel_rfl) (dep hd 0 rfl rfl rfl) ((ow.keep hk).box 6 rfl) rfl) rfl <|
     armS (wn rfl) (fun aa ww hk bs hd => xfieldAddr rfl (bs.get 17 rfl s17) (by kernel_rfl)) rfl <|
     armS (wn rfl) (fun aa ww hk bs hd => xloadB rfl (by kernel_rfl) (dep hd 2 rfl rfl rfl) ((ow.keep hk).box 5 rfl) rfl) rfl <|
     armS (wn rfl) (fun aa ww hk bs hd => xadd (Or.inr rfl) rfl (dep hd 1 rfl rfl rfl) (dep hd 3 rfl rfl rfl) (by rw [b9_, b7_, tn, tn]; (repeat' split) <;> omega) (by rw [b9_, b7_, tn, tn]; (repeat' split) <;> omega)) rfl <|
     armS (wn rfl) (fun aa ww hk bs hd => xfieldAddr rfl (bs.get 19 rfl s19) (by kernel_rfl)) rfl <|
     armS (wn rfl) (fun aa ww hk bs hd => xloadB rfl (by kernel_rfl) (dep hd 5 rfl rfl rfl) ((ow.keep hk).box 4 rfl) rfl) rfl <|
     armS (wn rfl) (fun aa ww hk bs hd => xadd (Or.inr rfl) rfl (dep hd 4 rfl rfl rfl) (dep hd 6 rfl rfl rfl) (by rw [b9_, b7_, b11_, tn, tn, tn]; (repeat' split) <;> omega) (by rw [b9_, b7_, b11_, tn, tn, tn]; (repeat' split) <;> omega)) rfl <|
     armE (wn rfl) (fun aa ww hk bs hd => xeqi rfl (dep hd 7 rfl rfl rfl) rfl) (congrArg Value.bool (decide_eq_true (by rw [b9_, b7_, b11_, tn, tn, tn]; simp only [decide_eq_true_eq]; (repeat' split) <;> omega))) rfl <|
     mvD 8 rfl rfl rfl rfl rfl rfl <|
     armS (wg (j := 9) (b := true) rfl rfl rfl) (fun aa ww hk bs hd => xloadN 3 rfl (by kernel_rfl) (by kernel_rfl) (bs.get 19 rfl s19) ((ow.keep hk).box 4 rfl) (Nat.le_of_ble_eq_true rfl) rfl) rfl <|
     armS (wg (j := 9) (b := true) rfl rfl rfl) (fun aa ww hk bs hd => xloadN 3 rfl (by kernel_rfl) (by kernel_rfl) (bs.get 21 rfl s21) ((ow.keep hk).box 3 rfl) (Nat.le_of_ble_eq_true rfl) rfl) rfl <|
     armE (wg (j := 9) (b := true) rfl rfl rfl) (fun aa ww hk bs hd => xeqv rfl (dep hd 10 rfl rfl rfl) (dep hd 11 rfl rfl rfl)) (congrArg Value.bool (sameV_of (by rw [b11_, b9r_]))) rfl <|
     armS (wn rfl) (fun aa ww hk bs hd => xpickT rfl (dep hd 9 rfl rfl rfl) (dep hd 12 rfl rfl rfl)) rfl <|
     mvD 13 rfl rfl rfl rfl rfl rfl <|
     armS (wg (j := 14) (b := true) rfl rfl rfl) (fun aa ww hk bs hd => xfieldAddr rfl (bs.get 23 rfl s23) (by kernel_rfl)) rfl <|
     armS (wg (j := 14) (b := true) rfl rfl rfl) (fun aa ww hk bs hd => xloadB rfl (by kernel_rfl) (dep hd 15 rfl rfl rfl) ((ow.keep hk).box 2 rfl) rfl) rfl <|
     armS (wg (j := 14) (b := true) rfl rfl rfl) (fun aa ww hk bs hd => xfieldAddr rfl (bs.get 17 rfl s17) (by kernel_rfl)) rfl <|
     armS (wg (j := 14) (b := true) rfl rfl rfl) (fun aa ww hk bs hd => xloadB rfl (by kernel_rfl) (dep hd 17 rfl rfl rfl) ((ow.keep hk).box 5 rfl) rfl) rfl <|
     armS (wg (j := 14) (b := true) rfl rfl rfl) (fun aa ww hk bs hd => xsub (Or.inr rfl) rfl rfl (dep hd 18 rfl rfl rfl) (by rw [b7_, tn]; (repeat' split) <;> omega) (by rw [b7_, tn]; (repeat' split) <;> omega)) rfl <|
     armE (wg (j := 14) (b := true) rfl rfl rfl) (fun aa ww hk bs hd => xeqi rfl (dep hd 16 rfl rfl rfl) (dep hd 19 rfl rfl rfl)) (congrArg Value.bool (decide_eq_true (by rw [b8_, b7_, tn, tn]; simp only [decide_eq_true_eq]; (repeat' split) <;> omega))) rfl <|
     armS (wn rfl) (fun aa ww hk bs hd => xpickT rfl (dep hd 14 rfl rfl rfl) (dep hd 20 rfl rfl rfl)) rfl <|
     mvD 21 rfl rfl rfl rfl rfl rfl <|
     armS (wg (j := 22) (b := true) rfl rfl rfl) (fun aa ww hk bs hd => xfieldAddr rfl (bs.get 25 rfl s25) (by kernel_rfl)) rfl <|
     armS (wg (j := 22) (b := true) rfl rfl rfl) (fun aa ww hk bs hd => xloadB rfl (by kernel_rfl) (dep hd 23 rfl rfl rfl) ((ow.keep hk).box 1 rfl) rfl) rfl <|
     armS (wg (j := 22) (b := true) rfl rfl rfl) (fun aa ww hk bs hd => xfieldAddr rfl (bs.get 15 rfl s15) (by kernel_rfl)) rfl <|
     armS (wg (j := 22) (b := true) rfl rfl rfl) (fun aa ww hk bs hd => xloadB rfl (by kernel_rfl) (dep hd 25 rfl rfl rfl) ((ow.keep hk).box 6 rfl) rfl) rfl <|
     armS (wg (j := 22) (b := true) rfl rfl rfl) (fun aa ww hk bs hd => xfieldAddr rfl (bs.get 17 rfl s17) (by kernel_rfl)) rfl <|
     armS (wg (j := 22) (b := true) rfl rfl rfl) (fun aa ww hk bs hd => xloadB rfl (by kernel_rfl) (dep hd 27 rfl rfl rfl) ((ow.keep hk).box 5 rfl) rfl) rfl <|
     armS (wg (j := 22) (b := true) rfl rfl rfl) (fun aa ww hk bs hd => xadd (Or.inr rfl) rfl (dep hd 26 rfl rfl rfl) (dep hd 28 rfl rfl rfl) (by rw [b9_, b7_, tn, tn]; (repeat' split) <;> omega) (by rw [b9_, b7_, tn, tn]; (repeat' split) <;> omega)) rfl <|
     armE (wg (j := 22) (b := true) rfl rfl rfl) (fun aa ww hk bs hd => xeqi rfl (dep hd 24 rfl rfl rfl) (dep hd 29 rfl rfl rfl)) (congrArg Value.bool (decide_eq_true (by rw [b10_, b9_, b7_, tn, tn, tn]; simp only [decide_eq_true_eq]; (repeat' split) <;> omega))) rfl <|
     armS (wn rfl) (fun aa ww hk bs hd => xpickT rfl (dep hd 22 rfl rfl rfl) (dep hd 30 rfl rfl rfl)) rfl <|
     mvD 31 rfl rfl rfl rfl rfl rfl <|
     armS (wg (j := 32) (b := true) rfl rfl rfl) (fun aa ww hk bs hd => xfieldAddr rfl (bs.get 27 rfl s27) (by kernel_rfl)) rfl <|
     armS (wg (j := 32) (b := true) rfl rfl rfl) (fun aa ww hk bs hd => xloadB rfl (by kernel_rfl) (dep hd 33 rfl rfl rfl) ((ow.keep hk).box 0 rfl) rfl) rfl <|
     armS (wg (j := 32) (b := true) rfl rfl rfl) (fun aa ww hk bs hd => xfieldAddr rfl (bs.get 19 rfl s19) (by kernel_rfl)) rfl <|
     armS (wg (j := 32) (b := true) rfl rfl rfl) (fun aa ww hk bs hd => xloadB rfl (by kernel_rfl) (dep hd 35 rfl rfl rfl) ((ow.keep hk).box 4 rfl) rfl) rfl <|
     armS (wg (j := 32) (b := true) rfl rfl rfl) (fun aa ww hk bs hd => xfieldAddr rfl (bs.get 17 rfl s17) (by kernel_rfl)) rfl <|
     armS (wg (j := 32) (b := true) rfl rfl rfl) (fun aa ww hk bs hd => xloadB rfl (by kernel_rfl) (dep hd 37 rfl rfl rfl) ((ow.keep hk).box 5 rfl) rfl) rfl <|
     armS (wg (j := 32) (b := true) rfl rfl rfl) (fun aa ww hk bs hd => xadd (Or.inr rfl) rfl (dep hd 36 rfl rfl rfl) (dep hd 38 rfl rfl rfl) (by rw [b11_, b7_, tn, tn]; (repeat' split) <;> omega) (by rw [b11_, b7_, tn, tn]; (repeat' split) <;> omega)) rfl <|
     armE (wg (j := 32) (b := true) rfl rfl rfl) (fun aa ww hk bs hd => xeqi rfl (dep hd 34 rfl rfl rfl) (dep hd 39 rfl rfl rfl)) (congrArg Value.bool (decide_eq_true (by rw [b12_, b11_, b7_, tn, tn, tn]; simp only [decide_eq_true_eq]; (repeat' split) <;> omega))) rfl <|
     armS (wn rfl) (fun aa ww hk bs hd => xpickT rfl (dep hd 32 rfl rfl rfl) (dep hd 40 rfl rfl rfl)) rfl <|
     mvD 41 rfl rfl rfl rfl rfl rfl <|
     armS (wg (j := 42) (b := true) rfl rfl rfl) (fun aa ww hk bs hd => xfieldAddr rfl (bs.get 15 rfl s15) (by kernel_rfl)) rfl <|
     armS (wg (j := 42) (b := true) rfl rfl rfl) (fun aa ww hk bs hd => xloadB rfl (by kernel_rfl) (dep hd 43 rfl rfl rfl) ((ow.keep hk).box 6 rfl) rfl) rfl <|
     armE (wg (j := 42) (b := true) rfl rfl rfl) (fun aa ww hk bs hd => xeqi rfl (dep hd 44 rfl rfl rfl) rfl) (congrArg Value.bool (decide_eq_true (by rw [b9_]; rfl))) rfl <|
     armS (wn rfl) (fun aa ww hk bs hd => xpickT rfl (dep hd 42 rfl rfl rfl) (dep hd 45 rfl rfl rfl)) rfl <|
     mvD 46 rfl rfl rfl rfl rfl rfl <|
     armS (wg (j := 47) (b := true) rfl rfl rfl) (fun aa ww hk bs hd => xfieldAddr rfl (bs.get 17 rfl s17) (by kernel_rfl)) rfl <|
     armS (wg (j := 47) (b := true) rfl rfl rfl) (fun aa ww hk bs hd => xloadB rfl (by kernel_rfl) (dep hd 48 rfl rfl rfl) ((ow.keep hk).box 5 rfl) rfl) rfl <|
     armE (wg (j := 47) (b := true) rfl rfl rfl) (fun aa ww hk bs hd => xeqi rfl (dep hd 49 rfl rfl rfl) rfl) (congrArg Value.bool (decide_eq_true (by rw [b7_]; rfl))) rfl <|
     armS (wn rfl) (fun aa ww hk bs hd => xpickT rfl (dep hd 47 rfl rfl rfl) (dep hd 50 rfl rfl rfl)) rfl <|
     mvD 51 rfl rfl rfl rfl rfl rfl <|
     armS (wg (j := 52) (b := true) rfl rfl rfl) (fun aa ww hk bs hd => xfieldAddr rfl (bs.get 19 rfl s19) (by kernel_rfl)) rfl <|
     armS (wg (j := 52) (b := true) rfl rfl rfl) (fun aa ww hk bs hd => xloadB rfl (by kernel_rfl) (dep hd 53 rfl rfl rfl) ((ow.keep hk).box 4 rfl) rfl) rfl <|
     armE (wg (j := 52) (b := true) rfl rfl rfl) (fun aa ww hk bs hd => xeqi rfl (dep hd 54 rfl rfl rfl) rfl) (congrArg Value.bool (decide_eq_true (by rw [b11_]; rfl))) rfl <|
     armS (wn rfl) (fun aa ww hk bs hd => xpickT rfl (dep hd 52 rfl rfl rfl) (dep hd 55 rfl rfl rfl)) rfl <|
     mvD 56 rfl rfl rfl rfl rfl rfl <|
     armC (wg (j := 57) (b := true) rfl rfl rfl) (fun aa ww hk bs hd => xcall0 rfl (en_louvrelaw13_awake _ _)) (fun aa ww hk bs hd => awake13_any ww mx (HM.kept (ow.keep hk).kept)) rfl <|
     armS (wn rfl) (fun aa ww hk bs hd => xpickT rfl (dep hd 57 rfl rfl rfl) (dep hd 58 rfl rfl rfl)) rfl <|
     asD 59 rfl rfl rfl rfl rfl rfl <|
     arm0) fun fa fw hk bs hv ap => ?_
   obtain ⟨z, q, ov⟩ := aft hk bs z q ow
   have s4 := got hv 60 rfl rfl rfl
   have ow := ov
   clear hv ap bs hk ov
   refine wl_then (hK36 _ _ ?_)
   try clear hK36 K36
   refine wp_ret ?_
   refine results_one rfl (res_tmp s4) q ?_
   exact ⟨rfl, ow.kept⟩
  refine wp_cond_false (s40.trans (congrArg Value.bool (Bool.eq_false_iff.2 (fun c => hc1 ((band (decide_eq_true_iff) (decide_eq_true_iff)).1 c))))) ?_
  refine wp_skip ?_
  refine then_n (hK3 _ _ ?_)
  try clear hK3 K3
  refine wp_seq_k fun K37 hK37 => ?_
  refine wp_seq_k fun K38 hK38 => ?_
  refine rgn [yV (.pointer (some ⟨gb1, 0, none⟩)), yV _, yV _, yV _, yIf (((decide (((vGood a0).k : Int) = (4 : Int))) = false)) (yV (.pointer (some ⟨gb2, 0, none⟩))), yIf (((decide (((vGood a0).k : Int) = (4 : Int))) = false)) (yV (.int .u8 ((vGood a1).k))), yIf (((decide (((vGood a0).k : Int) = (4 : Int))) = false)) (yV (.bool (decide (((vGood a1).k : Int) = (4 : Int))))), yV _] 8 190 z (by kernel_rfl) (by kernel_rfl) (
    armS (wn rfl) (fun aa ww hk bs hd => xfieldAddr rfl (bs.get 2 rfl s2) (by kernel_rfl)) rfl <|
    armS (wn rfl) (fun aa ww hk bs hd => xloadB rfl (by kernel_rfl) (dep hd 0 rfl rfl rfl) ((ow.keep hk).box 1 rfl) rfl) rfl <|
    armS (wn rfl) (fun aa ww hk bs hd => xeqi rfl (dep hd 1 rfl rfl rfl) rfl) rfl <|
    mvD 2 rfl rfl rfl rfl rfl rfl <|
    arm (fun aa ww hk bs hd => by
      have d3 : aa.eval (.tmp 82) = .bool (decide (((vGood a0).k : Int) = (4 : Int))) := depX hd 3 rfl
      by_cases hz : ((decide (((vGood a0).k : Int) = (4 : Int))) = false)
      · exact stepX_same (v := .pointer (some ⟨gb2, 0, none⟩)) (want1 (j := 3) (b := false) rfl (d3.trans (congrArg Value.bool hz))) (xfieldAddr rfl (bs.get 3 rfl s3) (by kernel_rfl)) ⟨fun _ => rfl, fun c => absurd hz c⟩ rfl
      · exact stepX_skip (wantN (j := 3) (b := false) (b' := true) rfl (d3.trans (congrArg Value.bool ((Bool.not_eq_false _).mp hz))) rfl) ⟨fun c => absurd c hz, fun _ => rfl⟩ rfl
      ) <|
    arm (fun aa ww hk bs hd => by
      have d3 : aa.eval (.tmp 82) = .bool (decide (((vGood a0).k : Int) = (4 : Int))) := depX hd 3 rfl
      have d4 : (((decide (((vGood a0).k : Int) = (4 : Int))) = false) → aa.eval (.tmp 83) = .pointer (some ⟨gb2, 0, none⟩)) ∧ (¬ (((decide (((vGood a0).k : Int) = (4 : Int))) = false)) → aa.eval (.tmp 83) = undef) := depX hd 4 rfl
      by_cases hz : ((decide (((vGood a0).k : Int) = (4 : Int))) = false)
      · exact stepX_same (v := .int .u8 ((vGood a1).k)) (want1 (j := 3) (b := false) rfl (d3.trans (congrArg Value.bool hz))) (xloadB rfl (by kernel_rfl) (d4.1 hz) ((ow.keep hk).box 0 rfl) rfl) ⟨fun _ => rfl, fun c => absurd hz c⟩ rfl
      · exact stepX_skip (wantN (j := 3) (b := false) (b' := true) rfl (d3.trans (congrArg Value.bool ((Bool.not_eq_false _).mp hz))) rfl) ⟨fun c => absurd c hz, fun _ => rfl⟩ rfl
      ) <|
    arm (fun aa ww hk bs hd => by
      have d3 : aa.eval (.tmp 82) = .bool (decide (((vGood a0).k : Int) = (4 : Int))) := depX hd 3 rfl
      have d5 : (((decide (((vGood a0).k : Int) = (4 : Int))) = false) → aa.eval (.tmp 84) = .int .u8 ((vGood a1).k)) ∧ (¬ (((decide (((vGood a0).k : Int) = (4 : Int))) = false)) → aa.eval (.tmp 84) = undef) := depX hd 5 rfl
      by_cases hz : ((decide (((vGood a0).k : Int) = (4 : Int))) = false)
      · exact stepX_same (v := .bool (decide (((vGood a1).k : Int) = (4 : Int)))) (want1 (j := 3) (b := false) rfl (d3.trans (congrArg Value.bool hz))) (xeqi rfl (d5.1 hz) rfl) ⟨fun _ => rfl, fun c => absurd hz c⟩ rfl
      · exact stepX_skip (wantN (j := 3) (b := false) (b' := true) rfl (d3.trans (congrArg Value.bool ((Bool.not_eq_false _).mp hz))) rfl) ⟨fun c => absurd c hz, fun _ => rfl⟩ rfl
      ) <|
    arm (fun aa ww hk bs hd => by
      have d3 : aa.eval (.tmp 82) = .bool (decide (((vGood a0).k : Int) = (4 : Int))) := depX hd 3 rfl
      have d6 : (((decide (((vGood a0).k : Int) = (4 : Int))) = false) → aa.eval (.tmp 85) = .bool (decide (((vGood a1).k : Int) = (4 : Int)))) ∧ (¬ (((decide (((vGood a0).k : Int) = (4 : Int))) = false)) → aa.eval (.tmp 85) = undef) := depX hd 6 rfl
      exact stepX_same (v := .bool ((decide (((vGood a0).k : Int) = (4 : Int))) || (decide (((vGood a1).k : Int) = (4 : Int))))) (want0 rfl) (xor_ rfl (d3) rfl (fun hb => d6.1 hb)) rfl rfl
      ) <|
    arm0) fun fa fw hk bs hv ap => ?_
  obtain ⟨z, q, ov⟩ := aft hk bs z q ow
  have s2 := bs.get 2 rfl s2
  have s3 := bs.get 3 rfl s3
  have s4 := bs.get 4 rfl s4
  have s86 := got hv 7 rfl rfl rfl
  have ow := ov
  clear hv ap bs hk ov
  refine wl_then (hK38 _ _ ?_)
  try clear hK38 K38
  by_cases hc3 : (((vGood a0).k : Int) = (4 : Int)) ∨ (((vGood a1).k : Int) = (4 : Int))
  ·refine wp_cond_true (s86.trans (congrArg Value.bool ((bor (decide_eq_true_iff) (decide_eq_true_iff)).2 hc3))) ?_
   refine wp_seq_k fun K39 hK39 => ?_
   refine rgn [yV (.bool true), yV _] 2 190 z (by kernel_rfl) (by kernel_rfl) (
     armC (wn rfl) (fun aa ww hk bs hd => xcall0 rfl (en_louvrelaw13_awake _ _)) (fun aa ww hk bs hd => awake13_any ww mx (HM.kept (ow.keep hk).kept)) rfl <|
     asD 0 rfl rfl rfl rfl rfl rfl <|
     arm0) fun fa fw hk bs hv ap => ?_
   obtain ⟨z, q, ov⟩ := aft hk bs z q ow
   have s2 := bs.get 2 rfl s2
   have s3 := bs.get 3 rfl s3
   have s4 := got hv 1 rfl rfl rfl
   have ow := ov
   clear hv ap bs hk ov
   refine wl_then (hK39 _ _ ?_)
   try clear hK39 K39
   refine wp_ret ?_
   refine then_r ?_
   refine results_one rfl (res_tmp s4) q ?_
   exact ⟨rfl, ow.kept⟩
  refine wp_cond_false (s86.trans (congrArg Value.bool (Bool.eq_false_iff.2 (fun c => hc3 ((bor (decide_eq_true_iff) (decide_eq_true_iff)).1 c))))) ?_
  refine wp_skip ?_
  refine then_n (hK37 _ _ ?_)
  try clear hK37 K37
  refine wp_seq_k fun K40 hK40 => ?_
  have ka : (vGood a0).k ≠ 4 := by omega
  have kb : (vGood a1).k ≠ 4 := by omega
  have b7_ := b7 oa ob ka kb
  have b8_ := b8 oa ob ka kb
  have b9_ := b9 oa ob ka kb
  have b10_ := b10 oa ob ka kb
  have b11_ := b11 oa ob ka kb
  have b12_ := b12 oa ob ka kb
  have b9r_ := b9r oa ob ka kb
  refine rgn [yV (aggV (vGood a0)), yV (aggV (vGood a1)), yV (.tuple #[aggV ((vBin13 9 (vGood a0) (vGood a1)).1), .int .i64 ((vBin13 9 (vGood a0) (vGood a1)).2)]), yV _, yV (aggV ((vBin13 9 (vGood a0) (vGood a1)).1)), yV _, yNew fw.heap.size (.cells #[.int .u8 0, .int .i64 0, .string ⟨[].toArray⟩] 25 (0, 0))] 7 190 z (by kernel_rfl) (by kernel_rfl) (
    armS (wn rfl) (fun aa ww hk bs hd => xloadN 3 rfl (by kernel_rfl) (by kernel_rfl) (bs.get 2 rfl s2) ((ow.keep hk).box 1 rfl) (Nat.le_of_ble_eq_true rfl) rfl) rfl <|
    armS (wn rfl) (fun aa ww hk bs hd => xloadN 3 rfl (by kernel_rfl) (by kernel_rfl) (bs.get 3 rfl s3) ((ow.keep hk).box 0 rfl) (Nat.le_of_ble_eq_true rfl) rfl) rfl <|
    armC (wn rfl) (fun aa ww hk bs hd => xcall3 rfl rfl (dep hd 0 rfl rfl rfl) (dep hd 1 rfl rfl rfl) (en_fnum_Binary _ _)) (fun aa ww hk bs hd => binary13_any 9 (vGood a0) (vGood a1) ww mx (HM.kept (ow.keep hk).kept) sa sb) rfl <|
    mvD 2 rfl rfl rfl rfl rfl rfl <|
    armS (wn rfl) (fun aa ww hk bs hd => xextract rfl (dep hd 3 rfl rfl rfl) rfl) rfl <|
    armS (wn rfl) (fun aa ww hk bs hd => xextract rfl (dep hd 3 rfl rfl rfl) rfl) rfl <|
    armP (wn rfl) (fun aa ww hk bs hd => xalloc rfl (by kernel_rfl)) rfl <|
    arm0) fun fa fw hk bs hv ap => ?_
  obtain ⟨z, q, ov⟩ := aft hk bs z q ow
  have s2 := bs.get 2 rfl s2
  have s3 := bs.get 3 rfl s3
  have s4 := bs.get 4 rfl s4
  have s92 := got hv 4 rfl rfl rfl
  have s93 := got hv 5 rfl rfl rfl
  obtain ⟨gb16, s15, bgb16, hgb16⟩ := gotP hv 6 rfl rfl rfl
  have ov := ov.cons hgb16 (Nat.le_trans ow.kept.size bgb16) (ow.below bgb16)
  have ow := ov
  clear hv ap bs hk ov
  refine wl_store ow 0 0 (want0 rfl) rfl rfl s15 s92 (by kernel_rfl) rfl rfl rfl fun fw ow => ?_
  refine wl_value (v := .int .i64 ((vBin13 9 (vGood a0) (vGood a1)).2)) (want0 rfl) (xassign rfl s93) ?_
  refine gt4 (put_size z) (put_def q) ow 2 (pb 16 s2 rfl) 3 (pb 16 s3 rfl) 4 (pb 16 s4 rfl) 15 (pb 16 s15 rfl) fun fa fw z q ow s2 s3 s4 s15 => ?_
  refine wl_then (hK40 _ _ ?_)
  try clear hK40 K40
  refine wp_seq_k fun K41 hK41 => ?_
  refine rgn [yV (aggV (vGood a0)), yV (aggV (vGood a1)), yV (.tuple #[aggV ((vBin13 7 (vGood a0) (vGood a1)).1), .int .i64 ((vBin13 7 (vGood a0) (vGood a1)).2)]), yV _, yV (aggV ((vBin13 7 (vGood a0) (vGood a1)).1)), yV _, yNew fw.heap.size (.cells #[.int .u8 0, .int .i64 0, .string ⟨[].toArray⟩] 25 (0, 0))] 7 190 z (by kernel_rfl) (by kernel_rfl) (
    armS (wn rfl) (fun aa ww hk bs hd => xloadN 3 rfl (by kernel_rfl) (by kernel_rfl) (bs.get 2 rfl s2) ((ow.keep hk).box 2 rfl) (Nat.le_of_ble_eq_true rfl) rfl) rfl <|
    armS (wn rfl) (fun aa ww hk bs hd => xloadN 3 rfl (by kernel_rfl) (by kernel_rfl) (bs.get 3 rfl s3) ((ow.keep hk).box 1 rfl) (Nat.le_of_ble_eq_true rfl) rfl) rfl <|
    armC (wn rfl) (fun aa ww hk bs hd => xcall3 rfl rfl (dep hd 0 rfl rfl rfl) (dep hd 1 rfl rfl rfl) (en_fnum_Binary _ _)) (fun aa ww hk bs hd => binary13_any 7 (vGood a0) (vGood a1) ww mx (HM.kept (ow.keep hk).kept) sa sb) rfl <|
    mvD 2 rfl rfl rfl rfl rfl rfl <|
    armS (wn rfl) (fun aa ww hk bs hd => xextract rfl (dep hd 3 rfl rfl rfl) rfl) rfl <|
    armS (wn rfl) (fun aa ww hk bs hd => xextract rfl (dep hd 3 rfl rfl rfl) rfl) rfl <|
    armP (wn rfl) (fun aa ww hk bs hd => xalloc rfl (by kernel_rfl)) rfl <|
    arm0) fun fa fw hk bs hv ap => ?_
  obtain ⟨z, q, ov⟩ := aft hk bs z q ow
  have s2 := bs.get 2 rfl s2
  have s3 := bs.get 3 rfl s3
  have s4 := bs.get 4 rfl s4
  have s15 := bs.get 15 rfl s15
  have s98 := got hv 4 rfl rfl rfl
  have s99 := got hv 5 rfl rfl rfl
  obtain ⟨gb17, s17, bgb17, hgb17⟩ := gotP hv 6 rfl rfl rfl
  have ov := ov.cons hgb17 (Nat.le_trans ow.kept.size bgb17) (ow.below bgb17)
  have ow := ov
  clear hv ap bs hk ov
  refine wl_store ow 0 0 (want0 rfl) rfl rfl s17 s98 (by kernel_rfl) rfl rfl rfl fun fw ow => ?_
  refine wl_value (v := .int .i64 ((vBin13 7 (vGood a0) (vGood a1)).2)) (want0 rfl) (xassign rfl s99) ?_
  refine gt5 (put_size z) (put_def q) ow 2 (pb 18 s2 rfl) 3 (pb 18 s3 rfl) 4 (pb 18 s4 rfl) 15 (pb 18 s15 rfl) 17 (pb 18 s17 rfl) fun fa fw z q ow s2 s3 s4 s15 s17 => ?_
  refine wl_then (hK41 _ _ ?_)
  try clear hK41 K41
  refine wp_seq_k fun K42 hK42 => ?_
  refine rgn [yV (aggV (vGood a0)), yV (aggV (vGood a1)), yV (.tuple #[aggV ((vBin13 11 (vGood a0) (vGood a1)).1), .int .i64 ((vBin13 11 (vGood a0) (vGood a1)).2)]), yV _, yV (aggV ((vBin13 11 (vGood a0) (vGood a1)).1)), yV _, yNew fw.heap.size (.cells #[.int .u8 0, .int .i64 0, .string ⟨[].toArray⟩] 25 (0, 0))] 7 190 z (by kernel_rfl) (by kernel_rfl) (
    armS (wn rfl) (fun aa ww hk bs hd => xloadN 3 rfl (by kernel_rfl) (by kernel_rfl) (bs.get 2 rfl s2) ((ow.keep hk).box 3 rfl) (Nat.le_of_ble_eq_true rfl) rfl) rfl <|
    armS (wn rfl) (fun aa ww hk bs hd => xloadN 3 rfl (by kernel_rfl) (by kernel_rfl) (bs.get 3 rfl s3) ((ow.keep hk).box 2 rfl) (Nat.le_of_ble_eq_true rfl) rfl) rfl <|
    armC (wn rfl) (fun aa ww hk bs hd => xcall3 rfl rfl (dep hd 0 rfl rfl rfl) (dep hd 1 rfl rfl rfl) (en_fnum_Binary _ _)) (fun aa ww hk bs hd => binary13_any 11 (vGood a0) (vGood a1) ww mx (HM.kept (ow.keep hk).kept) sa sb) rfl <|
    mvD 2 rfl rfl rfl rfl rfl rfl <|
    armS (wn rfl) (fun aa ww hk bs hd => xextract rfl (dep hd 3 rfl rfl rfl) rfl) rfl <|
    armS (wn rfl) (fun aa ww hk bs hd => xextract rfl (dep hd 3 rfl rfl rfl) rfl) rfl <|
    armP (wn rfl) (fun aa ww hk bs hd => xalloc rfl (by kernel_rfl)) rfl <|
    arm0) fun fa fw hk bs hv ap => ?_
  obtain ⟨z, q, ov⟩ := aft hk bs z q ow
  have s2 := bs.get 2 rfl s2
  have s3 := bs.get 3 rfl s3
  have s4 := bs.get 4 rfl s4
  have s15 := bs.get 15 rfl s15
  have s17 := bs.get 17 rfl s17
  have s104 := got hv 4 rfl rfl rfl
  have s105 := got hv 5 rfl rfl rfl
  obtain ⟨gb18, s19, bgb18, hgb18⟩ := gotP hv 6 rfl rfl rfl
  have ov := ov.cons hgb18 (Nat.le_trans ow.kept.size bgb18) (ow.below bgb18)
  have ow := ov
  clear hv ap bs hk ov
  refine wl_store ow 0 0 (want0 rfl) rfl rfl s19 s104 (by kernel_rfl) rfl rfl rfl fun fw ow => ?_
  refine wl_value (v := .int .i64 ((vBin13 11 (vGood a0) (vGood a1)).2)) (want0 rfl) (xassign rfl s105) ?_
  refine gt6 (put_size z) (put_def q) ow 2 (pb 20 s2 rfl) 3 (pb 20 s3 rfl) 4 (pb 20 s4 rfl) 15 (pb 20 s15 rfl) 17 (pb 20 s17 rfl) 19 (pb 20 s19 rfl) fun fa fw z q ow s2 s3 s4 s15 s17 s19 => ?_
  refine wl_then (hK42 _ _ ?_)
  try clear hK42 K42
  refine wp_seq_k fun K43 hK43 => ?_
  refine rgn [yV (aggV (vGood a1)), yV (aggV (vGood a0)), yV (.tuple #[aggV ((vBin13 9 (vGood a1) (vGood a0)).1), .int .i64 ((vBin13 9 (vGood a1) (vGood a0)).2)]), yV _, yV (aggV ((vBin13 9 (vGood a1) (vGood a0)).1)), yV _, yNew fw.heap.size (.cells #[.int .u8 0, .int .i64 0, .string ⟨[].toArray⟩] 25 (0, 0))] 7 190 z (by kernel_rfl) (by kernel_rfl) (
    armS (wn rfl) (fun aa ww hk bs hd => xloadN 3 rfl (by kernel_rfl) (by kernel_rfl) (bs.get 3 rfl s3) ((ow.keep hk).box 3 rfl) (Nat.le_of_ble_eq_true rfl) rfl) rfl <|
    armS (wn rfl) (fun aa ww hk bs hd => xloadN 3 rfl (by kernel_rfl) (by kernel_rfl) (bs.get 2 rfl s2) ((ow.keep hk).box 4 rfl) (Nat.le_of_ble_eq_true rfl) rfl) rfl <|
    armC (wn rfl) (fun aa ww hk bs hd => xcall3 rfl rfl (dep hd 0 rfl rfl rfl) (dep hd 1 rfl rfl rfl) (en_fnum_Binary _ _)) (fun aa ww hk bs hd => binary13_any 9 (vGood a1) (vGood a0) ww mx (HM.kept (ow.keep hk).kept) sb sa) rfl <|
    mvD 2 rfl rfl rfl rfl rfl rfl <|
    armS (wn rfl) (fun aa ww hk bs hd => xextract rfl (dep hd 3 rfl rfl rfl) rfl) rfl <|
    armS (wn rfl) (fun aa ww hk bs hd => xextract rfl (dep hd 3 rfl rfl rfl) rfl) rfl <|
    armP (wn rfl) (fun aa ww hk bs hd => xalloc rfl (by kernel_rfl)) rfl <|
    arm0) fun fa fw hk bs hv ap => ?_
  obtain ⟨z, q, ov⟩ := aft hk bs z q ow
  have s2 := bs.get 2 rfl s2
  have s3 := bs.get 3 rfl s3
  have s4 := bs.get 4 rfl s4
  have s15 := bs.get 15 rfl s15
  have s17 := bs.get 17 rfl s17
  have s19 := bs.get 19 rfl s19
  have s110 := got hv 4 rfl rfl rfl
  have s111 := got hv 5 rfl rfl rfl
  obtain ⟨gb19, s21, bgb19, hgb19⟩ := gotP hv 6 rfl rfl rfl
  have ov := ov.cons hgb19 (Nat.le_trans ow.kept.size bgb19) (ow.below bgb19)
  have ow := ov
  clear hv ap bs hk ov
  refine wl_store ow 0 0 (want0 rfl) rfl rfl s21 s110 (by kernel_rfl) rfl rfl rfl fun fw ow => ?_
  refine wl_value (v := .int .i64 ((vBin13 9 (vGood a1) (vGood a0)).2)) (want0 rfl) (xassign rfl s111) ?_
  refine gt7 (put_size z) (put_def q) ow 2 (pb 22 s2 rfl) 3 (pb 22 s3 rfl) 4 (pb 22 s4 rfl) 15 (pb 22 s15 rfl) 17 (pb 22 s17 rfl) 19 (pb 22 s19 rfl) 21 (pb 22 s21 rfl) fun fa fw z q ow s2 s3 s4 s15 s17 s19 s21 => ?_
  refine wl_then (hK43 _ _ ?_)
  try clear hK43 K43
  refine wp_seq_k fun K44 hK44 => ?_
  refine rgn [yV (aggV (vGood a0)), yV (aggV (vGood a1)), yV (.tuple #[aggV ((vBin13 8 (vGood a0) (vGood a1)).1), .int .i64 ((vBin13 8 (vGood a0) (vGood a1)).2)]), yV _, yV (aggV ((vBin13 8 (vGood a0) (vGood a1)).1)), yV _, yNew fw.heap.size (.cells #[.int .u8 0, .int .i64 0, .string ⟨[].toArray⟩] 25 (0, 0))] 7 190 z (by kernel_rfl) (by kernel_rfl) (
    armS (wn rfl) (fun aa ww hk bs hd => xloadN 3 rfl (by kernel_rfl) (by kernel_rfl) (bs.get 2 rfl s2) ((ow.keep hk).box 5 rfl) (Nat.le_of_ble_eq_true rfl) rfl) rfl <|
    armS (wn rfl) (fun aa ww hk bs hd => xloadN 3 rfl (by kernel_rfl) (by kernel_rfl) (bs.get 3 rfl s3) ((ow.keep hk).box 4 rfl) (Nat.le_of_ble_eq_true rfl) rfl) rfl <|
    armC (wn rfl) (fun aa ww hk bs hd => xcall3 rfl rfl (dep hd 0 rfl rfl rfl) (dep hd 1 rfl rfl rfl) (en_fnum_Binary _ _)) (fun aa ww hk bs hd => binary13_any 8 (vGood a0) (vGood a1) ww mx (HM.kept (ow.keep hk).kept) sa sb) rfl <|
    mvD 2 rfl rfl rfl rfl rfl rfl <|
    armS (wn rfl) (fun aa ww hk bs hd => xextract rfl (dep hd 3 rfl rfl rfl) rfl) rfl <|
    armS (wn rfl) (fun aa ww hk bs hd => xextract rfl (dep hd 3 rfl rfl rfl) rfl) rfl <|
    armP (wn rfl) (fun aa ww hk bs hd => xalloc rfl (by kernel_rfl)) rfl <|
    arm0) fun fa fw hk bs hv ap => ?_
  obtain ⟨z, q, ov⟩ := aft hk bs z q ow
  have s2 := bs.get 2 rfl s2
  have s3 := bs.get 3 rfl s3
  have s4 := bs.get 4 rfl s4
  have s15 := bs.get 15 rfl s15
  have s17 := bs.get 17 rfl s17
  have s19 := bs.get 19 rfl s19
  have s21 := bs.get 21 rfl s21
  have s116 := got hv 4 rfl rfl rfl
  have s117 := got hv 5 rfl rfl rfl
  obtain ⟨gb20, s23, bgb20, hgb20⟩ := gotP hv 6 rfl rfl rfl
  have ov := ov.cons hgb20 (Nat.le_trans ow.kept.size bgb20) (ow.below bgb20)
  have ow := ov
  clear hv ap bs hk ov
  refine wl_store ow 0 0 (want0 rfl) rfl rfl s23 s116 (by kernel_rfl) rfl rfl rfl fun fw ow => ?_
  refine wl_value (v := .int .i64 ((vBin13 8 (vGood a0) (vGood a1)).2)) (want0 rfl) (xassign rfl s117) ?_
  refine gt8 (put_size z) (put_def q) ow 2 (pb 24 s2 rfl) 3 (pb 24 s3 rfl) 4 (pb 24 s4 rfl) 15 (pb 24 s15 rfl) 17 (pb 24 s17 rfl) 19 (pb 24 s19 rfl) 21 (pb 24 s21 rfl) 23 (pb 24 s23 rfl) fun fa fw z q ow s2 s3 s4 s15 s17 s19 s21 s23 => ?_
  refine wl_then (hK44 _ _ ?_)
  try clear hK44 K44
  refine wp_seq_k fun K45 hK45 => ?_
  refine rgn [yV (aggV (vGood a0)), yV (aggV (vGood a1)), yV (.tuple #[aggV ((vBin13 10 (vGood a0) (vGood a1)).1), .int .i64 ((vBin13 10 (vGood a0) (vGood a1)).2)]), yV _, yV (aggV ((vBin13 10 (vGood a0) (vGood a1)).1)), yV _, yNew fw.heap.size (.cells #[.int .u8 0, .int .i64 0, .string ⟨[].toArray⟩] 25 (0, 0))] 7 190 z (by kernel_rfl) (by kernel_rfl) (
    armS (wn rfl) (fun aa ww hk bs hd => xloadN 3 rfl (by kernel_rfl) (by kernel_rfl) (bs.get 2 rfl s2) ((ow.keep hk).box 6 rfl) (Nat.le_of_ble_eq_true rfl) rfl) rfl <|
    armS (wn rfl) (fun aa ww hk bs hd => xloadN 3 rfl (by kernel_rfl) (by kernel_rfl) (bs.get 3 rfl s3) ((ow.keep hk).box 5 rfl) (Nat.le_of_ble_eq_true rfl) rfl) rfl <|
    armC (wn rfl) (fun aa ww hk bs hd => xcall3 rfl rfl (dep hd 0 rfl rfl rfl) (dep hd 1 rfl rfl rfl) (en_fnum_Binary _ _)) (fun aa ww hk bs hd => binary13_any 10 (vGood a0) (vGood a1) ww mx (HM.kept (ow.keep hk).kept) sa sb) rfl <|
    mvD 2 rfl rfl rfl rfl rfl rfl <|
    armS (wn rfl) (fun aa ww hk bs hd => xextract rfl (dep hd 3 rfl rfl rfl) rfl) rfl <|
    armS (wn rfl) (fun aa ww hk bs hd => xextract rfl (dep hd 3 rfl rfl rfl) rfl) rfl <|
    armP (wn rfl) (fun aa ww hk bs hd => xalloc rfl (by kernel_rfl)) rfl <|
    arm0) fun fa fw hk bs hv ap => ?_
  obtain ⟨z, q, ov⟩ := aft hk bs z q ow
  have s2 := bs.get 2 rfl s2
  have s3 := bs.get 3 rfl s3
  have s4 := bs.get 4 rfl s4
  have s15 := bs.get 15 rfl s15
  have s17 := bs.get 17 rfl s17
  have s19 := bs.get 19 rfl s19
  have s21 := bs.get 21 rfl s21
  have s23 := bs.get 23 rfl s23
  have s122 := got hv 4 rfl rfl rfl
  have s123 := got hv 5 rfl rfl rfl
  obtain ⟨gb21, s25, bgb21, hgb21⟩ := gotP hv 6 rfl rfl rfl
  have ov := ov.cons hgb21 (Nat.le_trans ow.kept.size bgb21) (ow.below bgb21)
  have ow := ov
  clear hv ap bs hk ov
  refine wl_store ow 0 0 (want0 rfl) rfl rfl s25 s122 (by kernel_rfl) rfl rfl rfl fun fw ow => ?_
  refine wl_value (v := .int .i64 ((vBin13 10 (vGood a0) (vGood a1)).2)) (want0 rfl) (xassign rfl s123) ?_
  refine gt9 (put_size z) (put_def q) ow 2 (pb 26 s2 rfl) 3 (pb 26 s3 rfl) 4 (pb 26 s4 rfl) 15 (pb 26 s15 rfl) 17 (pb 26 s17 rfl) 19 (pb 26 s19 rfl) 21 (pb 26 s21 rfl) 23 (pb 26 s23 rfl) 25 (pb 26 s25 rfl) fun fa fw z q ow s2 s3 s4 s15 s17 s19 s21 s23 s25 => ?_
  refine wl_then (hK45 _ _ ?_)
  try clear hK45 K45
  refine wp_seq_k fun K46 hK46 => ?_
  refine rgn [yV (aggV (vGood a0)), yV (aggV (vGood a1)), yV (.tuple #[aggV ((vBin13 12 (vGood a0) (vGood a1)).1), .int .i64 ((vBin13 12 (vGood a0) (vGood a1)).2)]), yV _, yV (aggV ((vBin13 12 (vGood a0) (vGood a1)).1)), yV _, yNew fw.heap.size (.cells #[.int .u8 0, .int .i64 0, .string ⟨[].toArray⟩] 25 (0, 0))] 7 190 z (by kernel_rfl) (by kernel_rfl) (
    armS (wn rfl) (fun aa ww hk bs hd => xloadN 3 rfl (by kernel_rfl) (by kernel_rfl) (bs.get 2 rfl s2) ((ow.keep hk).box 7 rfl) (Nat.le_of_ble_eq_true rfl) rfl) rfl <|
    armS (wn rfl) (fun aa ww hk bs hd => xloadN 3 rfl (by kernel_rfl) (by kernel_rfl) (bs.get 3 rfl s3) ((ow.keep hk).box 6 rfl) (Nat.le_of_ble_eq_true rfl) rfl) rfl <|
    armC (wn rfl) (fun aa ww hk bs hd => xcall3 rfl rfl (dep hd 0 rfl rfl rfl) (dep hd 1 rfl rfl rfl) (en_fnum_Binary _ _)) (fun aa ww hk bs hd => binary13_any 12 (vGood a0) (vGood a1) ww mx (HM.kept (ow.keep hk).kept) sa sb) rfl <|
    mvD 2 rfl rfl rfl rfl rfl rfl <|
    armS (wn rfl) (fun aa ww hk bs hd => xextract rfl (dep hd 3 rfl rfl rfl) rfl) rfl <|
    armS (wn rfl) (fun aa ww hk bs hd => xextract rfl (dep hd 3 rfl rfl rfl) rfl) rfl <|
    armP (wn rfl) (fun aa ww hk bs hd => xalloc rfl (by kernel_rfl)) rfl <|
    arm0) fun fa fw hk bs hv ap => ?_
  obtain ⟨z, q, ov⟩ := aft hk bs z q ow
  have s4 := bs.get 4 rfl s4
  have s15 := bs.get 15 rfl s15
  have s17 := bs.get 17 rfl s17
  have s19 := bs.get 19 rfl s19
  have s21 := bs.get 21 rfl s21
  have s23 := bs.get 23 rfl s23
  have s25 := bs.get 25 rfl s25
  have s128 := got hv 4 rfl rfl rfl
  have s129 := got hv 5 rfl rfl rfl
  obtain ⟨gb22, s27, bgb22, hgb22⟩ := gotP hv 6 rfl rfl rfl
  have ov := ov.cons hgb22 (Nat.le_trans ow.kept.size bgb22) (ow.below bgb22)
  have ow := ov
  clear hv ap bs hk ov
  refine wl_store ow 0 0 (want0 rfl) rfl rfl s27 s128 (by kernel_rfl) rfl rfl rfl fun fw ow => ?_
  refine wl_value (v := .int .i64 ((vBin13 12 (vGood a0) (vGood a1)).2)) (want0 rfl) (xassign rfl s129) ?_
  refine gt8 (put_size z) (put_def q) ow 4 (pb 28 s4 rfl) 15 (pb 28 s15 rfl) 17 (pb 28 s17 rfl) 19 (pb 28 s19 rfl) 21 (pb 28 s21 rfl) 23 (pb 28 s23 rfl) 25 (pb 28 s25 rfl) 27 (pb 28 s27 rfl) fun fa fw z q ow s4 s15 s17 s19 s21 s23 s25 s27 => ?_
  refine wl_then (hK46 _ _ ?_)
  try clear hK46 K46
  refine wp_seq_k fun K47 hK47 => ?_
  refine rgn [yV (.pointer (some ⟨gb16, 1, none⟩)), yV _, yV (.pointer (some ⟨gb17, 1, none⟩)), yV _, yV _, yV (.pointer (some ⟨gb18, 1, none⟩)), yV _, yV _, yV (.bool true), yV _, yV (aggV ((vBin13 11 (vGood a0) (vGood a1)).1)), yV (aggV ((vBin13 9 (vGood a1) (vGood a0)).1)), yV (.bool true), yV _, yV _, yV (.pointer (some ⟨gb20, 1, none⟩)), yV _, yV (.pointer (some ⟨gb17, 1, none⟩)), yV _, yV _, yV (.bool true), yV _, yV _, yV (.pointer (some ⟨gb21, 1, none⟩)), yV _, yV (.pointer (some ⟨gb16, 1, none⟩)), yV _, yV (.pointer (some ⟨gb17, 1, none⟩)), yV _, yV _, yV (.bool true), yV _, yV _, yV (.pointer (some ⟨gb22, 1, none⟩)), yV _, yV (.pointer (some ⟨gb18, 1, none⟩)), yV _, yV (.pointer (some ⟨gb17, 1, none⟩)), yV _, yV _, yV (.bool true), yV _, yV _, yV (.pointer (some ⟨gb16, 0, none⟩)), yV _, yV (.bool true), yV _, yV _, yV (.pointer (some ⟨gb17, 0, none⟩)), yV _, yV (.bool true), yV _, yV _, yV (.pointer (some ⟨gb18, 0, none⟩)), yV _, yV (.bool true), yV _, yV _, yV (.bool true), yV _, yV _] 61 190 z (by kernel_rfl) (by kernel_rfl) (
    armS (wn rfl) (fun aa ww hk bs hd => xfieldAddr rfl (bs.get 15 rfl s15) (by kernel_rfl)) rfl <|
    armS (wn rfl) (fun aa ww hk bs hd => xloadB rfl (by kernel_rfl) (dep hd 0 rfl rfl rfl) ((ow.keep hk).box 6 rfl) rfl) rfl <|
    armS (wn rfl) (fun aa ww hk bs hd => xfieldAddr rfl (bs.get 17 rfl s17) (by kernel_rfl)) rfl <|
    armS (wn rfl) (fun aa ww hk bs hd => xloadB rfl (by kernel_rfl) (dep hd 2 rfl rfl rfl) ((ow.keep hk).box 5 rfl) rfl) rfl <|
    armS (wn rfl) (fun aa ww hk bs hd => xadd (Or.inr rfl) rfl (dep hd 1 rfl rfl rfl) (dep hd 3 rfl rfl rfl) (by rw [b9_, b7_, tn, tn]; (repeat' split) <;> omega) (by rw [b9_, b7_, tn, tn]; (repeat' split) <;> omega)) rfl <|
    armS (wn rfl) (fun aa ww hk bs hd => xfieldAddr rfl (bs.get 19 rfl s19) (by kernel_rfl)) rfl <|
    armS (wn rfl) (fun aa ww hk bs hd => xloadB rfl (by kernel_rfl) (dep hd 5 rfl rfl rfl) ((ow.keep hk).box 4 rfl) rfl) rfl <|
    armS (wn rfl) (fun aa ww hk bs hd => xadd (Or.inr rfl) rfl (dep hd 4 rfl rfl rfl) (dep hd 6 rfl rfl rfl) (by rw [b9_, b7_, b11_, tn, tn, tn]; (repeat' split) <;> omega) (by rw [b9_, b7_, b11_, tn, tn, tn]; (repeat' split) <;> omega)) rfl <|
    armE (wn rfl) (fun aa ww hk bs hd => xeqi rfl (dep hd 7 rfl rfl rfl) rfl) (congrArg Value.bool (decide_eq_true (by rw [b9_, b7_, b11_, tn, tn, tn]; simp only [decide_eq_true_eq]; (repeat' split) <;> omega))) rfl <|
    mvD 8 rfl rfl rfl rfl rfl rfl <|
    armS (wg (j := 9) (b := true) rfl rfl rfl) (fun aa ww hk bs hd => xloadN 3 rfl (by kernel_rfl) (by kernel_rfl) (bs.get 19 rfl s19) ((ow.keep hk).box 4 rfl) (Nat.le_of_ble_eq_true rfl) rfl) rfl <|
    armS (wg (j := 9) (b := true) rfl rfl rfl) (fun aa ww hk bs hd => xloadN 3 rfl (by kernel_rfl) (by kernel_rfl) (bs.get 21 rfl s21) ((ow.keep hk).box 3 rfl) (Nat.le_of_ble_eq_true rfl) rfl) rfl <|
    armE (wg (j := 9) (b := true) rfl rfl rfl) (fun aa ww hk bs hd => xeqv rfl (dep hd 10 rfl rfl rfl) (dep hd 11 rfl rfl rfl)) (congrArg Value.bool (sameV_of (by rw [b11_, b9r_]))) rfl <|
    armS (wn rfl) (fun aa ww hk bs hd => xpickT rfl (dep hd 9 rfl rfl rfl) (dep hd 12 rfl rfl rfl)) rfl <|
    mvD 13 rfl rfl rfl rfl rfl rfl <|
    armS (wg (j := 14) (b := true) rfl rfl rfl) (fun aa ww hk bs hd => xfieldAddr rfl (bs.get 23 rfl s23) (by kernel_rfl)) rfl <|
    armS (wg (j := 14) (b := true) rfl rfl rfl) (fun aa ww hk bs hd => xloadB rfl (by kernel_rfl) (dep hd 15 rfl rfl rfl) ((ow.keep hk).box 2 rfl) rfl) rfl <|
    armS (wg (j := 14) (b := true) rfl rfl rfl) (fun aa ww hk bs hd => xfieldAddr rfl (bs.get 17 rfl s17) (by kernel_rfl)) rfl <|
    armS (wg (j := 14) (b := true) rfl rfl rfl) (fun aa ww hk bs hd => xloadB rfl (by kernel_rfl) (dep hd 17 rfl rfl rfl) ((ow.keep hk).box 5 rfl) rfl) rfl <|
    armS (wg (j := 14) (b := true) rfl rfl rfl) (fun aa ww hk bs hd => xsub (Or.inr rfl) rfl rfl (dep hd 18 rfl rfl rfl) (by rw [b7_, tn]; (repeat' split) <;> omega) (by rw [b7_, tn]; (repeat' split) <;> omega)) rfl <|
    armE (wg (j := 14) (b := true) rfl rfl rfl) (fun aa ww hk bs hd => xeqi rfl (dep hd 16 rfl rfl rfl) (dep hd 19 rfl rfl rfl)) (congrArg Value.bool (decide_eq_true (by rw [b8_, b7_, tn, tn]; simp only [decide_eq_true_eq]; (repeat' split) <;> omega))) rfl <|
    armS (wn rfl) (fun aa ww hk bs hd => xpickT rfl (dep hd 14 rfl rfl rfl) (dep hd 20 rfl rfl rfl)) rfl <|
    mvD 21 rfl rfl rfl rfl rfl rfl <|
    armS (wg (j := 22) (b := true) rfl rfl rfl) (fun aa ww hk bs hd => xfieldAddr rfl (bs.get 25 rfl s25) (by kernel_rfl)) rfl <|
    armS (wg (j := 22) (b := true) rfl rfl rfl) (fun aa ww hk bs hd => xloadB rfl (by kernel_rfl) (dep hd 23 rfl rfl rfl) ((ow.keep hk).box 1 rfl) rfl) rfl <|
    armS (wg (j := 22) (b := true) rfl rfl rfl) (fun aa ww hk bs hd => xfieldAddr rfl (bs.get 15 rfl s15) (by kernel_rfl)) rfl <|
    armS (wg (j := 22) (b := true) rfl rfl rfl) (fun aa ww hk bs hd => xloadB rfl (by kernel_rfl) (dep hd 25 rfl rfl rfl) ((ow.keep hk).box 6 rfl) rfl) rfl <|
    armS (wg (j := 22) (b := true) rfl rfl rfl) (fun aa ww hk bs hd => xfieldAddr rfl (bs.get 17 rfl s17) (by kernel_rfl)) rfl <|
    armS (wg (j := 22) (b := true) rfl rfl rfl) (fun aa ww hk bs hd => xloadB rfl (by kernel_rfl) (dep hd 27 rfl rfl rfl) ((ow.keep hk).box 5 rfl) rfl) rfl <|
    armS (wg (j := 22) (b := true) rfl rfl rfl) (fun aa ww hk bs hd => xadd (Or.inr rfl) rfl (dep hd 26 rfl rfl rfl) (dep hd 28 rfl rfl rfl) (by rw [b9_, b7_, tn, tn]; (repeat' split) <;> omega) (by rw [b9_, b7_, tn, tn]; (repeat' split) <;> omega)) rfl <|
    armE (wg (j := 22) (b := true) rfl rfl rfl) (fun aa ww hk bs hd => xeqi rfl (dep hd 24 rfl rfl rfl) (dep hd 29 rfl rfl rfl)) (congrArg Value.bool (decide_eq_true (by rw [b10_, b9_, b7_, tn, tn, tn]; simp only [decide_eq_true_eq]; (repeat' split) <;> omega))) rfl <|
    armS (wn rfl) (fun aa ww hk bs hd => xpickT rfl (dep hd 22 rfl rfl rfl) (dep hd 30 rfl rfl rfl)) rfl <|
    mvD 31 rfl rfl rfl rfl rfl rfl <|
    armS (wg (j := 32) (b := true) rfl rfl rfl) (fun aa ww hk bs hd => xfieldAddr rfl (bs.get 27 rfl s27) (by kernel_rfl)) rfl <|
    armS (wg (j := 32) (b := true) rfl rfl rfl) (fun aa ww hk bs hd => xloadB rfl (by kernel_rfl) (dep hd 33 rfl rfl rfl) ((ow.keep hk).box 0 rfl) rfl) rfl <|
    armS (wg (j := 32) (b := true) rfl rfl rfl) (fun aa ww hk bs hd => xfieldAddr rfl (bs.get 19 rfl s19) (by kernel_rfl)) rfl <|
    armS (wg (j := 32) (b := true) rfl rfl rfl) (fun aa ww hk bs hd => xloadB rfl (by kernel_rfl) (dep hd 35 rfl rfl rfl) ((ow.keep hk).box 4 rfl) rfl) rfl <|
    armS (wg (j := 32) (b := true) rfl rfl rfl) (fun aa ww hk bs hd => xfieldAddr rfl (bs.get 17 rfl s17) (by kernel_rfl)) rfl <|
    armS (wg (j := 32) (b := true) rfl rfl rfl) (fun aa ww hk bs hd => xloadB rfl (by kernel_rfl) (dep hd 37 rfl rfl rfl) ((ow.keep hk).box 5 rfl) rfl) rfl <|
    armS (wg (j := 32) (b := true) rfl rfl rfl) (fun aa ww hk bs hd => xadd (Or.inr rfl) rfl (dep hd 36 rfl rfl rfl) (dep hd 38 rfl rfl rfl) (by rw [b11_, b7_, tn, tn]; (repeat' split) <;> omega) (by rw [b11_, b7_, tn, tn]; (repeat' split) <;> omega)) rfl <|
    armE (wg (j := 32) (b := true) rfl rfl rfl) (fun aa ww hk bs hd => xeqi rfl (dep hd 34 rfl rfl rfl) (dep hd 39 rfl rfl rfl)) (congrArg Value.bool (decide_eq_true (by rw [b12_, b11_, b7_, tn, tn, tn]; simp only [decide_eq_true_eq]; (repeat' split) <;> omega))) rfl <|
    armS (wn rfl) (fun aa ww hk bs hd => xpickT rfl (dep hd 32 rfl rfl rfl) (dep hd 40 rfl rfl rfl)) rfl <|
    mvD 41 rfl rfl rfl rfl rfl rfl <|
    armS (wg (j := 42) (b := true) rfl rfl rfl) (fun aa ww hk bs hd => xfieldAddr rfl (bs.get 15 rfl s15) (by kernel_rfl)) rfl <|
    armS (wg (j := 42) (b := true) rfl rfl rfl) (fun aa ww hk bs hd => xloadB rfl (by kernel_rfl) (dep hd 43 rfl rfl rfl) ((ow.keep hk).box 6 rfl) rfl) rfl <|
    armE (wg (j := 42) (b := true) rfl rfl rfl) (fun aa ww hk bs hd => xeqi rfl (dep hd 44 rfl rfl rfl) rfl) (congrArg Value.bool (decide_eq_true (by rw [b9_]; rfl))) rfl <|
    armS (wn rfl) (fun aa ww hk bs hd => xpickT rfl (dep hd 42 rfl rfl rfl) (dep hd 45 rfl rfl rfl)) rfl <|
    mvD 46 rfl rfl rfl rfl rfl rfl <|
    armS (wg (j := 47) (b := true) rfl rfl rfl) (fun aa ww hk bs hd => xfieldAddr rfl (bs.get 17 rfl s17) (by kernel_rfl)) rfl <|
    armS (wg (j := 47) (b := true) rfl rfl rfl) (fun aa ww hk bs hd => xloadB rfl (by kernel_rfl) (dep hd 48 rfl rfl rfl) ((ow.keep hk).box 5 rfl) rfl) rfl <|
    armE (wg (j := 47) (b := true) rfl rfl rfl) (fun aa ww hk bs hd => xeqi rfl (dep hd 49 rfl rfl rfl) rfl) (congrArg Value.bool (decide_eq_true (by rw [b7_]; rfl))) rfl <|
    armS (wn rfl) (fun aa ww hk bs hd => xpickT rfl (dep hd 47 rfl rfl rfl) (dep hd 50 rfl rfl rfl)) rfl <|
    mvD 51 rfl rfl rfl rfl rfl rfl <|
    armS (wg (j := 52) (b := true) rfl rfl rfl) (fun aa ww hk bs hd => xfieldAddr rfl (bs.get 19 rfl s19) (by kernel_rfl)) rfl <|
    armS (wg (j := 52) (b := true) rfl rfl rfl) (fun aa ww hk bs hd => xloadB rfl (by kernel_rfl) (dep hd 53 rfl rfl rfl) ((ow.keep hk).box 4 rfl) rfl) rfl <|
    armE (wg (j := 52) (b := true) rfl rfl rfl) (fun aa ww hk bs hd => xeqi rfl (dep hd 54 rfl rfl rfl) rfl) (congrArg Value.bool (decide_eq_true (by rw [b11_]; rfl))) rfl <|
    armS (wn rfl) (fun aa ww hk bs hd => xpickT rfl (dep hd 52 rfl rfl rfl) (dep hd 55 rfl rfl rfl)) rfl <|
    mvD 56 rfl rfl rfl rfl rfl rfl <|
    armC (wg (j := 57) (b := true) rfl rfl rfl) (fun aa ww hk bs hd => xcall0 rfl (en_louvrelaw13_awake _ _)) (fun aa ww hk bs hd => awake13_any ww mx (HM.kept (ow.keep hk).kept)) rfl <|
    armS (wn rfl) (fun aa ww hk bs hd => xpickT rfl (dep hd 57 rfl rfl rfl) (dep hd 58 rfl rfl rfl)) rfl <|
    asD 59 rfl rfl rfl rfl rfl rfl <|
    arm0) fun fa fw hk bs hv ap => ?_
  obtain ⟨z, q, ov⟩ := aft hk bs z q ow
  have s4 := got hv 60 rfl rfl rfl
  have ow := ov
  clear hv ap bs hk ov
  refine wl_then (hK47 _ _ ?_)
  try clear hK47 K47
  refine wp_ret ?_
  refine results_one rfl (res_tmp s4) q ?_
  exact ⟨rfl, ow.kept⟩
end Go.Proofs.YtbpkfnoenkoabaaGreatDoor
