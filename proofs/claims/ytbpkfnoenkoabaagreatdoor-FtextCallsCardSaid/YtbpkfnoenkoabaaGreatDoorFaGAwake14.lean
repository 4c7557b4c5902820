/- Layer 14: the examples of the law's package: num, text, is, awake (printed by wip/mkawake14.py). -/
import Derived.Test.YtbpkfnoenkoabaaGreatDoorFaGText4
namespace Go.Proofs.YtbpkfnoenkoabaaGreatDoor
set_option linter.unusedVariables false
set_option linter.unusedSimpArgs false
open Go.RowKit Lv
set_option maxRecDepth 100000
theorem smalls14 {l : List Vl} (h : (l.all fun v => decide (-9223372036854775808 ≤ v.n ∧ v.n ≤ 9223372036854775807 ∧ v.t.length ≤ 2000)) = true) : ∀ v ∈ l, Small v := fun v hv => by
  have := List.all_eq_true.1 h v hv
  rw [decide_eq_true_eq] at this
  exact ⟨⟨this.1, this.2.1⟩, this.2.2⟩
theorem en_ftext_Call (args : Array Value) (w : World) : (callFunc 21 args).run Tryz.prog w = .ok (.enter 21 args) w := by go_simp
theorem en_louvrelaw14_is (args : Array Value) (w : World) : (callFunc 67 args).run Tryz.prog w = .ok (.enter 67 args) w := by go_simp
theorem en_louvrelaw14_num (args : Array Value) (w : World) : (callFunc 26 args).run Tryz.prog w = .ok (.enter 26 args) w := by go_simp
theorem en_louvrelaw14_text (args : Array Value) (w : World) : (callFunc 68 args).run Tryz.prog w = .ok (.enter 68 args) w := by go_simp
set_option maxHeartbeats 2000000 in
theorem lnum14_any (n : Int) (w : World) :
    Calls Tryz.prog 26 #[.int .i64 n] w fun e w' => e = .returned (aggV (⟨1, n, []⟩ : Vl)) ∧ Kept w w' := by
  go_enter Tryz.func26, Tryz.ntmps26
  refine wp_seq_k fun K1 hK1 => ?_
  refine rgn [yNew w.heap.size (.cells #[.int .u8 0, .int .i64 0, .string ⟨[].toArray⟩] 25 (0, 0))] 1 5 rfl (by kernel_rfl) (by kernel_rfl) (
    armP (wn rfl) (fun aa ww hk bs hd => xalloc rfl (by kernel_rfl)) rfl <|
    arm0) fun fa fw hk bs hv ap => ?_
  obtain ⟨z, q, ov⟩ := aft hk bs rfl rfl (Own.start w)
  have s0 := bs.get 0 rfl rfl
  obtain ⟨gb1, s2, bgb1, hgb1⟩ := gotP hv 0 rfl rfl rfl
  have ov := ov.cons hgb1 (Nat.le_trans (Own.start w).kept.size bgb1) ((Own.start w).below bgb1)
  have ow := ov
  clear hv ap bs hk ov
  refine wl_then (hK1 _ _ ?_)
  try clear hK1 K1
  refine wp_seq_k fun K2 hK2 => ?_
  refine rgn [yV _, yV (aggV (⟨1, n, []⟩ : Vl))] 2 5 z (by kernel_rfl) (by kernel_rfl) (
    mvS s0 rfl rfl rfl rfl <|
    arm (fun aa ww hk bs hd => by
      have d0 : aa.eval (.tmp 3) = .int .i64 n := depX hd 0 rfl
      exact stepX_same (v := aggV (⟨1, n, []⟩ : Vl)) (want0 rfl) (xbuild (us := #[(0, .int .u8 1), (1, .int .i64 n)]) rfl (by simp only [List.map_toArray, List.map_cons, List.map_nil, d0]; rfl) (by kernel_rfl)) rfl rfl
      ) <|
    arm0) fun fa fw hk bs hv ap => ?_
  obtain ⟨z, q, ov⟩ := aft hk bs z q ow
  have s2 := bs.get 2 rfl s2
  have s4 := got hv 1 rfl rfl rfl
  have ow := ov
  clear hv ap bs hk ov
  refine wl_store ow 0 0 (want0 rfl) rfl rfl s2 s4 (by kernel_rfl) rfl rfl rfl fun fw ow => ?_
  refine wl_then (hK2 _ _ ?_)
  try clear hK2 K2
  refine wp_ret ?_
  refine results_one rfl (res_cell (n := 3) _ s2 (by kernel_rfl) (by kernel_rfl) (ow.box 0 rfl) (Nat.le_of_ble_eq_true rfl) rfl) q ?_
  exact ⟨rfl, ow.kept⟩
set_option maxHeartbeats 2000000 in
theorem ltext14_any (s : List UInt8) (w : World) :
    Calls Tryz.prog 68 #[.string ⟨s.toArray⟩] w fun e w' => e = .returned (aggV (⟨3, 0, s⟩ : Vl)) ∧ Kept w w' := by
  go_enter Tryz.func68, Tryz.ntmps68
  refine wp_seq_k fun K1 hK1 => ?_
  refine rgn [yNew w.heap.size (.cells #[.int .u8 0, .int .i64 0, .string ⟨[].toArray⟩] 25 (0, 0))] 1 5 rfl (by kernel_rfl) (by kernel_rfl) (
    armP (wn rfl) (fun aa ww hk bs hd => xalloc rfl (by kernel_rfl)) rfl <|
    arm0) fun fa fw hk bs hv ap => ?_
  obtain ⟨z, q, ov⟩ := aft hk bs rfl rfl (Own.start w)
  have s0 := bs.get 0 rfl rfl
  obtain ⟨gb1, s2, bgb1, hgb1⟩ := gotP hv 0 rfl rfl rfl
  have ov := ov.cons hgb1 (Nat.le_trans (Own.start w).kept.size bgb1) ((Own.start w).below bgb1)
  have ow := ov
  clear hv ap bs hk ov
  refine wl_then (hK1 _ _ ?_)
  try clear hK1 K1
  refine wp_seq_k fun K2 hK2 => ?_
  refine rgn [yV _, yV (aggV (⟨3, 0, s⟩ : Vl))] 2 5 z (by kernel_rfl) (by kernel_rfl) (
    mvS s0 rfl rfl rfl rfl <|
    arm (fun aa ww hk bs hd => by
      have d0 : aa.eval (.tmp 3) = .string ⟨s.toArray⟩ := depX hd 0 rfl
      exact stepX_same (v := aggV (⟨3, 0, s⟩ : Vl)) (want0 rfl) (xbuild (us := #[(0, .int .u8 3), (2, .string ⟨s.toArray⟩)]) rfl (by simp only [List.map_toArray, List.map_cons, List.map_nil, d0]; rfl) (by kernel_rfl)) rfl rfl
      ) <|
    arm0) fun fa fw hk bs hv ap => ?_
  obtain ⟨z, q, ov⟩ := aft hk bs z q ow
  have s2 := bs.get 2 rfl s2
  have s4 := got hv 1 rfl rfl rfl
  have ow := ov
  clear hv ap bs hk ov
  refine wl_store ow 0 0 (want0 rfl) rfl rfl s2 s4 (by kernel_rfl) rfl rfl rfl fun fw ow => ?_
  refine wl_then (hK2 _ _ ?_)
  try clear hK2 K2
  refine wp_ret ?_
  refine results_one rfl (res_cell (n := 3) _ s2 (by kernel_rfl) (by kernel_rfl) (ow.box 0 rfl) (Nat.le_of_ble_eq_true rfl) rfl) q ?_
  exact ⟨rfl, ow.kept⟩
set_option maxHeartbeats 2000000 in
theorem is14_any (x : Vl) (fn : Nat) (A : Option Addr) (cap : Nat) (l : List Vl) (w : World) (mx : Int) (HM : Mx w mx) (hr : RowV w A l) (hs : ∀ v ∈ l, Small v) (hl : l.length ≤ 1000000) (hc : l.length ≤ cap) (hx : vCall14 fn l = (x, 0)) :
    Calls Tryz.prog 67 #[aggV x, .int .u8 fn, .slice A l.length cap] w fun e w' => e = .returned (.bool true) ∧ Kept w w' := by
  go_enter Tryz.func67, Tryz.ntmps67
  refine wp_seq_k fun K1 hK1 => ?_
  refine rgn [yNew w.heap.size (.cells #[.int .u8 x.k, .int .i64 x.n, .string ⟨x.t.toArray⟩] 25 (0, 0)), yV _] 2 22 rfl (by kernel_rfl) (by kernel_rfl) (
    armP (wn rfl) (fun aa ww hk bs hd => xbox rfl (bs.get 0 rfl rfl) (by kernel_rfl)) rfl <|
    armS (wn rfl) (fun aa ww hk bs hd => xassign rfl rfl) rfl <|
    arm0) fun fa fw hk bs hv ap => ?_
  obtain ⟨z, q, ov⟩ := aft hk bs rfl rfl (Own.start w)
  have s1 := bs.get 1 rfl rfl
  have s2 := bs.get 2 rfl rfl
  obtain ⟨gb1, s3, bgb1, hgb1⟩ := gotP hv 0 rfl rfl rfl
  have ov := ov.cons hgb1 (Nat.le_trans (Own.start w).kept.size bgb1) ((Own.start w).below bgb1)
  have s6 := got hv 1 rfl rfl rfl
  have ow := ov
  clear hv ap bs hk ov
  refine wl_then (hK1 _ _ ?_)
  try clear hK1 K1
  refine wp_seq_k fun K2 hK2 => ?_
  refine rgn [yV _, yV _, yV (.tuple #[aggV x, .int .i64 0]), yV _, yV (aggV x), yV _, yNew fw.heap.size (.cells #[.int .u8 0, .int .i64 0, .string ⟨[].toArray⟩] 25 (0, 0))] 7 22 z (by kernel_rfl) (by kernel_rfl) (
    mvS s1 rfl rfl rfl rfl <|
    mvS s2 rfl rfl rfl rfl <|
    armC (wn rfl) (fun aa ww hk bs hd => xcall2 rfl (dep hd 0 rfl rfl rfl) (dep hd 1 rfl rfl rfl) (en_ftext_Call _ _)) (fun aa ww hk bs hd => (by have h := call14_any fn A cap l ww mx (HM.kept (ow.keep hk).kept) (hr.kept (ow.keep hk).kept) hs hl hc; rw [hx] at h; exact h)) rfl <|
    mvD 2 rfl rfl rfl rfl rfl rfl <|
    armS (wn rfl) (fun aa ww hk bs hd => xextract rfl (dep hd 3 rfl rfl rfl) rfl) rfl <|
    armS (wn rfl) (fun aa ww hk bs hd => xextract rfl (dep hd 3 rfl rfl rfl) rfl) rfl <|
    armP (wn rfl) (fun aa ww hk bs hd => xalloc rfl (by kernel_rfl)) rfl <|
    arm0) fun fa fw hk bs hv ap => ?_
  obtain ⟨z, q, ov⟩ := aft hk bs z q ow
  have s3 := bs.get 3 rfl s3
  have s6 := bs.get 6 rfl s6
  have s13 := got hv 4 rfl rfl rfl
  have s14 := got hv 5 rfl rfl rfl
  obtain ⟨gb2, s7, bgb2, hgb2⟩ := gotP hv 6 rfl rfl rfl
  have ov := ov.cons hgb2 (Nat.le_trans ow.kept.size bgb2) (ow.below bgb2)
  have ow := ov
  clear hv ap bs hk ov
  refine wl_store ow 0 0 (want0 rfl) rfl rfl s7 s13 (by kernel_rfl) rfl rfl rfl fun fw ow => ?_
  refine wl_value (v := .int .i64 0) (want0 rfl) (xassign rfl s14) ?_
  refine gt4 (put_size z) (put_def q) ow 3 (pb 8 s3 rfl) 6 (pb 8 s6 rfl) 7 (pb 8 s7 rfl) 8 (put_in (t := 8) z rfl) fun fa fw z q ow s3 s6 s7 s8 => ?_
  refine wl_then (hK2 _ _ ?_)
  try clear hK2 K2
  refine wp_seq_k fun K3 hK3 => ?_
  refine rgn [yV (aggV x), yV (aggV x), yV (.bool true), yV _, yV _, yV (.bool true), yV _, yV _] 8 22 z (by kernel_rfl) (by kernel_rfl) (
    armS (wn rfl) (fun aa ww hk bs hd => xloadN 3 rfl (by kernel_rfl) (by kernel_rfl) (bs.get 7 rfl s7) ((ow.keep hk).box 0 rfl) (Nat.le_of_ble_eq_true rfl) rfl) rfl <|
    armS (wn rfl) (fun aa ww hk bs hd => xloadN 3 rfl (by kernel_rfl) (by kernel_rfl) (bs.get 3 rfl s3) ((ow.keep hk).box 1 rfl) (Nat.le_of_ble_eq_true rfl) rfl) rfl <|
    armE (wn rfl) (fun aa ww hk bs hd => xeqv rfl (dep hd 0 rfl rfl rfl) (dep hd 1 rfl rfl rfl)) (congrArg Value.bool (sameV_self x)) rfl <|
    mvD 2 rfl rfl rfl rfl rfl rfl <|
    armS (wg (j := 3) (b := true) rfl rfl rfl) (fun aa ww hk bs hd => xmove rfl (bs.get 8 rfl s8)) rfl <|
    armE (wg (j := 3) (b := true) rfl rfl rfl) (fun aa ww hk bs hd => xeqi rfl (dep hd 4 rfl rfl rfl) rfl) (congrArg Value.bool rfl) rfl <|
    armS (wn rfl) (fun aa ww hk bs hd => xpickT rfl (dep hd 3 rfl rfl rfl) (dep hd 5 rfl rfl rfl)) rfl <|
    asD 6 rfl rfl rfl rfl rfl rfl <|
    arm0) fun fa fw hk bs hv ap => ?_
  obtain ⟨z, q, ov⟩ := aft hk bs z q ow
  have s6 := got hv 7 rfl rfl rfl
  have ow := ov
  clear hv ap bs hk ov
  refine wl_then (hK3 _ _ ?_)
  try clear hK3 K3
  refine wp_ret ?_
  refine results_one rfl (res_tmp s6) q ?_
  exact ⟨rfl, ow.kept⟩
set_option maxHeartbeats 8000000 in
theorem awake14_any (w : World) (mx : Int) (HM : Mx w mx) :
    Calls Tryz.prog 24 #[] w fun e w' => e = .returned (.bool true) ∧ Kept w w' := by
  go_enter Tryz.func24, Tryz.ntmps24
  refine wp_seq_k fun K1 hK1 => ?_
  refine rgn [yV _] 1 108 rfl (by kernel_rfl) (by kernel_rfl) (
    armS (wn rfl) (fun aa ww hk bs hd => xassign rfl rfl) rfl <|
    arm0) fun fa fw hk bs hv ap => ?_
  obtain ⟨z, q, ov⟩ := aft hk bs rfl rfl (Own.start w)
  have s0 := got hv 0 rfl rfl rfl
  have ow := ov
  clear hv ap bs hk ov
  refine wl_then (hK1 _ _ ?_)
  try clear hK1 K1
  refine wp_seq_k fun K2 hK2 => ?_
  refine rgn [yV (aggV (⟨4, 2, []⟩ : Vl)), yNew fw.heap.size (.cells #[.int .u8 0, .int .i64 0, .string ⟨[].toArray⟩] 25 (0, 0))] 2 108 z (by kernel_rfl) (by kernel_rfl) (
    armS (wn rfl) (fun aa ww hk bs hd => xbuild (us := #[(0, .int .u8 4), (1, .int .i64 2)]) rfl (by simp only [List.map_toArray, List.map_cons, List.map_nil]; rfl) (by kernel_rfl)) rfl <|
    armP (wn rfl) (fun aa ww hk bs hd => xalloc rfl (by kernel_rfl)) rfl <|
    arm0) fun fa fw hk bs hv ap => ?_
  obtain ⟨z, q, ov⟩ := aft hk bs z q ow
  have s0 := bs.get 0 rfl s0
  have s2 := got hv 0 rfl rfl rfl
  obtain ⟨gb1, s1, bgb1, hgb1⟩ := gotP hv 1 rfl rfl rfl
  have ov := ov.cons hgb1 (Nat.le_trans ow.kept.size bgb1) (ow.below bgb1)
  have ow := ov
  clear hv ap bs hk ov
  refine wl_store ow 0 0 (want0 rfl) rfl rfl s1 s2 (by kernel_rfl) rfl rfl rfl fun fw ow => ?_
  refine wl_then (hK2 _ _ ?_)
  try clear hK2 K2
  refine wp_seq_k fun K3 hK3 => ?_
  refine rgn [yV (aggV (⟨3, 0, [97, 98]⟩ : Vl)), yV (aggV (⟨3, 0, [97, 98, 99]⟩ : Vl)), yV (aggV (⟨1, 20000, []⟩ : Vl)), ySlice fw.heap.size 2 (rowObj [(⟨3, 0, [97, 98, 99]⟩ : Vl), (⟨1, 20000, []⟩ : Vl)]), yV (.bool true), yV _, yV (aggV (⟨3, 0, [97]⟩ : Vl)), yV (aggV (⟨3, 0, [97, 98, 99]⟩ : Vl)), ySlice fw.heap.size 1 (rowObj [(⟨3, 0, [97, 98, 99]⟩ : Vl)]), yV (.bool true), yV _, yV _, yV (aggV (⟨3, 0, [97, 98, 99]⟩ : Vl)), yV (aggV (⟨3, 0, [97, 98, 99]⟩ : Vl)), yV (aggV (⟨1, 90000, []⟩ : Vl)), ySlice fw.heap.size 2 (rowObj [(⟨3, 0, [97, 98, 99]⟩ : Vl), (⟨1, 90000, []⟩ : Vl)]), yV (.bool true), yV _, yV _, yV (aggV (⟨4, 2, []⟩ : Vl)), yV (aggV (⟨3, 0, [97, 98, 99]⟩ : Vl)), yV (aggV (⟨1, (-10000), []⟩ : Vl)), ySlice fw.heap.size 2 (rowObj [(⟨3, 0, [97, 98, 99]⟩ : Vl), (⟨1, (-10000), []⟩ : Vl)]), yV (.bool true), yV _, yV _, yV (aggV (⟨3, 0, [98, 99]⟩ : Vl)), yV (aggV (⟨3, 0, [97, 98, 99, 100]⟩ : Vl)), yV (aggV (⟨1, 20000, []⟩ : Vl)), yV (aggV (⟨1, 20000, []⟩ : Vl)), ySlice fw.heap.size 3 (rowObj [(⟨3, 0, [97, 98, 99, 100]⟩ : Vl), (⟨1, 20000, []⟩ : Vl), (⟨1, 20000, []⟩ : Vl)]), yV (.bool true), yV _, yV _, yV (aggV (⟨3, 0, []⟩ : Vl)), yV (aggV (⟨3, 0, [97, 98, 99, 100]⟩ : Vl)), yV (aggV (⟨1, 90000, []⟩ : Vl)), yV (aggV (⟨1, 10000, []⟩ : Vl)), ySlice fw.heap.size 3 (rowObj [(⟨3, 0, [97, 98, 99, 100]⟩ : Vl), (⟨1, 90000, []⟩ : Vl), (⟨1, 10000, []⟩ : Vl)]), yV (.bool true), yV _, yV _, yV (aggV (⟨1, 20000, []⟩ : Vl)), yV (aggV (⟨3, 0, [98]⟩ : Vl)), yV (aggV (⟨3, 0, [97, 98, 99, 98]⟩ : Vl)), ySlice fw.heap.size 2 (rowObj [(⟨3, 0, [98]⟩ : Vl), (⟨3, 0, [97, 98, 99, 98]⟩ : Vl)]), yV (.bool true), yV _, yV _, yV (aggV (⟨1, 40000, []⟩ : Vl)), yV (aggV (⟨3, 0, [98]⟩ : Vl)), yV (aggV (⟨3, 0, [97, 98, 99, 98]⟩ : Vl)), yV (aggV (⟨1, 30000, []⟩ : Vl)), ySlice fw.heap.size 3 (rowObj [(⟨3, 0, [98]⟩ : Vl), (⟨3, 0, [97, 98, 99, 98]⟩ : Vl), (⟨1, 30000, []⟩ : Vl)]), yV (.bool true), yV _, yV _, yV (aggV (⟨4, 2, []⟩ : Vl)), yV (aggV (⟨3, 0, [66]⟩ : Vl)), yV (aggV (⟨3, 0, [97, 98, 99]⟩ : Vl)), ySlice fw.heap.size 2 (rowObj [(⟨3, 0, [66]⟩ : Vl), (⟨3, 0, [97, 98, 99]⟩ : Vl)]), yV (.bool true), yV _, yV _, yV (aggV (⟨1, 30000, []⟩ : Vl)), yV (aggV (⟨3, 0, []⟩ : Vl)), yV (aggV (⟨3, 0, [97, 98]⟩ : Vl)), yV (aggV (⟨1, 30000, []⟩ : Vl)), ySlice fw.heap.size 3 (rowObj [(⟨3, 0, []⟩ : Vl), (⟨3, 0, [97, 98]⟩ : Vl), (⟨1, 30000, []⟩ : Vl)]), yV (.bool true), yV _, yV _, yV (aggV (⟨3, 0, [97, 98, 97, 98]⟩ : Vl)), yV (aggV (⟨3, 0, [97, 98]⟩ : Vl)), yV (aggV (⟨1, 29000, []⟩ : Vl)), ySlice fw.heap.size 2 (rowObj [(⟨3, 0, [97, 98]⟩ : Vl), (⟨1, 29000, []⟩ : Vl)]), yV (.bool true), yV _, yV _, yV (aggV (⟨4, 2, []⟩ : Vl)), yV (aggV (⟨3, 0, [97, 98]⟩ : Vl)), yV (aggV (⟨1, 2000000, []⟩ : Vl)), ySlice fw.heap.size 2 (rowObj [(⟨3, 0, [97, 98]⟩ : Vl), (⟨1, 2000000, []⟩ : Vl)]), yV (.bool true), yV _, yV _, yV (aggV (⟨1, 40000, []⟩ : Vl)), yV (aggV (⟨1, 125000, []⟩ : Vl)), ySlice fw.heap.size 1 (rowObj [(⟨1, 125000, []⟩ : Vl)]), yV (.bool true), yV _, yV _, yV (aggV (⟨1, 15000, []⟩ : Vl)), yV (aggV (⟨3, 0, [49, 46, 53]⟩ : Vl)), ySlice fw.heap.size 1 (rowObj [(⟨3, 0, [49, 46, 53]⟩ : Vl)]), yV (.bool true), yV _, yV _, yV (aggV (⟨4, 2, []⟩ : Vl)), yV (aggV (⟨3, 0, [97, 98, 99]⟩ : Vl)), yV (aggV (⟨3, 0, [120]⟩ : Vl)), yV (aggV (⟨4, 4, []⟩ : Vl)), ySlice fw.heap.size 3 (rowObj [(⟨3, 0, [97, 98, 99]⟩ : Vl), (⟨3, 0, [120]⟩ : Vl), (⟨4, 4, []⟩ : Vl)]), yV (.bool true), yV _, yV _] 106 108 z (by kernel_rfl) (by kernel_rfl) (
    armC (wn rfl) (fun aa ww hk bs hd => xcall1 rfl rfl (en_louvrelaw14_text _ _)) (fun aa ww hk bs hd => ltext14_any [97, 98] ww) rfl <|
    armC (wn rfl) (fun aa ww hk bs hd => xcall1 rfl rfl (en_louvrelaw14_text _ _)) (fun aa ww hk bs hd => ltext14_any [97, 98, 99] ww) rfl <|
    armC (wn rfl) (fun aa ww hk bs hd => xcall1 rfl rfl (en_louvrelaw14_num _ _)) (fun aa ww hk bs hd => lnum14_any 20000 ww) rfl <|
    arm (fun aa ww hk bs hd => by
      have d1 : aa.eval (.tmp 4) = aggV (⟨3, 0, [97, 98, 99]⟩ : Vl) := depX hd 1 rfl
      have d2 : aa.eval (.tmp 5) = aggV (⟨1, 20000, []⟩ : Vl) := depX hd 2 rfl
      exact stepX_new _ (want0 rfl) (xrow2 rfl (d1) (d2)) ⟨_, rfl, hk.size, Go.heap_alloc_new _ _⟩ ((Kept.refl _).alloc _) rfl (Nat.le_refl _)
      ) <|
    arm (fun aa ww hk bs hd => by
      have d0 : aa.eval (.tmp 3) = aggV (⟨3, 0, [97, 98]⟩ : Vl) := depX hd 0 rfl
      have d3 : ∃ g, aa.eval (.tmp 6) = .slice (some ⟨g, 0, none⟩) 2 2 ∧ fw.heap.size ≤ g ∧ ww.heap[g]? = some (rowObj [(⟨3, 0, [97, 98, 99]⟩ : Vl), (⟨1, 20000, []⟩ : Vl)]) := depX hd 3 rfl
      obtain ⟨g3, e3, _, h3⟩ := d3
      exact stepX_enter (want0 rfl) (xcall3 (u := aggV (⟨3, 0, [97, 98]⟩ : Vl)) (v := .int .u8 32) (s := .slice (some ⟨g3, 0, none⟩) 2 2) rfl (d0) rfl e3 (en_louvrelaw14_is _ _)) ((is14_any (⟨3, 0, [97, 98]⟩ : Vl) 32 (some ⟨g3, 0, none⟩) 2 [(⟨3, 0, [97, 98, 99]⟩ : Vl), (⟨1, 20000, []⟩ : Vl)] ww mx (HM.kept (ow.keep hk).kept) (rowObj_row h3) (smalls14 (by decide)) (by decide) (by decide) (by kernel_rfl)).mono fun _ _ ⟨he, hk2⟩ => ⟨_, he, rfl, hk2⟩) rfl
      ) <|
    mvD 4 rfl rfl rfl rfl rfl rfl <|
    armC (wg (j := 5) (b := true) rfl rfl rfl) (fun aa ww hk bs hd => xcall1 rfl rfl (en_louvrelaw14_text _ _)) (fun aa ww hk bs hd => ltext14_any [97] ww) rfl <|
    armC (wg (j := 5) (b := true) rfl rfl rfl) (fun aa ww hk bs hd => xcall1 rfl rfl (en_louvrelaw14_text _ _)) (fun aa ww hk bs hd => ltext14_any [97, 98, 99] ww) rfl <|
    arm (fun aa ww hk bs hd => by
      have d5 : aa.eval (.tmp 8) = .bool true := depX hd 5 rfl
      have d7 : aa.eval (.tmp 10) = aggV (⟨3, 0, [97, 98, 99]⟩ : Vl) := depX hd 7 rfl
      exact stepX_new _ (want1 (j := 5) (b := true) rfl d5) (xrow1 rfl (d7)) ⟨_, rfl, hk.size, Go.heap_alloc_new _ _⟩ ((Kept.refl _).alloc _) rfl (Nat.le_refl _)
      ) <|
    arm (fun aa ww hk bs hd => by
      have d5 : aa.eval (.tmp 8) = .bool true := depX hd 5 rfl
      have d6 : aa.eval (.tmp 9) = aggV (⟨3, 0, [97]⟩ : Vl) := depX hd 6 rfl
      have d8 : ∃ g, aa.eval (.tmp 11) = .slice (some ⟨g, 0, none⟩) 1 1 ∧ fw.heap.size ≤ g ∧ ww.heap[g]? = some (rowObj [(⟨3, 0, [97, 98, 99]⟩ : Vl)]) := depX hd 8 rfl
      obtain ⟨g8, e8, _, h8⟩ := d8
      exact stepX_enter (want1 (j := 5) (b := true) rfl d5) (xcall3 (u := aggV (⟨3, 0, [97]⟩ : Vl)) (v := .int .u8 32) (s := .slice (some ⟨g8, 0, none⟩) 1 1) rfl (d6) rfl e8 (en_louvrelaw14_is _ _)) ((is14_any (⟨3, 0, [97]⟩ : Vl) 32 (some ⟨g8, 0, none⟩) 1 [(⟨3, 0, [97, 98, 99]⟩ : Vl)] ww mx (HM.kept (ow.keep hk).kept) (rowObj_row h8) (smalls14 (by decide)) (by decide) (by decide) (by kernel_rfl)).mono fun _ _ ⟨he, hk2⟩ => ⟨_, he, rfl, hk2⟩) rfl
      ) <|
    armS (wn rfl) (fun aa ww hk bs hd => xpickT rfl (dep hd 5 rfl rfl rfl) (dep hd 9 rfl rfl rfl)) rfl <|
    mvD 10 rfl rfl rfl rfl rfl rfl <|
    armC (wg (j := 11) (b := true) rfl rfl rfl) (fun aa ww hk bs hd => xcall1 rfl rfl (en_louvrelaw14_text _ _)) (fun aa ww hk bs hd => ltext14_any [97, 98, 99] ww) rfl <|
    armC (wg (j := 11) (b := true) rfl rfl rfl) (fun aa ww hk bs hd => xcall1 rfl rfl (en_louvrelaw14_text _ _)) (fun aa ww hk bs hd => ltext14_any [97, 98, 99] ww) rfl <|
    armC (wg (j := 11) (b := true) rfl rfl rfl) (fun aa ww hk bs hd => xcall1 rfl rfl (en_louvrelaw14_num _ _)) (fun aa ww hk bs hd => lnum14_any 90000 ww) rfl <|
    arm (fun aa ww hk bs hd => by
      have d11 : aa.eval (.tmp 14) = .bool true := depX hd 11 rfl
      have d13 : aa.eval (.tmp 16) = aggV (⟨3, 0, [97, 98, 99]⟩ : Vl) := depX hd 13 rfl
      have d14 : aa.eval (.tmp 17) = aggV (⟨1, 90000, []⟩ : Vl) := depX hd 14 rfl
      exact stepX_new _ (want1 (j := 11) (b := true) rfl d11) (xrow2 rfl (d13) (d14)) ⟨_, rfl, hk.size, Go.heap_alloc_new _ _⟩ ((Kept.refl _).alloc _) rfl (Nat.le_refl _)
      ) <|
    arm (fun aa ww hk bs hd => by
      have d11 : aa.eval (.tmp 14) = .bool true := depX hd 11 rfl
      have d12 : aa.eval (.tmp 15) = aggV (⟨3, 0, [97, 98, 99]⟩ : Vl) := depX hd 12 rfl
      have d15 : ∃ g, aa.eval (.tmp 18) = .slice (some ⟨g, 0, none⟩) 2 2 ∧ fw.heap.size ≤ g ∧ ww.heap[g]? = some (rowObj [(⟨3, 0, [97, 98, 99]⟩ : Vl), (⟨1, 90000, []⟩ : Vl)]) := depX hd 15 rfl
      obtain ⟨g15, e15, _, h15⟩ := d15
      exact stepX_enter (want1 (j := 11) (b := true) rfl d11) (xcall3 (u := aggV (⟨3, 0, [97, 98, 99]⟩ : Vl)) (v := .int .u8 33) (s := .slice (some ⟨g15, 0, none⟩) 2 2) rfl (d12) rfl e15 (en_louvrelaw14_is _ _)) ((is14_any (⟨3, 0, [97, 98, 99]⟩ : Vl) 33 (some ⟨g15, 0, none⟩) 2 [(⟨3, 0, [97, 98, 99]⟩ : Vl), (⟨1, 90000, []⟩ : Vl)] ww mx (HM.kept (ow.keep hk).kept) (rowObj_row h15) (smalls14 (by decide)) (by decide) (by decide) (by kernel_rfl)).mono fun _ _ ⟨he, hk2⟩ => ⟨_, he, rfl, hk2⟩) rfl
      ) <|
    armS (wn rfl) (fun aa ww hk bs hd => xpickT rfl (dep hd 11 rfl rfl rfl) (dep hd 16 rfl rfl rfl)) rfl <|
    mvD 17 rfl rfl rfl rfl rfl rfl <|
    armS (wg (j := 18) (b := true) rfl rfl rfl) (fun aa ww hk bs hd => xloadN 3 rfl (by kernel_rfl) (by kernel_rfl) (bs.get 1 rfl s1) ((ow.keep hk).box 0 rfl) (Nat.le_of_ble_eq_true rfl) rfl) rfl <|
    armC (wg (j := 18) (b := true) rfl rfl rfl) (fun aa ww hk bs hd => xcall1 rfl rfl (en_louvrelaw14_text _ _)) (fun aa ww hk bs hd => ltext14_any [97, 98, 99] ww) rfl <|
    armC (wg (j := 18) (b := true) rfl rfl rfl) (fun aa ww hk bs hd => xcall1 rfl rfl (en_louvrelaw14_num _ _)) (fun aa ww hk bs hd => lnum14_any (-10000) ww) rfl <|
    arm (fun aa ww hk bs hd => by
      have d18 : aa.eval (.tmp 21) = .bool true := depX hd 18 rfl
      have d20 : aa.eval (.tmp 23) = aggV (⟨3, 0, [97, 98, 99]⟩ : Vl) := depX hd 20 rfl
      have d21 : aa.eval (.tmp 24) = aggV (⟨1, (-10000), []⟩ : Vl) := depX hd 21 rfl
      exact stepX_new _ (want1 (j := 18) (b := true) rfl d18) (xrow2 rfl (d20) (d21)) ⟨_, rfl, hk.size, Go.heap_alloc_new _ _⟩ ((Kept.refl _).alloc _) rfl (Nat.le_refl _)
      ) <|
    arm (fun aa ww hk bs hd => by
      have d18 : aa.eval (.tmp 21) = .bool true := depX hd 18 rfl
      have d19 : aa.eval (.tmp 22) = aggV (⟨4, 2, []⟩ : Vl) := depX hd 19 rfl
      have d22 : ∃ g, aa.eval (.tmp 25) = .slice (some ⟨g, 0, none⟩) 2 2 ∧ fw.heap.size ≤ g ∧ ww.heap[g]? = some (rowObj [(⟨3, 0, [97, 98, 99]⟩ : Vl), (⟨1, (-10000), []⟩ : Vl)]) := depX hd 22 rfl
      obtain ⟨g22, e22, _, h22⟩ := d22
      exact stepX_enter (want1 (j := 18) (b := true) rfl d18) (xcall3 (u := aggV (⟨4, 2, []⟩ : Vl)) (v := .int .u8 32) (s := .slice (some ⟨g22, 0, none⟩) 2 2) rfl (d19) rfl e22 (en_louvrelaw14_is _ _)) ((is14_any (⟨4, 2, []⟩ : Vl) 32 (some ⟨g22, 0, none⟩) 2 [(⟨3, 0, [97, 98, 99]⟩ : Vl), (⟨1, (-10000), []⟩ : Vl)] ww mx (HM.kept (ow.keep hk).kept) (rowObj_row h22) (smalls14 (by decide)) (by decide) (by decide) (by kernel_rfl)).mono fun _ _ ⟨he, hk2⟩ => ⟨_, he, rfl, hk2⟩) rfl
      ) <|
    armS (wn rfl) (fun aa ww hk bs hd => xpickT rfl (dep hd 18 rfl rfl rfl) (dep hd 23 rfl rfl rfl)) rfl <|
    mvD 24 rfl rfl rfl rfl rfl rfl <|
    armC (wg (j := 25) (b := true) rfl rfl rfl) (fun aa ww hk bs hd => xcall1 rfl rfl (en_louvrelaw14_text _ _)) (fun aa ww hk bs hd => ltext14_any [98, 99] ww) rfl <|
    armC (wg (j := 25) (b := true) rfl rfl rfl) (fun aa ww hk bs hd => xcall1 rfl rfl (en_louvrelaw14_text _ _)) (fun aa ww hk bs hd => ltext14_any [97, 98, 99, 100] ww) rfl <|
    armC (wg (j := 25) (b := true) rfl rfl rfl) (fun aa ww hk bs hd => xcall1 rfl rfl (en_louvrelaw14_num _ _)) (fun aa ww hk bs hd => lnum14_any 20000 ww) rfl <|
    armC (wg (j := 25) (b := true) rfl rfl rfl) (fun aa ww hk bs hd => xcall1 rfl rfl (en_louvrelaw14_num _ _)) (fun aa ww hk bs hd => lnum14_any 20000 ww) rfl <|
    arm (fun aa ww hk bs hd => by
      have d25 : aa.eval (.tmp 28) = .bool true := depX hd 25 rfl
      have d27 : aa.eval (.tmp 30) = aggV (⟨3, 0, [97, 98, 99, 100]⟩ : Vl) := depX hd 27 rfl
      have d28 : aa.eval (.tmp 31) = aggV (⟨1, 20000, []⟩ : Vl) := depX hd 28 rfl
      have d29 : aa.eval (.tmp 32) = aggV (⟨1, 20000, []⟩ : Vl) := depX hd 29 rfl
      exact stepX_new _ (want1 (j := 25) (b := true) rfl d25) (xrow3 rfl (d27) (d28) (d29)) ⟨_, rfl, hk.size, Go.heap_alloc_new _ _⟩ ((Kept.refl _).alloc _) rfl (Nat.le_refl _)
      ) <|
    arm (fun aa ww hk bs hd => by
      have d25 : aa.eval (.tmp 28) = .bool true := depX hd 25 rfl
      have d26 : aa.eval (.tmp 29) = aggV (⟨3, 0, [98, 99]⟩ : Vl) := depX hd 26 rfl
      have d30 : ∃ g, aa.eval (.tmp 33) = .slice (some ⟨g, 0, none⟩) 3 3 ∧ fw.heap.size ≤ g ∧ ww.heap[g]? = some (rowObj [(⟨3, 0, [97, 98, 99, 100]⟩ : Vl), (⟨1, 20000, []⟩ : Vl), (⟨1, 20000, []⟩ : Vl)]) := depX hd 30 rfl
      obtain ⟨g30, e30, _, h30⟩ := d30
      exact stepX_enter (want1 (j := 25) (b := true) rfl d25) (xcall3 (u := aggV (⟨3, 0, [98, 99]⟩ : Vl)) (v := .int .u8 34) (s := .slice (some ⟨g30, 0, none⟩) 3 3) rfl (d26) rfl e30 (en_louvrelaw14_is _ _)) ((is14_any (⟨3, 0, [98, 99]⟩ : Vl) 34 (some ⟨g30, 0, none⟩) 3 [(⟨3, 0, [97, 98, 99, 100]⟩ : Vl), (⟨1, 20000, []⟩ : Vl), (⟨1, 20000, []⟩ : Vl)] ww mx (HM.kept (ow.keep hk).kept) (rowObj_row h30) (smalls14 (by decide)) (by decide) (by decide) (by kernel_rfl)).mono fun _ _ ⟨he, hk2⟩ => ⟨_, he, rfl, hk2⟩) rfl
      ) <|
    armS (wn rfl) (fun aa ww hk bs hd => xpickT rfl (dep hd 25 rfl rfl rfl) (dep hd 31 rfl rfl rfl)) rfl <|
    mvD 32 rfl rfl rfl rfl rfl rfl <|
    armC (wg (j := 33) (b := true) rfl rfl rfl) (fun aa ww hk bs hd => xcall1 rfl rfl (en_louvrelaw14_text _ _)) (fun aa ww hk bs hd => ltext14_any [] ww) rfl <|
    armC (wg (j := 33) (b := true) rfl rfl rfl) (fun aa ww hk bs hd => xcall1 rfl rfl (en_louvrelaw14_text _ _)) (fun aa ww hk bs hd => ltext14_any [97, 98, 99, 100] ww) rfl <|
    armC (wg (j := 33) (b := true) rfl rfl rfl) (fun aa ww hk bs hd => xcall1 rfl rfl (en_louvrelaw14_num _ _)) (fun aa ww hk bs hd => lnum14_any 90000 ww) rfl <|
    armC (wg (j := 33) (b := true) rfl rfl rfl) (fun aa ww hk bs hd => xcall1 rfl rfl (en_louvrelaw14_num _ _)) (fun aa ww hk bs hd => lnum14_any 10000 ww) rfl <|
    arm (fun aa ww hk bs hd => by
      have d33 : aa.eval (.tmp 36) = .bool true := depX hd 33 rfl
      have d35 : aa.eval (.tmp 38) = aggV (⟨3, 0, [97, 98, 99, 100]⟩ : Vl) := depX hd 35 rfl
      have d36 : aa.eval (.tmp 39) = aggV (⟨1, 90000, []⟩ : Vl) := depX hd 36 rfl
      have d37 : aa.eval (.tmp 40) = aggV (⟨1, 10000, []⟩ : Vl) := depX hd 37 rfl
      exact stepX_new _ (want1 (j := 33) (b := true) rfl d33) (xrow3 rfl (d35) (d36) (d37)) ⟨_, rfl, hk.size, Go.heap_alloc_new _ _⟩ ((Kept.refl _).alloc _) rfl (Nat.le_refl _)
      ) <|
    arm (fun aa ww hk bs hd => by
      have d33 : aa.eval (.tmp 36) = .bool true := depX hd 33 rfl
      have d34 : aa.eval (.tmp 37) = aggV (⟨3, 0, []⟩ : Vl) := depX hd 34 rfl
      have d38 : ∃ g, aa.eval (.tmp 41) = .slice (some ⟨g, 0, none⟩) 3 3 ∧ fw.heap.size ≤ g ∧ ww.heap[g]? = some (rowObj [(⟨3, 0, [97, 98, 99, 100]⟩ : Vl), (⟨1, 90000, []⟩ : Vl), (⟨1, 10000, []⟩ : Vl)]) := depX hd 38 rfl
      obtain ⟨g38, e38, _, h38⟩ := d38
      exact stepX_enter (want1 (j := 33) (b := true) rfl d33) (xcall3 (u := aggV (⟨3, 0, []⟩ : Vl)) (v := .int .u8 34) (s := .slice (some ⟨g38, 0, none⟩) 3 3) rfl (d34) rfl e38 (en_louvrelaw14_is _ _)) ((is14_any (⟨3, 0, []⟩ : Vl) 34 (some ⟨g38, 0, none⟩) 3 [(⟨3, 0, [97, 98, 99, 100]⟩ : Vl), (⟨1, 90000, []⟩ : Vl), (⟨1, 10000, []⟩ : Vl)] ww mx (HM.kept (ow.keep hk).kept) (rowObj_row h38) (smalls14 (by decide)) (by decide) (by decide) (by kernel_rfl)).mono fun _ _ ⟨he, hk2⟩ => ⟨_, he, rfl, hk2⟩) rfl
      ) <|
    armS (wn rfl) (fun aa ww hk bs hd => xpickT rfl (dep hd 33 rfl rfl rfl) (dep hd 39 rfl rfl rfl)) rfl <|
    mvD 40 rfl rfl rfl rfl rfl rfl <|
    armC (wg (j := 41) (b := true) rfl rfl rfl) (fun aa ww hk bs hd => xcall1 rfl rfl (en_louvrelaw14_num _ _)) (fun aa ww hk bs hd => lnum14_any 20000 ww) rfl <|
    armC (wg (j := 41) (b := true) rfl rfl rfl) (fun aa ww hk bs hd => xcall1 rfl rfl (en_louvrelaw14_text _ _)) (fun aa ww hk bs hd => ltext14_any [98] ww) rfl <|
    armC (wg (j := 41) (b := true) rfl rfl rfl) (fun aa ww hk bs hd => xcall1 rfl rfl (en_louvrelaw14_text _ _)) (fun aa ww hk bs hd => ltext14_any [97, 98, 99, 98] ww) rfl <|
    arm (fun aa ww hk bs hd => by
      have d41 : aa.eval (.tmp 44) = .bool true := depX hd 41 rfl
      have d43 : aa.eval (.tmp 46) = aggV (⟨3, 0, [98]⟩ : Vl) := depX hd 43 rfl
      have d44 : aa.eval (.tmp 47) = aggV (⟨3, 0, [97, 98, 99, 98]⟩ : Vl) := depX hd 44 rfl
      exact stepX_new _ (want1 (j := 41) (b := true) rfl d41) (xrow2 rfl (d43) (d44)) ⟨_, rfl, hk.size, Go.heap_alloc_new _ _⟩ ((Kept.refl _).alloc _) rfl (Nat.le_refl _)
      ) <|
    arm (fun aa ww hk bs hd => by
      have d41 : aa.eval (.tmp 44) = .bool true := depX hd 41 rfl
      have d42 : aa.eval (.tmp 45) = aggV (⟨1, 20000, []⟩ : Vl) := depX hd 42 rfl
      have d45 : ∃ g, aa.eval (.tmp 48) = .slice (some ⟨g, 0, none⟩) 2 2 ∧ fw.heap.size ≤ g ∧ ww.heap[g]? = some (rowObj [(⟨3, 0, [98]⟩ : Vl), (⟨3, 0, [97, 98, 99, 98]⟩ : Vl)]) := depX hd 45 rfl
      obtain ⟨g45, e45, _, h45⟩ := d45
      exact stepX_enter (want1 (j := 41) (b := true) rfl d41) (xcall3 (u := aggV (⟨1, 20000, []⟩ : Vl)) (v := .int .u8 41) (s := .slice (some ⟨g45, 0, none⟩) 2 2) rfl (d42) rfl e45 (en_louvrelaw14_is _ _)) ((is14_any (⟨1, 20000, []⟩ : Vl) 41 (some ⟨g45, 0, none⟩) 2 [(⟨3, 0, [98]⟩ : Vl), (⟨3, 0, [97, 98, 99, 98]⟩ : Vl)] ww mx (HM.kept (ow.keep hk).kept) (rowObj_row h45) (smalls14 (by decide)) (by decide) (by decide) (by kernel_rfl)).mono fun _ _ ⟨he, hk2⟩ => ⟨_, he, rfl, hk2⟩) rfl
      ) <|
    armS (wn rfl) (fun aa ww hk bs hd => xpickT rfl (dep hd 41 rfl rfl rfl) (dep hd 46 rfl rfl rfl)) rfl <|
    mvD 47 rfl rfl rfl rfl rfl rfl <|
    armC (wg (j := 48) (b := true) rfl rfl rfl) (fun aa ww hk bs hd => xcall1 rfl rfl (en_louvrelaw14_num _ _)) (fun aa ww hk bs hd => lnum14_any 40000 ww) rfl <|
    armC (wg (j := 48) (b := true) rfl rfl rfl) (fun aa ww hk bs hd => xcall1 rfl rfl (en_louvrelaw14_text _ _)) (fun aa ww hk bs hd => ltext14_any [98] ww) rfl <|
    armC (wg (j := 48) (b := true) rfl rfl rfl) (fun aa ww hk bs hd => xcall1 rfl rfl (en_louvrelaw14_text _ _)) (fun aa ww hk bs hd => ltext14_any [97, 98, 99, 98] ww) rfl <|
    armC (wg (j := 48) (b := true) rfl rfl rfl) (fun aa ww hk bs hd => xcall1 rfl rfl (en_louvrelaw14_num _ _)) (fun aa ww hk bs hd => lnum14_any 30000 ww) rfl <|
    arm (fun aa ww hk bs hd => by
      have d48 : aa.eval (.tmp 51) = .bool true := depX hd 48 rfl
      have d50 : aa.eval (.tmp 53) = aggV (⟨3, 0, [98]⟩ : Vl) := depX hd 50 rfl
      have d51 : aa.eval (.tmp 54) = aggV (⟨3, 0, [97, 98, 99, 98]⟩ : Vl) := depX hd 51 rfl
      have d52 : aa.eval (.tmp 55) = aggV (⟨1, 30000, []⟩ : Vl) := depX hd 52 rfl
      exact stepX_new _ (want1 (j := 48) (b := true) rfl d48) (xrow3 rfl (d50) (d51) (d52)) ⟨_, rfl, hk.size, Go.heap_alloc_new _ _⟩ ((Kept.refl _).alloc _) rfl (Nat.le_refl _)
      ) <|
    arm (fun aa ww hk bs hd => by
      have d48 : aa.eval (.tmp 51) = .bool true := depX hd 48 rfl
      have d49 : aa.eval (.tmp 52) = aggV (⟨1, 40000, []⟩ : Vl) := depX hd 49 rfl
      have d53 : ∃ g, aa.eval (.tmp 56) = .slice (some ⟨g, 0, none⟩) 3 3 ∧ fw.heap.size ≤ g ∧ ww.heap[g]? = some (rowObj [(⟨3, 0, [98]⟩ : Vl), (⟨3, 0, [97, 98, 99, 98]⟩ : Vl), (⟨1, 30000, []⟩ : Vl)]) := depX hd 53 rfl
      obtain ⟨g53, e53, _, h53⟩ := d53
      exact stepX_enter (want1 (j := 48) (b := true) rfl d48) (xcall3 (u := aggV (⟨1, 40000, []⟩ : Vl)) (v := .int .u8 41) (s := .slice (some ⟨g53, 0, none⟩) 3 3) rfl (d49) rfl e53 (en_louvrelaw14_is _ _)) ((is14_any (⟨1, 40000, []⟩ : Vl) 41 (some ⟨g53, 0, none⟩) 3 [(⟨3, 0, [98]⟩ : Vl), (⟨3, 0, [97, 98, 99, 98]⟩ : Vl), (⟨1, 30000, []⟩ : Vl)] ww mx (HM.kept (ow.keep hk).kept) (rowObj_row h53) (smalls14 (by decide)) (by decide) (by decide) (by kernel_rfl)).mono fun _ _ ⟨he, hk2⟩ => ⟨_, he, rfl, hk2⟩) rfl
      ) <|
    armS (wn rfl) (fun aa ww hk bs hd => xpickT rfl (dep hd 48 rfl rfl rfl) (dep hd 54 rfl rfl rfl)) rfl <|
    mvD 55 rfl rfl rfl rfl rfl rfl <|
    armS (wg (j := 56) (b := true) rfl rfl rfl) (fun aa ww hk bs hd => xloadN 3 rfl (by kernel_rfl) (by kernel_rfl) (bs.get 1 rfl s1) ((ow.keep hk).box 0 rfl) (Nat.le_of_ble_eq_true rfl) rfl) rfl <|
    armC (wg (j := 56) (b := true) rfl rfl rfl) (fun aa ww hk bs hd => xcall1 rfl rfl (en_louvrelaw14_text _ _)) (fun aa ww hk bs hd => ltext14_any [66] ww) rfl <|
    armC (wg (j := 56) (b := true) rfl rfl rfl) (fun aa ww hk bs hd => xcall1 rfl rfl (en_louvrelaw14_text _ _)) (fun aa ww hk bs hd => ltext14_any [97, 98, 99] ww) rfl <|
    arm (fun aa ww hk bs hd => by
      have d56 : aa.eval (.tmp 59) = .bool true := depX hd 56 rfl
      have d58 : aa.eval (.tmp 61) = aggV (⟨3, 0, [66]⟩ : Vl) := depX hd 58 rfl
      have d59 : aa.eval (.tmp 62) = aggV (⟨3, 0, [97, 98, 99]⟩ : Vl) := depX hd 59 rfl
      exact stepX_new _ (want1 (j := 56) (b := true) rfl d56) (xrow2 rfl (d58) (d59)) ⟨_, rfl, hk.size, Go.heap_alloc_new _ _⟩ ((Kept.refl _).alloc _) rfl (Nat.le_refl _)
      ) <|
    arm (fun aa ww hk bs hd => by
      have d56 : aa.eval (.tmp 59) = .bool true := depX hd 56 rfl
      have d57 : aa.eval (.tmp 60) = aggV (⟨4, 2, []⟩ : Vl) := depX hd 57 rfl
      have d60 : ∃ g, aa.eval (.tmp 63) = .slice (some ⟨g, 0, none⟩) 2 2 ∧ fw.heap.size ≤ g ∧ ww.heap[g]? = some (rowObj [(⟨3, 0, [66]⟩ : Vl), (⟨3, 0, [97, 98, 99]⟩ : Vl)]) := depX hd 60 rfl
      obtain ⟨g60, e60, _, h60⟩ := d60
      exact stepX_enter (want1 (j := 56) (b := true) rfl d56) (xcall3 (u := aggV (⟨4, 2, []⟩ : Vl)) (v := .int .u8 41) (s := .slice (some ⟨g60, 0, none⟩) 2 2) rfl (d57) rfl e60 (en_louvrelaw14_is _ _)) ((is14_any (⟨4, 2, []⟩ : Vl) 41 (some ⟨g60, 0, none⟩) 2 [(⟨3, 0, [66]⟩ : Vl), (⟨3, 0, [97, 98, 99]⟩ : Vl)] ww mx (HM.kept (ow.keep hk).kept) (rowObj_row h60) (smalls14 (by decide)) (by decide) (by decide) (by kernel_rfl)).mono fun _ _ ⟨he, hk2⟩ => ⟨_, he, rfl, hk2⟩) rfl
      ) <|
    armS (wn rfl) (fun aa ww hk bs hd => xpickT rfl (dep hd 56 rfl rfl rfl) (dep hd 61 rfl rfl rfl)) rfl <|
    mvD 62 rfl rfl rfl rfl rfl rfl <|
    armC (wg (j := 63) (b := true) rfl rfl rfl) (fun aa ww hk bs hd => xcall1 rfl rfl (en_louvrelaw14_num _ _)) (fun aa ww hk bs hd => lnum14_any 30000 ww) rfl <|
    armC (wg (j := 63) (b := true) rfl rfl rfl) (fun aa ww hk bs hd => xcall1 rfl rfl (en_louvrelaw14_text _ _)) (fun aa ww hk bs hd => ltext14_any [] ww) rfl <|
    armC (wg (j := 63) (b := true) rfl rfl rfl) (fun aa ww hk bs hd => xcall1 rfl rfl (en_louvrelaw14_text _ _)) (fun aa ww hk bs hd => ltext14_any [97, 98] ww) rfl <|
    armC (wg (j := 63) (b := true) rfl rfl rfl) (fun aa ww hk bs hd => xcall1 rfl rfl (en_louvrelaw14_num _ _)) (fun aa ww hk bs hd => lnum14_any 30000 ww) rfl <|
    arm (fun aa ww hk bs hd => by
      have d63 : aa.eval (.tmp 66) = .bool true := depX hd 63 rfl
      have d65 : aa.eval (.tmp 68) = aggV (⟨3, 0, []⟩ : Vl) := depX hd 65 rfl
      have d66 : aa.eval (.tmp 69) = aggV (⟨3, 0, [97, 98]⟩ : Vl) := depX hd 66 rfl
      have d67 : aa.eval (.tmp 70) = aggV (⟨1, 30000, []⟩ : Vl) := depX hd 67 rfl
      exact stepX_new _ (want1 (j := 63) (b := true) rfl d63) (xrow3 rfl (d65) (d66) (d67)) ⟨_, rfl, hk.size, Go.heap_alloc_new _ _⟩ ((Kept.refl _).alloc _) rfl (Nat.le_refl _)
      ) <|
    arm (fun aa ww hk bs hd => by
      have d63 : aa.eval (.tmp 66) = .bool true := depX hd 63 rfl
      have d64 : aa.eval (.tmp 67) = aggV (⟨1, 30000, []⟩ : Vl) := depX hd 64 rfl
      have d68 : ∃ g, aa.eval (.tmp 71) = .slice (some ⟨g, 0, none⟩) 3 3 ∧ fw.heap.size ≤ g ∧ ww.heap[g]? = some (rowObj [(⟨3, 0, []⟩ : Vl), (⟨3, 0, [97, 98]⟩ : Vl), (⟨1, 30000, []⟩ : Vl)]) := depX hd 68 rfl
      obtain ⟨g68, e68, _, h68⟩ := d68
      exact stepX_enter (want1 (j := 63) (b := true) rfl d63) (xcall3 (u := aggV (⟨1, 30000, []⟩ : Vl)) (v := .int .u8 41) (s := .slice (some ⟨g68, 0, none⟩) 3 3) rfl (d64) rfl e68 (en_louvrelaw14_is _ _)) ((is14_any (⟨1, 30000, []⟩ : Vl) 41 (some ⟨g68, 0, none⟩) 3 [(⟨3, 0, []⟩ : Vl), (⟨3, 0, [97, 98]⟩ : Vl), (⟨1, 30000, []⟩ : Vl)] ww mx (HM.kept (ow.keep hk).kept) (rowObj_row h68) (smalls14 (by decide)) (by decide) (by decide) (by kernel_rfl)).mono fun _ _ ⟨he, hk2⟩ => ⟨_, he, rfl, hk2⟩) rfl
      ) <|
    armS (wn rfl) (fun aa ww hk bs hd => xpickT rfl (dep hd 63 rfl rfl rfl) (dep hd 69 rfl rfl rfl)) rfl <|
    mvD 70 rfl rfl rfl rfl rfl rfl <|
    armC (wg (j := 71) (b := true) rfl rfl rfl) (fun aa ww hk bs hd => xcall1 rfl rfl (en_louvrelaw14_text _ _)) (fun aa ww hk bs hd => ltext14_any [97, 98, 97, 98] ww) rfl <|
    armC (wg (j := 71) (b := true) rfl rfl rfl) (fun aa ww hk bs hd => xcall1 rfl rfl (en_louvrelaw14_text _ _)) (fun aa ww hk bs hd => ltext14_any [97, 98] ww) rfl <|
    armC (wg (j := 71) (b := true) rfl rfl rfl) (fun aa ww hk bs hd => xcall1 rfl rfl (en_louvrelaw14_num _ _)) (fun aa ww hk bs hd => lnum14_any 29000 ww) rfl <|
    arm (fun aa ww hk bs hd => by
      have d71 : aa.eval (.tmp 74) = .bool true := depX hd 71 rfl
      have d73 : aa.eval (.tmp 76) = aggV (⟨3, 0, [97, 98]⟩ : Vl) := depX hd 73 rfl
      have d74 : aa.eval (.tmp 77) = aggV (⟨1, 29000, []⟩ : Vl) := depX hd 74 rfl
      exact stepX_new _ (want1 (j := 71) (b := true) rfl d71) (xrow2 rfl (d73) (d74)) ⟨_, rfl, hk.size, Go.heap_alloc_new _ _⟩ ((Kept.refl _).alloc _) rfl (Nat.le_refl _)
      ) <|
    arm (fun aa ww hk bs hd => by
      have d71 : aa.eval (.tmp 74) = .bool true := depX hd 71 rfl
      have d72 : aa.eval (.tmp 75) = aggV (⟨3, 0, [97, 98, 97, 98]⟩ : Vl) := depX hd 72 rfl
      have d75 : ∃ g, aa.eval (.tmp 78) = .slice (some ⟨g, 0, none⟩) 2 2 ∧ fw.heap.size ≤ g ∧ ww.heap[g]? = some (rowObj [(⟨3, 0, [97, 98]⟩ : Vl), (⟨1, 29000, []⟩ : Vl)]) := depX hd 75 rfl
      obtain ⟨g75, e75, _, h75⟩ := d75
      exact stepX_enter (want1 (j := 71) (b := true) rfl d71) (xcall3 (u := aggV (⟨3, 0, [97, 98, 97, 98]⟩ : Vl)) (v := .int .u8 39) (s := .slice (some ⟨g75, 0, none⟩) 2 2) rfl (d72) rfl e75 (en_louvrelaw14_is _ _)) ((is14_any (⟨3, 0, [97, 98, 97, 98]⟩ : Vl) 39 (some ⟨g75, 0, none⟩) 2 [(⟨3, 0, [97, 98]⟩ : Vl), (⟨1, 29000, []⟩ : Vl)] ww mx (HM.kept (ow.keep hk).kept) (rowObj_row h75) (smalls14 (by decide)) (by decide) (by decide) (by kernel_rfl)).mono fun _ _ ⟨he, hk2⟩ => ⟨_, he, rfl, hk2⟩) rfl
      ) <|
    armS (wn rfl) (fun aa ww hk bs hd => xpickT rfl (dep hd 71 rfl rfl rfl) (dep hd 76 rfl rfl rfl)) rfl <|
    mvD 77 rfl rfl rfl rfl rfl rfl <|
    armS (wg (j := 78) (b := true) rfl rfl rfl) (fun aa ww hk bs hd => xloadN 3 rfl (by kernel_rfl) (by kernel_rfl) (bs.get 1 rfl s1) ((ow.keep hk).box 0 rfl) (Nat.le_of_ble_eq_true rfl) rfl) rfl <|
    armC (wg (j := 78) (b := true) rfl rfl rfl) (fun aa ww hk bs hd => xcall1 rfl rfl (en_louvrelaw14_text _ _)) (fun aa ww hk bs hd => ltext14_any [97, 98] ww) rfl <|
    armC (wg (j := 78) (b := true) rfl rfl rfl) (fun aa ww hk bs hd => xcall1 rfl rfl (en_louvrelaw14_num _ _)) (fun aa ww hk bs hd => lnum14_any 2000000 ww) rfl <|
    arm (fun aa ww hk bs hd => by
      have d78 : aa.eval (.tmp 81) = .bool true := depX hd 78 rfl
      have d80 : aa.eval (.tmp 83) = aggV (⟨3, 0, [97, 98]⟩ : Vl) := depX hd 80 rfl
      have d81 : aa.eval (.tmp 84) = aggV (⟨1, 2000000, []⟩ : Vl) := depX hd 81 rfl
      exact stepX_new _ (want1 (j := 78) (b := true) rfl d78) (xrow2 rfl (d80) (d81)) ⟨_, rfl, hk.size, Go.heap_alloc_new _ _⟩ ((Kept.refl _).alloc _) rfl (Nat.le_refl _)
      ) <|
    arm (fun aa ww hk bs hd => by
      have d78 : aa.eval (.tmp 81) = .bool true := depX hd 78 rfl
      have d79 : aa.eval (.tmp 82) = aggV (⟨4, 2, []⟩ : Vl) := depX hd 79 rfl
      have d82 : ∃ g, aa.eval (.tmp 85) = .slice (some ⟨g, 0, none⟩) 2 2 ∧ fw.heap.size ≤ g ∧ ww.heap[g]? = some (rowObj [(⟨3, 0, [97, 98]⟩ : Vl), (⟨1, 2000000, []⟩ : Vl)]) := depX hd 82 rfl
      obtain ⟨g82, e82, _, h82⟩ := d82
      exact stepX_enter (want1 (j := 78) (b := true) rfl d78) (xcall3 (u := aggV (⟨4, 2, []⟩ : Vl)) (v := .int .u8 39) (s := .slice (some ⟨g82, 0, none⟩) 2 2) rfl (d79) rfl e82 (en_louvrelaw14_is _ _)) ((is14_any (⟨4, 2, []⟩ : Vl) 39 (some ⟨g82, 0, none⟩) 2 [(⟨3, 0, [97, 98]⟩ : Vl), (⟨1, 2000000, []⟩ : Vl)] ww mx (HM.kept (ow.keep hk).kept) (rowObj_row h82) (smalls14 (by decide)) (by decide) (by decide) (by kernel_rfl)).mono fun _ _ ⟨he, hk2⟩ => ⟨_, he, rfl, hk2⟩) rfl
      ) <|
    armS (wn rfl) (fun aa ww hk bs hd => xpickT rfl (dep hd 78 rfl rfl rfl) (dep hd 83 rfl rfl rfl)) rfl <|
    mvD 84 rfl rfl rfl rfl rfl rfl <|
    armC (wg (j := 85) (b := true) rfl rfl rfl) (fun aa ww hk bs hd => xcall1 rfl rfl (en_louvrelaw14_num _ _)) (fun aa ww hk bs hd => lnum14_any 40000 ww) rfl <|
    armC (wg (j := 85) (b := true) rfl rfl rfl) (fun aa ww hk bs hd => xcall1 rfl rfl (en_louvrelaw14_num _ _)) (fun aa ww hk bs hd => lnum14_any 125000 ww) rfl <|
    arm (fun aa ww hk bs hd => by
      have d85 : aa.eval (.tmp 88) = .bool true := depX hd 85 rfl
      have d87 : aa.eval (.tmp 90) = aggV (⟨1, 125000, []⟩ : Vl) := depX hd 87 rfl
      exact stepX_new _ (want1 (j := 85) (b := true) rfl d85) (xrow1 rfl (d87)) ⟨_, rfl, hk.size, Go.heap_alloc_new _ _⟩ ((Kept.refl _).alloc _) rfl (Nat.le_refl _)
      ) <|
    arm (fun aa ww hk bs hd => by
      have d85 : aa.eval (.tmp 88) = .bool true := depX hd 85 rfl
      have d86 : aa.eval (.tmp 89) = aggV (⟨1, 40000, []⟩ : Vl) := depX hd 86 rfl
      have d88 : ∃ g, aa.eval (.tmp 91) = .slice (some ⟨g, 0, none⟩) 1 1 ∧ fw.heap.size ≤ g ∧ ww.heap[g]? = some (rowObj [(⟨1, 125000, []⟩ : Vl)]) := depX hd 88 rfl
      obtain ⟨g88, e88, _, h88⟩ := d88
      exact stepX_enter (want1 (j := 85) (b := true) rfl d85) (xcall3 (u := aggV (⟨1, 40000, []⟩ : Vl)) (v := .int .u8 31) (s := .slice (some ⟨g88, 0, none⟩) 1 1) rfl (d86) rfl e88 (en_louvrelaw14_is _ _)) ((is14_any (⟨1, 40000, []⟩ : Vl) 31 (some ⟨g88, 0, none⟩) 1 [(⟨1, 125000, []⟩ : Vl)] ww mx (HM.kept (ow.keep hk).kept) (rowObj_row h88) (smalls14 (by decide)) (by decide) (by decide) (by kernel_rfl)).mono fun _ _ ⟨he, hk2⟩ => ⟨_, he, rfl, hk2⟩) rfl
      ) <|
    armS (wn rfl) (fun aa ww hk bs hd => xpickT rfl (dep hd 85 rfl rfl rfl) (dep hd 89 rfl rfl rfl)) rfl <|
    mvD 90 rfl rfl rfl rfl rfl rfl <|
    armC (wg (j := 91) (b := true) rfl rfl rfl) (fun aa ww hk bs hd => xcall1 rfl rfl (en_louvrelaw14_num _ _)) (fun aa ww hk bs hd => lnum14_any 15000 ww) rfl <|
    armC (wg (j := 91) (b := true) rfl rfl rfl) (fun aa ww hk bs hd => xcall1 rfl rfl (en_louvrelaw14_text _ _)) (fun aa ww hk bs hd => ltext14_any [49, 46, 53] ww) rfl <|
    arm (fun aa ww hk bs hd => by
      have d91 : aa.eval (.tmp 94) = .bool true := depX hd 91 rfl
      have d93 : aa.eval (.tmp 96) = aggV (⟨3, 0, [49, 46, 53]⟩ : Vl) := depX hd 93 rfl
      exact stepX_new _ (want1 (j := 91) (b := true) rfl d91) (xrow1 rfl (d93)) ⟨_, rfl, hk.size, Go.heap_alloc_new _ _⟩ ((Kept.refl _).alloc _) rfl (Nat.le_refl _)
      ) <|
    arm (fun aa ww hk bs hd => by
      have d91 : aa.eval (.tmp 94) = .bool true := depX hd 91 rfl
      have d92 : aa.eval (.tmp 95) = aggV (⟨1, 15000, []⟩ : Vl) := depX hd 92 rfl
      have d94 : ∃ g, aa.eval (.tmp 97) = .slice (some ⟨g, 0, none⟩) 1 1 ∧ fw.heap.size ≤ g ∧ ww.heap[g]? = some (rowObj [(⟨3, 0, [49, 46, 53]⟩ : Vl)]) := depX hd 94 rfl
      obtain ⟨g94, e94, _, h94⟩ := d94
      exact stepX_enter (want1 (j := 91) (b := true) rfl d91) (xcall3 (u := aggV (⟨1, 15000, []⟩ : Vl)) (v := .int .u8 42) (s := .slice (some ⟨g94, 0, none⟩) 1 1) rfl (d92) rfl e94 (en_louvrelaw14_is _ _)) ((is14_any (⟨1, 15000, []⟩ : Vl) 42 (some ⟨g94, 0, none⟩) 1 [(⟨3, 0, [49, 46, 53]⟩ : Vl)] ww mx (HM.kept (ow.keep hk).kept) (rowObj_row h94) (smalls14 (by decide)) (by decide) (by decide) (by kernel_rfl)).mono fun _ _ ⟨he, hk2⟩ => ⟨_, he, rfl, hk2⟩) rfl
      ) <|
    armS (wn rfl) (fun aa ww hk bs hd => xpickT rfl (dep hd 91 rfl rfl rfl) (dep hd 95 rfl rfl rfl)) rfl <|
    mvD 96 rfl rfl rfl rfl rfl rfl <|
    armS (wg (j := 97) (b := true) rfl rfl rfl) (fun aa ww hk bs hd => xloadN 3 rfl (by kernel_rfl) (by kernel_rfl) (bs.get 1 rfl s1) ((ow.keep hk).box 0 rfl) (Nat.le_of_ble_eq_true rfl) rfl) rfl <|
    armC (wg (j := 97) (b := true) rfl rfl rfl) (fun aa ww hk bs hd => xcall1 rfl rfl (en_louvrelaw14_text _ _)) (fun aa ww hk bs hd => ltext14_any [97, 98, 99] ww) rfl <|
    armC (wg (j := 97) (b := true) rfl rfl rfl) (fun aa ww hk bs hd => xcall1 rfl rfl (en_louvrelaw14_text _ _)) (fun aa ww hk bs hd => ltext14_any [120] ww) rfl <|
    armS (wg (j := 97) (b := true) rfl rfl rfl) (fun aa ww hk bs hd => xbuild (us := #[(0, .int .u8 4), (1, .int .i64 4)]) rfl (by simp only [List.map_toArray, List.map_cons, List.map_nil]; rfl) (by kernel_rfl)) rfl <|
    arm (fun aa ww hk bs hd => by
      have d97 : aa.eval (.tmp 100) = .bool true := depX hd 97 rfl
      have d99 : aa.eval (.tmp 102) = aggV (⟨3, 0, [97, 98, 99]⟩ : Vl) := depX hd 99 rfl
      have d100 : aa.eval (.tmp 103) = aggV (⟨3, 0, [120]⟩ : Vl) := depX hd 100 rfl
      have d101 : aa.eval (.tmp 104) = aggV (⟨4, 4, []⟩ : Vl) := depX hd 101 rfl
      exact stepX_new _ (want1 (j := 97) (b := true) rfl d97) (xrow3 rfl (d99) (d100) (d101)) ⟨_, rfl, hk.size, Go.heap_alloc_new _ _⟩ ((Kept.refl _).alloc _) rfl (Nat.le_refl _)
      ) <|
    arm (fun aa ww hk bs hd => by
      have d97 : aa.eval (.tmp 100) = .bool true := depX hd 97 rfl
      have d98 : aa.eval (.tmp 101) = aggV (⟨4, 2, []⟩ : Vl) := depX hd 98 rfl
      have d102 : ∃ g, aa.eval (.tmp 105) = .slice (some ⟨g, 0, none⟩) 3 3 ∧ fw.heap.size ≤ g ∧ ww.heap[g]? = some (rowObj [(⟨3, 0, [97, 98, 99]⟩ : Vl), (⟨3, 0, [120]⟩ : Vl), (⟨4, 4, []⟩ : Vl)]) := depX hd 102 rfl
      obtain ⟨g102, e102, _, h102⟩ := d102
      exact stepX_enter (want1 (j := 97) (b := true) rfl d97) (xcall3 (u := aggV (⟨4, 2, []⟩ : Vl)) (v := .int .u8 34) (s := .slice (some ⟨g102, 0, none⟩) 3 3) rfl (d98) rfl e102 (en_louvrelaw14_is _ _)) ((is14_any (⟨4, 2, []⟩ : Vl) 34 (some ⟨g102, 0, none⟩) 3 [(⟨3, 0, [97, 98, 99]⟩ : Vl), (⟨3, 0, [120]⟩ : Vl), (⟨4, 4, []⟩ : Vl)] ww mx (HM.kept (ow.keep hk).kept) (rowObj_row h102) (smalls14 (by decide)) (by decide) (by decide) (by kernel_rfl)).mono fun _ _ ⟨he, hk2⟩ => ⟨_, he, rfl, hk2⟩) rfl
      ) <|
    armS (wn rfl) (fun aa ww hk bs hd => xpickT rfl (dep hd 97 rfl rfl rfl) (dep hd 103 rfl rfl rfl)) rfl <|
    asD 104 rfl rfl rfl rfl rfl rfl <|
    arm0) fun fa fw hk bs hv ap => ?_
  obtain ⟨z, q, ov⟩ := aft hk bs z q ow
  have s0 := got hv 105 rfl rfl rfl
  have ow := ov
  clear hv ap bs hk ov
  refine wl_then (hK3 _ _ ?_)
  try clear hK3 K3
  refine wp_ret ?_
  refine results_one rfl (res_tmp s0) q ?_
  exact ⟨rfl, ow.kept⟩
end Go.Proofs.YtbpkfnoenkoabaaGreatDoor
