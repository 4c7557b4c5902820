/- Layer 13: the examples of the law's package: num, fail, calls, ops, awake (printed by wip/mkawake13.py). -/
import Derived.Test.YtbpkfnoenkoabaaGreatDoorFdGNum13b
namespace Go.Proofs.YtbpkfnoenkoabaaGreatDoor
set_option linter.unusedVariables false
set_option linter.unusedSimpArgs false
open Go.RowKit Lv
set_option maxRecDepth 100000
theorem smalls13 {l : List Vl} (h : (l.all fun v => decide (-9223372036854775808 ≤ v.n ∧ v.n ≤ 9223372036854775807 ∧ v.t.length ≤ 2000)) = true) : ∀ v ∈ l, Small v := fun v hv => by
  have := List.all_eq_true.1 h v hv
  rw [decide_eq_true_eq] at this
  exact ⟨⟨this.1, this.2.1⟩, this.2.2⟩
theorem sqrt_ex : vCall13 8 [(⟨1, 20000, []⟩ : Vl)] = ((⟨1, 14142, []⟩ : Vl), 0) := by
  have e : (root 20000 : Int) = 14142 := (root_unique (by decide) (by decide) (by decide) (by decide)).symm
  rw [c13_val1 (by decide) (by decide) (by kernel_rfl) (by kernel_rfl)]
  have e2 : (vNum (⟨1, 20000, []⟩ : Vl)).n = 20000 := by kernel_rfl
  rw [e2]
  have e3 : val13 8 20000 0 = vRes ((root 20000 : Int), true) := by
    unfold val13 dSqrt
    simp
  rw [e3, e]
  rfl
theorem en_fnum_Binary (args : Array Value) (w : World) : (callFunc 30 args).run Tryz.prog w = .ok (.enter 30 args) w := by go_simp
theorem en_fnum_Call (args : Array Value) (w : World) : (callFunc 27 args).run Tryz.prog w = .ok (.enter 27 args) w := by go_simp
theorem en_fnum_Neg (args : Array Value) (w : World) : (callFunc 32 args).run Tryz.prog w = .ok (.enter 32 args) w := by go_simp
theorem en_fnum_Percent (args : Array Value) (w : World) : (callFunc 34 args).run Tryz.prog w = .ok (.enter 34 args) w := by go_simp
theorem en_louvrelaw13_calls (args : Array Value) (w : World) : (callFunc 75 args).run Tryz.prog w = .ok (.enter 75 args) w := by go_simp
theorem en_louvrelaw13_fail (args : Array Value) (w : World) : (callFunc 41 args).run Tryz.prog w = .ok (.enter 41 args) w := by go_simp
theorem en_louvrelaw13_num (args : Array Value) (w : World) : (callFunc 40 args).run Tryz.prog w = .ok (.enter 40 args) w := by go_simp
theorem en_louvrelaw13_ops (args : Array Value) (w : World) : (callFunc 76 args).run Tryz.prog w = .ok (.enter 76 args) w := by go_simp
set_option maxHeartbeats 4000000 in
theorem lnum13_any (n : Int) (w : World) :
    Calls Tryz.prog 40 #[.int .i64 n] w fun e w' => e = .returned (aggV (⟨1, n, []⟩ : Vl)) ∧ Kept w w' := by
  go_enter Tryz.func40, Tryz.ntmps40
  refine wp_seq_k fun K1 hK1 => ?_
  refine rgn [yNew w.heap.size (.cells #[.int .u8 0, .int .i64 0, .string ⟨[].toArray⟩] 25 (0, 0))] 1 5 rfl (by kernel_rfl) (by kernel_rfl) (
    armP (wn rfl) (fun aa ww hk bs hd => xalloc rfl (by kernel_rfl)) rfl <|
    arm0) fun fa fw hk bs hv ap => ?_
  obtain ⟨z, q, ov⟩ := aft hk bs rfl rfl (Own.start w)
  have s0 := bs.get 0 rfl rfl
  obtain ⟨gb1, s2, bgb1, hgb1⟩ := gotP hv 0 rfl rfl rfl
  have ov := ov.cons hgb1 (Nat.le_trans (Own.start w).kept.size bgb1) ((Own.start w).below bgb1)
  have ow := ov
  clear hv ap bs hk ov
  refine wl_then (hK1 _ _ ?_)
  try clear hK1 K1
  refine wp_seq_k fun K2 hK2 => ?_
  refine rgn [yV _, yV (aggV (⟨1, n, []⟩ : Vl))] 2 5 z (by kernel_rfl) (by kernel_rfl) (
    mvS s0 rfl rfl rfl rfl <|
    arm (fun aa ww hk bs hd => by
      have d0 : aa.eval (.tmp 3) = .int .i64 n := depX hd 0 rfl
      exact stepX_same (v := aggV (⟨1, n, []⟩ : Vl)) (want0 rfl) (xbuild (us := #[(0, .int .u8 1), (1, .int .i64 n)]) rfl (by simp only [List.map_toArray, List.map_cons, List.map_nil, d0]; rfl) (by kernel_rfl)) rfl rfl
      ) <|
    arm0) fun fa fw hk bs hv ap => ?_
  obtain ⟨z, q, ov⟩ := aft hk bs z q ow
  have s2 := bs.get 2 rfl s2
  have s4 := got hv 1 rfl rfl rfl
  have ow := ov
  clear hv ap bs hk ov
  refine wl_store ow 0 0 (want0 rfl) rfl rfl s2 s4 (by kernel_rfl) rfl rfl rfl fun fw ow => ?_
  refine wl_then (hK2 _ _ ?_)
  try clear hK2 K2
  refine wp_ret ?_
  refine results_one rfl (res_cell (n := 3) _ s2 (by kernel_rfl) (by kernel_rfl) (ow.box 0 rfl) (Nat.le_of_ble_eq_true rfl) rfl) q ?_
  exact ⟨rfl, ow.kept⟩
set_option maxHeartbeats 4000000 in
theorem lfail13_any (n : Int) (w : World) :
    Calls Tryz.prog 41 #[.int .i64 n] w fun e w' => e = .returned (aggV (⟨4, n, []⟩ : Vl)) ∧ Kept w w' := by
  go_enter Tryz.func41, Tryz.ntmps41
  refine wp_seq_k fun K1 hK1 => ?_
  refine rgn [yNew w.heap.size (.cells #[.int .u8 0, .int .i64 0, .string ⟨[].toArray⟩] 25 (0, 0))] 1 5 rfl (by kernel_rfl) (by kernel_rfl) (
    armP (wn rfl) (fun aa ww hk bs hd => xalloc rfl (by kernel_rfl)) rfl <|
    arm0) fun fa fw hk bs hv ap => ?_
  obtain ⟨z, q, ov⟩ := aft hk bs rfl rfl (Own.start w)
  have s0 := bs.get 0 rfl rfl
  obtain ⟨gb1, s2, bgb1, hgb1⟩ := gotP hv 0 rfl rfl rfl
  have ov := ov.cons hgb1 (Nat.le_trans (Own.start w).kept.size bgb1) ((Own.start w).below bgb1)
  have ow := ov
  clear hv ap bs hk ov
  refine wl_then (hK1 _ _ ?_)
  try clear hK1 K1
  refine wp_seq_k fun K2 hK2 => ?_
  refine rgn [yV _, yV (aggV (⟨4, n, []⟩ : Vl))] 2 5 z (by kernel_rfl) (by kernel_rfl) (
    mvS s0 rfl rfl rfl rfl <|
    arm (fun aa ww hk bs hd => by
      have d0 : aa.eval (.tmp 3) = .int .i64 n := depX hd 0 rfl
      exact stepX_same (v := aggV (⟨4, n, []⟩ : Vl)) (want0 rfl) (xbuild (us := #[(0, .int .u8 4), (1, .int .i64 n)]) rfl (by simp only [List.map_toArray, List.map_cons, List.map_nil, d0]; rfl) (by kernel_rfl)) rfl rfl
      ) <|
    arm0) fun fa fw hk bs hv ap => ?_
  obtain ⟨z, q, ov⟩ := aft hk bs z q ow
  have s2 := bs.get 2 rfl s2
  have s4 := got hv 1 rfl rfl rfl
  have ow := ov
  clear hv ap bs hk ov
  refine wl_store ow 0 0 (want0 rfl) rfl rfl s2 s4 (by kernel_rfl) rfl rfl rfl fun fw ow => ?_
  refine wl_then (hK2 _ _ ?_)
  try clear hK2 K2
  refine wp_ret ?_
  refine results_one rfl (res_cell (n := 3) _ s2 (by kernel_rfl) (by kernel_rfl) (ow.box 0 rfl) (Nat.le_of_ble_eq_true rfl) rfl) q ?_
  exact ⟨rfl, ow.kept⟩
set_option maxHeartbeats 4000000 in
theorem calls13_any (x : Vl) (fn : Nat) (A : Option Addr) (cap : Nat) (l : List Vl) (w : World) (mx : Int) (HM : Mx w mx) (hr : RowV w A l) (hs : ∀ v ∈ l, Small v) (hl : l.length ≤ 1000000) (hc : l.length ≤ cap) (hx : vCall13 fn l = (x, 0)) :
    Calls Tryz.prog 75 #[.int .u8 fn, aggV x, .slice A l.length cap] w fun e w' => e = .returned (.bool true) ∧ Kept w w' := by
  go_enter Tryz.func75, Tryz.ntmps75
  refine wp_seq_k fun K1 hK1 => ?_
  refine rgn [yNew w.heap.size (.cells #[.int .u8 x.k, .int .i64 x.n, .string ⟨x.t.toArray⟩] 25 (0, 0)), yV _] 2 22 rfl (by kernel_rfl) (by kernel_rfl) (
    armP (wn rfl) (fun aa ww hk bs hd => xbox rfl (bs.get 1 rfl rfl) (by kernel_rfl)) rfl <|
    armS (wn rfl) (fun aa ww hk bs hd => xassign rfl rfl) rfl <|
    arm0) fun fa fw hk bs hv ap => ?_
  obtain ⟨z, q, ov⟩ := aft hk bs rfl rfl (Own.start w)
  have s0 := bs.get 0 rfl rfl
  have s2 := bs.get 2 rfl rfl
  obtain ⟨gb1, s4, bgb1, hgb1⟩ := gotP hv 0 rfl rfl rfl
  have ov := ov.cons hgb1 (Nat.le_trans (Own.start w).kept.size bgb1) ((Own.start w).below bgb1)
  have s6 := got hv 1 rfl rfl rfl
  have ow := ov
  clear hv ap bs hk ov
  refine wl_then (hK1 _ _ ?_)
  try clear hK1 K1
  refine wp_seq_k fun K2 hK2 => ?_
  refine rgn [yV _, yV _, yV (.tuple #[aggV x, .int .i64 0]), yV _, yV (aggV x), yV _, yNew fw.heap.size (.cells #[.int .u8 0, .int .i64 0, .string ⟨[].toArray⟩] 25 (0, 0))] 7 22 z (by kernel_rfl) (by kernel_rfl) (
    mvS s0 rfl rfl rfl rfl <|
    mvS s2 rfl rfl rfl rfl <|
    armC (wn rfl) (fun aa ww hk bs hd => xcall2 rfl (dep hd 0 rfl rfl rfl) (dep hd 1 rfl rfl rfl) (en_fnum_Call _ _)) (fun aa ww hk bs hd => (by have h := call13_any fn A cap l ww mx (HM.kept (ow.keep hk).kept) (hr.kept (ow.keep hk).kept) hs hl hc; rw [hx] at h; exact h)) rfl <|
    mvD 2 rfl rfl rfl rfl rfl rfl <|
    armS (wn rfl) (fun aa ww hk bs hd => xextract rfl (dep hd 3 rfl rfl rfl) rfl) rfl <|
    armS (wn rfl) (fun aa ww hk bs hd => xextract rfl (dep hd 3 rfl rfl rfl) rfl) rfl <|
    armP (wn rfl) (fun aa ww hk bs hd => xalloc rfl (by kernel_rfl)) rfl <|
    arm0) fun fa fw hk bs hv ap => ?_
  obtain ⟨z, q, ov⟩ := aft hk bs z q ow
  have s4 := bs.get 4 rfl s4
  have s6 := bs.get 6 rfl s6
  have s13 := got hv 4 rfl rfl rfl
  have s14 := got hv 5 rfl rfl rfl
  obtain ⟨gb2, s7, bgb2, hgb2⟩ := gotP hv 6 rfl rfl rfl
  have ov := ov.cons hgb2 (Nat.le_trans ow.kept.size bgb2) (ow.below bgb2)
  have ow := ov
  clear hv ap bs hk ov
  refine wl_store ow 0 0 (want0 rfl) rfl rfl s7 s13 (by kernel_rfl) rfl rfl rfl fun fw ow => ?_
  refine wl_value (v := .int .i64 0) (want0 rfl) (xassign rfl s14) ?_
  refine gt4 (put_size z) (put_def q) ow 4 (pb 8 s4 rfl) 6 (pb 8 s6 rfl) 7 (pb 8 s7 rfl) 8 (put_in (t := 8) z rfl) fun fa fw z q ow s4 s6 s7 s8 => ?_
  refine wl_then (hK2 _ _ ?_)
  try clear hK2 K2
  refine wp_seq_k fun K3 hK3 => ?_
  refine rgn [yV (aggV x), yV (aggV x), yV (.bool true), yV _, yV _, yV (.bool true), yV _, yV _] 8 22 z (by kernel_rfl) (by kernel_rfl) (
    armS (wn rfl) (fun aa ww hk bs hd => xloadN 3 rfl (by kernel_rfl) (by kernel_rfl) (bs.get 7 rfl s7) ((ow.keep hk).box 0 rfl) (Nat.le_of_ble_eq_true rfl) rfl) rfl <|
    armS (wn rfl) (fun aa ww hk bs hd => xloadN 3 rfl (by kernel_rfl) (by kernel_rfl) (bs.get 4 rfl s4) ((ow.keep hk).box 1 rfl) (Nat.le_of_ble_eq_true rfl) rfl) rfl <|
    armE (wn rfl) (fun aa ww hk bs hd => xeqv rfl (dep hd 0 rfl rfl rfl) (dep hd 1 rfl rfl rfl)) (congrArg Value.bool (sameV_self x)) rfl <|
    mvD 2 rfl rfl rfl rfl rfl rfl <|
    armS (wg (j := 3) (b := true) rfl rfl rfl) (fun aa ww hk bs hd => xmove rfl (bs.get 8 rfl s8)) rfl <|
    armE (wg (j := 3) (b := true) rfl rfl rfl) (fun aa ww hk bs hd => xeqi rfl (dep hd 4 rfl rfl rfl) rfl) (congrArg Value.bool rfl) rfl <|
    armS (wn rfl) (fun aa ww hk bs hd => xpickT rfl (dep hd 3 rfl rfl rfl) (dep hd 5 rfl rfl rfl)) rfl <|
    asD 6 rfl rfl rfl rfl rfl rfl <|
    arm0) fun fa fw hk bs hv ap => ?_
  obtain ⟨z, q, ov⟩ := aft hk bs z q ow
  have s6 := got hv 7 rfl rfl rfl
  have ow := ov
  clear hv ap bs hk ov
  refine wl_then (hK3 _ _ ?_)
  try clear hK3 K3
  refine wp_ret ?_
  refine results_one rfl (res_tmp s6) q ?_
  exact ⟨rfl, ow.kept⟩
set_option maxHeartbeats 4000000 in
theorem ops13_any (op : Int) (a b x : Vl) (w : World) (mx : Int) (HM : Mx w mx) (ha : Small a) (hb : Small b) (hx : vBin13 op a b = (x, 0)) :
    Calls Tryz.prog 76 #[.int .i64 op, aggV a, aggV b, aggV x] w fun e w' => e = .returned (.bool true) ∧ Kept w w' := by
  go_enter Tryz.func76, Tryz.ntmps76
  refine wp_seq_k fun K1 hK1 => ?_
  refine rgn [yNew w.heap.size (.cells #[.int .u8 a.k, .int .i64 a.n, .string ⟨a.t.toArray⟩] 25 (0, 0)), yNew w.heap.size (.cells #[.int .u8 b.k, .int .i64 b.n, .string ⟨b.t.toArray⟩] 25 (0, 0)), yNew w.heap.size (.cells #[.int .u8 x.k, .int .i64 x.n, .string ⟨x.t.toArray⟩] 25 (0, 0)), yV _] 4 25 rfl (by kernel_rfl) (by kernel_rfl) (
    armP (wn rfl) (fun aa ww hk bs hd => xbox rfl (bs.get 1 rfl rfl) (by kernel_rfl)) rfl <|
    armP (wn rfl) (fun aa ww hk bs hd => xbox rfl (bs.get 2 rfl rfl) (by kernel_rfl)) rfl <|
    armP (wn rfl) (fun aa ww hk bs hd => xbox rfl (bs.get 3 rfl rfl) (by kernel_rfl)) rfl <|
    armS (wn rfl) (fun aa ww hk bs hd => xassign rfl rfl) rfl <|
    arm0) fun fa fw hk bs hv ap => ?_
  obtain ⟨z, q, ov⟩ := aft hk bs rfl rfl (Own.start w)
  have s0 := bs.get 0 rfl rfl
  obtain ⟨gb1, s5, bgb1, hgb1⟩ := gotP hv 0 rfl rfl rfl
  have ov := ov.cons hgb1 (Nat.le_trans (Own.start w).kept.size bgb1) ((Own.start w).below bgb1)
  obtain ⟨gb2, s6, bgb2, hgb2⟩ := gotP hv 1 rfl rfl rfl
  have ov := ov.cons hgb2 (Nat.le_trans (Own.start w).kept.size bgb2) (ne_cons (apartP ap 0 1 rfl rfl rfl s5 rfl s6 rfl) ((Own.start w).below bgb2))
  obtain ⟨gb3, s7, bgb3, hgb3⟩ := gotP hv 2 rfl rfl rfl
  have ov := ov.cons hgb3 (Nat.le_trans (Own.start w).kept.size bgb3) (ne_cons (apartP ap 1 2 rfl rfl rfl s6 rfl s7 rfl) (ne_cons (apartP ap 0 2 rfl rfl rfl s5 rfl s7 rfl) ((Own.start w).below bgb3)))
  have s8 := got hv 3 rfl rfl rfl
  have ow := ov
  clear hv ap bs hk ov
  refine wl_then (hK1 _ _ ?_)
  try clear hK1 K1
  refine wp_seq_k fun K2 hK2 => ?_
  refine rgn [yV _, yV (aggV a), yV (aggV b), yV (.tuple #[aggV x, .int .i64 0]), yV _, yV (aggV x), yV _, yNew fw.heap.size (.cells #[.int .u8 0, .int .i64 0, .string ⟨[].toArray⟩] 25 (0, 0))] 8 25 z (by kernel_rfl) (by kernel_rfl) (
    mvS s0 rfl rfl rfl rfl <|
    armS (wn rfl) (fun aa ww hk bs hd => xloadN 3 rfl (by kernel_rfl) (by kernel_rfl) (bs.get 5 rfl s5) ((ow.keep hk).box 2 rfl) (Nat.le_of_ble_eq_true rfl) rfl) rfl <|
    armS (wn rfl) (fun aa ww hk bs hd => xloadN 3 rfl (by kernel_rfl) (by kernel_rfl) (bs.get 6 rfl s6) ((ow.keep hk).box 1 rfl) (Nat.le_of_ble_eq_true rfl) rfl) rfl <|
    armC (wn rfl) (fun aa ww hk bs hd => xcall3 rfl (dep hd 0 rfl rfl rfl) (dep hd 1 rfl rfl rfl) (dep hd 2 rfl rfl rfl) (en_fnum_Binary _ _)) (fun aa ww hk bs hd => (by have h := binary13_any op a b ww mx (HM.kept (ow.keep hk).kept) ha hb; rw [hx] at h; exact h)) rfl <|
    mvD 3 rfl rfl rfl rfl rfl rfl <|
    armS (wn rfl) (fun aa ww hk bs hd => xextract rfl (dep hd 4 rfl rfl rfl) rfl) rfl <|
    armS (wn rfl) (fun aa ww hk bs hd => xextract rfl (dep hd 4 rfl rfl rfl) rfl) rfl <|
    armP (wn rfl) (fun aa ww hk bs hd => xalloc rfl (by kernel_rfl)) rfl <|
    arm0) fun fa fw hk bs hv ap => ?_
  obtain ⟨z, q, ov⟩ := aft hk bs z q ow
  have s7 := bs.get 7 rfl s7
  have s8 := bs.get 8 rfl s8
  have s16 := got hv 5 rfl rfl rfl
  have s17 := got hv 6 rfl rfl rfl
  obtain ⟨gb4, s9, bgb4, hgb4⟩ := gotP hv 7 rfl rfl rfl
  have ov := ov.cons hgb4 (Nat.le_trans ow.kept.size bgb4) (ow.below bgb4)
  have ow := ov
  clear hv ap bs hk ov
  refine wl_store ow 0 0 (want0 rfl) rfl rfl s9 s16 (by kernel_rfl) rfl rfl rfl fun fw ow => ?_
  refine wl_value (v := .int .i64 0) (want0 rfl) (xassign rfl s17) ?_
  refine gt4 (put_size z) (put_def q) ow 7 (pb 10 s7 rfl) 8 (pb 10 s8 rfl) 9 (pb 10 s9 rfl) 10 (put_in (t := 10) z rfl) fun fa fw z q ow s7 s8 s9 s10 => ?_
  refine wl_then (hK2 _ _ ?_)
  try clear hK2 K2
  refine wp_seq_k fun K3 hK3 => ?_
  refine rgn [yV (aggV x), yV (aggV x), yV (.bool true), yV _, yV _, yV (.bool true), yV _, yV _] 8 25 z (by kernel_rfl) (by kernel_rfl) (
    armS (wn rfl) (fun aa ww hk bs hd => xloadN 3 rfl (by kernel_rfl) (by kernel_rfl) (bs.get 9 rfl s9) ((ow.keep hk).box 0 rfl) (Nat.le_of_ble_eq_true rfl) rfl) rfl <|
    armS (wn rfl) (fun aa ww hk bs hd => xloadN 3 rfl (by kernel_rfl) (by kernel_rfl) (bs.get 7 rfl s7) ((ow.keep hk).box 1 rfl) (Nat.le_of_ble_eq_true rfl) rfl) rfl <|
    armE (wn rfl) (fun aa ww hk bs hd => xeqv rfl (dep hd 0 rfl rfl rfl) (dep hd 1 rfl rfl rfl)) (congrArg Value.bool (sameV_self x)) rfl <|
    mvD 2 rfl rfl rfl rfl rfl rfl <|
    armS (wg (j := 3) (b := true) rfl rfl rfl) (fun aa ww hk bs hd => xmove rfl (bs.get 10 rfl s10)) rfl <|
    armE (wg (j := 3) (b := true) rfl rfl rfl) (fun aa ww hk bs hd => xeqi rfl (dep hd 4 rfl rfl rfl) rfl) (congrArg Value.bool rfl) rfl <|
    armS (wn rfl) (fun aa ww hk bs hd => xpickT rfl (dep hd 3 rfl rfl rfl) (dep hd 5 rfl rfl rfl)) rfl <|
    asD 6 rfl rfl rfl rfl rfl rfl <|
    arm0) fun fa fw hk bs hv ap => ?_
  obtain ⟨z, q, ov⟩ := aft hk bs z q ow
  have s8 := got hv 7 rfl rfl rfl
  have ow := ov
  clear hv ap bs hk ov
  refine wl_then (hK3 _ _ ?_)
  try clear hK3 K3
  refine wp_ret ?_
  refine results_one rfl (res_tmp s8) q ?_
  exact ⟨rfl, ow.kept⟩
set_option maxHeartbeats 8000000 in
theorem awake13_any (w : World) (mx : Int) (HM : Mx w mx) :
    Calls Tryz.prog 29 #[] w fun e w' => e = .returned (.bool true) ∧ Kept w w' := by
  go_enter Tryz.func29, Tryz.ntmps29
  refine wp_seq_k fun K1 hK1 => ?_
  refine rgn [yV _] 1 129 rfl (by kernel_rfl) (by kernel_rfl) (
    armS (wn rfl) (fun aa ww hk bs hd => xassign rfl rfl) rfl <|
    arm0) fun fa fw hk bs hv ap => ?_
  obtain ⟨z, q, ov⟩ := aft hk bs rfl rfl (Own.start w)
  have s0 := got hv 0 rfl rfl rfl
  have ow := ov
  clear hv ap bs hk ov
  refine wl_then (hK1 _ _ ?_)
  try clear hK1 K1
  refine wp_seq_k fun K2 hK2 => ?_
  refine rgn [yV (aggV (⟨3, 0, [120]⟩ : Vl)), yV (aggV (⟨2, 1, []⟩ : Vl)), yNew fw.heap.size (.cells #[.int .u8 0, .int .i64 0, .string ⟨[].toArray⟩] 25 (0, 0)), yNew fw.heap.size (.cells #[.int .u8 0, .int .i64 0, .string ⟨[].toArray⟩] 25 (0, 0))] 4 129 z (by kernel_rfl) (by kernel_rfl) (
    armS (wn rfl) (fun aa ww hk bs hd => xbuild (us := #[(0, .int .u8 3), (2, .string ⟨[120].toArray⟩)]) rfl (by simp only [List.map_toArray, List.map_cons, List.map_nil]; rfl) (by kernel_rfl)) rfl <|
    armS (wn rfl) (fun aa ww hk bs hd => xbuild (us := #[(0, .int .u8 2), (1, .int .i64 1)]) rfl (by simp only [List.map_toArray, List.map_cons, List.map_nil]; rfl) (by kernel_rfl)) rfl <|
    armP (wn rfl) (fun aa ww hk bs hd => xalloc rfl (by kernel_rfl)) rfl <|
    armP (wn rfl) (fun aa ww hk bs hd => xalloc rfl (by kernel_rfl)) rfl <|
    arm0) fun fa fw hk bs hv ap => ?_
  obtain ⟨z, q, ov⟩ := aft hk bs z q ow
  have s0 := bs.get 0 rfl s0
  have s3 := got hv 0 rfl rfl rfl
  have s4 := got hv 1 rfl rfl rfl
  obtain ⟨gb1, s1, bgb1, hgb1⟩ := gotP hv 2 rfl rfl rfl
  have ov := ov.cons hgb1 (Nat.le_trans ow.kept.size bgb1) (ow.below bgb1)
  obtain ⟨gb2, s2, bgb2, hgb2⟩ := gotP hv 3 rfl rfl rfl
  have ov := ov.cons hgb2 (Nat.le_trans ow.kept.size bgb2) (ne_cons (apartP ap 2 3 rfl rfl rfl s1 rfl s2 rfl) (ow.below bgb2))
  have ow := ov
  clear hv ap bs hk ov
  refine wl_store ow 1 0 (want0 rfl) rfl rfl s1 s3 (by kernel_rfl) rfl rfl rfl fun fw ow => ?_
  refine wl_store ow 0 0 (want0 rfl) rfl rfl s2 s4 (by kernel_rfl) rfl rfl rfl fun fw ow => ?_
  refine wl_then (hK2 _ _ ?_)
  try clear hK2 K2
  refine wp_seq_k fun K3 hK3 => ?_
  refine rgn [yV (aggV (⟨1, 23500, []⟩ : Vl)), yV (aggV (⟨1, 23450, []⟩ : Vl)), yV (aggV (⟨1, 20000, []⟩ : Vl)), ySlice fw.heap.size 2 (rowObj [(⟨1, 23450, []⟩ : Vl), (⟨1, 20000, []⟩ : Vl)]), yV (.bool true), yV _, yV (aggV (⟨1, (-23500), []⟩ : Vl)), yV (aggV (⟨1, (-23450), []⟩ : Vl)), yV (aggV (⟨1, 20000, []⟩ : Vl)), ySlice fw.heap.size 2 (rowObj [(⟨1, (-23450), []⟩ : Vl), (⟨1, 20000, []⟩ : Vl)]), yV (.bool true), yV _, yV _, yV (aggV (⟨1, 13000000, []⟩ : Vl)), yV (aggV (⟨1, 12500000, []⟩ : Vl)), yV (aggV (⟨1, (-20000), []⟩ : Vl)), ySlice fw.heap.size 2 (rowObj [(⟨1, 12500000, []⟩ : Vl), (⟨1, (-20000), []⟩ : Vl)]), yV (.bool true), yV _, yV _, yV (aggV (⟨1, 20000, []⟩ : Vl)), yV (aggV (⟨1, (-70000), []⟩ : Vl)), yV (aggV (⟨1, 30000, []⟩ : Vl)), ySlice fw.heap.size 2 (rowObj [(⟨1, (-70000), []⟩ : Vl), (⟨1, 30000, []⟩ : Vl)]), yV (.bool true), yV _, yV _, yV (aggV (⟨1, (-20000), []⟩ : Vl)), yV (aggV (⟨1, 70000, []⟩ : Vl)), yV (aggV (⟨1, (-30000), []⟩ : Vl)), ySlice fw.heap.size 2 (rowObj [(⟨1, 70000, []⟩ : Vl), (⟨1, (-30000), []⟩ : Vl)]), yV (.bool true), yV _, yV _, yV (aggV (⟨4, 1, []⟩ : Vl)), yV (aggV (⟨1, 55000, []⟩ : Vl)), yV (aggV (⟨1, 0, []⟩ : Vl)), ySlice fw.heap.size 2 (rowObj [(⟨1, 55000, []⟩ : Vl), (⟨1, 0, []⟩ : Vl)]), yV (.bool true), yV _, yV _, yV (aggV (⟨1, (-20000), []⟩ : Vl)), yV (aggV (⟨1, (-15000), []⟩ : Vl)), ySlice fw.heap.size 1 (rowObj [(⟨1, (-15000), []⟩ : Vl)]), yV (.bool true), yV _, yV _, yV (aggV (⟨1, (-10000), []⟩ : Vl)), yV (aggV (⟨1, (-15000), []⟩ : Vl)), ySlice fw.heap.size 1 (rowObj [(⟨1, (-15000), []⟩ : Vl)]), yV (.bool true), yV _, yV _, yV (aggV (⟨1, 14142, []⟩ : Vl)), yV (aggV (⟨1, 20000, []⟩ : Vl)), ySlice fw.heap.size 1 (rowObj [(⟨1, 20000, []⟩ : Vl)]), yV (.bool true), yV _, yV _, yV (aggV (⟨4, 3, []⟩ : Vl)), yV (aggV (⟨1, (-10000), []⟩ : Vl)), ySlice fw.heap.size 1 (rowObj [(⟨1, (-10000), []⟩ : Vl)]), yV (.bool true), yV _, yV _, yV (aggV (⟨1, 20000, []⟩ : Vl)), yV (aggV (⟨1, 100000, []⟩ : Vl)), yV (aggV (⟨1, 10240000, []⟩ : Vl)), yV (.bool true), yV _, yV _, yV (aggV (⟨1, 20000, []⟩ : Vl)), yV (aggV (⟨1, (-20000), []⟩ : Vl)), yV (aggV (⟨1, 2500, []⟩ : Vl)), yV (.bool true), yV _, yV _, yV (aggV (⟨1, 0, []⟩ : Vl)), yV (aggV (⟨1, (-10000), []⟩ : Vl)), yV (aggV (⟨4, 1, []⟩ : Vl)), yV (.bool true), yV _, yV _, yV (aggV (⟨1, 20000, []⟩ : Vl)), yV (aggV (⟨1, 5000, []⟩ : Vl)), yV (aggV (⟨4, 3, []⟩ : Vl)), yV (.bool true), yV _, yV _, yV (aggV (⟨2, 1, []⟩ : Vl)), yV (aggV (⟨3, 0, [51]⟩ : Vl)), yV (aggV (⟨1, 40000, []⟩ : Vl)), yV (.bool true), yV _, yV _, yV (aggV (⟨3, 0, [120]⟩ : Vl)), yV (aggV (⟨4, 4, []⟩ : Vl)), yV (aggV (⟨4, 2, []⟩ : Vl)), yV (.bool true), yV _, yV _, yV (aggV (⟨4, 4, []⟩ : Vl)), yV (aggV (⟨3, 0, [120]⟩ : Vl)), yV (aggV (⟨4, 4, []⟩ : Vl)), yV (.bool true), yV _, yV _, yV (aggV (⟨1, 15000, []⟩ : Vl)), yV (aggV (⟨2, 1, []⟩ : Vl)), yV (aggV (⟨3, 0, [49, 46, 53, 84, 82, 85, 69]⟩ : Vl)), yV (.bool true), yV _, yV _, yV (aggV (⟨1, 500000, []⟩ : Vl)), yV (aggV (vPct13 (⟨1, 500000, []⟩ : Vl))), yV (aggV (⟨1, 5000, []⟩ : Vl)), yV (.bool true), yV _, yV _, yV (aggV (⟨3, 0, [120]⟩ : Vl)), yV (aggV (vNeg13 (⟨3, 0, [120]⟩ : Vl))), yV (aggV (⟨4, 2, []⟩ : Vl)), yV (.bool true), yV _, yV _] 125 129 z (by kernel_rfl) (by kernel_rfl) (
    armC (wn rfl) (fun aa ww hk bs hd => xcall1 rfl rfl (en_louvrelaw13_num _ _)) (fun aa ww hk bs hd => lnum13_any 23500 ww) rfl <|
    armC (wn rfl) (fun aa ww hk bs hd => xcall1 rfl rfl (en_louvrelaw13_num _ _)) (fun aa ww hk bs hd => lnum13_any 23450 ww) rfl <|
    armC (wn rfl) (fun aa ww hk bs hd => xcall1 rfl rfl (en_louvrelaw13_num _ _)) (fun aa ww hk bs hd => lnum13_any 20000 ww) rfl <|
    arm (fun aa ww hk bs hd => by
      have d1 : aa.eval (.tmp 6) = aggV (⟨1, 23450, []⟩ : Vl) := depX hd 1 rfl
      have d2 : aa.eval (.tmp 7) = aggV (⟨1, 20000, []⟩ : Vl) := depX hd 2 rfl
      exact stepX_new _ (want0 rfl) (xrow2 rfl (d1) (d2)) ⟨_, rfl, hk.size, Go.heap_alloc_new _ _⟩ ((Kept.refl _).alloc _) rfl (Nat.le_refl _)
      ) <|
    arm (fun aa ww hk bs hd => by
      have d0 : aa.eval (.tmp 5) = aggV (⟨1, 23500, []⟩ : Vl) := depX hd 0 rfl
      have d3 : ∃ g, aa.eval (.tmp 8) = .slice (some ⟨g, 0, none⟩) 2 2 ∧ fw.heap.size ≤ g ∧ ww.heap[g]? = some (rowObj [(⟨1, 23450, []⟩ : Vl), (⟨1, 20000, []⟩ : Vl)]) := depX hd 3 rfl
      obtain ⟨g3, e3, _, h3⟩ := d3
      exact stepX_enter (want0 rfl) (xcall3 (u := .int .u8 5) (v := aggV (⟨1, 23500, []⟩ : Vl)) (s := .slice (some ⟨g3, 0, none⟩) 2 2) rfl rfl (d0) e3 (en_louvrelaw13_calls _ _)) ((calls13_any (⟨1, 23500, []⟩ : Vl) 5 (some ⟨g3, 0, none⟩) 2 [(⟨1, 23450, []⟩ : Vl), (⟨1, 20000, []⟩ : Vl)] ww mx (HM.kept (ow.keep hk).kept) (rowObj_row h3) (smalls13 (by decide)) (by decide) (by decide) (by kernel_rfl)).mono fun _ _ ⟨he, hk2⟩ => ⟨_, he, rfl, hk2⟩) rfl
      ) <|
    mvD 4 rfl rfl rfl rfl rfl rfl <|
    armC (wg (j := 5) (b := true) rfl rfl rfl) (fun aa ww hk bs hd => xcall1 rfl rfl (en_louvrelaw13_num _ _)) (fun aa ww hk bs hd => lnum13_any (-23500) ww) rfl <|
    armC (wg (j := 5) (b := true) rfl rfl rfl) (fun aa ww hk bs hd => xcall1 rfl rfl (en_louvrelaw13_num _ _)) (fun aa ww hk bs hd => lnum13_any (-23450) ww) rfl <|
    armC (wg (j := 5) (b := true) rfl rfl rfl) (fun aa ww hk bs hd => xcall1 rfl rfl (en_louvrelaw13_num _ _)) (fun aa ww hk bs hd => lnum13_any 20000 ww) rfl <|
    arm (fun aa ww hk bs hd => by
      have d5 : aa.eval (.tmp 10) = .bool true := depX hd 5 rfl
      have d7 : aa.eval (.tmp 12) = aggV (⟨1, (-23450), []⟩ : Vl) := depX hd 7 rfl
      have d8 : aa.eval (.tmp 13) = aggV (⟨1, 20000, []⟩ : Vl) := depX hd 8 rfl
      exact stepX_new _ (want1 (j := 5) (b := true) rfl d5) (xrow2 rfl (d7) (d8)) ⟨_, rfl, hk.size, Go.heap_alloc_new _ _⟩ ((Kept.refl _).alloc _) rfl (Nat.le_refl _)
      ) <|
    arm (fun aa ww hk bs hd => by
      have d5 : aa.eval (.tmp 10) = .bool true := depX hd 5 rfl
      have d6 : aa.eval (.tmp 11) = aggV (⟨1, (-23500), []⟩ : Vl) := depX hd 6 rfl
      have d9 : ∃ g, aa.eval (.tmp 14) = .slice (some ⟨g, 0, none⟩) 2 2 ∧ fw.heap.size ≤ g ∧ ww.heap[g]? = some (rowObj [(⟨1, (-23450), []⟩ : Vl), (⟨1, 20000, []⟩ : Vl)]) := depX hd 9 rfl
      obtain ⟨g9, e9, _, h9⟩ := d9
      exact stepX_enter (want1 (j := 5) (b := true) rfl d5) (xcall3 (u := .int .u8 5) (v := aggV (⟨1, (-23500), []⟩ : Vl)) (s := .slice (some ⟨g9, 0, none⟩) 2 2) rfl rfl (d6) e9 (en_louvrelaw13_calls _ _)) ((calls13_any (⟨1, (-23500), []⟩ : Vl) 5 (some ⟨g9, 0, none⟩) 2 [(⟨1, (-23450), []⟩ : Vl), (⟨1, 20000, []⟩ : Vl)] ww mx (HM.kept (ow.keep hk).kept) (rowObj_row h9) (smalls13 (by decide)) (by decide) (by decide) (by kernel_rfl)).mono fun _ _ ⟨he, hk2⟩ => ⟨_, he, rfl, hk2⟩) rfl
      ) <|
    armS (wn rfl) (fun aa ww hk bs hd => xpickT rfl (dep hd 5 rfl rfl rfl) (dep hd 10 rfl rfl rfl)) rfl <|
    mvD 11 rfl rfl rfl rfl rfl rfl <|
    armC (wg (j := 12) (b := true) rfl rfl rfl) (fun aa ww hk bs hd => xcall1 rfl rfl (en_louvrelaw13_num _ _)) (fun aa ww hk bs hd => lnum13_any 13000000 ww) rfl <|
    armC (wg (j := 12) (b := true) rfl rfl rfl) (fun aa ww hk bs hd => xcall1 rfl rfl (en_louvrelaw13_num _ _)) (fun aa ww hk bs hd => lnum13_any 12500000 ww) rfl <|
    armC (wg (j := 12) (b := true) rfl rfl rfl) (fun aa ww hk bs hd => xcall1 rfl rfl (en_louvrelaw13_num _ _)) (fun aa ww hk bs hd => lnum13_any (-20000) ww) rfl <|
    arm (fun aa ww hk bs hd => by
      have d12 : aa.eval (.tmp 17) = .bool true := depX hd 12 rfl
      have d14 : aa.eval (.tmp 19) = aggV (⟨1, 12500000, []⟩ : Vl) := depX hd 14 rfl
      have d15 : aa.eval (.tmp 20) = aggV (⟨1, (-20000), []⟩ : Vl) := depX hd 15 rfl
      exact stepX_new _ (want1 (j := 12) (b := true) rfl d12) (xrow2 rfl (d14) (d15)) ⟨_, rfl, hk.size, Go.heap_alloc_new _ _⟩ ((Kept.refl _).alloc _) rfl (Nat.le_refl _)
      ) <|
    arm (fun aa ww hk bs hd => by
      have d12 : aa.eval (.tmp 17) = .bool true := depX hd 12 rfl
      have d13 : aa.eval (.tmp 18) = aggV (⟨1, 13000000, []⟩ : Vl) := depX hd 13 rfl
      have d16 : ∃ g, aa.eval (.tmp 21) = .slice (some ⟨g, 0, none⟩) 2 2 ∧ fw.heap.size ≤ g ∧ ww.heap[g]? = some (rowObj [(⟨1, 12500000, []⟩ : Vl), (⟨1, (-20000), []⟩ : Vl)]) := depX hd 16 rfl
      obtain ⟨g16, e16, _, h16⟩ := d16
      exact stepX_enter (want1 (j := 12) (b := true) rfl d12) (xcall3 (u := .int .u8 5) (v := aggV (⟨1, 13000000, []⟩ : Vl)) (s := .slice (some ⟨g16, 0, none⟩) 2 2) rfl rfl (d13) e16 (en_louvrelaw13_calls _ _)) ((calls13_any (⟨1, 13000000, []⟩ : Vl) 5 (some ⟨g16, 0, none⟩) 2 [(⟨1, 12500000, []⟩ : Vl), (⟨1, (-20000), []⟩ : Vl)] ww mx (HM.kept (ow.keep hk).kept) (rowObj_row h16) (smalls13 (by decide)) (by decide) (by decide) (by kernel_rfl)).mono fun _ _ ⟨he, hk2⟩ => ⟨_, he, rfl, hk2⟩) rfl
      ) <|
    armS (wn rfl) (fun aa ww hk bs hd => xpickT rfl (dep hd 12 rfl rfl rfl) (dep hd 17 rfl rfl rfl)) rfl <|
    mvD 18 rfl rfl rfl rfl rfl rfl <|
    armC (wg (j := 19) (b := true) rfl rfl rfl) (fun aa ww hk bs hd => xcall1 rfl rfl (en_louvrelaw13_num _ _)) (fun aa ww hk bs hd => lnum13_any 20000 ww) rfl <|
    armC (wg (j := 19) (b := true) rfl rfl rfl) (fun aa ww hk bs hd => xcall1 rfl rfl (en_louvrelaw13_num _ _)) (fun aa ww hk bs hd => lnum13_any (-70000) ww) rfl <|
    armC (wg (j := 19) (b := true) rfl rfl rfl) (fun aa ww hk bs hd => xcall1 rfl rfl (en_louvrelaw13_num _ _)) (fun aa ww hk bs hd => lnum13_any 30000 ww) rfl <|
    arm (fun aa ww hk bs hd => by
      have d19 : aa.eval (.tmp 24) = .bool true := depX hd 19 rfl
      have d21 : aa.eval (.tmp 26) = aggV (⟨1, (-70000), []⟩ : Vl) := depX hd 21 rfl
      have d22 : aa.eval (.tmp 27) = aggV (⟨1, 30000, []⟩ : Vl) := depX hd 22 rfl
      exact stepX_new _ (want1 (j := 19) (b := true) rfl d19) (xrow2 rfl (d21) (d22)) ⟨_, rfl, hk.size, Go.heap_alloc_new _ _⟩ ((Kept.refl _).alloc _) rfl (Nat.le_refl _)
      ) <|
    arm (fun aa ww hk bs hd => by
      have d19 : aa.eval (.tmp 24) = .bool true := depX hd 19 rfl
      have d20 : aa.eval (.tmp 25) = aggV (⟨1, 20000, []⟩ : Vl) := depX hd 20 rfl
      have d23 : ∃ g, aa.eval (.tmp 28) = .slice (some ⟨g, 0, none⟩) 2 2 ∧ fw.heap.size ≤ g ∧ ww.heap[g]? = some (rowObj [(⟨1, (-70000), []⟩ : Vl), (⟨1, 30000, []⟩ : Vl)]) := depX hd 23 rfl
      obtain ⟨g23, e23, _, h23⟩ := d23
      exact stepX_enter (want1 (j := 19) (b := true) rfl d19) (xcall3 (u := .int .u8 6) (v := aggV (⟨1, 20000, []⟩ : Vl)) (s := .slice (some ⟨g23, 0, none⟩) 2 2) rfl rfl (d20) e23 (en_louvrelaw13_calls _ _)) ((calls13_any (⟨1, 20000, []⟩ : Vl) 6 (some ⟨g23, 0, none⟩) 2 [(⟨1, (-70000), []⟩ : Vl), (⟨1, 30000, []⟩ : Vl)] ww mx (HM.kept (ow.keep hk).kept) (rowObj_row h23) (smalls13 (by decide)) (by decide) (by decide) (by kernel_rfl)).mono fun _ _ ⟨he, hk2⟩ => ⟨_, he, rfl, hk2⟩) rfl
      ) <|
    armS (wn rfl) (fun aa ww hk bs hd => xpickT rfl (dep hd 19 rfl rfl rfl) (dep hd 24 rfl rfl rfl)) rfl <|
    mvD 25 rfl rfl rfl rfl rfl rfl <|
    armC (wg (j := 26) (b := true) rfl rfl rfl) (fun aa ww hk bs hd => xcall1 rfl rfl (en_louvrelaw13_num _ _)) (fun aa ww hk bs hd => lnum13_any (-20000) ww) rfl <|
    armC (wg (j := 26) (b := true) rfl rfl rfl) (fun aa ww hk bs hd => xcall1 rfl rfl (en_louvrelaw13_num _ _)) (fun aa ww hk bs hd => lnum13_any 70000 ww) rfl <|
    armC (wg (j := 26) (b := true) rfl rfl rfl) (fun aa ww hk bs hd => xcall1 rfl rfl (en_louvrelaw13_num _ _)) (fun aa ww hk bs hd => lnum13_any (-30000) ww) rfl <|
    arm (fun aa ww hk bs hd => by
      have d26 : aa.eval (.tmp 31) = .bool true := depX hd 26 rfl
      have d28 : aa.eval (.tmp 33) = aggV (⟨1, 70000, []⟩ : Vl) := depX hd 28 rfl
      have d29 : aa.eval (.tmp 34) = aggV (⟨1, (-30000), []⟩ : Vl) := depX hd 29 rfl
      exact stepX_new _ (want1 (j := 26) (b := true) rfl d26) (xrow2 rfl (d28) (d29)) ⟨_, rfl, hk.size, Go.heap_alloc_new _ _⟩ ((Kept.refl _).alloc _) rfl (Nat.le_refl _)
      ) <|
    arm (fun aa ww hk bs hd => by
      have d26 : aa.eval (.tmp 31) = .bool true := depX hd 26 rfl
      have d27 : aa.eval (.tmp 32) = aggV (⟨1, (-20000), []⟩ : Vl) := depX hd 27 rfl
      have d30 : ∃ g, aa.eval (.tmp 35) = .slice (some ⟨g, 0, none⟩) 2 2 ∧ fw.heap.size ≤ g ∧ ww.heap[g]? = some (rowObj [(⟨1, 70000, []⟩ : Vl), (⟨1, (-30000), []⟩ : Vl)]) := depX hd 30 rfl
      obtain ⟨g30, e30, _, h30⟩ := d30
      exact stepX_enter (want1 (j := 26) (b := true) rfl d26) (xcall3 (u := .int .u8 6) (v := aggV (⟨1, (-20000), []⟩ : Vl)) (s := .slice (some ⟨g30, 0, none⟩) 2 2) rfl rfl (d27) e30 (en_louvrelaw13_calls _ _)) ((calls13_any (⟨1, (-20000), []⟩ : Vl) 6 (some ⟨g30, 0, none⟩) 2 [(⟨1, 70000, []⟩ : Vl), (⟨1, (-30000), []⟩ : Vl)] ww mx (HM.kept (ow.keep hk).kept) (rowObj_row h30) (smalls13 (by decide)) (by decide) (by decide) (by kernel_rfl)).mono fun _ _ ⟨he, hk2⟩ => ⟨_, he, rfl, hk2⟩) rfl
      ) <|
    armS (wn rfl) (fun aa ww hk bs hd => xpickT rfl (dep hd 26 rfl rfl rfl) (dep hd 31 rfl rfl rfl)) rfl <|
    mvD 32 rfl rfl rfl rfl rfl rfl <|
    armC (wg (j := 33) (b := true) rfl rfl rfl) (fun aa ww hk bs hd => xcall1 rfl rfl (en_louvrelaw13_fail _ _)) (fun aa ww hk bs hd => lfail13_any 1 ww) rfl <|
    armC (wg (j := 33) (b := true) rfl rfl rfl) (fun aa ww hk bs hd => xcall1 rfl rfl (en_louvrelaw13_num _ _)) (fun aa ww hk bs hd => lnum13_any 55000 ww) rfl <|
    armC (wg (j := 33) (b := true) rfl rfl rfl) (fun aa ww hk bs hd => xcall1 rfl rfl (en_louvrelaw13_num _ _)) (fun aa ww hk bs hd => lnum13_any 0 ww) rfl <|
    arm (fun aa ww hk bs hd => by
      have d33 : aa.eval (.tmp 38) = .bool true := depX hd 33 rfl
      have d35 : aa.eval (.tmp 40) = aggV (⟨1, 55000, []⟩ : Vl) := depX hd 35 rfl
      have d36 : aa.eval (.tmp 41) = aggV (⟨1, 0, []⟩ : Vl) := depX hd 36 rfl
      exact stepX_new _ (want1 (j := 33) (b := true) rfl d33) (xrow2 rfl (d35) (d36)) ⟨_, rfl, hk.size, Go.heap_alloc_new _ _⟩ ((Kept.refl _).alloc _) rfl (Nat.le_refl _)
      ) <|
    arm (fun aa ww hk bs hd => by
      have d33 : aa.eval (.tmp 38) = .bool true := depX hd 33 rfl
      have d34 : aa.eval (.tmp 39) = aggV (⟨4, 1, []⟩ : Vl) := depX hd 34 rfl
      have d37 : ∃ g, aa.eval (.tmp 42) = .slice (some ⟨g, 0, none⟩) 2 2 ∧ fw.heap.size ≤ g ∧ ww.heap[g]? = some (rowObj [(⟨1, 55000, []⟩ : Vl), (⟨1, 0, []⟩ : Vl)]) := depX hd 37 rfl
      obtain ⟨g37, e37, _, h37⟩ := d37
      exact stepX_enter (want1 (j := 33) (b := true) rfl d33) (xcall3 (u := .int .u8 6) (v := aggV (⟨4, 1, []⟩ : Vl)) (s := .slice (some ⟨g37, 0, none⟩) 2 2) rfl rfl (d34) e37 (en_louvrelaw13_calls _ _)) ((calls13_any (⟨4, 1, []⟩ : Vl) 6 (some ⟨g37, 0, none⟩) 2 [(⟨1, 55000, []⟩ : Vl), (⟨1, 0, []⟩ : Vl)] ww mx (HM.kept (ow.keep hk).kept) (rowObj_row h37) (smalls13 (by decide)) (by decide) (by decide) (by kernel_rfl)).mono fun _ _ ⟨he, hk2⟩ => ⟨_, he, rfl, hk2⟩) rfl
      ) <|
    armS (wn rfl) (fun aa ww hk bs hd => xpickT rfl (dep hd 33 rfl rfl rfl) (dep hd 38 rfl rfl rfl)) rfl <|
    mvD 39 rfl rfl rfl rfl rfl rfl <|
    armC (wg (j := 40) (b := true) rfl rfl rfl) (fun aa ww hk bs hd => xcall1 rfl rfl (en_louvrelaw13_num _ _)) (fun aa ww hk bs hd => lnum13_any (-20000) ww) rfl <|
    armC (wg (j := 40) (b := true) rfl rfl rfl) (fun aa ww hk bs hd => xcall1 rfl rfl (en_louvrelaw13_num _ _)) (fun aa ww hk bs hd => lnum13_any (-15000) ww) rfl <|
    arm (fun aa ww hk bs hd => by
      have d40 : aa.eval (.tmp 45) = .bool true := depX hd 40 rfl
      have d42 : aa.eval (.tmp 47) = aggV (⟨1, (-15000), []⟩ : Vl) := depX hd 42 rfl
      exact stepX_new _ (want1 (j := 40) (b := true) rfl d40) (xrow1 rfl (d42)) ⟨_, rfl, hk.size, Go.heap_alloc_new _ _⟩ ((Kept.refl _).alloc _) rfl (Nat.le_refl _)
      ) <|
    arm (fun aa ww hk bs hd => by
      have d40 : aa.eval (.tmp 45) = .bool true := depX hd 40 rfl
      have d41 : aa.eval (.tmp 46) = aggV (⟨1, (-20000), []⟩ : Vl) := depX hd 41 rfl
      have d43 : ∃ g, aa.eval (.tmp 48) = .slice (some ⟨g, 0, none⟩) 1 1 ∧ fw.heap.size ≤ g ∧ ww.heap[g]? = some (rowObj [(⟨1, (-15000), []⟩ : Vl)]) := depX hd 43 rfl
      obtain ⟨g43, e43, _, h43⟩ := d43
      exact stepX_enter (want1 (j := 40) (b := true) rfl d40) (xcall3 (u := .int .u8 3) (v := aggV (⟨1, (-20000), []⟩ : Vl)) (s := .slice (some ⟨g43, 0, none⟩) 1 1) rfl rfl (d41) e43 (en_louvrelaw13_calls _ _)) ((calls13_any (⟨1, (-20000), []⟩ : Vl) 3 (some ⟨g43, 0, none⟩) 1 [(⟨1, (-15000), []⟩ : Vl)] ww mx (HM.kept (ow.keep hk).kept) (rowObj_row h43) (smalls13 (by decide)) (by decide) (by decide) (by kernel_rfl)).mono fun _ _ ⟨he, hk2⟩ => ⟨_, he, rfl, hk2⟩) rfl
      ) <|
    armS (wn rfl) (fun aa ww hk bs hd => xpickT rfl (dep hd 40 rfl rfl rfl) (dep hd 44 rfl rfl rfl)) rfl <|
    mvD 45 rfl rfl rfl rfl rfl rfl <|
    armC (wg (j := 46) (b := true) rfl rfl rfl) (fun aa ww hk bs hd => xcall1 rfl rfl (en_louvrelaw13_num _ _)) (fun aa ww hk bs hd => lnum13_any (-10000) ww) rfl <|
    armC (wg (j := 46) (b := true) rfl rfl rfl) (fun aa ww hk bs hd => xcall1 rfl rfl (en_louvrelaw13_num _ _)) (fun aa ww hk bs hd => lnum13_any (-15000) ww) rfl <|
    arm (fun aa ww hk bs hd => by
      have d46 : aa.eval (.tmp 51) = .bool true := depX hd 46 rfl
      have d48 : aa.eval (.tmp 53) = aggV (⟨1, (-15000), []⟩ : Vl) := depX hd 48 rfl
      exact stepX_new _ (want1 (j := 46) (b := true) rfl d46) (xrow1 rfl (d48)) ⟨_, rfl, hk.size, Go.heap_alloc_new _ _⟩ ((Kept.refl _).alloc _) rfl (Nat.le_refl _)
      ) <|
    arm (fun aa ww hk bs hd => by
      have d46 : aa.eval (.tmp 51) = .bool true := depX hd 46 rfl
      have d47 : aa.eval (.tmp 52) = aggV (⟨1, (-10000), []⟩ : Vl) := depX hd 47 rfl
      have d49 : ∃ g, aa.eval (.tmp 54) = .slice (some ⟨g, 0, none⟩) 1 1 ∧ fw.heap.size ≤ g ∧ ww.heap[g]? = some (rowObj [(⟨1, (-15000), []⟩ : Vl)]) := depX hd 49 rfl
      obtain ⟨g49, e49, _, h49⟩ := d49
      exact stepX_enter (want1 (j := 46) (b := true) rfl d46) (xcall3 (u := .int .u8 4) (v := aggV (⟨1, (-10000), []⟩ : Vl)) (s := .slice (some ⟨g49, 0, none⟩) 1 1) rfl rfl (d47) e49 (en_louvrelaw13_calls _ _)) ((calls13_any (⟨1, (-10000), []⟩ : Vl) 4 (some ⟨g49, 0, none⟩) 1 [(⟨1, (-15000), []⟩ : Vl)] ww mx (HM.kept (ow.keep hk).kept) (rowObj_row h49) (smalls13 (by decide)) (by decide) (by decide) (by kernel_rfl)).mono fun _ _ ⟨he, hk2⟩ => ⟨_, he, rfl, hk2⟩) rfl
      ) <|
    armS (wn rfl) (fun aa ww hk bs hd => xpickT rfl (dep hd 46 rfl rfl rfl) (dep hd 50 rfl rfl rfl)) rfl <|
    mvD 51 rfl rfl rfl rfl rfl rfl <|
    armC (wg (j := 52) (b := true) rfl rfl rfl) (fun aa ww hk bs hd => xcall1 rfl rfl (en_louvrelaw13_num _ _)) (fun aa ww hk bs hd => lnum13_any 14142 ww) rfl <|
    armC (wg (j := 52) (b := true) rfl rfl rfl) (fun aa ww hk bs hd => xcall1 rfl rfl (en_louvrelaw13_num _ _)) (fun aa ww hk bs hd => lnum13_any 20000 ww) rfl <|
    arm (fun aa ww hk bs hd => by
      have d52 : aa.eval (.tmp 57) = .bool true := depX hd 52 rfl
      have d54 : aa.eval (.tmp 59) = aggV (⟨1, 20000, []⟩ : Vl) := depX hd 54 rfl
      exact stepX_new _ (want1 (j := 52) (b := true) rfl d52) (xrow1 rfl (d54)) ⟨_, rfl, hk.size, Go.heap_alloc_new _ _⟩ ((Kept.refl _).alloc _) rfl (Nat.le_refl _)
      ) <|
    arm (fun aa ww hk bs hd => by
      have d52 : aa.eval (.tmp 57) = .bool true := depX hd 52 rfl
      have d53 : aa.eval (.tmp 58) = aggV (⟨1, 14142, []⟩ : Vl) := depX hd 53 rfl
      have d55 : ∃ g, aa.eval (.tmp 60) = .slice (some ⟨g, 0, none⟩) 1 1 ∧ fw.heap.size ≤ g ∧ ww.heap[g]? = some (rowObj [(⟨1, 20000, []⟩ : Vl)]) := depX hd 55 rfl
      obtain ⟨g55, e55, _, h55⟩ := d55
      exact stepX_enter (want1 (j := 52) (b := true) rfl d52) (xcall3 (u := .int .u8 8) (v := aggV (⟨1, 14142, []⟩ : Vl)) (s := .slice (some ⟨g55, 0, none⟩) 1 1) rfl rfl (d53) e55 (en_louvrelaw13_calls _ _)) ((calls13_any (⟨1, 14142, []⟩ : Vl) 8 (some ⟨g55, 0, none⟩) 1 [(⟨1, 20000, []⟩ : Vl)] ww mx (HM.kept (ow.keep hk).kept) (rowObj_row h55) (smalls13 (by decide)) (by decide) (by decide) sqrt_ex).mono fun _ _ ⟨he, hk2⟩ => ⟨_, he, rfl, hk2⟩) rfl
      ) <|
    armS (wn rfl) (fun aa ww hk bs hd => xpickT rfl (dep hd 52 rfl rfl rfl) (dep hd 56 rfl rfl rfl)) rfl <|
    mvD 57 rfl rfl rfl rfl rfl rfl <|
    armC (wg (j := 58) (b := true) rfl rfl rfl) (fun aa ww hk bs hd => xcall1 rfl rfl (en_louvrelaw13_fail _ _)) (fun aa ww hk bs hd => lfail13_any 3 ww) rfl <|
    armC (wg (j := 58) (b := true) rfl rfl rfl) (fun aa ww hk bs hd => xcall1 rfl rfl (en_louvrelaw13_num _ _)) (fun aa ww hk bs hd => lnum13_any (-10000) ww) rfl <|
    arm (fun aa ww hk bs hd => by
      have d58 : aa.eval (.tmp 63) = .bool true := depX hd 58 rfl
      have d60 : aa.eval (.tmp 65) = aggV (⟨1, (-10000), []⟩ : Vl) := depX hd 60 rfl
      exact stepX_new _ (want1 (j := 58) (b := true) rfl d58) (xrow1 rfl (d60)) ⟨_, rfl, hk.size, Go.heap_alloc_new _ _⟩ ((Kept.refl _).alloc _) rfl (Nat.le_refl _)
      ) <|
    arm (fun aa ww hk bs hd => by
      have d58 : aa.eval (.tmp 63) = .bool true := depX hd 58 rfl
      have d59 : aa.eval (.tmp 64) = aggV (⟨4, 3, []⟩ : Vl) := depX hd 59 rfl
      have d61 : ∃ g, aa.eval (.tmp 66) = .slice (some ⟨g, 0, none⟩) 1 1 ∧ fw.heap.size ≤ g ∧ ww.heap[g]? = some (rowObj [(⟨1, (-10000), []⟩ : Vl)]) := depX hd 61 rfl
      obtain ⟨g61, e61, _, h61⟩ := d61
      exact stepX_enter (want1 (j := 58) (b := true) rfl d58) (xcall3 (u := .int .u8 8) (v := aggV (⟨4, 3, []⟩ : Vl)) (s := .slice (some ⟨g61, 0, none⟩) 1 1) rfl rfl (d59) e61 (en_louvrelaw13_calls _ _)) ((calls13_any (⟨4, 3, []⟩ : Vl) 8 (some ⟨g61, 0, none⟩) 1 [(⟨1, (-10000), []⟩ : Vl)] ww mx (HM.kept (ow.keep hk).kept) (rowObj_row h61) (smalls13 (by decide)) (by decide) (by decide) (by kernel_rfl)).mono fun _ _ ⟨he, hk2⟩ => ⟨_, he, rfl, hk2⟩) rfl
      ) <|
    armS (wn rfl) (fun aa ww hk bs hd => xpickT rfl (dep hd 58 rfl rfl rfl) (dep hd 62 rfl rfl rfl)) rfl <|
    mvD 63 rfl rfl rfl rfl rfl rfl <|
    armC (wg (j := 64) (b := true) rfl rfl rfl) (fun aa ww hk bs hd => xcall1 rfl rfl (en_louvrelaw13_num _ _)) (fun aa ww hk bs hd => lnum13_any 20000 ww) rfl <|
    armC (wg (j := 64) (b := true) rfl rfl rfl) (fun aa ww hk bs hd => xcall1 rfl rfl (en_louvrelaw13_num _ _)) (fun aa ww hk bs hd => lnum13_any 100000 ww) rfl <|
    armC (wg (j := 64) (b := true) rfl rfl rfl) (fun aa ww hk bs hd => xcall1 rfl rfl (en_louvrelaw13_num _ _)) (fun aa ww hk bs hd => lnum13_any 10240000 ww) rfl <|
    armC (wg (j := 64) (b := true) rfl rfl rfl) (fun aa ww hk bs hd => xcall4 rfl rfl (dep hd 65 rfl rfl rfl) (dep hd 66 rfl rfl rfl) (dep hd 67 rfl rfl rfl) (en_louvrelaw13_ops _ _)) (fun aa ww hk bs hd => ops13_any 5 (⟨1, 20000, []⟩ : Vl) (⟨1, 100000, []⟩ : Vl) (⟨1, 10240000, []⟩ : Vl) ww mx (HM.kept (ow.keep hk).kept) ⟨⟨by decide, by decide⟩, by decide⟩ ⟨⟨by decide, by decide⟩, by decide⟩ (by kernel_rfl)) rfl <|
    armS (wn rfl) (fun aa ww hk bs hd => xpickT rfl (dep hd 64 rfl rfl rfl) (dep hd 68 rfl rfl rfl)) rfl <|
    mvD 69 rfl rfl rfl rfl rfl rfl <|
    armC (wg (j := 70) (b := true) rfl rfl rfl) (fun aa ww hk bs hd => xcall1 rfl rfl (en_louvrelaw13_num _ _)) (fun aa ww hk bs hd => lnum13_any 20000 ww) rfl <|
    armC (wg (j := 70) (b := true) rfl rfl rfl) (fun aa ww hk bs hd => xcall1 rfl rfl (en_louvrelaw13_num _ _)) (fun aa ww hk bs hd => lnum13_any (-20000) ww) rfl <|
    armC (wg (j := 70) (b := true) rfl rfl rfl) (fun aa ww hk bs hd => xcall1 rfl rfl (en_louvrelaw13_num _ _)) (fun aa ww hk bs hd => lnum13_any 2500 ww) rfl <|
    armC (wg (j := 70) (b := true) rfl rfl rfl) (fun aa ww hk bs hd => xcall4 rfl rfl (dep hd 71 rfl rfl rfl) (dep hd 72 rfl rfl rfl) (dep hd 73 rfl rfl rfl) (en_louvrelaw13_ops _ _)) (fun aa ww hk bs hd => ops13_any 5 (⟨1, 20000, []⟩ : Vl) (⟨1, (-20000), []⟩ : Vl) (⟨1, 2500, []⟩ : Vl) ww mx (HM.kept (ow.keep hk).kept) ⟨⟨by decide, by decide⟩, by decide⟩ ⟨⟨by decide, by decide⟩, by decide⟩ (by kernel_rfl)) rfl <|
    armS (wn rfl) (fun aa ww hk bs hd => xpickT rfl (dep hd 70 rfl rfl rfl) (dep hd 74 rfl rfl rfl)) rfl <|
    mvD 75 rfl rfl rfl rfl rfl rfl <|
    armC (wg (j := 76) (b := true) rfl rfl rfl) (fun aa ww hk bs hd => xcall1 rfl rfl (en_louvrelaw13_num _ _)) (fun aa ww hk bs hd => lnum13_any 0 ww) rfl <|
    armC (wg (j := 76) (b := true) rfl rfl rfl) (fun aa ww hk bs hd => xcall1 rfl rfl (en_louvrelaw13_num _ _)) (fun aa ww hk bs hd => lnum13_any (-10000) ww) rfl <|
    armC (wg (j := 76) (b := true) rfl rfl rfl) (fun aa ww hk bs hd => xcall1 rfl rfl (en_louvrelaw13_fail _ _)) (fun aa ww hk bs hd => lfail13_any 1 ww) rfl <|
    armC (wg (j := 76) (b := true) rfl rfl rfl) (fun aa ww hk bs hd => xcall4 rfl rfl (dep hd 77 rfl rfl rfl) (dep hd 78 rfl rfl rfl) (dep hd 79 rfl rfl rfl) (en_louvrelaw13_ops _ _)) (fun aa ww hk bs hd => ops13_any 5 (⟨1, 0, []⟩ : Vl) (⟨1, (-10000), []⟩ : Vl) (⟨4, 1, []⟩ : Vl) ww mx (HM.kept (ow.keep hk).kept) ⟨⟨by decide, by decide⟩, by decide⟩ ⟨⟨by decide, by decide⟩, by decide⟩ (by kernel_rfl)) rfl <|
    armS (wn rfl) (fun aa ww hk bs hd => xpickT rfl (dep hd 76 rfl rfl rfl) (dep hd 80 rfl rfl rfl)) rfl <|
    mvD 81 rfl rfl rfl rfl rfl rfl <|
    armC (wg (j := 82) (b := true) rfl rfl rfl) (fun aa ww hk bs hd => xcall1 rfl rfl (en_louvrelaw13_num _ _)) (fun aa ww hk bs hd => lnum13_any 20000 ww) rfl <|
    armC (wg (j := 82) (b := true) rfl rfl rfl) (fun aa ww hk bs hd => xcall1 rfl rfl (en_louvrelaw13_num _ _)) (fun aa ww hk bs hd => lnum13_any 5000 ww) rfl <|
    armC (wg (j := 82) (b := true) rfl rfl rfl) (fun aa ww hk bs hd => xcall1 rfl rfl (en_louvrelaw13_fail _ _)) (fun aa ww hk bs hd => lfail13_any 3 ww) rfl <|
    armC (wg (j := 82) (b := true) rfl rfl rfl) (fun aa ww hk bs hd => xcall4 rfl rfl (dep hd 83 rfl rfl rfl) (dep hd 84 rfl rfl rfl) (dep hd 85 rfl rfl rfl) (en_louvrelaw13_ops _ _)) (fun aa ww hk bs hd => ops13_any 5 (⟨1, 20000, []⟩ : Vl) (⟨1, 5000, []⟩ : Vl) (⟨4, 3, []⟩ : Vl) ww mx (HM.kept (ow.keep hk).kept) ⟨⟨by decide, by decide⟩, by decide⟩ ⟨⟨by decide, by decide⟩, by decide⟩ (by kernel_rfl)) rfl <|
    armS (wn rfl) (fun aa ww hk bs hd => xpickT rfl (dep hd 82 rfl rfl rfl) (dep hd 86 rfl rfl rfl)) rfl <|
    mvD 87 rfl rfl rfl rfl rfl rfl <|
    armS (wg (j := 88) (b := true) rfl rfl rfl) (fun aa ww hk bs hd => xloadN 3 rfl (by kernel_rfl) (by kernel_rfl) (bs.get 2 rfl s2) ((ow.keep hk).box 0 rfl) (Nat.le_of_ble_eq_true rfl) rfl) rfl <|
    armS (wg (j := 88) (b := true) rfl rfl rfl) (fun aa ww hk bs hd => xbuild (us := #[(0, .int .u8 3), (2, .string ⟨[51].toArray⟩)]) rfl (by simp only [List.map_toArray, List.map_cons, List.map_nil]; rfl) (by kernel_rfl)) rfl <|
    armC (wg (j := 88) (b := true) rfl rfl rfl) (fun aa ww hk bs hd => xcall1 rfl rfl (en_louvrelaw13_num _ _)) (fun aa ww hk bs hd => lnum13_any 40000 ww) rfl <|
    armC (wg (j := 88) (b := true) rfl rfl rfl) (fun aa ww hk bs hd => xcall4 rfl rfl (dep hd 89 rfl rfl rfl) (dep hd 90 rfl rfl rfl) (dep hd 91 rfl rfl rfl) (en_louvrelaw13_ops _ _)) (fun aa ww hk bs hd => ops13_any 1 (⟨2, 1, []⟩ : Vl) (⟨3, 0, [51]⟩ : Vl) (⟨1, 40000, []⟩ : Vl) ww mx (HM.kept (ow.keep hk).kept) ⟨⟨by decide, by decide⟩, by decide⟩ ⟨⟨by decide, by decide⟩, by decide⟩ (by kernel_rfl)) rfl <|
    armS (wn rfl) (fun aa ww hk bs hd => xpickT rfl (dep hd 88 rfl rfl rfl) (dep hd 92 rfl rfl rfl)) rfl <|
    mvD 93 rfl rfl rfl rfl rfl rfl <|
    armS (wg (j := 94) (b := true) rfl rfl rfl) (fun aa ww hk bs hd => xloadN 3 rfl (by kernel_rfl) (by kernel_rfl) (bs.get 1 rfl s1) ((ow.keep hk).box 1 rfl) (Nat.le_of_ble_eq_true rfl) rfl) rfl <|
    armC (wg (j := 94) (b := true) rfl rfl rfl) (fun aa ww hk bs hd => xcall1 rfl rfl (en_louvrelaw13_fail _ _)) (fun aa ww hk bs hd => lfail13_any 4 ww) rfl <|
    armC (wg (j := 94) (b := true) rfl rfl rfl) (fun aa ww hk bs hd => xcall1 rfl rfl (en_louvrelaw13_fail _ _)) (fun aa ww hk bs hd => lfail13_any 2 ww) rfl <|
    armC (wg (j := 94) (b := true) rfl rfl rfl) (fun aa ww hk bs hd => xcall4 rfl rfl (dep hd 95 rfl rfl rfl) (dep hd 96 rfl rfl rfl) (dep hd 97 rfl rfl rfl) (en_louvrelaw13_ops _ _)) (fun aa ww hk bs hd => ops13_any 1 (⟨3, 0, [120]⟩ : Vl) (⟨4, 4, []⟩ : Vl) (⟨4, 2, []⟩ : Vl) ww mx (HM.kept (ow.keep hk).kept) ⟨⟨by decide, by decide⟩, by decide⟩ ⟨⟨by decide, by decide⟩, by decide⟩ (by kernel_rfl)) rfl <|
    armS (wn rfl) (fun aa ww hk bs hd => xpickT rfl (dep hd 94 rfl rfl rfl) (dep hd 98 rfl rfl rfl)) rfl <|
    mvD 99 rfl rfl rfl rfl rfl rfl <|
    armC (wg (j := 100) (b := true) rfl rfl rfl) (fun aa ww hk bs hd => xcall1 rfl rfl (en_louvrelaw13_fail _ _)) (fun aa ww hk bs hd => lfail13_any 4 ww) rfl <|
    armS (wg (j := 100) (b := true) rfl rfl rfl) (fun aa ww hk bs hd => xloadN 3 rfl (by kernel_rfl) (by kernel_rfl) (bs.get 1 rfl s1) ((ow.keep hk).box 1 rfl) (Nat.le_of_ble_eq_true rfl) rfl) rfl <|
    armC (wg (j := 100) (b := true) rfl rfl rfl) (fun aa ww hk bs hd => xcall1 rfl rfl (en_louvrelaw13_fail _ _)) (fun aa ww hk bs hd => lfail13_any 4 ww) rfl <|
    armC (wg (j := 100) (b := true) rfl rfl rfl) (fun aa ww hk bs hd => xcall4 rfl rfl (dep hd 101 rfl rfl rfl) (dep hd 102 rfl rfl rfl) (dep hd 103 rfl rfl rfl) (en_louvrelaw13_ops _ _)) (fun aa ww hk bs hd => ops13_any 1 (⟨4, 4, []⟩ : Vl) (⟨3, 0, [120]⟩ : Vl) (⟨4, 4, []⟩ : Vl) ww mx (HM.kept (ow.keep hk).kept) ⟨⟨by decide, by decide⟩, by decide⟩ ⟨⟨by decide, by decide⟩, by decide⟩ (by kernel_rfl)) rfl <|
    armS (wn rfl) (fun aa ww hk bs hd => xpickT rfl (dep hd 100 rfl rfl rfl) (dep hd 104 rfl rfl rfl)) rfl <|
    mvD 105 rfl rfl rfl rfl rfl rfl <|
    armC (wg (j := 106) (b := true) rfl rfl rfl) (fun aa ww hk bs hd => xcall1 rfl rfl (en_louvrelaw13_num _ _)) (fun aa ww hk bs hd => lnum13_any 15000 ww) rfl <|
    armS (wg (j := 106) (b := true) rfl rfl rfl) (fun aa ww hk bs hd => xloadN 3 rfl (by kernel_rfl) (by kernel_rfl) (bs.get 2 rfl s2) ((ow.keep hk).box 0 rfl) (Nat.le_of_ble_eq_true rfl) rfl) rfl <|
    armS (wg (j := 106) (b := true) rfl rfl rfl) (fun aa ww hk bs hd => xbuild (us := #[(0, .int .u8 3), (2, .string ⟨[49, 46, 53, 84, 82, 85, 69].toArray⟩)]) rfl (by simp only [List.map_toArray, List.map_cons, List.map_nil]; rfl) (by kernel_rfl)) rfl <|
    armC (wg (j := 106) (b := true) rfl rfl rfl) (fun aa ww hk bs hd => xcall4 rfl rfl (dep hd 107 rfl rfl rfl) (dep hd 108 rfl rfl rfl) (dep hd 109 rfl rfl rfl) (en_louvrelaw13_ops _ _)) (fun aa ww hk bs hd => ops13_any 6 (⟨1, 15000, []⟩ : Vl) (⟨2, 1, []⟩ : Vl) (⟨3, 0, [49, 46, 53, 84, 82, 85, 69]⟩ : Vl) ww mx (HM.kept (ow.keep hk).kept) ⟨⟨by decide, by decide⟩, by decide⟩ ⟨⟨by decide, by decide⟩, by decide⟩ (by kernel_rfl)) rfl <|
    armS (wn rfl) (fun aa ww hk bs hd => xpickT rfl (dep hd 106 rfl rfl rfl) (dep hd 110 rfl rfl rfl)) rfl <|
    mvD 111 rfl rfl rfl rfl rfl rfl <|
    armC (wg (j := 112) (b := true) rfl rfl rfl) (fun aa ww hk bs hd => xcall1 rfl rfl (en_louvrelaw13_num _ _)) (fun aa ww hk bs hd => lnum13_any 500000 ww) rfl <|
    armC (wg (j := 112) (b := true) rfl rfl rfl) (fun aa ww hk bs hd => xcall1 rfl (dep hd 113 rfl rfl rfl) (en_fnum_Percent _ _)) (fun aa ww hk bs hd => percent13_any (⟨1, 500000, []⟩ : Vl) ww mx (HM.kept (ow.keep hk).kept) ⟨⟨by decide, by decide⟩, by decide⟩) rfl <|
    armC (wg (j := 112) (b := true) rfl rfl rfl) (fun aa ww hk bs hd => xcall1 rfl rfl (en_louvrelaw13_num _ _)) (fun aa ww hk bs hd => lnum13_any 5000 ww) rfl <|
    armE (wg (j := 112) (b := true) rfl rfl rfl) (fun aa ww hk bs hd => xeqv rfl (dep hd 114 rfl rfl rfl) (dep hd 115 rfl rfl rfl)) (congrArg Value.bool (by kernel_rfl)) rfl <|
    armS (wn rfl) (fun aa ww hk bs hd => xpickT rfl (dep hd 112 rfl rfl rfl) (dep hd 116 rfl rfl rfl)) rfl <|
    mvD 117 rfl rfl rfl rfl rfl rfl <|
    armS (wg (j := 118) (b := true) rfl rfl rfl) (fun aa ww hk bs hd => xloadN 3 rfl (by kernel_rfl) (by kernel_rfl) (bs.get 1 rfl s1) ((ow.keep hk).box 1 rfl) (Nat.le_of_ble_eq_true rfl) rfl) rfl <|
    armC (wg (j := 118) (b := true) rfl rfl rfl) (fun aa ww hk bs hd => xcall1 rfl (dep hd 119 rfl rfl rfl) (en_fnum_Neg _ _)) (fun aa ww hk bs hd => neg13_any (⟨3, 0, [120]⟩ : Vl) ww mx (HM.kept (ow.keep hk).kept) ⟨⟨by decide, by decide⟩, by decide⟩) rfl <|
    armC (wg (j := 118) (b := true) rfl rfl rfl) (fun aa ww hk bs hd => xcall1 rfl rfl (en_louvrelaw13_fail _ _)) (fun aa ww hk bs hd => lfail13_any 2 ww) rfl <|
    armE (wg (j := 118) (b := true) rfl rfl rfl) (fun aa ww hk bs hd => xeqv rfl (dep hd 120 rfl rfl rfl) (dep hd 121 rfl rfl rfl)) (congrArg Value.bool (by kernel_rfl)) rfl <|
    armS (wn rfl) (fun aa ww hk bs hd => xpickT rfl (dep hd 118 rfl rfl rfl) (dep hd 122 rfl rfl rfl)) rfl <|
    asD 123 rfl rfl rfl rfl rfl rfl <|
    arm0) fun fa fw hk bs hv ap => ?_
  obtain ⟨z, q, ov⟩ := aft hk bs z q ow
  have s0 := got hv 124 rfl rfl rfl
  have ow := ov
  clear hv ap bs hk ov
  refine wl_then (hK3 _ _ ?_)
  try clear hK3 K3
  refine wp_ret ?_
  refine results_one rfl (res_tmp s0) q ?_
  exact ⟨rfl, ow.kept⟩
end Go.Proofs.YtbpkfnoenkoabaaGreatDoor
