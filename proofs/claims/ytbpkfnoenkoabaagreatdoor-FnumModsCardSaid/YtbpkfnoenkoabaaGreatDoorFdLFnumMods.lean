/- The law FnumMods, walked (printed by wip/mklaw13.py). -/
import Derived.Test.YtbpkfnoenkoabaaGreatDoorFdGAwake13
import Derived.Test.YtbpkfnoenkoabaaGreatDoorFdMixAT
namespace Go.Proofs.YtbpkfnoenkoabaaGreatDoor
set_option linter.unusedVariables false
set_option linter.unusedSimpArgs false
open Go.RowKit Lv
set_option maxRecDepth 100000
theorem call13_eq (x : Vl) (c : Int) (fn : Nat) (A : Option Addr) (cap : Nat) (l : List Vl) (w : World) (mx : Int) (HM : Mx w mx) (hr : RowV w A l) (hs : ∀ v ∈ l, Small v) (hl : l.length ≤ 1000000) (hc : l.length ≤ cap) (hx : vCall13 fn l = (x, c)) :
    Calls Tryz.prog 27 #[.int .u8 fn, .slice A l.length cap] w fun e w' => e = .returned (.tuple #[aggV x, .int .i64 c]) ∧ Kept w w' := by
  have h := call13_any fn A cap l w mx HM hr hs hl hc
  rw [hx] at h
  exact h
theorem nums_small {x y : Int} (hx : -9223372036854775807 ≤ x ∧ x ≤ 9223372036854775807) (hy : -9223372036854775807 ≤ y ∧ y ≤ 9223372036854775807) : ∀ v ∈ [(⟨1, x, []⟩ : Vl), (⟨1, y, []⟩ : Vl)], Small v := fun v hv => by
  simp only [List.mem_cons, List.not_mem_nil, or_false] at hv
  rcases hv with rfl | rfl
  · exact ⟨⟨by show -9223372036854775808 ≤ x; omega, by show x ≤ 9223372036854775807; omega⟩, by show ([] : List UInt8).length ≤ 2000; decide⟩
  · exact ⟨⟨by show -9223372036854775808 ≤ y; omega, by show y ≤ 9223372036854775807; omega⟩, by show ([] : List UInt8).length ≤ 2000; decide⟩
theorem en_louvrelaw13_awake (args : Array Value) (w : World) : (callFunc 29 args).run Tryz.prog w = .ok (.enter 29 args) w := by go_simp
set_option maxHeartbeats 8000000 in
theorem FnumMods_walk (a0 a1 : Int) (w0 : (Lit.int .i64 a0).wf = true) (w1 : (Lit.int .i64 a1).wf = true) (w : World) (mx : Int) (HM : Mx w mx) :
    Calls Tryz.prog 11 #[.int .i64 a0, .int .i64 a1] w fun e w' => e = .returned (.bool true) ∧ Below w.heap.size w w' := by
  have r0 := Go.bounds_i64 w0
  have r1 := Go.bounds_i64 w1
  go_enter Tryz.func11, Tryz.ntmps11
  refine wp_seq_k fun K1 hK1 => ?_
  refine rgn [yV _] 1 78 rfl (by kernel_rfl) (by kernel_rfl) (
    armS (wn rfl) (fun aa ww hk bs hd => xassign rfl rfl) rfl <|
    arm0) fun fa fw hk bs hv ap => ?_
  obtain ⟨z, q, ov⟩ := aft hk bs rfl rfl (Own.start w)
  have s0 := bs.get 0 rfl rfl
  have s1 := bs.get 1 rfl rfl
  have s4 := got hv 0 rfl rfl rfl
  have ow := ov
  clear hv ap bs hk ov
  refine wl_then (hK1 _ _ ?_)
  try clear hK1 K1
  refine wp_seq_k fun K2 hK2 => ?_
  refine rgn [yV _, yV _, yV _, yV _] 4 78 z (by kernel_rfl) (by kernel_rfl) (
    mvS s0 rfl rfl rfl rfl <|
    armS (wn rfl) (fun aa ww hk bs hd => xmaxI rfl (Or.inr rfl) (dep hd 0 rfl rfl rfl) rfl) rfl <|
    mvS s1 rfl rfl rfl rfl <|
    armS (wn rfl) (fun aa ww hk bs hd => xmaxI rfl (Or.inr rfl) (dep hd 2 rfl rfl rfl) rfl) rfl <|
    arm0) fun fa fw hk bs hv ap => ?_
  obtain ⟨z, q, ov⟩ := aft hk bs z q ow
  have s0 := bs.get 0 rfl s0
  have s1 := bs.get 1 rfl s1
  have s4 := bs.get 4 rfl s4
  have s9 := got hv 1 rfl rfl rfl
  have s11 := got hv 3 rfl rfl rfl
  have ow := ov
  clear hv ap bs hk ov
  refine wl_value (v := .int .i64 (max a0 (-9223372036854775807))) (want0 rfl) (xassign rfl s9) ?_
  refine wl_value (v := .int .i64 (max a1 (-9223372036854775807))) (want0 rfl) (xassign rfl (pb 0 s11 rfl)) ?_
  refine wl_nil (fun fr u => ∃ (x : Int), ∃ (y : Int), (-9223372036854775807 ≤ x ∧ x ≤ 9223372036854775807) ∧ (-9223372036854775807 ≤ y ∧ y ≤ 9223372036854775807) ∧ fr.tmps.size = 78 ∧ fr.defers = [] ∧ Own w [] u ∧ fr.eval (.tmp 4) = .bool false ∧ fr.eval (.tmp 0) = .int .i64 x ∧ fr.eval (.tmp 1) = .int .i64 y) ⟨(max a0 (-9223372036854775807)), (max a1 (-9223372036854775807)), (by omega), (by omega), put_size (put_size z), put_def (put_def q), ow, pb 1 (pb 0 s4 rfl) rfl, pb 1 (put_in (t := 0) z rfl) rfl, put_in (t := 1) (put_size z) rfl⟩ ?_
  rintro fa fw ⟨x, y, hx, hy, z, q, ow, s4, s0, s1⟩
  refine then_n (hK2 _ _ ?_)
  try clear hK2 K2
  refine wp_seq_k fun K3 hK3 => ?_
  refine rgn [yV _, yV (aggV (⟨1, x, []⟩ : Vl)), yV _, yV (aggV (⟨1, y, []⟩ : Vl)), ySlice fw.heap.size 2 (rowObj [(⟨1, x, []⟩ : Vl), (⟨1, y, []⟩ : Vl)]), yV (.tuple #[aggV (mres x y), .int .i64 0]), yV _, yV (aggV (mres x y)), yV _, yNew fw.heap.size (.cells #[.int .u8 0, .int .i64 0, .string ⟨[].toArray⟩] 25 (0, 0))] 10 78 z (by kernel_rfl) (by kernel_rfl) (
    mvS s0 rfl rfl rfl rfl <|
    armC (wn rfl) (fun aa ww hk bs hd => xcall1 rfl (dep hd 0 rfl rfl rfl) (en_louvrelaw13_num _ _)) (fun aa ww hk bs hd => lnum13_any x ww) rfl <|
    mvS s1 rfl rfl rfl rfl <|
    armC (wn rfl) (fun aa ww hk bs hd => xcall1 rfl (dep hd 2 rfl rfl rfl) (en_louvrelaw13_num _ _)) (fun aa ww hk bs hd => lnum13_any y ww) rfl <|
    arm (fun aa ww hk bs hd => by
      have d1 : aa.eval (.tmp 14) = aggV (⟨1, x, []⟩ : Vl) := depX hd 1 rfl
      have d3 : aa.eval (.tmp 16) = aggV (⟨1, y, []⟩ : Vl) := depX hd 3 rfl
      exact stepX_new _ (want0 rfl) (xrow2 rfl (d1) (d3)) ⟨_, rfl, hk.size, Go.heap_alloc_new _ _⟩ ((Kept.refl _).alloc _) rfl (Nat.le_refl _)
      ) <|
    arm (fun aa ww hk bs hd => by
      have d4 : ∃ g, aa.eval (.tmp 17) = .slice (some ⟨g, 0, none⟩) 2 2 ∧ fw.heap.size ≤ g ∧ ww.heap[g]? = some (rowObj [(⟨1, x, []⟩ : Vl), (⟨1, y, []⟩ : Vl)]) := depX hd 4 rfl
      obtain ⟨g4, e4, _, h4⟩ := d4
      exact stepX_enter (want0 rfl) (xcall2 (u := .int .u8 6) (v := .slice (some ⟨g4, 0, none⟩) 2 2) rfl rfl e4 (en_fnum_Call _ _)) ((call13_eq (mres x y) 0 6 (some ⟨g4, 0, none⟩) 2 [(⟨1, x, []⟩ : Vl), (⟨1, y, []⟩ : Vl)] ww mx (HM.kept (ow.keep hk).kept) (rowObj_row h4) (nums_small hx hy) (by simp) (Nat.le_of_ble_eq_true rfl) (call_mod hx hy)).mono fun _ _ ⟨he, hk2⟩ => ⟨_, he, rfl, hk2⟩) rfl
      ) <|
    mvD 5 rfl rfl rfl rfl rfl rfl <|
    armS (wn rfl) (fun aa ww hk bs hd => xextract rfl (dep hd 6 rfl rfl rfl) rfl) rfl <|
    armS (wn rfl) (fun aa ww hk bs hd => xextract rfl (dep hd 6 rfl rfl rfl) rfl) rfl <|
    armP (wn rfl) (fun aa ww hk bs hd => xalloc rfl (by kernel_rfl)) rfl <|
    arm0) fun fa fw hk bs hv ap => ?_
  obtain ⟨z, q, ov⟩ := aft hk bs z q ow
  have s4 := bs.get 4 rfl s4
  have s0 := bs.get 0 rfl s0
  have s1 := bs.get 1 rfl s1
  have s19 := got hv 7 rfl rfl rfl
  have s20 := got hv 8 rfl rfl rfl
  obtain ⟨gb1, s5, bgb1, hgb1⟩ := gotP hv 9 rfl rfl rfl
  have ov := ov.cons hgb1 (Nat.le_trans ow.kept.size bgb1) (ow.below bgb1)
  have ow := ov
  clear hv ap bs hk ov
  refine wl_store ow 0 0 (want0 rfl) rfl rfl s5 s19 (by kernel_rfl) rfl rfl rfl fun fw ow => ?_
  refine wl_value (v := .int .i64 0) (want0 rfl) (xassign rfl s20) ?_
  refine gt5 (put_size z) (put_def q) ow 4 (pb 6 s4 rfl) 0 (pb 6 s0 rfl) 1 (pb 6 s1 rfl) 5 (pb 6 s5 rfl) 6 (put_in (t := 6) z rfl) fun fa fw z q ow s4 s0 s1 s5 s6 => ?_
  refine wl_then (hK3 _ _ ?_)
  try clear hK3 K3
  refine wp_seq_k fun K4 hK4 => ?_
  refine wp_seq_k fun K5 hK5 => ?_
  refine rgn [yV _, yV (.bool false)] 2 78 z (by kernel_rfl) (by kernel_rfl) (
    mvS s6 rfl rfl rfl rfl <|
    armE (wn rfl) (fun aa ww hk bs hd => xnei rfl (dep hd 0 rfl rfl rfl) rfl) (congrArg Value.bool rfl) rfl <|
    arm0) fun fa fw hk bs hv ap => ?_
  obtain ⟨z, q, ov⟩ := aft hk bs z q ow
  have s4 := bs.get 4 rfl s4
  have s0 := bs.get 0 rfl s0
  have s1 := bs.get 1 rfl s1
  have s5 := bs.get 5 rfl s5
  have s22 := got hv 1 rfl rfl rfl
  have ow := ov
  clear hv ap bs hk ov
  refine wl_then (hK5 _ _ ?_)
  try clear hK5 K5
  refine wp_cond_false (s22) ?_
  refine wp_skip ?_
  refine then_n (hK4 _ _ ?_)
  try clear hK4 K4
  refine wp_seq_k fun K6 hK6 => ?_
  refine wp_seq_k fun K7 hK7 => ?_
  refine rgn [yV _, yV _] 2 78 z (by kernel_rfl) (by kernel_rfl) (
    mvS s1 rfl rfl rfl rfl <|
    armS (wn rfl) (fun aa ww hk bs hd => xeqi rfl (dep hd 0 rfl rfl rfl) rfl) rfl <|
    arm0) fun fa fw hk bs hv ap => ?_
  obtain ⟨z, q, ov⟩ := aft hk bs z q ow
  have s4 := bs.get 4 rfl s4
  have s0 := bs.get 0 rfl s0
  have s1 := bs.get 1 rfl s1
  have s5 := bs.get 5 rfl s5
  have s24 := got hv 1 rfl rfl rfl
  have ow := ov
  clear hv ap bs hk ov
  refine wl_then (hK7 _ _ ?_)
  try clear hK7 K7
  by_cases hc1 : (y : Int) = (0 : Int)
  ·refine wp_cond_true (s24.trans (congrArg Value.bool ((decide_eq_true_iff).2 hc1))) ?_
   refine wp_seq_k fun K8 hK8 => ?_
   refine rgn [yV (aggV (mres x y)), yV (aggV (⟨4, 1, []⟩ : Vl)), yV (.bool true), yV _, yV (.bool true), yV _, yV _] 7 78 z (by kernel_rfl) (by kernel_rfl) (
     armS (wn rfl) (fun aa ww hk bs hd => xloadN 3 rfl (by kernel_rfl) (by kernel_rfl) (bs.get 5 rfl s5) ((ow.keep hk).box 0 rfl) (Nat.le_of_ble_eq_true rfl) rfl) rfl <|
     armC (wn rfl) (fun aa ww hk bs hd => xcall1 rfl rfl (en_louvrelaw13_fail _ _)) (fun aa ww hk bs hd => lfail13_any 1 ww) rfl <|
     armE (wn rfl) (fun aa ww hk bs hd => xeqv rfl (dep hd 0 rfl rfl rfl) (dep hd 1 rfl rfl rfl)) (congrArg Value.bool (sameV_of (mres_0 (x := x) (y := y) (by omega)))) rfl <|
     mvD 2 rfl rfl rfl rfl rfl rfl <|
     armC (wg (j := 3) (b := true) rfl rfl rfl) (fun aa ww hk bs hd => xcall0 rfl (en_louvrelaw13_awake _ _)) (fun aa ww hk bs hd => awake13_any ww mx (HM.kept (ow.keep hk).kept)) rfl <|
     armS (wn rfl) (fun aa ww hk bs hd => xpickT rfl (dep hd 3 rfl rfl rfl) (dep hd 4 rfl rfl rfl)) rfl <|
     asD 5 rfl rfl rfl rfl rfl rfl <|
     arm0) fun fa fw hk bs hv ap => ?_
   obtain ⟨z, q, ov⟩ := aft hk bs z q ow
   have s0 := bs.get 0 rfl s0
   have s1 := bs.get 1 rfl s1
   have s5 := bs.get 5 rfl s5
   have s4 := got hv 6 rfl rfl rfl
   have ow := ov
   clear hv ap bs hk ov
   refine wl_then (hK8 _ _ ?_)
   try clear hK8 K8
   refine wp_ret ?_
   refine then_r ?_
   refine results_one rfl (res_tmp s4) q ?_
   exact ⟨rfl, ow.kept⟩
  refine wp_cond_false (s24.trans (congrArg Value.bool (Bool.eq_false_iff.2 (fun c => hc1 ((decide_eq_true_iff).1 c))))) ?_
  have ta := tmod_abs x y
  refine wp_skip ?_
  refine then_n (hK6 _ _ ?_)
  try clear hK6 K6
  refine wp_seq_k fun K9 hK9 => ?_
  refine rgn [yV (.pointer (some ⟨gb1, 1, none⟩)), yV (.int .i64 (mod13 x y)), yV _] 3 78 z (by kernel_rfl) (by kernel_rfl) (
    armS (wn rfl) (fun aa ww hk bs hd => xfieldAddr rfl (bs.get 5 rfl s5) (by kernel_rfl)) rfl <|
    armE (wn rfl) (fun aa ww hk bs hd => xloadB rfl (by kernel_rfl) (dep hd 0 rfl rfl rfl) ((ow.keep hk).box 0 rfl) rfl) (congrArg (Value.int .i64) (congrArg Vl.n (mres_n (x := x) (y := y) (by omega) hy))) rfl <|
    asD 1 rfl rfl rfl rfl rfl rfl <|
    arm0) fun fa fw hk bs hv ap => ?_
  obtain ⟨z, q, ov⟩ := aft hk bs z q ow
  have s4 := bs.get 4 rfl s4
  have s0 := bs.get 0 rfl s0
  have s1 := bs.get 1 rfl s1
  have s5 := bs.get 5 rfl s5
  have s7 := got hv 2 rfl rfl rfl
  have ow := ov
  clear hv ap bs hk ov
  refine wl_then (hK9 _ _ ?_)
  try clear hK9 K9
  refine wp_seq_k fun K10 hK10 => ?_
  refine wp_seq_k fun K11 hK11 => ?_
  refine rgn [yV (.pointer (some ⟨gb1, 0, none⟩)), yV _, yV (.bool false), yV _, yV _, yV _, yV _, yIf (((decide ((mod13 x y : Int) ≠ (0 : Int))) = true)) (yV (.int .i64 (mod13 x y))), yIf (((decide ((mod13 x y : Int) ≠ (0 : Int))) = true)) (yV (.bool (decide ((mod13 x y : Int) < (0 : Int))))), yIf (((decide ((mod13 x y : Int) ≠ (0 : Int))) = true)) (yV (.int .i64 y)), yIf (((decide ((mod13 x y : Int) ≠ (0 : Int))) = true)) (yV (.bool (decide ((y : Int) < (0 : Int))))), yIf (((decide ((mod13 x y : Int) ≠ (0 : Int))) = true)) (yV (.bool ((decide ((mod13 x y : Int) < (0 : Int))) != (decide ((y : Int) < (0 : Int)))))), yV _, yV _, yV _, yIf ((((decide ((mod13 x y : Int) ≠ (0 : Int))) && ((decide ((mod13 x y : Int) < (0 : Int))) != (decide ((y : Int) < (0 : Int))))) = false)) (yV (.int .i64 y)), yIf ((((decide ((mod13 x y : Int) ≠ (0 : Int))) && ((decide ((mod13 x y : Int) < (0 : Int))) != (decide ((y : Int) < (0 : Int))))) = false)) (yV (.bool (decide ((0 : Int) < (y : Int))))), yIf ((((decide ((mod13 x y : Int) ≠ (0 : Int))) && ((decide ((mod13 x y : Int) < (0 : Int))) != (decide ((y : Int) < (0 : Int))))) = false)) (yV (.bool (decide ((0 : Int) < (y : Int))))), yIf ((((decide ((mod13 x y : Int) ≠ (0 : Int))) && ((decide ((mod13 x y : Int) < (0 : Int))) != (decide ((y : Int) < (0 : Int))))) = false) ∧ ((decide ((0 : Int) < (y : Int))) = true)) (yV (.int .i64 (mod13 x y))), yIf ((((decide ((mod13 x y : Int) ≠ (0 : Int))) && ((decide ((mod13 x y : Int) < (0 : Int))) != (decide ((y : Int) < (0 : Int))))) = false) ∧ ((decide ((0 : Int) < (y : Int))) = true)) (yV (.int .i64 y)), yIf ((((decide ((mod13 x y : Int) ≠ (0 : Int))) && ((decide ((mod13 x y : Int) < (0 : Int))) != (decide ((y : Int) < (0 : Int))))) = false) ∧ ((decide ((0 : Int) < (y : Int))) = true)) (yV (.bool (decide ((y : Int) ≤ (mod13 x y : Int))))), yIf ((((decide ((mod13 x y : Int) ≠ (0 : Int))) && ((decide ((mod13 x y : Int) < (0 : Int))) != (decide ((y : Int) < (0 : Int))))) = false)) (yV (.bool ((decide ((0 : Int) < (y : Int))) && (decide ((y : Int) ≤ (mod13 x y : Int)))))), yV _, yV _, yIf (((((decide ((mod13 x y : Int) ≠ (0 : Int))) && ((decide ((mod13 x y : Int) < (0 : Int))) != (decide ((y : Int) < (0 : Int))))) || ((decide ((0 : Int) < (y : Int))) && (decide ((y : Int) ≤ (mod13 x y : Int))))) = false)) (yV (.int .i64 y)), yIf (((((decide ((mod13 x y : Int) ≠ (0 : Int))) && ((decide ((mod13 x y : Int) < (0 : Int))) != (decide ((y : Int) < (0 : Int))))) || ((decide ((0 : Int) < (y : Int))) && (decide ((y : Int) ≤ (mod13 x y : Int))))) = false)) (yV (.bool (decide ((y : Int) < (0 : Int))))), yIf (((((decide ((mod13 x y : Int) ≠ (0 : Int))) && ((decide ((mod13 x y : Int) < (0 : Int))) != (decide ((y : Int) < (0 : Int))))) || ((decide ((0 : Int) < (y : Int))) && (decide ((y : Int) ≤ (mod13 x y : Int))))) = false)) (yV (.bool (decide ((y : Int) < (0 : Int))))), yIf (((((decide ((mod13 x y : Int) ≠ (0 : Int))) && ((decide ((mod13 x y : Int) < (0 : Int))) != (decide ((y : Int) < (0 : Int))))) || ((decide ((0 : Int) < (y : Int))) && (decide ((y : Int) ≤ (mod13 x y : Int))))) = false) ∧ ((decide ((y : Int) < (0 : Int))) = true)) (yV (.int .i64 (mod13 x y))), yIf (((((decide ((mod13 x y : Int) ≠ (0 : Int))) && ((decide ((mod13 x y : Int) < (0 : Int))) != (decide ((y : Int) < (0 : Int))))) || ((decide ((0 : Int) < (y : Int))) && (decide ((y : Int) ≤ (mod13 x y : Int))))) = false) ∧ ((decide ((y : Int) < (0 : Int))) = true)) (yV (.int .i64 y)), yIf (((((decide ((mod13 x y : Int) ≠ (0 : Int))) && ((decide ((mod13 x y : Int) < (0 : Int))) != (decide ((y : Int) < (0 : Int))))) || ((decide ((0 : Int) < (y : Int))) && (decide ((y : Int) ≤ (mod13 x y : Int))))) = false) ∧ ((decide ((y : Int) < (0 : Int))) = true)) (yV (.bool (decide ((mod13 x y : Int) ≤ (y : Int))))), yIf (((((decide ((mod13 x y : Int) ≠ (0 : Int))) && ((decide ((mod13 x y : Int) < (0 : Int))) != (decide ((y : Int) < (0 : Int))))) || ((decide ((0 : Int) < (y : Int))) && (decide ((y : Int) ≤ (mod13 x y : Int))))) = false)) (yV (.bool ((decide ((y : Int) < (0 : Int))) && (decide ((mod13 x y : Int) ≤ (y : Int)))))), yV _] 32 78 z (by kernel_rfl) (by kernel_rfl) (
    armS (wn rfl) (fun aa ww hk bs hd => xfieldAddr rfl (bs.get 5 rfl s5) (by kernel_rfl)) rfl <|
    armS (wn rfl) (fun aa ww hk bs hd => xloadB rfl (by kernel_rfl) (dep hd 0 rfl rfl rfl) ((ow.keep hk).box 0 rfl) rfl) rfl <|
    armE (wn rfl) (fun aa ww hk bs hd => xnei rfl (dep hd 1 rfl rfl rfl) rfl) (congrArg Value.bool (by rw [mres_n (x := x) (y := y) (by omega) hy]; rfl)) rfl <|
    mvD 2 rfl rfl rfl rfl rfl rfl <|
    armS (wg (j := 3) (b := false) rfl rfl rfl) (fun aa ww hk bs hd => xmove rfl (bs.get 7 rfl s7)) rfl <|
    armS (wg (j := 3) (b := false) rfl rfl rfl) (fun aa ww hk bs hd => xnei rfl (dep hd 4 rfl rfl rfl) rfl) rfl <|
    armS (wg (j := 3) (b := false) rfl rfl rfl) (fun aa ww hk bs hd => xmove rfl (dep hd 5 rfl rfl rfl)) rfl <|
    arm (fun aa ww hk bs hd => by
      have d6 : aa.eval (.tmp 39) = .bool (decide ((mod13 x y : Int) ≠ (0 : Int))) := depX hd 6 rfl
      by_cases hz : ((decide ((mod13 x y : Int) ≠ (0 : Int))) = true)
      · exact stepX_same (v := .int .i64 (mod13 x y)) (want1 (j := 6) (b := true) rfl (d6.trans (congrArg Value.bool hz))) (xmove rfl (bs.get 7 rfl s7)) ⟨fun _ => rfl, fun c => absurd hz c⟩ rfl
      · exact stepX_skip (wantN (j := 6) (b := true) (b' := false) rfl (d6.trans (congrArg Value.bool (Bool.eq_false_iff.2 hz))) rfl) ⟨fun c => absurd c hz, fun _ => rfl⟩ rfl
      ) <|
    arm (fun aa ww hk bs hd => by
      have d6 : aa.eval (.tmp 39) = .bool (decide ((mod13 x y : Int) ≠ (0 : Int))) := depX hd 6 rfl
      have d7 : (((decide ((mod13 x y : Int) ≠ (0 : Int))) = true) → aa.eval (.tmp 40) = .int .i64 (mod13 x y)) ∧ (¬ (((decide ((mod13 x y : Int) ≠ (0 : Int))) = true)) → aa.eval (.tmp 40) = undef) := depX hd 7 rfl
      by_cases hz : ((decide ((mod13 x y : Int) ≠ (0 : Int))) = true)
      · exact stepX_same (v := .bool (decide ((mod13 x y : Int) < (0 : Int)))) (want1 (j := 6) (b := true) rfl (d6.trans (congrArg Value.bool hz))) (xlss rfl (d7.1 hz) rfl) ⟨fun _ => rfl, fun c => absurd hz c⟩ rfl
      · exact stepX_skip (wantN (j := 6) (b := true) (b' := false) rfl (d6.trans (congrArg Value.bool (Bool.eq_false_iff.2 hz))) rfl) ⟨fun c => absurd c hz, fun _ => rfl⟩ rfl
      ) <|
    arm (fun aa ww hk bs hd => by
      have d6 : aa.eval (.tmp 39) = .bool (decide ((mod13 x y : Int) ≠ (0 : Int))) := depX hd 6 rfl
      by_cases hz : ((decide ((mod13 x y : Int) ≠ (0 : Int))) = true)
      · exact stepX_same (v := .int .i64 y) (want1 (j := 6) (b := true) rfl (d6.trans (congrArg Value.bool hz))) (xmove rfl (bs.get 1 rfl s1)) ⟨fun _ => rfl, fun c => absurd hz c⟩ rfl
      · exact stepX_skip (wantN (j := 6) (b := true) (b' := false) rfl (d6.trans (congrArg Value.bool (Bool.eq_false_iff.2 hz))) rfl) ⟨fun c => absurd c hz, fun _ => rfl⟩ rfl
      ) <|
    arm (fun aa ww hk bs hd => by
      have d6 : aa.eval (.tmp 39) = .bool (decide ((mod13 x y : Int) ≠ (0 : Int))) := depX hd 6 rfl
      have d9 : (((decide ((mod13 x y : Int) ≠ (0 : Int))) = true) → aa.eval (.tmp 42) = .int .i64 y) ∧ (¬ (((decide ((mod13 x y : Int) ≠ (0 : Int))) = true)) → aa.eval (.tmp 42) = undef) := depX hd 9 rfl
      by_cases hz : ((decide ((mod13 x y : Int) ≠ (0 : Int))) = true)
      · exact stepX_same (v := .bool (decide ((y : Int) < (0 : Int)))) (want1 (j := 6) (b := true) rfl (d6.trans (congrArg Value.bool hz))) (xlss rfl (d9.1 hz) rfl) ⟨fun _ => rfl, fun c => absurd hz c⟩ rfl
      · exact stepX_skip (wantN (j := 6) (b := true) (b' := false) rfl (d6.trans (congrArg Value.bool (Bool.eq_false_iff.2 hz))) rfl) ⟨fun c => absurd c hz, fun _ => rfl⟩ rfl
      ) <|
    arm (fun aa ww hk bs hd => by
      have d6 : aa.eval (.tmp 39) = .bool (decide ((mod13 x y : Int) ≠ (0 : Int))) := depX hd 6 rfl
      have d8 : (((decide ((mod13 x y : Int) ≠ (0 : Int))) = true) → aa.eval (.tmp 41) = .bool (decide ((mod13 x y : Int) < (0 : Int)))) ∧ (¬ (((decide ((mod13 x y : Int) ≠ (0 : Int))) = true)) → aa.eval (.tmp 41) = undef) := depX hd 8 rfl
      have d10 : (((decide ((mod13 x y : Int) ≠ (0 : Int))) = true) → aa.eval (.tmp 43) = .bool (decide ((y : Int) < (0 : Int)))) ∧ (¬ (((decide ((mod13 x y : Int) ≠ (0 : Int))) = true)) → aa.eval (.tmp 43) = undef) := depX hd 10 rfl
      by_cases hz : ((decide ((mod13 x y : Int) ≠ (0 : Int))) = true)
      · exact stepX_same (v := .bool ((decide ((mod13 x y : Int) < (0 : Int))) != (decide ((y : Int) < (0 : Int))))) (want1 (j := 6) (b := true) rfl (d6.trans (congrArg Value.bool hz))) (xneB rfl (d8.1 hz) (d10.1 hz)) ⟨fun _ => rfl, fun c => absurd hz c⟩ rfl
      · exact stepX_skip (wantN (j := 6) (b := true) (b' := false) rfl (d6.trans (congrArg Value.bool (Bool.eq_false_iff.2 hz))) rfl) ⟨fun c => absurd c hz, fun _ => rfl⟩ rfl
      ) <|
    arm (fun aa ww hk bs hd => by
      have d3 : aa.eval (.tmp 36) = .bool false := depX hd 3 rfl
      have d6 : aa.eval (.tmp 39) = .bool (decide ((mod13 x y : Int) ≠ (0 : Int))) := depX hd 6 rfl
      have d11 : (((decide ((mod13 x y : Int) ≠ (0 : Int))) = true) → aa.eval (.tmp 44) = .bool ((decide ((mod13 x y : Int) < (0 : Int))) != (decide ((y : Int) < (0 : Int))))) ∧ (¬ (((decide ((mod13 x y : Int) ≠ (0 : Int))) = true)) → aa.eval (.tmp 44) = undef) := depX hd 11 rfl
      exact stepX_same (v := .bool ((decide ((mod13 x y : Int) ≠ (0 : Int))) && ((decide ((mod13 x y : Int) < (0 : Int))) != (decide ((y : Int) < (0 : Int)))))) (want1 (j := 3) (b := false) rfl d3) (xand rfl (d6) (fun hb => d11.1 hb) rfl) rfl rfl
      ) <|
    armS (wn rfl) (fun aa ww hk bs hd => xpickF rfl (dep hd 3 rfl rfl rfl) (dep hd 12 rfl rfl rfl)) rfl <|
    mvD 13 rfl rfl rfl rfl rfl rfl <|
    arm (fun aa ww hk bs hd => by
      have d14 : aa.eval (.tmp 47) = .bool ((decide ((mod13 x y : Int) ≠ (0 : Int))) && ((decide ((mod13 x y : Int) < (0 : Int))) != (decide ((y : Int) < (0 : Int))))) := depX hd 14 rfl
      by_cases hz : (((decide ((mod13 x y : Int) ≠ (0 : Int))) && ((decide ((mod13 x y : Int) < (0 : Int))) != (decide ((y : Int) < (0 : Int))))) = false)
      · exact stepX_same (v := .int .i64 y) (want1 (j := 14) (b := false) rfl (d14.trans (congrArg Value.bool hz))) (xmove rfl (bs.get 1 rfl s1)) ⟨fun _ => rfl, fun c => absurd hz c⟩ rfl
      · exact stepX_skip (wantN (j := 14) (b := false) (b' := true) rfl (d14.trans (congrArg Value.bool ((Bool.not_eq_false _).mp hz))) rfl) ⟨fun c => absurd c hz, fun _ => rfl⟩ rfl
      ) <|
    arm (fun aa ww hk bs hd => by
      have d14 : aa.eval (.tmp 47) = .bool ((decide ((mod13 x y : Int) ≠ (0 : Int))) && ((decide ((mod13 x y : Int) < (0 : Int))) != (decide ((y : Int) < (0 : Int))))) := depX hd 14 rfl
      have d15 : ((((decide ((mod13 x y : Int) ≠ (0 : Int))) && ((decide ((mod13 x y : Int) < (0 : Int))) != (decide ((y : Int) < (0 : Int))))) = false) → aa.eval (.tmp 48) = .int .i64 y) ∧ (¬ ((((decide ((mod13 x y : Int) ≠ (0 : Int))) && ((decide ((mod13 x y : Int) < (0 : Int))) != (decide ((y : Int) < (0 : Int))))) = false)) → aa.eval (.tmp 48) = undef) := depX hd 15 rfl
      by_cases hz : (((decide ((mod13 x y : Int) ≠ (0 : Int))) && ((decide ((mod13 x y : Int) < (0 : Int))) != (decide ((y : Int) < (0 : Int))))) = false)
      · exact stepX_same (v := .bool (decide ((0 : Int) < (y : Int)))) (want1 (j := 14) (b := false) rfl (d14.trans (congrArg Value.bool hz))) (xgtr rfl (d15.1 hz) rfl) ⟨fun _ => rfl, fun c => absurd hz c⟩ rfl
      · exact stepX_skip (wantN (j := 14) (b := false) (b' := true) rfl (d14.trans (congrArg Value.bool ((Bool.not_eq_false _).mp hz))) rfl) ⟨fun c => absurd c hz, fun _ => rfl⟩ rfl
      ) <|
    arm (fun aa ww hk bs hd => by
      have d14 : aa.eval (.tmp 47) = .bool ((decide ((mod13 x y : Int) ≠ (0 : Int))) && ((decide ((mod13 x y : Int) < (0 : Int))) != (decide ((y : Int) < (0 : Int))))) := depX hd 14 rfl
      have d16 : ((((decide ((mod13 x y : Int) ≠ (0 : Int))) && ((decide ((mod13 x y : Int) < (0 : Int))) != (decide ((y : Int) < (0 : Int))))) = false) → aa.eval (.tmp 49) = .bool (decide ((0 : Int) < (y : Int)))) ∧ (¬ ((((decide ((mod13 x y : Int) ≠ (0 : Int))) && ((decide ((mod13 x y : Int) < (0 : Int))) != (decide ((y : Int) < (0 : Int))))) = false)) → aa.eval (.tmp 49) = undef) := depX hd 16 rfl
      by_cases hz : (((decide ((mod13 x y : Int) ≠ (0 : Int))) && ((decide ((mod13 x y : Int) < (0 : Int))) != (decide ((y : Int) < (0 : Int))))) = false)
      · exact stepX_same (v := .bool (decide ((0 : Int) < (y : Int)))) (want1 (j := 14) (b := false) rfl (d14.trans (congrArg Value.bool hz))) (xmove rfl (d16.1 hz)) ⟨fun _ => rfl, fun c => absurd hz c⟩ rfl
      · exact stepX_skip (wantN (j := 14) (b := false) (b' := true) rfl (d14.trans (congrArg Value.bool ((Bool.not_eq_false _).mp hz))) rfl) ⟨fun c => absurd c hz, fun _ => rfl⟩ rfl
      ) <|
    arm (fun aa ww hk bs hd => by
      have d17 : ((((decide ((mod13 x y : Int) ≠ (0 : Int))) && ((decide ((mod13 x y : Int) < (0 : Int))) != (decide ((y : Int) < (0 : Int))))) = false) → aa.eval (.tmp 50) = .bool (decide ((0 : Int) < (y : Int)))) ∧ (¬ ((((decide ((mod13 x y : Int) ≠ (0 : Int))) && ((decide ((mod13 x y : Int) < (0 : Int))) != (decide ((y : Int) < (0 : Int))))) = false)) → aa.eval (.tmp 50) = undef) := depX hd 17 rfl
      by_cases hz : (((decide ((mod13 x y : Int) ≠ (0 : Int))) && ((decide ((mod13 x y : Int) < (0 : Int))) != (decide ((y : Int) < (0 : Int))))) = false) ∧ ((decide ((0 : Int) < (y : Int))) = true)
      · exact stepX_same (v := .int .i64 (mod13 x y)) (want1 (j := 17) (b := true) rfl ((d17.1 hz.1).trans (congrArg Value.bool hz.2))) (xmove rfl (bs.get 7 rfl s7)) ⟨fun _ => rfl, fun c => absurd hz c⟩ rfl
      · by_cases hy : (((decide ((mod13 x y : Int) ≠ (0 : Int))) && ((decide ((mod13 x y : Int) < (0 : Int))) != (decide ((y : Int) < (0 : Int))))) = false)
        · exact stepX_skip (wantN (j := 17) (b := true) (b' := false) rfl ((d17.1 hy).trans (congrArg Value.bool (Bool.eq_false_iff.2 (fun hx => hz ⟨hy, hx⟩)))) rfl) ⟨fun c => absurd c hz, fun _ => rfl⟩ rfl
        · exact stepX_skip (wantU (j := 17) (b := true) rfl (d17.2 hy)) ⟨fun c => absurd c hz, fun _ => rfl⟩ rfl
      ) <|
    arm (fun aa ww hk bs hd => by
      have d17 : ((((decide ((mod13 x y : Int) ≠ (0 : Int))) && ((decide ((mod13 x y : Int) < (0 : Int))) != (decide ((y : Int) < (0 : Int))))) = false) → aa.eval (.tmp 50) = .bool (decide ((0 : Int) < (y : Int)))) ∧ (¬ ((((decide ((mod13 x y : Int) ≠ (0 : Int))) && ((decide ((mod13 x y : Int) < (0 : Int))) != (decide ((y : Int) < (0 : Int))))) = false)) → aa.eval (.tmp 50) = undef) := depX hd 17 rfl
      by_cases hz : (((decide ((mod13 x y : Int) ≠ (0 : Int))) && ((decide ((mod13 x y : Int) < (0 : Int))) != (decide ((y : Int) < (0 : Int))))) = false) ∧ ((decide ((0 : Int) < (y : Int))) = true)
      · exact stepX_same (v := .int .i64 y) (want1 (j := 17) (b := true) rfl ((d17.1 hz.1).trans (congrArg Value.bool hz.2))) (xmove rfl (bs.get 1 rfl s1)) ⟨fun _ => rfl, fun c => absurd hz c⟩ rfl
      · by_cases hy : (((decide ((mod13 x y : Int) ≠ (0 : Int))) && ((decide ((mod13 x y : Int) < (0 : Int))) != (decide ((y : Int) < (0 : Int))))) = false)
        · exact stepX_skip (wantN (j := 17) (b := true) (b' := false) rfl ((d17.1 hy).trans (congrArg Value.bool (Bool.eq_false_iff.2 (fun hx => hz ⟨hy, hx⟩)))) rfl) ⟨fun c => absurd c hz, fun _ => rfl⟩ rfl
        · exact stepX_skip (wantU (j := 17) (b := true) rfl (d17.2 hy)) ⟨fun c => absurd c hz, fun _ => rfl⟩ rfl
      ) <|
    arm (fun aa ww hk bs hd => by
      have d17 : ((((decide ((mod13 x y : Int) ≠ (0 : Int))) && ((decide ((mod13 x y : Int) < (0 : Int))) != (decide ((y : Int) < (0 : Int))))) = false) → aa.eval (.tmp 50) = .bool (decide ((0 : Int) < (y : Int)))) ∧ (¬ ((((decide ((mod13 x y : Int) ≠ (0 : Int))) && ((decide ((mod13 x y : Int) < (0 : Int))) != (decide ((y : Int) < (0 : Int))))) = false)) → aa.eval (.tmp 50) = undef) := depX hd 17 rfl
      have d18 : ((((decide ((mod13 x y : Int) ≠ (0 : Int))) && ((decide ((mod13 x y : Int) < (0 : Int))) != (decide ((y : Int) < (0 : Int))))) = false) ∧ ((decide ((0 : Int) < (y : Int))) = true) → aa.eval (.tmp 51) = .int .i64 (mod13 x y)) ∧ (¬ ((((decide ((mod13 x y : Int) ≠ (0 : Int))) && ((decide ((mod13 x y : Int) < (0 : Int))) != (decide ((y : Int) < (0 : Int))))) = false) ∧ ((decide ((0 : Int) < (y : Int))) = true)) → aa.eval (.tmp 51) = undef) := depX hd 18 rfl
      have d19 : ((((decide ((mod13 x y : Int) ≠ (0 : Int))) && ((decide ((mod13 x y : Int) < (0 : Int))) != (decide ((y : Int) < (0 : Int))))) = false) ∧ ((decide ((0 : Int) < (y : Int))) = true) → aa.eval (.tmp 52) = .int .i64 y) ∧ (¬ ((((decide ((mod13 x y : Int) ≠ (0 : Int))) && ((decide ((mod13 x y : Int) < (0 : Int))) != (decide ((y : Int) < (0 : Int))))) = false) ∧ ((decide ((0 : Int) < (y : Int))) = true)) → aa.eval (.tmp 52) = undef) := depX hd 19 rfl
      by_cases hz : (((decide ((mod13 x y : Int) ≠ (0 : Int))) && ((decide ((mod13 x y : Int) < (0 : Int))) != (decide ((y : Int) < (0 : Int))))) = false) ∧ ((decide ((0 : Int) < (y : Int))) = true)
      · exact stepX_same (v := .bool (decide ((y : Int) ≤ (mod13 x y : Int)))) (want1 (j := 17) (b := true) rfl ((d17.1 hz.1).trans (congrArg Value.bool hz.2))) (xgeq rfl (d18.1 hz) (d19.1 hz)) ⟨fun _ => rfl, fun c => absurd hz c⟩ rfl
      · by_cases hy : (((decide ((mod13 x y : Int) ≠ (0 : Int))) && ((decide ((mod13 x y : Int) < (0 : Int))) != (decide ((y : Int) < (0 : Int))))) = false)
        · exact stepX_skip (wantN (j := 17) (b := true) (b' := false) rfl ((d17.1 hy).trans (congrArg Value.bool (Bool.eq_false_iff.2 (fun hx => hz ⟨hy, hx⟩)))) rfl) ⟨fun c => absurd c hz, fun _ => rfl⟩ rfl
        · exact stepX_skip (wantU (j := 17) (b := true) rfl (d17.2 hy)) ⟨fun c => absurd c hz, fun _ => rfl⟩ rfl
      ) <|
    arm (fun aa ww hk bs hd => by
      have d14 : aa.eval (.tmp 47) = .bool ((decide ((mod13 x y : Int) ≠ (0 : Int))) && ((decide ((mod13 x y : Int) < (0 : Int))) != (decide ((y : Int) < (0 : Int))))) := depX hd 14 rfl
      have d17 : ((((decide ((mod13 x y : Int) ≠ (0 : Int))) && ((decide ((mod13 x y : Int) < (0 : Int))) != (decide ((y : Int) < (0 : Int))))) = false) → aa.eval (.tmp 50) = .bool (decide ((0 : Int) < (y : Int)))) ∧ (¬ ((((decide ((mod13 x y : Int) ≠ (0 : Int))) && ((decide ((mod13 x y : Int) < (0 : Int))) != (decide ((y : Int) < (0 : Int))))) = false)) → aa.eval (.tmp 50) = undef) := depX hd 17 rfl
      have d20 : ((((decide ((mod13 x y : Int) ≠ (0 : Int))) && ((decide ((mod13 x y : Int) < (0 : Int))) != (decide ((y : Int) < (0 : Int))))) = false) ∧ ((decide ((0 : Int) < (y : Int))) = true) → aa.eval (.tmp 53) = .bool (decide ((y : Int) ≤ (mod13 x y : Int)))) ∧ (¬ ((((decide ((mod13 x y : Int) ≠ (0 : Int))) && ((decide ((mod13 x y : Int) < (0 : Int))) != (decide ((y : Int) < (0 : Int))))) = false) ∧ ((decide ((0 : Int) < (y : Int))) = true)) → aa.eval (.tmp 53) = undef) := depX hd 20 rfl
      by_cases hz : (((decide ((mod13 x y : Int) ≠ (0 : Int))) && ((decide ((mod13 x y : Int) < (0 : Int))) != (decide ((y : Int) < (0 : Int))))) = false)
      · exact stepX_same (v := .bool ((decide ((0 : Int) < (y : Int))) && (decide ((y : Int) ≤ (mod13 x y : Int))))) (want1 (j := 14) (b := false) rfl (d14.trans (congrArg Value.bool hz))) (xand rfl (d17.1 hz) (fun hb => d20.1 ⟨hz, hb⟩) rfl) ⟨fun _ => rfl, fun c => absurd hz c⟩ rfl
      · exact stepX_skip (wantN (j := 14) (b := false) (b' := true) rfl (d14.trans (congrArg Value.bool ((Bool.not_eq_false _).mp hz))) rfl) ⟨fun c => absurd c hz, fun _ => rfl⟩ rfl
      ) <|
    arm (fun aa ww hk bs hd => by
      have d14 : aa.eval (.tmp 47) = .bool ((decide ((mod13 x y : Int) ≠ (0 : Int))) && ((decide ((mod13 x y : Int) < (0 : Int))) != (decide ((y : Int) < (0 : Int))))) := depX hd 14 rfl
      have d21 : ((((decide ((mod13 x y : Int) ≠ (0 : Int))) && ((decide ((mod13 x y : Int) < (0 : Int))) != (decide ((y : Int) < (0 : Int))))) = false) → aa.eval (.tmp 54) = .bool ((decide ((0 : Int) < (y : Int))) && (decide ((y : Int) ≤ (mod13 x y : Int))))) ∧ (¬ ((((decide ((mod13 x y : Int) ≠ (0 : Int))) && ((decide ((mod13 x y : Int) < (0 : Int))) != (decide ((y : Int) < (0 : Int))))) = false)) → aa.eval (.tmp 54) = undef) := depX hd 21 rfl
      exact stepX_same (v := .bool (((decide ((mod13 x y : Int) ≠ (0 : Int))) && ((decide ((mod13 x y : Int) < (0 : Int))) != (decide ((y : Int) < (0 : Int))))) || ((decide ((0 : Int) < (y : Int))) && (decide ((y : Int) ≤ (mod13 x y : Int)))))) (want0 rfl) (xor_ rfl (d14) rfl (fun hb => d21.1 hb)) rfl rfl
      ) <|
    mvD 22 rfl rfl rfl rfl rfl rfl <|
    arm (fun aa ww hk bs hd => by
      have d23 : aa.eval (.tmp 56) = .bool (((decide ((mod13 x y : Int) ≠ (0 : Int))) && ((decide ((mod13 x y : Int) < (0 : Int))) != (decide ((y : Int) < (0 : Int))))) || ((decide ((0 : Int) < (y : Int))) && (decide ((y : Int) ≤ (mod13 x y : Int))))) := depX hd 23 rfl
      by_cases hz : ((((decide ((mod13 x y : Int) ≠ (0 : Int))) && ((decide ((mod13 x y : Int) < (0 : Int))) != (decide ((y : Int) < (0 : Int))))) || ((decide ((0 : Int) < (y : Int))) && (decide ((y : Int) ≤ (mod13 x y : Int))))) = false)
      · exact stepX_same (v := .int .i64 y) (want1 (j := 23) (b := false) rfl (d23.trans (congrArg Value.bool hz))) (xmove rfl (bs.get 1 rfl s1)) ⟨fun _ => rfl, fun c => absurd hz c⟩ rfl
      · exact stepX_skip (wantN (j := 23) (b := false) (b' := true) rfl (d23.trans (congrArg Value.bool ((Bool.not_eq_false _).mp hz))) rfl) ⟨fun c => absurd c hz, fun _ => rfl⟩ rfl
      ) <|
    arm (fun aa ww hk bs hd => by
      have d23 : aa.eval (.tmp 56) = .bool (((decide ((mod13 x y : Int) ≠ (0 : Int))) && ((decide ((mod13 x y : Int) < (0 : Int))) != (decide ((y : Int) < (0 : Int))))) || ((decide ((0 : Int) < (y : Int))) && (decide ((y : Int) ≤ (mod13 x y : Int))))) := depX hd 23 rfl
      have d24 : (((((decide ((mod13 x y : Int) ≠ (0 : Int))) && ((decide ((mod13 x y : Int) < (0 : Int))) != (decide ((y : Int) < (0 : Int))))) || ((decide ((0 : Int) < (y : Int))) && (decide ((y : Int) ≤ (mod13 x y : Int))))) = false) → aa.eval (.tmp 57) = .int .i64 y) ∧ (¬ (((((decide ((mod13 x y : Int) ≠ (0 : Int))) && ((decide ((mod13 x y : Int) < (0 : Int))) != (decide ((y : Int) < (0 : Int))))) || ((decide ((0 : Int) < (y : Int))) && (decide ((y : Int) ≤ (mod13 x y : Int))))) = false)) → aa.eval (.tmp 57) = undef) := depX hd 24 rfl
      by_cases hz : ((((decide ((mod13 x y : Int) ≠ (0 : Int))) && ((decide ((mod13 x y : Int) < (0 : Int))) != (decide ((y : Int) < (0 : Int))))) || ((decide ((0 : Int) < (y : Int))) && (decide ((y : Int) ≤ (mod13 x y : Int))))) = false)
      · exact stepX_same (v := .bool (decide ((y : Int) < (0 : Int)))) (want1 (j := 23) (b := false) rfl (d23.trans (congrArg Value.bool hz))) (xlss rfl (d24.1 hz) rfl) ⟨fun _ => rfl, fun c => absurd hz c⟩ rfl
      · exact stepX_skip (wantN (j := 23) (b := false) (b' := true) rfl (d23.trans (congrArg Value.bool ((Bool.not_eq_false _).mp hz))) rfl) ⟨fun c => absurd c hz, fun _ => rfl⟩ rfl
      ) <|
    arm (fun aa ww hk bs hd => by
      have d23 : aa.eval (.tmp 56) = .bool (((decide ((mod13 x y : Int) ≠ (0 : Int))) && ((decide ((mod13 x y : Int) < (0 : Int))) != (decide ((y : Int) < (0 : Int))))) || ((decide ((0 : Int) < (y : Int))) && (decide ((y : Int) ≤ (mod13 x y : Int))))) := depX hd 23 rfl
      have d25 : (((((decide ((mod13 x y : Int) ≠ (0 : Int))) && ((decide ((mod13 x y : Int) < (0 : Int))) != (decide ((y : Int) < (0 : Int))))) || ((decide ((0 : Int) < (y : Int))) && (decide ((y : Int) ≤ (mod13 x y : Int))))) = false) → aa.eval (.tmp 58) = .bool (decide ((y : Int) < (0 : Int)))) ∧ (¬ (((((decide ((mod13 x y : Int) ≠ (0 : Int))) && ((decide ((mod13 x y : Int) < (0 : Int))) != (decide ((y : Int) < (0 : Int))))) || ((decide ((0 : Int) < (y : Int))) && (decide ((y : Int) ≤ (mod13 x y : Int))))) = false)) → aa.eval (.tmp 58) = undef) := depX hd 25 rfl
      by_cases hz : ((((decide ((mod13 x y : Int) ≠ (0 : Int))) && ((decide ((mod13 x y : Int) < (0 : Int))) != (decide ((y : Int) < (0 : Int))))) || ((decide ((0 : Int) < (y : Int))) && (decide ((y : Int) ≤ (mod13 x y : Int))))) = false)
      · exact stepX_same (v := .bool (decide ((y : Int) < (0 : Int)))) (want1 (j := 23) (b := false) rfl (d23.trans (congrArg Value.bool hz))) (xmove rfl (d25.1 hz)) ⟨fun _ => rfl, fun c => absurd hz c⟩ rfl
      · exact stepX_skip (wantN (j := 23) (b := false) (b' := true) rfl (d23.trans (congrArg Value.bool ((Bool.not_eq_false _).mp hz))) rfl) ⟨fun c => absurd c hz, fun _ => rfl⟩ rfl
      ) <|
    arm (fun aa ww hk bs hd => by
      have d26 : (((((decide ((mod13 x y : Int) ≠ (0 : Int))) && ((decide ((mod13 x y : Int) < (0 : Int))) != (decide ((y : Int) < (0 : Int))))) || ((decide ((0 : Int) < (y : Int))) && (decide ((y : Int) ≤ (mod13 x y : Int))))) = false) → aa.eval (.tmp 59) = .bool (decide ((y : Int) < (0 : Int)))) ∧ (¬ (((((decide ((mod13 x y : Int) ≠ (0 : Int))) && ((decide ((mod13 x y : Int) < (0 : Int))) != (decide ((y : Int) < (0 : Int))))) || ((decide ((0 : Int) < (y : Int))) && (decide ((y : Int) ≤ (mod13 x y : Int))))) = false)) → aa.eval (.tmp 59) = undef) := depX hd 26 rfl
      by_cases hz : ((((decide ((mod13 x y : Int) ≠ (0 : Int))) && ((decide ((mod13 x y : Int) < (0 : Int))) != (decide ((y : Int) < (0 : Int))))) || ((decide ((0 : Int) < (y : Int))) && (decide ((y : Int) ≤ (mod13 x y : Int))))) = false) ∧ ((decide ((y : Int) < (0 : Int))) = true)
      · exact stepX_same (v := .int .i64 (mod13 x y)) (want1 (j := 26) (b := true) rfl ((d26.1 hz.1).trans (congrArg Value.bool hz.2))) (xmove rfl (bs.get 7 rfl s7)) ⟨fun _ => rfl, fun c => absurd hz c⟩ rfl
      · by_cases hy : ((((decide ((mod13 x y : Int) ≠ (0 : Int))) && ((decide ((mod13 x y : Int) < (0 : Int))) != (decide ((y : Int) < (0 : Int))))) || ((decide ((0 : Int) < (y : Int))) && (decide ((y : Int) ≤ (mod13 x y : Int))))) = false)
        · exact stepX_skip (wantN (j := 26) (b := true) (b' := false) rfl ((d26.1 hy).trans (congrArg Value.bool (Bool.eq_false_iff.2 (fun hx => hz ⟨hy, hx⟩)))) rfl) ⟨fun c => absurd c hz, fun _ => rfl⟩ rfl
        · exact stepX_skip (wantU (j := 26) (b := true) rfl (d26.2 hy)) ⟨fun c => absurd c hz, fun _ => rfl⟩ rfl
      ) <|
    arm (fun aa ww hk bs hd => by
      have d26 : (((((decide ((mod13 x y : Int) ≠ (0 : Int))) && ((decide ((mod13 x y : Int) < (0 : Int))) != (decide ((y : Int) < (0 : Int))))) || ((decide ((0 : Int) < (y : Int))) && (decide ((y : Int) ≤ (mod13 x y : Int))))) = false) → aa.eval (.tmp 59) = .bool (decide ((y : Int) < (0 : Int)))) ∧ (¬ (((((decide ((mod13 x y : Int) ≠ (0 : Int))) && ((decide ((mod13 x y : Int) < (0 : Int))) != (decide ((y : Int) < (0 : Int))))) || ((decide ((0 : Int) < (y : Int))) && (decide ((y : Int) ≤ (mod13 x y : Int))))) = false)) → aa.eval (.tmp 59) = undef) := depX hd 26 rfl
      by_cases hz : ((((decide ((mod13 x y : Int) ≠ (0 : Int))) && ((decide ((mod13 x y : Int) < (0 : Int))) != (decide ((y : Int) < (0 : Int))))) || ((decide ((0 : Int) < (y : Int))) && (decide ((y : Int) ≤ (mod13 x y : Int))))) = false) ∧ ((decide ((y : Int) < (0 : Int))) = true)
      · exact stepX_same (v := .int .i64 y) (want1 (j := 26) (b := true) rfl ((d26.1 hz.1).trans (congrArg Value.bool hz.2))) (xmove rfl (bs.get 1 rfl s1)) ⟨fun _ => rfl, fun c => absurd hz c⟩ rfl
      · by_cases hy : ((((decide ((mod13 x y : Int) ≠ (0 : Int))) && ((decide ((mod13 x y : Int) < (0 : Int))) != (decide ((y : Int) < (0 : Int))))) || ((decide ((0 : Int) < (y : Int))) && (decide ((y : Int) ≤ (mod13 x y : Int))))) = false)
        · exact stepX_skip (wantN (j := 26) (b := true) (b' := false) rfl ((d26.1 hy).trans (congrArg Value.bool (Bool.eq_false_iff.2 (fun hx => hz ⟨hy, hx⟩)))) rfl) ⟨fun c => absurd c hz, fun _ => rfl⟩ rfl
        · exact stepX_skip (wantU (j := 26) (b := true) rfl (d26.2 hy)) ⟨fun c => absurd c hz, fun _ => rfl⟩ rfl
      ) <|
    arm (fun aa ww hk bs hd => by
      have d26 : (((((decide ((mod13 x y : Int) ≠ (0 : Int))) && ((decide ((mod13 x y : Int) < (0 : Int))) != (decide ((y : Int) < (0 : Int))))) || ((decide ((0 : Int) < (y : Int))) && (decide ((y : Int) ≤ (mod13 x y : Int))))) = false) → aa.eval (.tmp 59) = .bool (decide ((y : Int) < (0 : Int)))) ∧ (¬ (((((decide ((mod13 x y : Int) ≠ (0 : Int))) && ((decide ((mod13 x y : Int) < (0 : Int))) != (decide ((y : Int) < (0 : Int))))) || ((decide ((0 : Int) < (y : Int))) && (decide ((y : Int) ≤ (mod13 x y : Int))))) = false)) → aa.eval (.tmp 59) = undef) := depX hd 26 rfl
      have d27 : (((((decide ((mod13 x y : Int) ≠ (0 : Int))) && ((decide ((mod13 x y : Int) < (0 : Int))) != (decide ((y : Int) < (0 : Int))))) || ((decide ((0 : Int) < (y : Int))) && (decide ((y : Int) ≤ (mod13 x y : Int))))) = false) ∧ ((decide ((y : Int) < (0 : Int))) = true) → aa.eval (.tmp 60) = .int .i64 (mod13 x y)) ∧ (¬ (((((decide ((mod13 x y : Int) ≠ (0 : Int))) && ((decide ((mod13 x y : Int) < (0 : Int))) != (decide ((y : Int) < (0 : Int))))) || ((decide ((0 : Int) < (y : Int))) && (decide ((y : Int) ≤ (mod13 x y : Int))))) = false) ∧ ((decide ((y : Int) < (0 : Int))) = true)) → aa.eval (.tmp 60) = undef) := depX hd 27 rfl
      have d28 : (((((decide ((mod13 x y : Int) ≠ (0 : Int))) && ((decide ((mod13 x y : Int) < (0 : Int))) != (decide ((y : Int) < (0 : Int))))) || ((decide ((0 : Int) < (y : Int))) && (decide ((y : Int) ≤ (mod13 x y : Int))))) = false) ∧ ((decide ((y : Int) < (0 : Int))) = true) → aa.eval (.tmp 61) = .int .i64 y) ∧ (¬ (((((decide ((mod13 x y : Int) ≠ (0 : Int))) && ((decide ((mod13 x y : Int) < (0 : Int))) != (decide ((y : Int) < (0 : Int))))) || ((decide ((0 : Int) < (y : Int))) && (decide ((y : Int) ≤ (mod13 x y : Int))))) = false) ∧ ((decide ((y : Int) < (0 : Int))) = true)) → aa.eval (.tmp 61) = undef) := depX hd 28 rfl
      by_cases hz : ((((decide ((mod13 x y : Int) ≠ (0 : Int))) && ((decide ((mod13 x y : Int) < (0 : Int))) != (decide ((y : Int) < (0 : Int))))) || ((decide ((0 : Int) < (y : Int))) && (decide ((y : Int) ≤ (mod13 x y : Int))))) = false) ∧ ((decide ((y : Int) < (0 : Int))) = true)
      · exact stepX_same (v := .bool (decide ((mod13 x y : Int) ≤ (y : Int)))) (want1 (j := 26) (b := true) rfl ((d26.1 hz.1).trans (congrArg Value.bool hz.2))) (xleq rfl (d27.1 hz) (d28.1 hz)) ⟨fun _ => rfl, fun c => absurd hz c⟩ rfl
      · by_cases hy : ((((decide ((mod13 x y : Int) ≠ (0 : Int))) && ((decide ((mod13 x y : Int) < (0 : Int))) != (decide ((y : Int) < (0 : Int))))) || ((decide ((0 : Int) < (y : Int))) && (decide ((y : Int) ≤ (mod13 x y : Int))))) = false)
        · exact stepX_skip (wantN (j := 26) (b := true) (b' := false) rfl ((d26.1 hy).trans (congrArg Value.bool (Bool.eq_false_iff.2 (fun hx => hz ⟨hy, hx⟩)))) rfl) ⟨fun c => absurd c hz, fun _ => rfl⟩ rfl
        · exact stepX_skip (wantU (j := 26) (b := true) rfl (d26.2 hy)) ⟨fun c => absurd c hz, fun _ => rfl⟩ rfl
      ) <|
    arm (fun aa ww hk bs hd => by
      have d23 : aa.eval (.tmp 56) = .bool (((decide ((mod13 x y : Int) ≠ (0 : Int))) && ((decide ((mod13 x y : Int) < (0 : Int))) != (decide ((y : Int) < (0 : Int))))) || ((decide ((0 : Int) < (y : Int))) && (decide ((y : Int) ≤ (mod13 x y : Int))))) := depX hd 23 rfl
      have d26 : (((((decide ((mod13 x y : Int) ≠ (0 : Int))) && ((decide ((mod13 x y : Int) < (0 : Int))) != (decide ((y : Int) < (0 : Int))))) || ((decide ((0 : Int) < (y : Int))) && (decide ((y : Int) ≤ (mod13 x y : Int))))) = false) → aa.eval (.tmp 59) = .bool (decide ((y : Int) < (0 : Int)))) ∧ (¬ (((((decide ((mod13 x y : Int) ≠ (0 : Int))) && ((decide ((mod13 x y : Int) < (0 : Int))) != (decide ((y : Int) < (0 : Int))))) || ((decide ((0 : Int) < (y : Int))) && (decide ((y : Int) ≤ (mod13 x y : Int))))) = false)) → aa.eval (.tmp 59) = undef) := depX hd 26 rfl
      have d29 : (((((decide ((mod13 x y : Int) ≠ (0 : Int))) && ((decide ((mod13 x y : Int) < (0 : Int))) != (decide ((y : Int) < (0 : Int))))) || ((decide ((0 : Int) < (y : Int))) && (decide ((y : Int) ≤ (mod13 x y : Int))))) = false) ∧ ((decide ((y : Int) < (0 : Int))) = true) → aa.eval (.tmp 62) = .bool (decide ((mod13 x y : Int) ≤ (y : Int)))) ∧ (¬ (((((decide ((mod13 x y : Int) ≠ (0 : Int))) && ((decide ((mod13 x y : Int) < (0 : Int))) != (decide ((y : Int) < (0 : Int))))) || ((decide ((0 : Int) < (y : Int))) && (decide ((y : Int) ≤ (mod13 x y : Int))))) = false) ∧ ((decide ((y : Int) < (0 : Int))) = true)) → aa.eval (.tmp 62) = undef) := depX hd 29 rfl
      by_cases hz : ((((decide ((mod13 x y : Int) ≠ (0 : Int))) && ((decide ((mod13 x y : Int) < (0 : Int))) != (decide ((y : Int) < (0 : Int))))) || ((decide ((0 : Int) < (y : Int))) && (decide ((y : Int) ≤ (mod13 x y : Int))))) = false)
      · exact stepX_same (v := .bool ((decide ((y : Int) < (0 : Int))) && (decide ((mod13 x y : Int) ≤ (y : Int))))) (want1 (j := 23) (b := false) rfl (d23.trans (congrArg Value.bool hz))) (xand rfl (d26.1 hz) (fun hb => d29.1 ⟨hz, hb⟩) rfl) ⟨fun _ => rfl, fun c => absurd hz c⟩ rfl
      · exact stepX_skip (wantN (j := 23) (b := false) (b' := true) rfl (d23.trans (congrArg Value.bool ((Bool.not_eq_false _).mp hz))) rfl) ⟨fun c => absurd c hz, fun _ => rfl⟩ rfl
      ) <|
    arm (fun aa ww hk bs hd => by
      have d23 : aa.eval (.tmp 56) = .bool (((decide ((mod13 x y : Int) ≠ (0 : Int))) && ((decide ((mod13 x y : Int) < (0 : Int))) != (decide ((y : Int) < (0 : Int))))) || ((decide ((0 : Int) < (y : Int))) && (decide ((y : Int) ≤ (mod13 x y : Int))))) := depX hd 23 rfl
      have d30 : (((((decide ((mod13 x y : Int) ≠ (0 : Int))) && ((decide ((mod13 x y : Int) < (0 : Int))) != (decide ((y : Int) < (0 : Int))))) || ((decide ((0 : Int) < (y : Int))) && (decide ((y : Int) ≤ (mod13 x y : Int))))) = false) → aa.eval (.tmp 63) = .bool ((decide ((y : Int) < (0 : Int))) && (decide ((mod13 x y : Int) ≤ (y : Int))))) ∧ (¬ (((((decide ((mod13 x y : Int) ≠ (0 : Int))) && ((decide ((mod13 x y : Int) < (0 : Int))) != (decide ((y : Int) < (0 : Int))))) || ((decide ((0 : Int) < (y : Int))) && (decide ((y : Int) ≤ (mod13 x y : Int))))) = false)) → aa.eval (.tmp 63) = undef) := depX hd 30 rfl
      exact stepX_same (v := .bool ((((decide ((mod13 x y : Int) ≠ (0 : Int))) && ((decide ((mod13 x y : Int) < (0 : Int))) != (decide ((y : Int) < (0 : Int))))) || ((decide ((0 : Int) < (y : Int))) && (decide ((y : Int) ≤ (mod13 x y : Int))))) || ((decide ((y : Int) < (0 : Int))) && (decide ((mod13 x y : Int) ≤ (y : Int)))))) (want0 rfl) (xor_ rfl (d23) rfl (fun hb => d30.1 hb)) rfl rfl
      ) <|
    arm0) fun fa fw hk bs hv ap => ?_
  obtain ⟨z, q, ov⟩ := aft hk bs z q ow
  have s4 := bs.get 4 rfl s4
  have s0 := bs.get 0 rfl s0
  have s1 := bs.get 1 rfl s1
  have s7 := bs.get 7 rfl s7
  have s64 := got hv 31 rfl rfl rfl
  have ow := ov
  clear hv ap bs hk ov
  refine wl_then (hK11 _ _ ?_)
  try clear hK11 K11
  by_cases hc2 : ((((mod13 x y : Int) ≠ (0 : Int)) ∧ (((decide ((mod13 x y : Int) < (0 : Int))) != (decide ((y : Int) < (0 : Int)))) = true)) ∨ (((0 : Int) < (y : Int)) ∧ ((y : Int) ≤ (mod13 x y : Int)))) ∨ (((y : Int) < (0 : Int)) ∧ ((mod13 x y : Int) ≤ (y : Int)))
  ·refine wp_cond_true (s64.trans (congrArg Value.bool ((bor (bor (band (decide_eq_true_iff) (Iff.rfl)) (band (decide_eq_true_iff) (decide_eq_true_iff))) (band (decide_eq_true_iff) (decide_eq_true_iff))).2 hc2))) ?_
   refine wp_seq_k fun K12 hK12 => ?_
   exact absurd hc2 (mods_no (x := x) (y := y) (by omega))
  refine wp_cond_false (s64.trans (congrArg Value.bool (Bool.eq_false_iff.2 (fun c => hc2 ((bor (bor (band (decide_eq_true_iff) (Iff.rfl)) (band (decide_eq_true_iff) (decide_eq_true_iff))) (band (decide_eq_true_iff) (decide_eq_true_iff))).1 c))))) ?_
  refine wp_skip ?_
  refine then_n (hK10 _ _ ?_)
  try clear hK10 K10
  refine wp_seq_k fun K13 hK13 => ?_
  refine rgn [yV _, yV _, yV _, yV _, yV _, yV _, yV _, yV _, yV _, yV (.bool true), yV _, yV (.bool true), yV _, yV _] 14 78 z (by kernel_rfl) (by kernel_rfl) (
    mvS s0 rfl rfl rfl rfl <|
    mvS s1 rfl rfl rfl rfl <|
    armS (wn rfl) (fun aa ww hk bs hd => xremZ (Or.inr rfl) rfl (n := x) (m := y) (dep hd 0 rfl rfl rfl) (dep hd 1 rfl rfl rfl) (by omega) (by omega) (by omega)) rfl <|
    mvS s7 rfl rfl rfl rfl <|
    mvS s1 rfl rfl rfl rfl <|
    armS (wn rfl) (fun aa ww hk bs hd => xremZ (Or.inr rfl) rfl (n := mod13 x y) (m := y) (dep hd 3 rfl rfl rfl) (dep hd 4 rfl rfl rfl) (by omega) (mod13_in hx hy).1 (mod13_in hx hy).2) rfl <|
    armS (wn rfl) (fun aa ww hk bs hd => xsub (Or.inr rfl) rfl (dep hd 2 rfl rfl rfl) (dep hd 5 rfl rfl rfl) (by have := @mods_diff x y (by omega); omega) (by have := @mods_diff x y (by omega); omega)) rfl <|
    mvS s1 rfl rfl rfl rfl <|
    armS (wn rfl) (fun aa ww hk bs hd => xremZ (Or.inr rfl) rfl (n := (Int.tmod x y) - (Int.tmod (mod13 x y) y)) (m := y) (dep hd 6 rfl rfl rfl) (dep hd 7 rfl rfl rfl) (by omega) (by have := @mods_diff x y (by omega); omega) (by have := @mods_diff x y (by omega); omega)) rfl <|
    armE (wn rfl) (fun aa ww hk bs hd => xeqi rfl (dep hd 8 rfl rfl rfl) rfl) (congrArg Value.bool (decide_eq_true (mods_mult (x := x) (y := y) (by omega)))) rfl <|
    mvD 9 rfl rfl rfl rfl rfl rfl <|
    armC (wg (j := 10) (b := true) rfl rfl rfl) (fun aa ww hk bs hd => xcall0 rfl (en_louvrelaw13_awake _ _)) (fun aa ww hk bs hd => awake13_any ww mx (HM.kept (ow.keep hk).kept)) rfl <|
    armS (wn rfl) (fun aa ww hk bs hd => xpickT rfl (dep hd 10 rfl rfl rfl) (dep hd 11 rfl rfl rfl)) rfl <|
    asD 12 rfl rfl rfl rfl rfl rfl <|
    arm0) fun fa fw hk bs hv ap => ?_
  obtain ⟨z, q, ov⟩ := aft hk bs z q ow
  have s4 := got hv 13 rfl rfl rfl
  have ow := ov
  clear hv ap bs hk ov
  refine wl_then (hK13 _ _ ?_)
  try clear hK13 K13
  refine wp_ret ?_
  refine results_one rfl (res_tmp s4) q ?_
  exact ⟨rfl, ow.kept⟩
end Go.Proofs.YtbpkfnoenkoabaaGreatDoor
