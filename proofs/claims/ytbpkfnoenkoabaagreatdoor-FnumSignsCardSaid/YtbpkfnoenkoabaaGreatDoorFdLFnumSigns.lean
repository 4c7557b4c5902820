/- The law FnumSigns, walked (printed by wip/mklaw13.py). -/
import Derived.Test.YtbpkfnoenkoabaaGreatDoorFdGAwake13
import Derived.Test.YtbpkfnoenkoabaaGreatDoorFdMixAZ
import Derived.Test.YtbpkfnoenkoabaaGreatDoorFdMixAW
namespace Go.Proofs.YtbpkfnoenkoabaaGreatDoor
set_option linter.unusedVariables false
set_option linter.unusedSimpArgs false
open Go.RowKit Lv
set_option maxRecDepth 100000
theorem rowV_own {w : World} {base n c : Nat} {A : Option Addr} {l : List Vl} (h : w.ownsRow base 25 3 (.slice A n c) l.length (flatV l)) : RowV w A l := by
  obtain ⟨A2, c2, e, r, _⟩ := OwnV.row (l := l) h
  cases e
  exact r
theorem few_own (g : Nat) (l : List Vl) (w : World) (h : w.heap[g]? = some (rowObj l)) (hw : ∀ v ∈ l, Wide v) (hl : l.length ≤ 20) : Calls Tryz.prog 20 #[.slice (some ⟨g, 0, none⟩) l.length l.length] w fun e w' => ∃ v, e = .returned v ∧ w'.ownsRow w.heap.size 25 3 v (few l).length (flatV (few l)) ∧ Kept w w' :=
  few_any (some ⟨g, 0, none⟩) l.length l.length l w ⟨rowObj_row h, rfl, Nat.le_refl _, Nat.le_trans hl (by decide), hw, (fun e => by cases e), (fun a e _ => by cases e; exact ⟨g, 0, rfl⟩)⟩
theorem cut_small {v : Vl} (h : Wide v) : Small (cut300 v) := ⟨h.2.1, Nat.le_trans (by show (v.t.take 300).length ≤ 300; rw [List.length_take]; omega) (by decide)⟩
theorem en_louvrelaw13_Few (args : Array Value) (w : World) : (callFunc 20 args).run Tryz.prog w = .ok (.enter 20 args) w := by go_simp
theorem en_louvrelaw13_awake (args : Array Value) (w : World) : (callFunc 29 args).run Tryz.prog w = .ok (.enter 29 args) w := by go_simp
theorem en_louvreref13_Neg (args : Array Value) (w : World) : (callFunc 33 args).run Tryz.prog w = .ok (.enter 33 args) w := by go_simp
theorem en_louvreref13_Percent (args : Array Value) (w : World) : (callFunc 35 args).run Tryz.prog w = .ok (.enter 35 args) w := by go_simp
set_option maxHeartbeats 8000000 in
theorem FnumSigns_walk (a0 : Vl) (w0 : Wide a0) (w : World) (mx : Int) (HM : Mx w mx) :
    Calls Tryz.prog 7 #[aggV a0] w fun e w' => e = .returned (.bool true) ∧ Below w.heap.size w w' := by
  have hw1 : ∀ v ∈ [a0], Wide v := fun v hv => by rw [List.mem_singleton] at hv; subst hv; exact w0
  go_enter Tryz.func7, Tryz.ntmps7
  refine wp_seq_k fun K1 hK1 => ?_
  refine rgn [yNew w.heap.size (.cells #[.int .u8 a0.k, .int .i64 a0.n, .string ⟨a0.t.toArray⟩] 25 (0, 0)), yV _] 2 23 rfl (by kernel_rfl) (by kernel_rfl) (
    armP (wn rfl) (fun aa ww hk bs hd => xbox rfl (bs.get 0 rfl rfl) (by kernel_rfl)) rfl <|
    armS (wn rfl) (fun aa ww hk bs hd => xassign rfl rfl) rfl <|
    arm0) fun fa fw hk bs hv ap => ?_
  obtain ⟨z, q, ov⟩ := aft hk bs rfl rfl (Own.start w)
  obtain ⟨gb1, s1, bgb1, hgb1⟩ := gotP hv 0 rfl rfl rfl
  have ov := ov.cons hgb1 (Nat.le_trans (Own.start w).kept.size bgb1) ((Own.start w).below bgb1)
  have s2 := got hv 1 rfl rfl rfl
  have ow := ov
  clear hv ap bs hk ov
  refine wl_then (hK1 _ _ ?_)
  try clear hK1 K1
  refine wp_seq_k fun K2 hK2 => ?_
  refine rgn [yV (aggV a0), ySlice fw.heap.size 1 (rowObj [a0])] 2 23 z (by kernel_rfl) (by kernel_rfl) (
    armS (wn rfl) (fun aa ww hk bs hd => xloadN 3 rfl (by kernel_rfl) (by kernel_rfl) (bs.get 1 rfl s1) ((ow.keep hk).box 0 rfl) (Nat.le_of_ble_eq_true rfl) rfl) rfl <|
    arm (fun aa ww hk bs hd => by
      have d0 : aa.eval (.tmp 3) = aggV a0 := depX hd 0 rfl
      exact stepX_new _ (want0 rfl) (xrow1 rfl (d0)) ⟨_, rfl, hk.size, Go.heap_alloc_new _ _⟩ ((Kept.refl _).alloc _) rfl (Nat.le_refl _)
      ) <|
    arm0) fun fa fw hk bs hv ap => ?_
  obtain ⟨z, q, ov⟩ := aft hk bs z q ow
  have s1 := bs.get 1 rfl s1
  have s2 := bs.get 2 rfl s2
  obtain ⟨gb2, s4, bgb2, hgb2⟩ := gotL hv 1 rfl rfl rfl
  have ov := ov.cons hgb2 (Nat.le_trans ow.kept.size bgb2) (ow.below bgb2)
  have ow := ov
  clear hv ap bs hk ov
  refine wl_enter (want0 rfl) (xcall1 (u := .slice (some ⟨gb2, 0, none⟩) 1 1) rfl s4 (en_louvrelaw13_Few _ _)) ((few_own gb2 [a0] _ (ow.get 0 rfl) hw1 (by simp)).mono ?_)
  rintro _ fw ⟨v9, rfl, hown, hk⟩
  refine ⟨_, rfl, ?_⟩
  rcases (rfl : (0 : Nat) = 0) with _
  have ow := ow.add (t := Th.row _ 25 3 _ 1 (flatV [(cut300 a0)])) hown hk (fun g e => (World.ownsRow.lt hown g e).1)
  clear hk hown
  obtain ⟨A9, c9, rfl, _, _, hn9⟩ := OwnV.row (l := [(cut300 a0)]) (ow.row 0 rfl)
  obtain ⟨g9, rfl, _⟩ := hn9 (by simp)
  refine wl_value (v := .pointer (some ⟨g9, 0 + 0 * 3, none⟩)) (want0 rfl) (xplaceV rfl (k := 0) (put_in (t := 5) z rfl) rfl (Nat.le_of_ble_eq_true rfl)) ?_
  refine wl_value (v := aggV (cut300 a0)) (want0 rfl) (xatV rfl (l := [(cut300 a0)]) (k := 0) (put_in (t := 6) (put_size z) rfl) (rowV_own (l := [(cut300 a0)]) (ow.row 0 rfl)) (Nat.le_of_ble_eq_true rfl)) ?_
  refine wl_store ow 2 0 (want0 rfl) rfl rfl (pb 7 (pb 6 (pb 5 s1 rfl) rfl) rfl) (put_in (t := 7) (put_size (put_size z)) rfl) (by kernel_rfl) rfl rfl rfl fun fw ow => ?_
  refine gt2 (put_size (put_size (put_size z))) (put_def (put_def (put_def q))) ow 1 (pb 7 (pb 6 (pb 5 s1 rfl) rfl) rfl) 2 (pb 7 (pb 6 (pb 5 s2 rfl) rfl) rfl) fun fa fw z q ow s1 s2 => ?_
  refine wl_then (hK2 _ _ ?_)
  try clear hK2 K2
  refine wp_seq_k fun K3 hK3 => ?_
  refine rgn [yV (aggV (cut300 a0)), yV (aggV (vNeg13 (cut300 a0))), yV (aggV (cut300 a0)), yV (aggV (vNeg13 (cut300 a0))), yV (.bool true), yV _, yV (aggV (cut300 a0)), yV (aggV (vPct13 (cut300 a0))), yV (aggV (cut300 a0)), yV (aggV (vPct13 (cut300 a0))), yV (.bool true), yV _, yV _, yV (.bool true), yV _, yV _] 16 23 z (by kernel_rfl) (by kernel_rfl) (
    armS (wn rfl) (fun aa ww hk bs hd => xloadN 3 rfl (by kernel_rfl) (by kernel_rfl) (bs.get 1 rfl s1) ((ow.keep hk).box 2 rfl) (Nat.le_of_ble_eq_true rfl) rfl) rfl <|
    armC (wn rfl) (fun aa ww hk bs hd => xcall1 rfl (dep hd 0 rfl rfl rfl) (en_fnum_Neg _ _)) (fun aa ww hk bs hd => neg13_any (cut300 a0) ww mx (HM.kept (ow.keep hk).kept) (cut_small w0)) rfl <|
    armS (wn rfl) (fun aa ww hk bs hd => xloadN 3 rfl (by kernel_rfl) (by kernel_rfl) (bs.get 1 rfl s1) ((ow.keep hk).box 2 rfl) (Nat.le_of_ble_eq_true rfl) rfl) rfl <|
    armC (wn rfl) (fun aa ww hk bs hd => xcall1 rfl (dep hd 2 rfl rfl rfl) (en_louvreref13_Neg _ _)) (fun aa ww hk bs hd => rneg13_any (cut300 a0) ww (cut_small w0)) rfl <|
    armE (wn rfl) (fun aa ww hk bs hd => xeqv rfl (dep hd 1 rfl rfl rfl) (dep hd 3 rfl rfl rfl)) (congrArg Value.bool (sameV_self _)) rfl <|
    mvD 4 rfl rfl rfl rfl rfl rfl <|
    armS (wg (j := 5) (b := true) rfl rfl rfl) (fun aa ww hk bs hd => xloadN 3 rfl (by kernel_rfl) (by kernel_rfl) (bs.get 1 rfl s1) ((ow.keep hk).box 2 rfl) (Nat.le_of_ble_eq_true rfl) rfl) rfl <|
    armC (wg (j := 5) (b := true) rfl rfl rfl) (fun aa ww hk bs hd => xcall1 rfl (dep hd 6 rfl rfl rfl) (en_fnum_Percent _ _)) (fun aa ww hk bs hd => percent13_any (cut300 a0) ww mx (HM.kept (ow.keep hk).kept) (cut_small w0)) rfl <|
    armS (wg (j := 5) (b := true) rfl rfl rfl) (fun aa ww hk bs hd => xloadN 3 rfl (by kernel_rfl) (by kernel_rfl) (bs.get 1 rfl s1) ((ow.keep hk).box 2 rfl) (Nat.le_of_ble_eq_true rfl) rfl) rfl <|
    armC (wg (j := 5) (b := true) rfl rfl rfl) (fun aa ww hk bs hd => xcall1 rfl (dep hd 8 rfl rfl rfl) (en_louvreref13_Percent _ _)) (fun aa ww hk bs hd => rpercent13_any (cut300 a0) ww (cut_small w0)) rfl <|
    armE (wg (j := 5) (b := true) rfl rfl rfl) (fun aa ww hk bs hd => xeqv rfl (dep hd 7 rfl rfl rfl) (dep hd 9 rfl rfl rfl)) (congrArg Value.bool (sameV_self _)) rfl <|
    armS (wn rfl) (fun aa ww hk bs hd => xpickT rfl (dep hd 5 rfl rfl rfl) (dep hd 10 rfl rfl rfl)) rfl <|
    mvD 11 rfl rfl rfl rfl rfl rfl <|
    armC (wg (j := 12) (b := true) rfl rfl rfl) (fun aa ww hk bs hd => xcall0 rfl (en_louvrelaw13_awake _ _)) (fun aa ww hk bs hd => awake13_any ww mx (HM.kept (ow.keep hk).kept)) rfl <|
    armS (wn rfl) (fun aa ww hk bs hd => xpickT rfl (dep hd 12 rfl rfl rfl) (dep hd 13 rfl rfl rfl)) rfl <|
    asD 14 rfl rfl rfl rfl rfl rfl <|
    arm0) fun fa fw hk bs hv ap => ?_
  obtain ⟨z, q, ov⟩ := aft hk bs z q ow
  have s2 := got hv 15 rfl rfl rfl
  have ow := ov
  clear hv ap bs hk ov
  refine wl_then (hK3 _ _ ?_)
  try clear hK3 K3
  refine wp_ret ?_
  refine results_one rfl (res_tmp s2) q ?_
  exact ⟨rfl, ow.kept⟩
end Go.Proofs.YtbpkfnoenkoabaaGreatDoor
