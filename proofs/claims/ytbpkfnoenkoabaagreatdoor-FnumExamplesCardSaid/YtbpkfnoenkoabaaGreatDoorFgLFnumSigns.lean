/- The law FnumSigns, walked (printed by wip/mklaw13.py). -/
import Derived.Test.YtbpkfnoenkoabaaGreatDoorFgGAwake13
import Derived.Test.YtbpkfnoenkoabaaGreatDoorFgGRNum13
import Derived.Test.YtbpkfnoenkoabaaGreatDoorFgGFewOwn
namespace Go.Proofs.YtbpkfnoenkoabaaGreatDoor
set_option linter.unusedVariables false
set_option linter.unusedSimpArgs false
open Go.RowKit Lv
set_option maxRecDepth 100000
theorem en_louvreref13_Neg : En 33 := by intro args w; go_simp
theorem en_louvreref13_Percent : En 35 := by intro args w; go_simp
set_option maxHeartbeats 8000000 in
theorem FnumSigns_walk (a0 : Vl) (w0 : Wide a0) (w : World) (mx : Int) (HM : Mx w mx) :
    Calls Tryz.prog 7 #[aggV a0] w fun e w' => e = .returned (.bool true) ∧ Below w.heap.size w w' := by
  have hw1 : ∀ v ∈ [a0], Wide v := fun v hv => by rw [List.mem_singleton] at hv; subst hv; exact w0
  go_enter Tryz.func7, Tryz.ntmps7; refine sq fun hK1 => ?_
  refine ro [yNew w.heap.size (.cells #[.int .u8 a0.k, .int .i64 a0.n, .string ⟨a0.t.toArray⟩] 25 (0, 0)), yV _] 2 23 rfl rfl (Own.start w) (
    aP (fun hk bs hd => xbox rfl (bs.get 0 rfl rfl) (by kernel_rfl)) rfl <|
    aS (fun hk bs hd => xassign rfl rfl) rfl <|
    arm0) fun fa fw bs hv ap z q ov => ?_
  obtain ⟨gb1, s1, bgb1, hgb1⟩ := gotP hv 0 rfl rfl rfl; have ov := ov.cons hgb1 (Nat.le_trans (Own.start w).kept.size bgb1) ((Own.start w).below bgb1); have s2 := gv hv 1 rfl rfl; have ow := ov; refine wt hK1 ?_; refine sq fun hK2 => ?_
  refine ro [yV (aggV a0), ySlice fw.heap.size 1 (rowObj [a0])] 2 23 z q ow (
    aS (fun hk bs hd => xloadN 3 rfl (by kernel_rfl) (by kernel_rfl) (bg bs s1) ((ow.keep hk).box 0 rfl) (Nat.le_of_ble_eq_true rfl) rfl) rfl <|
    arm (fun aa ww hk bs hd => by
      have d0 := dp hd 0 rfl; exact stepX_new _ (want0 rfl) (xrow1 rfl (d0)) ⟨_, rfl, hk.size, Go.heap_alloc_new _ _⟩ ((Kept.refl _).alloc _) rfl (Nat.le_refl _)
      ) <|
    arm0) fun fa fw bs hv ap z q ov => ?_
  obtain ⟨s1, s2⟩ := b2 bs s1 s2; obtain ⟨gb2, s4, bgb2, hgb2⟩ := gotL hv 1 rfl rfl rfl; have ov := ov.cons hgb2 (Nat.le_trans ow.kept.size bgb2) (ow.below bgb2); have ow := ov; refine wl_enter (want0 rfl) (xcall1 (u := .slice (some ⟨gb2, 0, none⟩) 1 1) rfl s4 (en_louvrelaw13_Few _ _)) ((few_own gb2 [a0] _ (ow.get 0 rfl) hw1 (by simp)).mono ?_); rintro _ fw ⟨v9, rfl, hown, hk⟩; refine ⟨_, rfl, ?_⟩; rcases (rfl : (0 : Nat) = 0) with _
  have ow := ow.add (t := Th.row _ 25 3 _ 1 (flatV [(cut300 a0)])) hown hk (fun g e => (World.ownsRow.lt hown g e).1); clear hk hown; obtain ⟨A9, c9, rfl, _, _, hn9⟩ := OwnV.row (l := [(cut300 a0)]) (ow.row 0 rfl); obtain ⟨g9, rfl, _⟩ := hn9 (by simp); refine wl_value (v := .pointer (some ⟨g9, 0 + 0 * 3, none⟩)) (want0 rfl) (xplaceV rfl (k := 0) (put_in (t := 5) z rfl) rfl (Nat.le_of_ble_eq_true rfl)) ?_; refine wl_value (v := aggV (cut300 a0)) (want0 rfl) (xatV rfl (l := [(cut300 a0)]) (k := 0) (put_in (t := 6) (put_size z) rfl) (rowV_own (l := [(cut300 a0)]) (ow.row 0 rfl)) (Nat.le_of_ble_eq_true rfl)) ?_; refine wl_store ow 2 0 (want0 rfl) rfl rfl (pb 7 (pb 6 (pb 5 s1 rfl) rfl) rfl) (put_in (t := 7) (put_size (put_size z)) rfl) (by kernel_rfl) rfl rfl rfl fun fw ow => ?_; refine gt2 (put_size (put_size (put_size z))) (put_def (put_def (put_def q))) ow 1 (pb 7 (pb 6 (pb 5 s1 rfl) rfl) rfl) 2 (pb 7 (pb 6 (pb 5 s2 rfl) rfl) rfl) fun fa fw z q ow s1 s2 => ?_; refine wt hK2 ?_; refine sq fun hK3 => ?_
  refine ro [yV (aggV (cut300 a0)), yV (aggV (vNeg13 (cut300 a0))), yV (aggV (cut300 a0)), yV (aggV (vNeg13 (cut300 a0))), yV (.bool true), yV _, yV (aggV (cut300 a0)), yV (aggV (vPct13 (cut300 a0))), yV (aggV (cut300 a0)), yV (aggV (vPct13 (cut300 a0))), yV (.bool true), yV _, yV _, yV (.bool true), yV _, yV _] 16 23 z q ow (
    aS (fun hk bs hd => xloadN 3 rfl (by kernel_rfl) (by kernel_rfl) (bg bs s1) ((ow.keep hk).box 2 rfl) (Nat.le_of_ble_eq_true rfl) rfl) rfl <|
    aC (fun hk bs hd => xcall1 rfl (dp hd 0 rfl) (en_fnum_Neg _ _)) (fun hk bs hd => neg13_any (cut300 a0) _ mx (HM.kept (ow.keep hk).kept) (cut_small w0)) rfl <|
    aS (fun hk bs hd => xloadN 3 rfl (by kernel_rfl) (by kernel_rfl) (bg bs s1) ((ow.keep hk).box 2 rfl) (Nat.le_of_ble_eq_true rfl) rfl) rfl <|
    aC (fun hk bs hd => xcall1 rfl (dp hd 2 rfl) (en_louvreref13_Neg _ _)) (fun hk bs hd => rneg13_any (cut300 a0) _ (cut_small w0)) rfl <|
    aE (fun hk bs hd => xeqv rfl (dp hd 1 rfl) (dp hd 3 rfl)) (congrArg Value.bool (sameV_self _)) rfl <|
    mvD 4 rfl rfl rfl rfl rfl rfl <|
    armS (wg (j := 5) (b := true) rfl rfl rfl) (fun aa ww hk bs hd => xloadN 3 rfl (by kernel_rfl) (by kernel_rfl) (bg bs s1) ((ow.keep hk).box 2 rfl) (Nat.le_of_ble_eq_true rfl) rfl) rfl <|
    armC (wg (j := 5) (b := true) rfl rfl rfl) (fun aa ww hk bs hd => xcall1 rfl (dp hd 6 rfl) (en_fnum_Percent _ _)) (fun aa ww hk bs hd => percent13_any (cut300 a0) ww mx (HM.kept (ow.keep hk).kept) (cut_small w0)) rfl <|
    armS (wg (j := 5) (b := true) rfl rfl rfl) (fun aa ww hk bs hd => xloadN 3 rfl (by kernel_rfl) (by kernel_rfl) (bg bs s1) ((ow.keep hk).box 2 rfl) (Nat.le_of_ble_eq_true rfl) rfl) rfl <|
    armC (wg (j := 5) (b := true) rfl rfl rfl) (fun aa ww hk bs hd => xcall1 rfl (dp hd 8 rfl) (en_louvreref13_Percent _ _)) (fun aa ww hk bs hd => rpercent13_any (cut300 a0) ww (cut_small w0)) rfl <|
    armE (wg (j := 5) (b := true) rfl rfl rfl) (fun aa ww hk bs hd => xeqv rfl (dp hd 7 rfl) (dp hd 9 rfl)) (congrArg Value.bool (sameV_self _)) rfl <|
    aS (fun hk bs hd => xpickT rfl (dp hd 5 rfl) (dp hd 10 rfl)) rfl <|
    mvD 11 rfl rfl rfl rfl rfl rfl <|
    armC (wg (j := 12) (b := true) rfl rfl rfl) (fun aa ww hk bs hd => xcall0 rfl (en_louvrelaw13_awake _ _)) (fun aa ww hk bs hd => awake13_any ww mx (HM.kept (ow.keep hk).kept)) rfl <|
    aS (fun hk bs hd => xpickT rfl (dp hd 12 rfl) (dp hd 13 rfl)) rfl <|
    asD 14 rfl rfl rfl rfl rfl rfl <|
    arm0) fun fa fw bs hv ap z q ow => ?_
  have s2 := gv hv 15 rfl rfl; refine wt hK3 ?_; refine wp_ret ?_; refine results_one rfl (res_tmp s2) q ?_; exact ⟨rfl, ow.kept⟩
end Go.Proofs.YtbpkfnoenkoabaaGreatDoor
