/- The law FnumBinaries, walked (printed by wip/mklaw13.py). -/
import Derived.Test.YtbpkfnoenkoabaaGreatDoorFgGAwake13
import Derived.Test.YtbpkfnoenkoabaaGreatDoorFgGRNum13
import Derived.Test.YtbpkfnoenkoabaaGreatDoorFgGFewOwn
import Derived.Test.YtbpkfnoenkoabaaGreatDoorFgSX8
namespace Go.Proofs.YtbpkfnoenkoabaaGreatDoor
set_option linter.unusedVariables false
set_option linter.unusedSimpArgs false
open Go.RowKit Lv
set_option maxRecDepth 100000
theorem en_louvreref13_Binary : En 31 := by intro args w; go_simp
set_option maxHeartbeats 8000000 in
theorem FnumBinaries_walk (a0 : Int) (a1 a2 : Vl) (w0 : (Lit.int .i64 a0).wf = true) (w1 : Wide a1) (w2 : Wide a2) (w : World) (mx : Int) (HM : Mx w mx) :
    Calls Tryz.prog 6 #[.int .i64 a0, aggV a1, aggV a2] w fun e w' => e = .returned (.bool true) ∧ Below w.heap.size w w' := by
  have hw1 : ∀ v ∈ [a1, a2], Wide v := fun v hv => by simp only [List.mem_cons, List.not_mem_nil, or_false] at hv; rcases hv with rfl | rfl; exact w1; exact w2
  clear w0; go_enter Tryz.func6, Tryz.ntmps6; refine sq fun hK1 => ?_
  refine ro [yNew w.heap.size (.cells #[.int .u8 a1.k, .int .i64 a1.n, .string ⟨a1.t.toArray⟩] 25 (0, 0)), yNew w.heap.size (.cells #[.int .u8 a2.k, .int .i64 a2.n, .string ⟨a2.t.toArray⟩] 25 (0, 0)), yV _] 3 49 rfl rfl (Own.start w) (
    aP (fun hk bs hd => xbox rfl (bs.get 1 rfl rfl) (by kernel_rfl)) rfl <|
    aP (fun hk bs hd => xbox rfl (bs.get 2 rfl rfl) (by kernel_rfl)) rfl <|
    aS (fun hk bs hd => xassign rfl rfl) rfl <|
    arm0) fun fa fw bs hv ap z q ov => ?_
  have s0 := bs.get 0 rfl rfl; obtain ⟨gb1, s4, bgb1, hgb1⟩ := gotP hv 0 rfl rfl rfl; have ov := ov.cons hgb1 (Nat.le_trans (Own.start w).kept.size bgb1) ((Own.start w).below bgb1); obtain ⟨gb2, s5, bgb2, hgb2⟩ := gotP hv 1 rfl rfl rfl; have ov := ov.cons hgb2 (Nat.le_trans (Own.start w).kept.size bgb2) (ne_cons (apartP ap 0 1 rfl rfl rfl s4 rfl s5 rfl) ((Own.start w).below bgb2)); have s6 := gv hv 2 rfl rfl; have ow := ov; refine wt hK1 ?_; refine sq fun hK2 => ?_
  refine ro [yV (aggV a1), yV (aggV a2), ySlice fw.heap.size 2 (rowObj [a1, a2])] 3 49 z q ow (
    aS (fun hk bs hd => xloadN 3 rfl (by kernel_rfl) (by kernel_rfl) (bg bs s4) ((ow.keep hk).box 1 rfl) (Nat.le_of_ble_eq_true rfl) rfl) rfl <|
    aS (fun hk bs hd => xloadN 3 rfl (by kernel_rfl) (by kernel_rfl) (bg bs s5) ((ow.keep hk).box 0 rfl) (Nat.le_of_ble_eq_true rfl) rfl) rfl <|
    arm (fun aa ww hk bs hd => by
      have d0 := dp hd 0 rfl; have d1 := dp hd 1 rfl; exact stepX_new _ (want0 rfl) (xrow2 rfl (d0) (d1)) ⟨_, rfl, hk.size, Go.heap_alloc_new _ _⟩ ((Kept.refl _).alloc _) rfl (Nat.le_refl _)
      ) <|
    arm0) fun fa fw bs hv ap z q ov => ?_
  obtain ⟨s0, s6⟩ := b2 bs s0 s6; obtain ⟨gb3, s14, bgb3, hgb3⟩ := gotL hv 2 rfl rfl rfl; have ov := ov.cons hgb3 (Nat.le_trans ow.kept.size bgb3) (ow.below bgb3); have ow := ov; refine wl_enter (want0 rfl) (xcall1 (u := .slice (some ⟨gb3, 0, none⟩) 2 2) rfl s14 (en_louvrelaw13_Few _ _)) ((few_own gb3 [a1, a2] _ (ow.get 0 rfl) hw1 (by simp)).mono ?_); rintro _ fw ⟨v9, rfl, hown, hk⟩; refine ⟨_, rfl, ?_⟩; rcases (rfl : (0 : Nat) = 0) with _
  have ow := ow.add (t := Th.row _ 25 3 _ 2 (flatV [(cut300 a1), (cut300 a2)])) hown hk (fun g e => (World.ownsRow.lt hown g e).1); clear hk hown; obtain ⟨A9, c9, rfl, _, _, hn9⟩ := OwnV.row (l := [(cut300 a1), (cut300 a2)]) (ow.row 0 rfl); obtain ⟨g9, rfl, _⟩ := hn9 (by simp); refine wl_value (v := .slice (some ⟨g9, 0, none⟩) 2 c9) (want0 rfl) (xassign rfl (put_in (t := 15) z rfl)) ?_; refine gt3 (put_size (put_size z)) (put_def (put_def q)) ow 0 (pb 7 (pb 15 s0 rfl) rfl) 6 (pb 7 (pb 15 s6 rfl) rfl) 7 (put_in (t := 7) (put_size z) rfl) fun fa fw z q ow s0 s6 s7 => ?_; refine wt hK2 ?_; refine sq fun hK3 => ?_
  refine rgn_late [yV _, yV _, yV _, yV (aggV (cut300 a1)), yV _, yV _, yV (aggV (cut300 a2)), yV (.tuple #[aggV ((vBin13 a0 (cut300 a1) (cut300 a2)).1), .int .i64 ((vBin13 a0 (cut300 a1) (cut300 a2)).2)]), yV _, yV (aggV ((vBin13 a0 (cut300 a1) (cut300 a2)).1)), yV _, yNew fw.heap.size (.cells #[.int .u8 0, .int .i64 0, .string ⟨[].toArray⟩] 25 (0, 0))] 12 10 49 z (by kernel_rfl) (by kernel_rfl) (
    mvS s0 rfl rfl rfl rfl <|
    mvS s7 rfl rfl rfl rfl <|
    aS (fun hk bs hd => xplaceV rfl (k := 0) (dp hd 1 rfl) rfl (Nat.le_of_ble_eq_true rfl)) rfl <|
    aS (fun hk bs hd => xatV rfl (l := [(cut300 a1), (cut300 a2)]) (k := 0) (dp hd 2 rfl) (rowV_own (l := [(cut300 a1), (cut300 a2)]) ((ow.keep hk).row 0 rfl)) (Nat.le_of_ble_eq_true rfl)) rfl <|
    mvS s7 rfl rfl rfl rfl <|
    aS (fun hk bs hd => xplaceV rfl (k := 1) (dp hd 4 rfl) rfl (Nat.le_of_ble_eq_true rfl)) rfl <|
    aS (fun hk bs hd => xatV rfl (l := [(cut300 a1), (cut300 a2)]) (k := 1) (dp hd 5 rfl) (rowV_own (l := [(cut300 a1), (cut300 a2)]) ((ow.keep hk).row 0 rfl)) (Nat.le_of_ble_eq_true rfl)) rfl <|
    aC (fun hk bs hd => xcall3 rfl (dp hd 0 rfl) (dp hd 3 rfl) (dp hd 6 rfl) (en_fnum_Binary _ _)) (fun hk bs hd => binary13_any a0 (cut300 a1) (cut300 a2) _ mx (HM.kept (ow.keep hk).kept) (cut_small w1) (cut_small w2)) rfl <|
    mvD 7 rfl rfl rfl rfl rfl rfl <|
    aS (fun hk bs hd => xextract rfl (dp hd 8 rfl) rfl) rfl <|
    aS (fun hk bs hd => xextract rfl (dp hd 8 rfl) rfl) rfl <|
    aP (fun hk bs hd => xalloc rfl (by kernel_rfl)) rfl <|
    arm0) (fun fa fw hk bs hv ap => ?_) (fun fa fw hk bs hv ap => ?_)
  ·skip
   obtain ⟨z, q, ov⟩ := aft hk bs z q ow; obtain ⟨s0, s6, s7⟩ := b3 bs s0 s6 s7; have s25 := gv hv 9 rfl rfl; have s26 := gv hv 10 rfl rfl; obtain ⟨gb4, s8, bgb4, hgb4⟩ := gotP hv 11 rfl rfl rfl; have ov := ov.cons hgb4 (Nat.le_trans ow.kept.size bgb4) (ow.below bgb4); have ow := ov; refine ws ow 0 0 s8 s25 fun fw ow => ?_; refine wl_value (v := .int .i64 ((vBin13 a0 (cut300 a1) (cut300 a2)).2)) (want0 rfl) (xassign rfl s26) ?_; refine gp4 z q ow s0 s6 s7 s8 fun fa fw z q ow s0 s6 s7 s8 s9 => ?_; refine wt hK3 ?_; refine sq fun hK4 => ?_
   refine rgn_late [yV _, yV _, yV _, yV (aggV (cut300 a1)), yV _, yV _, yV (aggV (cut300 a2)), yV (.tuple #[aggV ((vBin13 a0 (cut300 a1) (cut300 a2)).1), .int .i64 ((vBin13 a0 (cut300 a1) (cut300 a2)).2)]), yV _, yV (aggV ((vBin13 a0 (cut300 a1) (cut300 a2)).1)), yV _, yNew fw.heap.size (.cells #[.int .u8 0, .int .i64 0, .string ⟨[].toArray⟩] 25 (0, 0))] 12 10 49 z (by kernel_rfl) (by kernel_rfl) (
     mvS s0 rfl rfl rfl rfl <|
     mvS s7 rfl rfl rfl rfl <|
     aS (fun hk bs hd => xplaceV rfl (k := 0) (dp hd 1 rfl) rfl (Nat.le_of_ble_eq_true rfl)) rfl <|
     aS (fun hk bs hd => xatV rfl (l := [(cut300 a1), (cut300 a2)]) (k := 0) (dp hd 2 rfl) (rowV_own (l := [(cut300 a1), (cut300 a2)]) ((ow.keep hk).row 1 rfl)) (Nat.le_of_ble_eq_true rfl)) rfl <|
     mvS s7 rfl rfl rfl rfl <|
     aS (fun hk bs hd => xplaceV rfl (k := 1) (dp hd 4 rfl) rfl (Nat.le_of_ble_eq_true rfl)) rfl <|
     aS (fun hk bs hd => xatV rfl (l := [(cut300 a1), (cut300 a2)]) (k := 1) (dp hd 5 rfl) (rowV_own (l := [(cut300 a1), (cut300 a2)]) ((ow.keep hk).row 1 rfl)) (Nat.le_of_ble_eq_true rfl)) rfl <|
     aC (fun hk bs hd => xcall3 rfl (dp hd 0 rfl) (dp hd 3 rfl) (dp hd 6 rfl) (en_louvreref13_Binary _ _)) (fun hk bs hd => rbinary13_any a0 (cut300 a1) (cut300 a2) _ (cut_small w1) (cut_small w2)) rfl <|
     mvD 7 rfl rfl rfl rfl rfl rfl <|
     aS (fun hk bs hd => xextract rfl (dp hd 8 rfl) rfl) rfl <|
     aS (fun hk bs hd => xextract rfl (dp hd 8 rfl) rfl) rfl <|
     aP (fun hk bs hd => xalloc rfl (by kernel_rfl)) rfl <|
     arm0) (fun fa fw hk bs hv ap => ?_) (fun fa fw hk bs hv ap => ?_)
   ·skip
    obtain ⟨z, q, ov⟩ := aft hk bs z q ow; obtain ⟨s6, s8, s9⟩ := b3 bs s6 s8 s9; have s36 := gv hv 9 rfl rfl; have s37 := gv hv 10 rfl rfl; obtain ⟨gb5, s10, bgb5, hgb5⟩ := gotP hv 11 rfl rfl rfl; have ov := ov.cons hgb5 (Nat.le_trans ow.kept.size bgb5) (ow.below bgb5); have ow := ov; refine ws ow 0 0 s10 s36 fun fw ow => ?_; refine wl_value (v := .int .i64 ((vBin13 a0 (cut300 a1) (cut300 a2)).2)) (want0 rfl) (xassign rfl s37) ?_; refine gp4 z q ow s6 s8 s9 s10 fun fa fw z q ow s6 s8 s9 s10 s11 => ?_; refine wt hK4 ?_; refine sq fun hK5 => ?_
    refine ro [yV (aggV ((vBin13 a0 (cut300 a1) (cut300 a2)).1)), yV (aggV ((vBin13 a0 (cut300 a1) (cut300 a2)).1)), yV (.bool true), yV _, yV _, yV _, yV (.bool true), yV _, yV _, yV (.bool true), yV _, yV _] 12 49 z q ow (
      aS (fun hk bs hd => xloadN 3 rfl (by kernel_rfl) (by kernel_rfl) (bg bs s8) ((ow.keep hk).box 1 rfl) (Nat.le_of_ble_eq_true rfl) rfl) rfl <|
      aS (fun hk bs hd => xloadN 3 rfl (by kernel_rfl) (by kernel_rfl) (bg bs s10) ((ow.keep hk).box 0 rfl) (Nat.le_of_ble_eq_true rfl) rfl) rfl <|
      aE (fun hk bs hd => xeqv rfl (dp hd 0 rfl) (dp hd 1 rfl)) (congrArg Value.bool (sameV_self _)) rfl <|
      mvD 2 rfl rfl rfl rfl rfl rfl <|
      armS (wg (j := 3) (b := true) rfl rfl rfl) (fun aa ww hk bs hd => xmove rfl (bg bs s9)) rfl <|
      armS (wg (j := 3) (b := true) rfl rfl rfl) (fun aa ww hk bs hd => xmove rfl (bg bs s11)) rfl <|
      armE (wg (j := 3) (b := true) rfl rfl rfl) (fun aa ww hk bs hd => xeqi rfl (dp hd 4 rfl) (dp hd 5 rfl)) (congrArg Value.bool (by simp)) rfl <|
      aS (fun hk bs hd => xpickT rfl (dp hd 3 rfl) (dp hd 6 rfl)) rfl <|
      mvD 7 rfl rfl rfl rfl rfl rfl <|
      armC (wg (j := 8) (b := true) rfl rfl rfl) (fun aa ww hk bs hd => xcall0 rfl (en_louvrelaw13_awake _ _)) (fun aa ww hk bs hd => awake13_any ww mx (HM.kept (ow.keep hk).kept)) rfl <|
      aS (fun hk bs hd => xpickT rfl (dp hd 8 rfl) (dp hd 9 rfl)) rfl <|
      asD 10 rfl rfl rfl rfl rfl rfl <|
      arm0) fun fa fw bs hv ap z q ow => ?_
    have s6 := gv hv 11 rfl rfl; refine wt hK5 ?_; refine wp_ret ?_; refine results_one rfl (res_tmp s6) q ?_; exact ⟨rfl, ow.kept⟩
   ·skip
    obtain ⟨z, q, ov⟩ := aft hk bs z q ow; obtain ⟨s6, s8, s9⟩ := b3 bs s6 s8 s9; have s27 := lgot hv 8 rfl rfl rfl rfl; have s36 := lgot hv 9 rfl rfl rfl rfl; obtain ⟨gb6, s10, bgb6, hgb6⟩ := lgotP hv 11 rfl rfl rfl rfl; have ov := ov.cons hgb6 (Nat.le_trans ow.kept.size bgb6) (ow.below bgb6); have ow := ov; refine ws ow 0 0 s10 s36 fun fw ow => ?_; refine wl_value (v := .int .i64 ((vBin13 a0 (cut300 a1) (cut300 a2)).2)) (want0 rfl) (xextract rfl s27 rfl) ?_; refine wl_value (v := .int .i64 ((vBin13 a0 (cut300 a1) (cut300 a2)).2)) (want0 rfl) (xassign rfl (put_in (t := 37) z rfl)) ?_; refine gt5 (put_size (put_size z)) (put_def (put_def q)) ow 6 (pb 11 (pb 37 s6 rfl) rfl) 8 (pb 11 (pb 37 s8 rfl) rfl) 9 (pb 11 (pb 37 s9 rfl) rfl) 10 (pb 11 (pb 37 s10 rfl) rfl) 11 (put_in (t := 11) (put_size z) rfl) fun fa fw z q ow s6 s8 s9 s10 s11 => ?_; refine wt hK4 ?_; refine sq fun hK6 => ?_
    refine ro [yV (aggV ((vBin13 a0 (cut300 a1) (cut300 a2)).1)), yV (aggV ((vBin13 a0 (cut300 a1) (cut300 a2)).1)), yV (.bool true), yV _, yV _, yV _, yV (.bool true), yV _, yV _, yV (.bool true), yV _, yV _] 12 49 z q ow (
      aS (fun hk bs hd => xloadN 3 rfl (by kernel_rfl) (by kernel_rfl) (bg bs s8) ((ow.keep hk).box 1 rfl) (Nat.le_of_ble_eq_true rfl) rfl) rfl <|
      aS (fun hk bs hd => xloadN 3 rfl (by kernel_rfl) (by kernel_rfl) (bg bs s10) ((ow.keep hk).box 0 rfl) (Nat.le_of_ble_eq_true rfl) rfl) rfl <|
      aE (fun hk bs hd => xeqv rfl (dp hd 0 rfl) (dp hd 1 rfl)) (congrArg Value.bool (sameV_self _)) rfl <|
      mvD 2 rfl rfl rfl rfl rfl rfl <|
      armS (wg (j := 3) (b := true) rfl rfl rfl) (fun aa ww hk bs hd => xmove rfl (bg bs s9)) rfl <|
      armS (wg (j := 3) (b := true) rfl rfl rfl) (fun aa ww hk bs hd => xmove rfl (bg bs s11)) rfl <|
      armE (wg (j := 3) (b := true) rfl rfl rfl) (fun aa ww hk bs hd => xeqi rfl (dp hd 4 rfl) (dp hd 5 rfl)) (congrArg Value.bool (by simp)) rfl <|
      aS (fun hk bs hd => xpickT rfl (dp hd 3 rfl) (dp hd 6 rfl)) rfl <|
      mvD 7 rfl rfl rfl rfl rfl rfl <|
      armC (wg (j := 8) (b := true) rfl rfl rfl) (fun aa ww hk bs hd => xcall0 rfl (en_louvrelaw13_awake _ _)) (fun aa ww hk bs hd => awake13_any ww mx (HM.kept (ow.keep hk).kept)) rfl <|
      aS (fun hk bs hd => xpickT rfl (dp hd 8 rfl) (dp hd 9 rfl)) rfl <|
      asD 10 rfl rfl rfl rfl rfl rfl <|
      arm0) fun fa fw bs hv ap z q ow => ?_
    have s6 := gv hv 11 rfl rfl; refine wt hK6 ?_; refine wp_ret ?_; refine results_one rfl (res_tmp s6) q ?_; exact ⟨rfl, ow.kept⟩
  ·skip
   obtain ⟨z, q, ov⟩ := aft hk bs z q ow; obtain ⟨s0, s6, s7⟩ := b3 bs s0 s6 s7; have s16 := lgot hv 8 rfl rfl rfl rfl; have s25 := lgot hv 9 rfl rfl rfl rfl; obtain ⟨gb7, s8, bgb7, hgb7⟩ := lgotP hv 11 rfl rfl rfl rfl; have ov := ov.cons hgb7 (Nat.le_trans ow.kept.size bgb7) (ow.below bgb7); have ow := ov; refine ws ow 0 0 s8 s25 fun fw ow => ?_; refine wl_value (v := .int .i64 ((vBin13 a0 (cut300 a1) (cut300 a2)).2)) (want0 rfl) (xextract rfl s16 rfl) ?_; refine wl_value (v := .int .i64 ((vBin13 a0 (cut300 a1) (cut300 a2)).2)) (want0 rfl) (xassign rfl (put_in (t := 26) z rfl)) ?_; refine gt5 (put_size (put_size z)) (put_def (put_def q)) ow 0 (pb 9 (pb 26 s0 rfl) rfl) 6 (pb 9 (pb 26 s6 rfl) rfl) 7 (pb 9 (pb 26 s7 rfl) rfl) 8 (pb 9 (pb 26 s8 rfl) rfl) 9 (put_in (t := 9) (put_size z) rfl) fun fa fw z q ow s0 s6 s7 s8 s9 => ?_; refine wt hK3 ?_; refine sq fun hK7 => ?_
   refine rgn_late [yV _, yV _, yV _, yV (aggV (cut300 a1)), yV _, yV _, yV (aggV (cut300 a2)), yV (.tuple #[aggV ((vBin13 a0 (cut300 a1) (cut300 a2)).1), .int .i64 ((vBin13 a0 (cut300 a1) (cut300 a2)).2)]), yV _, yV (aggV ((vBin13 a0 (cut300 a1) (cut300 a2)).1)), yV _, yNew fw.heap.size (.cells #[.int .u8 0, .int .i64 0, .string ⟨[].toArray⟩] 25 (0, 0))] 12 10 49 z (by kernel_rfl) (by kernel_rfl) (
     mvS s0 rfl rfl rfl rfl <|
     mvS s7 rfl rfl rfl rfl <|
     aS (fun hk bs hd => xplaceV rfl (k := 0) (dp hd 1 rfl) rfl (Nat.le_of_ble_eq_true rfl)) rfl <|
     aS (fun hk bs hd => xatV rfl (l := [(cut300 a1), (cut300 a2)]) (k := 0) (dp hd 2 rfl) (rowV_own (l := [(cut300 a1), (cut300 a2)]) ((ow.keep hk).row 1 rfl)) (Nat.le_of_ble_eq_true rfl)) rfl <|
     mvS s7 rfl rfl rfl rfl <|
     aS (fun hk bs hd => xplaceV rfl (k := 1) (dp hd 4 rfl) rfl (Nat.le_of_ble_eq_true rfl)) rfl <|
     aS (fun hk bs hd => xatV rfl (l := [(cut300 a1), (cut300 a2)]) (k := 1) (dp hd 5 rfl) (rowV_own (l := [(cut300 a1), (cut300 a2)]) ((ow.keep hk).row 1 rfl)) (Nat.le_of_ble_eq_true rfl)) rfl <|
     aC (fun hk bs hd => xcall3 rfl (dp hd 0 rfl) (dp hd 3 rfl) (dp hd 6 rfl) (en_louvreref13_Binary _ _)) (fun hk bs hd => rbinary13_any a0 (cut300 a1) (cut300 a2) _ (cut_small w1) (cut_small w2)) rfl <|
     mvD 7 rfl rfl rfl rfl rfl rfl <|
     aS (fun hk bs hd => xextract rfl (dp hd 8 rfl) rfl) rfl <|
     aS (fun hk bs hd => xextract rfl (dp hd 8 rfl) rfl) rfl <|
     aP (fun hk bs hd => xalloc rfl (by kernel_rfl)) rfl <|
     arm0) (fun fa fw hk bs hv ap => ?_) (fun fa fw hk bs hv ap => ?_)
   ·skip
    obtain ⟨z, q, ov⟩ := aft hk bs z q ow; obtain ⟨s6, s8, s9⟩ := b3 bs s6 s8 s9; have s36 := gv hv 9 rfl rfl; have s37 := gv hv 10 rfl rfl; obtain ⟨gb8, s10, bgb8, hgb8⟩ := gotP hv 11 rfl rfl rfl; have ov := ov.cons hgb8 (Nat.le_trans ow.kept.size bgb8) (ow.below bgb8); have ow := ov; refine ws ow 0 0 s10 s36 fun fw ow => ?_; refine wl_value (v := .int .i64 ((vBin13 a0 (cut300 a1) (cut300 a2)).2)) (want0 rfl) (xassign rfl s37) ?_; refine gp4 z q ow s6 s8 s9 s10 fun fa fw z q ow s6 s8 s9 s10 s11 => ?_; refine wt hK7 ?_; refine sq fun hK8 => ?_
    refine ro [yV (aggV ((vBin13 a0 (cut300 a1) (cut300 a2)).1)), yV (aggV ((vBin13 a0 (cut300 a1) (cut300 a2)).1)), yV (.bool true), yV _, yV _, yV _, yV (.bool true), yV _, yV _, yV (.bool true), yV _, yV _] 12 49 z q ow (
      aS (fun hk bs hd => xloadN 3 rfl (by kernel_rfl) (by kernel_rfl) (bg bs s8) ((ow.keep hk).box 1 rfl) (Nat.le_of_ble_eq_true rfl) rfl) rfl <|
      aS (fun hk bs hd => xloadN 3 rfl (by kernel_rfl) (by kernel_rfl) (bg bs s10) ((ow.keep hk).box 0 rfl) (Nat.le_of_ble_eq_true rfl) rfl) rfl <|
      aE (fun hk bs hd => xeqv rfl (dp hd 0 rfl) (dp hd 1 rfl)) (congrArg Value.bool (sameV_self _)) rfl <|
      mvD 2 rfl rfl rfl rfl rfl rfl <|
      armS (wg (j := 3) (b := true) rfl rfl rfl) (fun aa ww hk bs hd => xmove rfl (bg bs s9)) rfl <|
      armS (wg (j := 3) (b := true) rfl rfl rfl) (fun aa ww hk bs hd => xmove rfl (bg bs s11)) rfl <|
      armE (wg (j := 3) (b := true) rfl rfl rfl) (fun aa ww hk bs hd => xeqi rfl (dp hd 4 rfl) (dp hd 5 rfl)) (congrArg Value.bool (by simp)) rfl <|
      aS (fun hk bs hd => xpickT rfl (dp hd 3 rfl) (dp hd 6 rfl)) rfl <|
      mvD 7 rfl rfl rfl rfl rfl rfl <|
      armC (wg (j := 8) (b := true) rfl rfl rfl) (fun aa ww hk bs hd => xcall0 rfl (en_louvrelaw13_awake _ _)) (fun aa ww hk bs hd => awake13_any ww mx (HM.kept (ow.keep hk).kept)) rfl <|
      aS (fun hk bs hd => xpickT rfl (dp hd 8 rfl) (dp hd 9 rfl)) rfl <|
      asD 10 rfl rfl rfl rfl rfl rfl <|
      arm0) fun fa fw bs hv ap z q ow => ?_
    have s6 := gv hv 11 rfl rfl; refine wt hK8 ?_; refine wp_ret ?_; refine results_one rfl (res_tmp s6) q ?_; exact ⟨rfl, ow.kept⟩
   ·skip
    obtain ⟨z, q, ov⟩ := aft hk bs z q ow; obtain ⟨s6, s8, s9⟩ := b3 bs s6 s8 s9; have s27 := lgot hv 8 rfl rfl rfl rfl; have s36 := lgot hv 9 rfl rfl rfl rfl; obtain ⟨gb9, s10, bgb9, hgb9⟩ := lgotP hv 11 rfl rfl rfl rfl; have ov := ov.cons hgb9 (Nat.le_trans ow.kept.size bgb9) (ow.below bgb9); have ow := ov; refine ws ow 0 0 s10 s36 fun fw ow => ?_; refine wl_value (v := .int .i64 ((vBin13 a0 (cut300 a1) (cut300 a2)).2)) (want0 rfl) (xextract rfl s27 rfl) ?_; refine wl_value (v := .int .i64 ((vBin13 a0 (cut300 a1) (cut300 a2)).2)) (want0 rfl) (xassign rfl (put_in (t := 37) z rfl)) ?_; refine gt5 (put_size (put_size z)) (put_def (put_def q)) ow 6 (pb 11 (pb 37 s6 rfl) rfl) 8 (pb 11 (pb 37 s8 rfl) rfl) 9 (pb 11 (pb 37 s9 rfl) rfl) 10 (pb 11 (pb 37 s10 rfl) rfl) 11 (put_in (t := 11) (put_size z) rfl) fun fa fw z q ow s6 s8 s9 s10 s11 => ?_; refine wt hK7 ?_; refine sq fun hK9 => ?_
    refine ro [yV (aggV ((vBin13 a0 (cut300 a1) (cut300 a2)).1)), yV (aggV ((vBin13 a0 (cut300 a1) (cut300 a2)).1)), yV (.bool true), yV _, yV _, yV _, yV (.bool true), yV _, yV _, yV (.bool true), yV _, yV _] 12 49 z q ow (
      aS (fun hk bs hd => xloadN 3 rfl (by kernel_rfl) (by kernel_rfl) (bg bs s8) ((ow.keep hk).box 1 rfl) (Nat.le_of_ble_eq_true rfl) rfl) rfl <|
      aS (fun hk bs hd => xloadN 3 rfl (by kernel_rfl) (by kernel_rfl) (bg bs s10) ((ow.keep hk).box 0 rfl) (Nat.le_of_ble_eq_true rfl) rfl) rfl <|
      aE (fun hk bs hd => xeqv rfl (dp hd 0 rfl) (dp hd 1 rfl)) (congrArg Value.bool (sameV_self _)) rfl <|
      mvD 2 rfl rfl rfl rfl rfl rfl <|
      armS (wg (j := 3) (b := true) rfl rfl rfl) (fun aa ww hk bs hd => xmove rfl (bg bs s9)) rfl <|
      armS (wg (j := 3) (b := true) rfl rfl rfl) (fun aa ww hk bs hd => xmove rfl (bg bs s11)) rfl <|
      armE (wg (j := 3) (b := true) rfl rfl rfl) (fun aa ww hk bs hd => xeqi rfl (dp hd 4 rfl) (dp hd 5 rfl)) (congrArg Value.bool (by simp)) rfl <|
      aS (fun hk bs hd => xpickT rfl (dp hd 3 rfl) (dp hd 6 rfl)) rfl <|
      mvD 7 rfl rfl rfl rfl rfl rfl <|
      armC (wg (j := 8) (b := true) rfl rfl rfl) (fun aa ww hk bs hd => xcall0 rfl (en_louvrelaw13_awake _ _)) (fun aa ww hk bs hd => awake13_any ww mx (HM.kept (ow.keep hk).kept)) rfl <|
      aS (fun hk bs hd => xpickT rfl (dp hd 8 rfl) (dp hd 9 rfl)) rfl <|
      asD 10 rfl rfl rfl rfl rfl rfl <|
      arm0) fun fa fw bs hv ap z q ow => ?_
    have s6 := gv hv 11 rfl rfl; refine wt hK9 ?_; refine wp_ret ?_; refine results_one rfl (res_tmp s6) q ?_; exact ⟨rfl, ow.kept⟩
end Go.Proofs.YtbpkfnoenkoabaaGreatDoor
