/- The law FnumExamples, walked (printed by wip/mklaw13.py). -/
import Derived.Test.YtbpkfnoenkoabaaGreatDoorFgLFnumSigns
import Derived.Test.YtbpkfnoenkoabaaGreatDoorFgLFnumBinaries
import Derived.Test.YtbpkfnoenkoabaaGreatDoorFgLFnumCalls
import Derived.Test.YtbpkfnoenkoabaaGreatDoorFgMixBC
namespace Go.Proofs.YtbpkfnoenkoabaaGreatDoor
set_option linter.unusedVariables false
set_option linter.unusedSimpArgs false
open Go.RowKit Lv
set_option maxRecDepth 100000
theorem en_louvrelaw13_FnumBinaries : En 6 := by intro args w; go_simp
theorem en_louvrelaw13_FnumCalls : En 5 := by intro args w; go_simp
theorem en_louvrelaw13_FnumSigns : En 7 := by intro args w; go_simp
theorem en_louvrelaw13_Values : En 25 := by intro args w; go_simp
set_option maxHeartbeats 8000000 in
theorem FnumExamples_walk (w : World) (mx : Int) (HM : Mx w mx) :
    Calls Tryz.prog 8 #[] w fun e w' => e = .returned (.bool true) ∧ Below w.heap.size w w' := by
  go_enter Tryz.func8, Tryz.ntmps8; refine sq fun hK1 => ?_
  refine ro [yV _] 1 124 rfl rfl (Own.start w) (
    aS (fun hk bs hd => xassign rfl rfl) rfl <|
    arm0) fun fa fw bs hv ap z q ow => ?_
  have s0 := gv hv 0 rfl rfl; refine wt hK1 ?_; refine sq fun hK2 => ?_; refine wp_region_lit ?_; refine wl_enter (want0 rfl) (xcall0 rfl (en_louvrelaw13_Values _ _)) ((values_any _).mono ?_); rintro _ fw ⟨l, hl, hw, v9, rfl, hown, hk⟩; refine ⟨_, rfl, ?_⟩; rcases (rfl : (0 : Nat) = 0) with _
  have ow := ow.add (t := Th.row _ 25 3 _ l.length (flatV l)) hown hk (fun g e => (World.ownsRow.lt hown g e).1); clear hk hown; obtain ⟨A9, cl, rfl, _, _, hn9⟩ := OwnV.row (l := l) (ow.row 0 rfl); obtain ⟨gl, rfl, _⟩ := hn9 (fun c => by rw [c] at hl; cases hl); refine wl_value (v := .slice (some ⟨gl, 0, none⟩) l.length cl) (want0 rfl) (xassign rfl (put_in (t := 11) z rfl)) ?_; refine gt2 (put_size (put_size z)) (put_def (put_def q)) ow 0 (pb 1 (pb 11 s0 rfl) rfl) 1 (put_in (t := 1) (put_size z) rfl) fun fa fw z q ow s0 s1 => ?_; refine wt hK2 ?_; refine sq fun hK3 => ?_; refine sq fun hK4 => ?_
  refine ro [yV _] 1 124 z q ow (
    aS (fun hk bs hd => xassign rfl rfl) rfl <|
    arm0) fun fa fw bs hv ap z q ow => ?_
  obtain ⟨s0, s1⟩ := b2 bs s0 s1; have s2 := gv hv 0 rfl rfl; refine wt hK4 ?_; refine wp_block ?_; refine wp_loop_g (fun (i : Nat) fr u => (i ≤ l.length) ∧ fr.tmps.size = 124 ∧ fr.defers = [] ∧ Own w [Th.row _ 25 3 (.slice (some ⟨gl, 0, none⟩) l.length cl) l.length (flatV l)] u ∧ fr.eval (.tmp 0) = .bool false ∧ fr.eval (.tmp 1) = .slice (some ⟨gl, 0, none⟩) l.length cl ∧ fr.eval (.tmp 2) = .int .i64 (i : Int)) (fun i => l.length - i) 0 ⟨(Nat.zero_le _), z, q, ow, s0, s1, s2⟩ (fun i b_ u_ hI => ?_)
  revert b_ u_; intro fa fw hI
  obtain ⟨hi0, z, q, ow, s0, s1, s2⟩ := hI; refine sq fun hK5 => ?_; refine sq fun hK6 => ?_
  refine ro [yV _, yV _, yV _, yV _] 4 124 z q ow (
    mvS s2 rfl rfl rfl rfl <|
    mvS s1 rfl rfl rfl rfl <|
    aS (fun hk bs hd => xlen Tryz.underlying22 rfl (dp hd 1 rfl)) rfl <|
    aS (fun hk bs hd => xlss rfl (dp hd 0 rfl) (dp hd 2 rfl)) rfl <|
    arm0) fun fa fw bs hv ap z q ow => ?_
  obtain ⟨s0, s1, s2⟩ := b3 bs s0 s1 s2; have s15 := gv hv 3 rfl rfl; refine wt hK6 ?_
  by_cases hc1 : (i : Int) < ((l.length : Nat) : Int)
  ·refine ct s15 ((decide_eq_true_iff).2 hc1) ?_
   refine wp_skip ?_; refine tn hK5 ?_; refine sq fun hK7 => ?_; refine wp_block ?_; refine sq fun hK8 => ?_; refine sq fun hK9 => ?_; have hil : i < l.length := by omega
   refine ro [yV _, yV _, yV _, yV (aggV (l.getD i blankV)), yV (.bool true), yV _] 6 124 z q ow (
     mvS s1 rfl rfl rfl rfl <|
     mvS s2 rfl rfl rfl rfl <|
     aS (fun hk bs hd => xplaceV rfl (k := i) (dp hd 0 rfl) (dp hd 1 rfl) hil) rfl <|
     aS (fun hk bs hd => xatV rfl (l := l) (k := i) (dp hd 2 rfl) (rowV_own (l := l) ((ow.keep hk).row 0 rfl)) hil) rfl <|
     aC (fun hk bs hd => xcall1 rfl (dp hd 3 rfl) (en_louvrelaw13_FnumSigns _ _)) (fun hk bs hd => FnumSigns_walk (l.getD i blankV) (wideD hw hil) _ mx (HM.kept (ow.keep hk).kept)) rfl <|
     aS (fun hk bs hd => xnot rfl (dp hd 4 rfl)) rfl <|
     arm0) fun fa fw bs hv ap z q ow => ?_
   obtain ⟨s0, s1, s2⟩ := b3 bs s0 s1 s2; have s23 := gv hv 5 rfl rfl; refine wt hK9 ?_; refine wp_cond_false (s23) ?_; refine wp_skip ?_; refine tn hK8 ?_; refine sq fun hK10 => ?_; refine sq fun hK11 => ?_
   refine ro [yV _] 1 124 z q ow (
     aS (fun hk bs hd => xassign rfl rfl) rfl <|
     arm0) fun fa fw bs hv ap z q ow => ?_
   obtain ⟨s0, s1, s2⟩ := b3 bs s0 s1 s2; have s3 := gv hv 0 rfl rfl; refine wt hK11 ?_; refine wp_block ?_; refine wp_loop_g (fun (k : Nat) fr u => (k ≤ l.length) ∧ fr.tmps.size = 124 ∧ fr.defers = [] ∧ Own w [Th.row _ 25 3 (.slice (some ⟨gl, 0, none⟩) l.length cl) l.length (flatV l)] u ∧ fr.eval (.tmp 0) = .bool false ∧ fr.eval (.tmp 1) = .slice (some ⟨gl, 0, none⟩) l.length cl ∧ fr.eval (.tmp 2) = .int .i64 (i : Int) ∧ fr.eval (.tmp 3) = .int .i64 (k : Int)) (fun k => l.length - k) 0 ⟨(Nat.zero_le _), z, q, ow, s0, s1, s2, s3⟩ (fun k b_ u_ hI => ?_)
   revert b_ u_; intro fa fw hI
   obtain ⟨hk0, z, q, ow, s0, s1, s2, s3⟩ := hI; refine sq fun hK12 => ?_; refine sq fun hK13 => ?_
   refine ro [yV _, yV _, yV _, yV _] 4 124 z q ow (
     mvS s3 rfl rfl rfl rfl <|
     mvS s1 rfl rfl rfl rfl <|
     aS (fun hk bs hd => xlen Tryz.underlying22 rfl (dp hd 1 rfl)) rfl <|
     aS (fun hk bs hd => xlss rfl (dp hd 0 rfl) (dp hd 2 rfl)) rfl <|
     arm0) fun fa fw bs hv ap z q ow => ?_
   obtain ⟨s0, s1, s2, s3⟩ := b4 bs s0 s1 s2 s3; have s27 := gv hv 3 rfl rfl; refine wt hK13 ?_
   by_cases hc2 : (k : Int) < ((l.length : Nat) : Int)
   ·refine ct s27 ((decide_eq_true_iff).2 hc2) ?_
    refine wp_skip ?_; refine tn hK12 ?_; refine sq fun hK14 => ?_; refine wp_block ?_; refine sq fun hK15 => ?_; refine sq fun hK16 => ?_; have hkl : k < l.length := by omega
    refine ro [yV _] 1 124 z q ow (
      aS (fun hk bs hd => xassign rfl rfl) rfl <|
      arm0) fun fa fw bs hv ap z q ow => ?_
    obtain ⟨s0, s1, s2, s3⟩ := b4 bs s0 s1 s2 s3; have s4 := gv hv 0 rfl rfl; refine wt hK16 ?_; refine wp_block ?_; refine wp_loop_g (fun (o : Nat) fr u => (o ≤ 14) ∧ fr.tmps.size = 124 ∧ fr.defers = [] ∧ Own w [Th.row _ 25 3 (.slice (some ⟨gl, 0, none⟩) l.length cl) l.length (flatV l)] u ∧ fr.eval (.tmp 0) = .bool false ∧ fr.eval (.tmp 1) = .slice (some ⟨gl, 0, none⟩) l.length cl ∧ fr.eval (.tmp 2) = .int .i64 (i : Int) ∧ fr.eval (.tmp 3) = .int .i64 (k : Int) ∧ fr.eval (.tmp 4) = .int .i64 (o : Int)) (fun o => 14 - o) 0 ⟨(Nat.zero_le _), z, q, ow, s0, s1, s2, s3, s4⟩ (fun o b_ u_ hI => ?_)
    revert b_ u_; intro fa fw hI
    obtain ⟨ho0, z, q, ow, s0, s1, s2, s3, s4⟩ := hI; refine sq fun hK17 => ?_; refine sq fun hK18 => ?_
    refine ro [yV _, yV _] 2 124 z q ow (
      mvS s4 rfl rfl rfl rfl <|
      aS (fun hk bs hd => xlss rfl (dp hd 0 rfl) rfl) rfl <|
      arm0) fun fa fw bs hv ap z q ow => ?_
    obtain ⟨s0, s1, s2, s3, s4⟩ := b5 bs s0 s1 s2 s3 s4; have s31 := gv hv 1 rfl rfl; refine wt hK18 ?_
    by_cases hc3 : (o : Int) < (14 : Int)
    ·refine ct s31 ((decide_eq_true_iff).2 hc3) ?_
     refine wp_skip ?_; refine tn hK17 ?_; refine sq fun hK19 => ?_; refine wp_block ?_; refine sq fun hK20 => ?_
     refine ro [yV _, yV _, yV _, yV _, yV (aggV (l.getD i blankV)), yV _, yV _, yV _, yV (aggV (l.getD k blankV)), yV (.bool true), yV _] 11 124 z q ow (
       mvS s4 rfl rfl rfl rfl <|
       mvS s1 rfl rfl rfl rfl <|
       mvS s2 rfl rfl rfl rfl <|
       aS (fun hk bs hd => xplaceV rfl (k := i) (dp hd 1 rfl) (dp hd 2 rfl) hil) rfl <|
       aS (fun hk bs hd => xatV rfl (l := l) (k := i) (dp hd 3 rfl) (rowV_own (l := l) ((ow.keep hk).row 0 rfl)) hil) rfl <|
       mvS s1 rfl rfl rfl rfl <|
       mvS s3 rfl rfl rfl rfl <|
       aS (fun hk bs hd => xplaceV rfl (k := k) (dp hd 5 rfl) (dp hd 6 rfl) hkl) rfl <|
       aS (fun hk bs hd => xatV rfl (l := l) (k := k) (dp hd 7 rfl) (rowV_own (l := l) ((ow.keep hk).row 0 rfl)) hkl) rfl <|
       aC (fun hk bs hd => xcall3 rfl (dp hd 0 rfl) (dp hd 4 rfl) (dp hd 8 rfl) (en_louvrelaw13_FnumBinaries _ _)) (fun hk bs hd => FnumBinaries_walk (o : Int) (l.getD i blankV) (l.getD k blankV) (wf_i64 (by omega) (by omega)) (wideD hw hil) (wideD hw hkl) _ mx (HM.kept (ow.keep hk).kept)) rfl <|
       aS (fun hk bs hd => xnot rfl (dp hd 9 rfl)) rfl <|
       arm0) fun fa fw bs hv ap z q ow => ?_
     obtain ⟨s0, s1, s2, s3, s4⟩ := b5 bs s0 s1 s2 s3 s4; have s44 := gv hv 10 rfl rfl; refine wt hK20 ?_; refine wp_cond_false (s44) ?_; refine wp_skip ?_; refine block_n ?_; refine tn hK19 ?_
     refine ro [yV _, yV (.int .i64 ((o + 1 : Nat) : Int))] 2 124 z q ow (
       mvS s4 rfl rfl rfl rfl <|
       aS (fun hk bs hd => xadd (Or.inr rfl) rfl (dp hd 0 rfl) rfl (by omega) (by omega)) rfl <|
       arm0) fun fa fw bs hv ap z q ow => ?_
     obtain ⟨s0, s1, s2, s3, s4⟩ := b5 bs s0 s1 s2 s3 s4; have s33 := gv hv 1 rfl rfl; refine wl_value (v := .int .i64 ((o + 1 : Nat) : Int)) (want0 rfl) (xassign rfl s33) ?_; refine gp4 z q ow s0 s1 s2 s3 fun fa fw z q ow s0 s1 s2 s3 s4 => ?_; refine wl_end ?_; exact then_n ⟨(o + 1), ⟨(by omega), z, q, ow, s0, s1, s2, s3, s4⟩, (show 14 - (o + 1) < 14 - o by omega)⟩
    refine cf s31 (decide_eq_true_iff) hc3 ?_; refine wp_exit ?_; refine then_e ?_; refine then_e ?_; refine block_hit ?_; refine tn hK15 ?_; refine sq fun hK21 => ?_
    refine ro [yV _] 1 124 z q ow (
      aS (fun hk bs hd => xassign rfl rfl) rfl <|
      arm0) fun fa fw bs hv ap z q ow => ?_
    obtain ⟨s0, s1, s2, s3⟩ := b4 bs s0 s1 s2 s3; have s5 := gv hv 0 rfl rfl; refine wt hK21 ?_; refine wp_block ?_; refine wp_loop_g (fun (f : Nat) fr u => (f ≤ 10) ∧ fr.tmps.size = 124 ∧ fr.defers = [] ∧ Own w [Th.row _ 25 3 (.slice (some ⟨gl, 0, none⟩) l.length cl) l.length (flatV l)] u ∧ fr.eval (.tmp 0) = .bool false ∧ fr.eval (.tmp 1) = .slice (some ⟨gl, 0, none⟩) l.length cl ∧ fr.eval (.tmp 2) = .int .i64 (i : Int) ∧ fr.eval (.tmp 3) = .int .i64 (k : Int) ∧ fr.eval (.tmp 5) = .int .u8 (f : Int)) (fun f => 10 - f) 0 ⟨(Nat.zero_le _), z, q, ow, s0, s1, s2, s3, s5⟩ (fun f b_ u_ hI => ?_)
    revert b_ u_; intro fa fw hI
    obtain ⟨hf0, z, q, ow, s0, s1, s2, s3, s5⟩ := hI; refine sq fun hK22 => ?_; refine sq fun hK23 => ?_
    refine ro [yV _, yV _] 2 124 z q ow (
      mvS s5 rfl rfl rfl rfl <|
      aS (fun hk bs hd => xlss rfl (dp hd 0 rfl) rfl) rfl <|
      arm0) fun fa fw bs hv ap z q ow => ?_
    obtain ⟨s0, s1, s2, s3, s5⟩ := b5 bs s0 s1 s2 s3 s5; have s46 := gv hv 1 rfl rfl; refine wt hK23 ?_
    by_cases hc4 : (f : Int) < (10 : Int)
    ·refine ct s46 ((decide_eq_true_iff).2 hc4) ?_
     refine wp_skip ?_; refine tn hK22 ?_; refine sq fun hK24 => ?_; refine wp_block ?_; refine sq fun hK25 => ?_
     refine ro [yV _, yV _, yV _, yV _, yV (aggV (l.getD i blankV)), yV _, yV _, yV _, yV (aggV (l.getD k blankV)), ySlice fw.heap.size 2 (rowObj [l.getD i blankV, l.getD k blankV]), yV (.bool true), yV _] 12 124 z q ow (
       mvS s5 rfl rfl rfl rfl <|
       mvS s1 rfl rfl rfl rfl <|
       mvS s2 rfl rfl rfl rfl <|
       aS (fun hk bs hd => xplaceV rfl (k := i) (dp hd 1 rfl) (dp hd 2 rfl) hil) rfl <|
       aS (fun hk bs hd => xatV rfl (l := l) (k := i) (dp hd 3 rfl) (rowV_own (l := l) ((ow.keep hk).row 0 rfl)) hil) rfl <|
       mvS s1 rfl rfl rfl rfl <|
       mvS s3 rfl rfl rfl rfl <|
       aS (fun hk bs hd => xplaceV rfl (k := k) (dp hd 5 rfl) (dp hd 6 rfl) hkl) rfl <|
       aS (fun hk bs hd => xatV rfl (l := l) (k := k) (dp hd 7 rfl) (rowV_own (l := l) ((ow.keep hk).row 0 rfl)) hkl) rfl <|
       arm (fun aa ww hk bs hd => by
         have d4 := dp hd 4 rfl; have d8 := dp hd 8 rfl; exact stepX_new _ (want0 rfl) (xrow2 rfl (d4) (d8)) ⟨_, rfl, hk.size, Go.heap_alloc_new _ _⟩ ((Kept.refl _).alloc _) rfl (Nat.le_refl _)
         ) <|
       arm (fun aa ww hk bs hd => by
         have d0 := dp hd 0 rfl; have d9 := dL hd 9 rfl; obtain ⟨g9, e9, _, h9⟩ := d9; exact stepX_enter (want0 rfl) (xcall2 (u := .int .u8 (f : Int)) (v := .slice (some ⟨g9, 0, none⟩) 2 2) rfl (d0) e9 (en_louvrelaw13_FnumCalls _ _)) ((FnumCalls_walk (f : Int) (some ⟨g9, 0, none⟩) 2 2 [l.getD i blankV, l.getD k blankV] ww (wf_u8 (by omega) (by omega)) (vals_obj h9 (wide2 (wideD hw hil) (wideD hw hkl)) (by simp)) mx (HM.kept (ow.keep hk).kept)).mono fun _ _ ⟨he, hk2⟩ => ⟨_, he, rfl, hk2⟩) rfl
         ) <|
       aS (fun hk bs hd => xnot rfl (dp hd 10 rfl)) rfl <|
       arm0) fun fa fw bs hv ap z q ow => ?_
     obtain ⟨s0, s1, s2, s3, s5⟩ := b5 bs s0 s1 s2 s3 s5; have s60 := gv hv 11 rfl rfl; refine wt hK25 ?_; refine wp_cond_false (s60) ?_; refine wp_skip ?_; refine block_n ?_; refine tn hK24 ?_
     refine ro [yV _, yV (.int .u8 ((f + 1 : Nat) : Int))] 2 124 z q ow (
       mvS s5 rfl rfl rfl rfl <|
       aS (fun hk bs hd => xaddU8n (n := f) (m := 1) rfl (dp hd 0 rfl) rfl (by omega)) rfl <|
       arm0) fun fa fw bs hv ap z q ow => ?_
     obtain ⟨s0, s1, s2, s3, s5⟩ := b5 bs s0 s1 s2 s3 s5; have s48 := gv hv 1 rfl rfl; refine wl_value (v := .int .u8 ((f + 1 : Nat) : Int)) (want0 rfl) (xassign rfl s48) ?_; refine gp4 z q ow s0 s1 s2 s3 fun fa fw z q ow s0 s1 s2 s3 s5 => ?_; refine wl_end ?_; exact then_n ⟨(f + 1), ⟨(by omega), z, q, ow, s0, s1, s2, s3, s5⟩, (show 10 - (f + 1) < 10 - f by omega)⟩
    refine cf s46 (decide_eq_true_iff) hc4 ?_; refine wp_exit ?_; refine then_e ?_; refine then_e ?_; refine block_hit ?_; refine block_n ?_; refine tn hK14 ?_
    refine ro [yV _, yV (.int .i64 ((k + 1 : Nat) : Int))] 2 124 z q ow (
      mvS s3 rfl rfl rfl rfl <|
      aS (fun hk bs hd => xadd (Or.inl rfl) rfl (dp hd 0 rfl) rfl (by omega) (by omega)) rfl <|
      arm0) fun fa fw bs hv ap z q ow => ?_
    obtain ⟨s0, s1, s2, s3⟩ := b4 bs s0 s1 s2 s3; have s29 := gv hv 1 rfl rfl; refine wl_value (v := .int .i64 ((k + 1 : Nat) : Int)) (want0 rfl) (xassign rfl s29) ?_; refine gp3 z q ow s0 s1 s2 fun fa fw z q ow s0 s1 s2 s3 => ?_; refine wl_end ?_; exact then_n ⟨(k + 1), ⟨(by omega), z, q, ow, s0, s1, s2, s3⟩, (show l.length - (k + 1) < l.length - k by omega)⟩
   refine cf s27 (decide_eq_true_iff) hc2 ?_; refine wp_exit ?_; refine then_e ?_; refine then_e ?_; refine block_hit ?_; refine tn hK10 ?_; refine sq fun hK26 => ?_
   refine ro [yV _] 1 124 z q ow (
     aS (fun hk bs hd => xassign rfl rfl) rfl <|
     arm0) fun fa fw bs hv ap z q ow => ?_
   obtain ⟨s0, s1, s2⟩ := b3 bs s0 s1 s2; have s6 := gv hv 0 rfl rfl; refine wt hK26 ?_; refine wp_block ?_; refine wp_loop_g (fun (f : Nat) fr u => (f ≤ 10) ∧ fr.tmps.size = 124 ∧ fr.defers = [] ∧ Own w [Th.row _ 25 3 (.slice (some ⟨gl, 0, none⟩) l.length cl) l.length (flatV l)] u ∧ fr.eval (.tmp 0) = .bool false ∧ fr.eval (.tmp 1) = .slice (some ⟨gl, 0, none⟩) l.length cl ∧ fr.eval (.tmp 2) = .int .i64 (i : Int) ∧ fr.eval (.tmp 6) = .int .u8 (f : Int)) (fun f => 10 - f) 0 ⟨(Nat.zero_le _), z, q, ow, s0, s1, s2, s6⟩ (fun f b_ u_ hI => ?_)
   revert b_ u_; intro fa fw hI
   obtain ⟨hf0, z, q, ow, s0, s1, s2, s6⟩ := hI; refine sq fun hK27 => ?_; refine sq fun hK28 => ?_
   refine ro [yV _, yV _] 2 124 z q ow (
     mvS s6 rfl rfl rfl rfl <|
     aS (fun hk bs hd => xlss rfl (dp hd 0 rfl) rfl) rfl <|
     arm0) fun fa fw bs hv ap z q ow => ?_
   obtain ⟨s0, s1, s2, s6⟩ := b4 bs s0 s1 s2 s6; have s62 := gv hv 1 rfl rfl; refine wt hK28 ?_
   by_cases hc5 : (f : Int) < (10 : Int)
   ·refine ct s62 ((decide_eq_true_iff).2 hc5) ?_
    refine wp_skip ?_; refine tn hK27 ?_; refine sq fun hK29 => ?_; refine wp_block ?_; refine sq fun hK30 => ?_
    refine ro [yV _, yV _, yV _, yV _, yV (.int .i64 ((i + 1 : Nat) : Int)), yV (.slice (some ⟨gl, 0 + i * 3, none⟩) 1 (cl - i)), yV (.bool true), yV _] 8 124 z q ow (
      mvS s6 rfl rfl rfl rfl <|
      mvS s1 rfl rfl rfl rfl <|
      mvS s2 rfl rfl rfl rfl <|
      mvS s2 rfl rfl rfl rfl <|
      aS (fun hk bs hd => xadd (Or.inl rfl) rfl (dp hd 3 rfl) rfl (by omega) (by omega)) rfl <|
      aE (fun hk bs hd => xslicePart Tryz.underlying22 (by kernel_rfl) rfl (l := i) (h := i + 1) (dp hd 1 rfl) (dp hd 2 rfl) (dp hd 4 rfl) (by omega) (by have := (OwnV.cap ((ow.keep hk).row 0 rfl)).2.1; omega) (by have := (OwnV.cap ((ow.keep hk).row 0 rfl)).2.1; omega)) (by rw [Nat.add_sub_cancel_left]) rfl <|
      aC (fun hk bs hd => xcall2 rfl (dp hd 0 rfl) (dp hd 5 rfl) (en_louvrelaw13_FnumCalls _ _)) (fun hk bs hd => FnumCalls_walk (f : Int) (some ⟨gl, 0 + i * 3, none⟩) 1 (cl - i) [l.getD i blankV] _ (wf_u8 (by omega) (by omega)) (vals_part ((ow.keep hk).row 0 rfl) hw hil) mx (HM.kept (ow.keep hk).kept)) rfl <|
      aS (fun hk bs hd => xnot rfl (dp hd 6 rfl)) rfl <|
      arm0) fun fa fw bs hv ap z q ow => ?_
    obtain ⟨s0, s1, s2, s6⟩ := b4 bs s0 s1 s2 s6; have s72 := gv hv 7 rfl rfl; refine wt hK30 ?_; refine wp_cond_false (s72) ?_; refine wp_skip ?_; refine block_n ?_; refine tn hK29 ?_
    refine ro [yV _, yV (.int .u8 ((f + 1 : Nat) : Int))] 2 124 z q ow (
      mvS s6 rfl rfl rfl rfl <|
      aS (fun hk bs hd => xaddU8n (n := f) (m := 1) rfl (dp hd 0 rfl) rfl (by omega)) rfl <|
      arm0) fun fa fw bs hv ap z q ow => ?_
    obtain ⟨s0, s1, s2, s6⟩ := b4 bs s0 s1 s2 s6; have s64 := gv hv 1 rfl rfl; refine wl_value (v := .int .u8 ((f + 1 : Nat) : Int)) (want0 rfl) (xassign rfl s64) ?_; refine gp3 z q ow s0 s1 s2 fun fa fw z q ow s0 s1 s2 s6 => ?_; refine wl_end ?_; exact then_n ⟨(f + 1), ⟨(by omega), z, q, ow, s0, s1, s2, s6⟩, (show 10 - (f + 1) < 10 - f by omega)⟩
   refine cf s62 (decide_eq_true_iff) hc5 ?_; refine wp_exit ?_; refine then_e ?_; refine then_e ?_; refine block_hit ?_; refine block_n ?_; refine tn hK7 ?_
   refine ro [yV _, yV (.int .i64 ((i + 1 : Nat) : Int))] 2 124 z q ow (
     mvS s2 rfl rfl rfl rfl <|
     aS (fun hk bs hd => xadd (Or.inl rfl) rfl (dp hd 0 rfl) rfl (by omega) (by omega)) rfl <|
     arm0) fun fa fw bs hv ap z q ow => ?_
   obtain ⟨s0, s1, s2⟩ := b3 bs s0 s1 s2; have s17 := gv hv 1 rfl rfl; refine wl_value (v := .int .i64 ((i + 1 : Nat) : Int)) (want0 rfl) (xassign rfl s17) ?_; refine gp2 z q ow s0 s1 fun fa fw z q ow s0 s1 s2 => ?_; refine wl_end ?_; exact then_n ⟨(i + 1), ⟨(by omega), z, q, ow, s0, s1, s2⟩, (show l.length - (i + 1) < l.length - i by omega)⟩
  refine cf s15 (decide_eq_true_iff) hc1 ?_; refine wp_exit ?_; refine then_e ?_; refine then_e ?_; refine block_hit ?_; refine tn hK3 ?_; refine sq fun hK31 => ?_
  refine ro [ySlice fw.heap.size 257 (.cells (fillC 120 257 0) 5 (0, 0))] 1 124 z q ow (
    aL (fun hk bs hd => xmakeC 120 (n := 257) rfl rfl rfl (by decide)) rfl <|
    arm0) fun fa fw bs hv ap z q ov => ?_
  have s0 := bg bs s0; obtain ⟨gb1, s73, bgb1, hgb1⟩ := gotL hv 0 rfl rfl rfl; have ov := ov.cons hgb1 (Nat.le_trans ow.kept.size bgb1) (ow.below bgb1); have ow := ov; refine wl_value (v := .slice (some ⟨gb1, 0, none⟩) 257 257) (want0 rfl) (xassign rfl s73) ?_; refine gp1 z q ow s0 fun fa fw z q ow s0 s7 => ?_; refine wt hK31 ?_; refine sq fun hK32 => ?_; refine sq fun hK33 => ?_
  refine ro [yV _] 1 124 z q ow (
    aS (fun hk bs hd => xassign rfl rfl) rfl <|
    arm0) fun fa fw bs hv ap z q ow => ?_
  obtain ⟨s0, s7⟩ := b2 bs s0 s7; have s8 := gv hv 0 rfl rfl; refine wt hK33 ?_; refine wp_block ?_; refine wp_loop_g (fun (k : Nat) fr u => (k ≤ 257) ∧ fr.tmps.size = 124 ∧ fr.defers = [] ∧ Own w [Th.obj gb1 (.cells (fillC 120 257 k) 5 (0, 0))] u ∧ fr.eval (.tmp 0) = .bool false ∧ fr.eval (.tmp 7) = .slice (some ⟨gb1, 0, none⟩) 257 257 ∧ fr.eval (.tmp 8) = .int .i64 (k : Int)) (fun k => 257 - k) 0 ⟨(Nat.zero_le _), z, q, (ow.sub (List.Sublist.cons_cons _ (List.nil_sublist _))), s0, s7, s8⟩ (fun k b_ u_ hI => ?_)
  revert b_ u_; intro fa fw hI
  obtain ⟨hk0, z, q, ow, s0, s7, s8⟩ := hI; refine sq fun hK34 => ?_; refine sq fun hK35 => ?_
  refine ro [yV _, yV _, yV _, yV _] 4 124 z q ow (
    mvS s8 rfl rfl rfl rfl <|
    mvS s7 rfl rfl rfl rfl <|
    aS (fun hk bs hd => xlen Tryz.underlying35 rfl (dp hd 1 rfl)) rfl <|
    aS (fun hk bs hd => xlss rfl (dp hd 0 rfl) (dp hd 2 rfl)) rfl <|
    arm0) fun fa fw bs hv ap z q ow => ?_
  obtain ⟨s0, s7, s8⟩ := b3 bs s0 s7 s8; have s77 := gv hv 3 rfl rfl; refine wt hK35 ?_
  by_cases hc6 : (k : Int) < (257 : Int)
  ·refine ct s77 ((decide_eq_true_iff).2 hc6) ?_
   refine wp_skip ?_; refine tn hK34 ?_; refine sq fun hK36 => ?_; refine wp_block ?_
   refine ro [yV _, yV _, yV _] 3 124 z q ow (
     mvS s7 rfl rfl rfl rfl <|
     mvS s8 rfl rfl rfl rfl <|
     aS (fun hk bs hd => xindexAddr (u := .slice (some ⟨gb1, 0, none⟩) 257 257) (z := .int .i64 (k : Int)) rfl (dp hd 0 rfl) (dp hd 1 rfl) (run_place1 Tryz.underlying35 (by kernel_rfl) (by omega))) rfl <|
     arm0) fun fa fw bs hv ap z q ow => ?_
   obtain ⟨s0, s7, s8⟩ := b3 bs s0 s7 s8; have s82 := gv hv 2 rfl rfl; refine wl_skip (want0 rfl) rfl (xstoreN (v := .int .u8 120) (off := 0 + k) rfl s82 rfl (by kernel_rfl) (ow.box 0 rfl) rfl (by show 0 + k + 1 ≤ _; rw [fillC_size (by omega)]; omega)) ?_; have ow : Own w [Th.obj gb1 (.cells (fillC 120 257 (k + 1)) 5 (0, 0))] _ := (by have o := ow.put 0 rfl (0 + k) [.int .u8 120]; rw [show setCells (fillC 120 257 k) (0 + k) [Value.int .u8 120] = fillC 120 257 (k + 1) from fillC_step (by omega)] at o; exact o); refine gt3 z q ow 0 s0 7 s7 8 s8 fun fa fw z q ow s0 s7 s8 => ?_; refine wl_end ?_; refine block_n ?_; refine tn hK36 ?_
   refine ro [yV _, yV (.int .i64 ((k + 1 : Nat) : Int))] 2 124 z q ow (
     mvS s8 rfl rfl rfl rfl <|
     aS (fun hk bs hd => xadd (Or.inl rfl) rfl (dp hd 0 rfl) rfl (by omega) (by omega)) rfl <|
     arm0) fun fa fw bs hv ap z q ow => ?_
   obtain ⟨s0, s7, s8⟩ := b3 bs s0 s7 s8; have s79 := gv hv 1 rfl rfl; refine wl_value (v := .int .i64 ((k + 1 : Nat) : Int)) (want0 rfl) (xassign rfl s79) ?_; refine gp2 z q ow s0 s7 fun fa fw z q ow s0 s7 s8 => ?_; refine wl_end ?_; exact then_n ⟨(k + 1), ⟨(by omega), z, q, ow, s0, s7, s8⟩, (show 257 - (k + 1) < 257 - k by omega)⟩
  refine cf s77 (decide_eq_true_iff) hc6 ?_; have hk257 : k = 257 := by omega
  subst hk257; refine wp_exit ?_; refine then_e ?_; refine then_e ?_; refine block_hit ?_; refine tn hK32 ?_; refine sq fun hK37 => ?_
  refine rgf [yV _, yV _, yV _, yV (aggV (⟨3, 0, List.replicate 200 120⟩ : Vl)), yV _, yV _, yV _, yV (aggV (⟨3, 0, List.replicate 56 120⟩ : Vl)), yPtr fw.heap.size, yPtr fw.heap.size, yNo, yNo] [⟨10, 8, 9, 25, #[.int .u8 0, .int .i64 0, .string ⟨[].toArray⟩], (aggV (⟨3, 0, List.replicate 200 120⟩ : Vl)).cells.toList⟩, ⟨11, 9, 10, 25, #[.int .u8 0, .int .i64 0, .string ⟨[].toArray⟩], (aggV (⟨3, 0, List.replicate 56 120⟩ : Vl)).cells.toList⟩] 124 z (by kernel_rfl) (by kernel_rfl) (by kernel_rfl) (lastingV <| lastingV <| lastingV <| lastingV <| lastingV <| lastingV <| lastingV <| lastingV <| lastingP <| lastingP <| lastingN <| lastingN <| lasting0) ⟨⟨rfl, rfl⟩, ⟨rfl, rfl⟩, trivial⟩ (
    fx (mvS s7 rfl rfl rfl rfl arm0) rfl <|
    fx (aS (fun hk bs hd => xsliceToB rfl (h := 200) (dp hd 0 rfl) rfl (by decide)) rfl arm0) rfl <|
    fx (aS (fun hk bs hd => xstrC (c := 120) (n := 257) rfl (dp hd 1 rfl) ((ow.keep hk).box 0 rfl) (by decide)) rfl arm0) rfl <|
    fx (arm (fun aa ww hk bs hd => by
      have d2 : aa.eval (.tmp 85) = .string ⟨(List.replicate 200 120).toArray⟩ := depX hd 2 rfl; exact stepX_same (v := aggV (⟨3, 0, List.replicate 200 120⟩ : Vl)) (want0 rfl) (xbuild (us := #[(0, .int .u8 3), (2, .string ⟨(List.replicate 200 120).toArray⟩)]) rfl (by simp only [List.map_toArray, List.map_cons, List.map_nil, d2]; rfl) (by kernel_rfl)) rfl rfl
      ) arm0) rfl <|
    fx (mvS s7 rfl rfl rfl rfl arm0) rfl <|
    fx (aS (fun hk bs hd => xsliceToB rfl (h := 56) (dp hd 4 rfl) rfl (by decide)) rfl arm0) rfl <|
    fx (aS (fun hk bs hd => xstrC (c := 120) (n := 257) rfl (dp hd 5 rfl) ((ow.keep hk).box 0 rfl) (by decide)) rfl arm0) rfl <|
    fx (arm (fun aa ww hk bs hd => by
      have d6 : aa.eval (.tmp 89) = .string ⟨(List.replicate 56 120).toArray⟩ := depX hd 6 rfl; exact stepX_same (v := aggV (⟨3, 0, List.replicate 56 120⟩ : Vl)) (want0 rfl) (xbuild (us := #[(0, .int .u8 3), (2, .string ⟨(List.replicate 56 120).toArray⟩)]) rfl (by simp only [List.map_toArray, List.map_cons, List.map_nil, d6]; rfl) (by kernel_rfl)) rfl rfl
      ) arm0) rfl <|
    sfA 0 rfl rfl rfl (fun aa ww hk bs hd => xalloc rfl (by kernel_rfl)) <|
    sfA 1 rfl rfl rfl (fun aa ww hk bs hd => xalloc rfl (by kernel_rfl)) <|
    sfS 0 rfl rfl rfl (fun aa ww g hk bs hd e bx => xstoreN rfl e (dp hd 3 rfl) (by kernel_rfl) bx rfl (Nat.le_of_ble_eq_true rfl)) <|
    sfS 1 rfl rfl rfl (fun aa ww g hk bs hd e bx => xstoreN rfl e (dp hd 7 rfl) (by kernel_rfl) bx rfl (Nat.le_of_ble_eq_true rfl)) <|
    armF0) fun fa fw hk bs hv ap hc => ?_
  obtain ⟨z, q, ov⟩ := aft hk bs z q ow; obtain ⟨s0, s7⟩ := b2 bs s0 s7; obtain ⟨gb2, s9, bgb2, hgb2⟩ := gotF hv hc 0 rfl rfl rfl rfl; have ov := ov.cons hgb2 (Nat.le_trans ow.kept.size bgb2) (ow.below bgb2); obtain ⟨gb3, s10, bgb3, hgb3⟩ := gotF hv hc 1 rfl rfl rfl rfl; have ov := ov.cons hgb3 (Nat.le_trans ow.kept.size bgb3) (ne_cons (apartP ap 8 9 rfl rfl rfl s9 rfl s10 rfl) (ow.below bgb3)); have ow := ov; refine wt hK37 ?_; refine sq fun hK38 => ?_
  refine ro [yV (.bool true), yV _, yV (aggV (⟨0, 0, []⟩ : Vl)), yV (aggV (⟨0, 0, []⟩ : Vl)), yV (aggV (⟨0, 0, []⟩ : Vl)), ySlice fw.heap.size 3 (rowObj [(⟨0, 0, []⟩ : Vl), (⟨0, 0, []⟩ : Vl), (⟨0, 0, []⟩ : Vl)]), yV (.bool true), yV _, yV _, yV (aggV (⟨3, 0, List.replicate 200 120⟩ : Vl)), yV (aggV (⟨3, 0, List.replicate 56 120⟩ : Vl)), yV (.bool true), yV _, yV _, yV (aggV (⟨3, 0, List.replicate 200 120⟩ : Vl)), yV _, yV _, yV _, yV (aggV (⟨3, 0, List.replicate 57 120⟩ : Vl)), yV (.bool true), yV _, yV _, yV _, yV _, yV (aggV (⟨3, 0, List.replicate 257 120⟩ : Vl)), yV (aggV (⟨3, 0, List.replicate 56 120⟩ : Vl)), yV (.bool true), yV _, yV _, yV _, yV _, yV (.bool true), yV _, yV _] 34 124 z q ow (
    aC (fun hk bs hd => xcall2 rfl rfl rfl (en_louvrelaw13_FnumCalls _ _)) (fun hk bs hd => FnumCalls_walk 1 none 0 0 [] _ (wf_u8 (by omega) (by omega)) (vals_nil _) mx (HM.kept (ow.keep hk).kept)) rfl <|
    mvD 0 rfl rfl rfl rfl rfl rfl <|
    armS (wg (j := 1) (b := true) rfl rfl rfl) (fun aa ww hk bs hd => xbuild (us := #[]) rfl (by simp) (by kernel_rfl)) rfl <|
    armS (wg (j := 1) (b := true) rfl rfl rfl) (fun aa ww hk bs hd => xbuild (us := #[]) rfl (by simp) (by kernel_rfl)) rfl <|
    armS (wg (j := 1) (b := true) rfl rfl rfl) (fun aa ww hk bs hd => xbuild (us := #[]) rfl (by simp) (by kernel_rfl)) rfl <|
    arm (fun aa ww hk bs hd => by
      have d1 := dp hd 1 rfl; have d2 := dp hd 2 rfl; have d3 := dp hd 3 rfl; have d4 := dp hd 4 rfl; exact stepX_new _ (want1 (j := 1) (b := true) rfl d1) (xrow3 rfl (d2) (d3) (d4)) ⟨_, rfl, hk.size, Go.heap_alloc_new _ _⟩ ((Kept.refl _).alloc _) rfl (Nat.le_refl _)
      ) <|
    arm (fun aa ww hk bs hd => by
      have d1 := dp hd 1 rfl; have d5 := dL hd 5 rfl; obtain ⟨g5, e5, _, h5⟩ := d5; exact stepX_enter (want1 (j := 1) (b := true) rfl d1) (xcall2 (u := .int .u8 5) (v := .slice (some ⟨g5, 0, none⟩) 3 3) rfl rfl e5 (en_louvrelaw13_FnumCalls _ _)) ((FnumCalls_walk 5 (some ⟨g5, 0, none⟩) 3 3 [(⟨0, 0, []⟩ : Vl), (⟨0, 0, []⟩ : Vl), (⟨0, 0, []⟩ : Vl)] ww (wf_u8 (by omega) (by omega)) (vals_obj h5 (wide3 (wide_lit (by simp only; omega) (by simp only; omega) (by simp)) (wide_lit (by simp only; omega) (by simp only; omega) (by simp)) (wide_lit (by simp only; omega) (by simp only; omega) (by simp))) (by simp)) mx (HM.kept (ow.keep hk).kept)).mono fun _ _ ⟨he, hk2⟩ => ⟨_, he, rfl, hk2⟩) rfl
      ) <|
    aS (fun hk bs hd => xpickT rfl (dp hd 1 rfl) (dp hd 6 rfl)) rfl <|
    mvD 7 rfl rfl rfl rfl rfl rfl <|
    armS (wg (j := 8) (b := true) rfl rfl rfl) (fun aa ww hk bs hd => xloadN 3 rfl (by kernel_rfl) (by kernel_rfl) (bg bs s9) ((ow.keep hk).box 1 rfl) (Nat.le_of_ble_eq_true rfl) rfl) rfl <|
    armS (wg (j := 8) (b := true) rfl rfl rfl) (fun aa ww hk bs hd => xloadN 3 rfl (by kernel_rfl) (by kernel_rfl) (bg bs s10) ((ow.keep hk).box 0 rfl) (Nat.le_of_ble_eq_true rfl) rfl) rfl <|
    armC (wg (j := 8) (b := true) rfl rfl rfl) (fun aa ww hk bs hd => xcall3 rfl rfl (dp hd 9 rfl) (dp hd 10 rfl) (en_louvrelaw13_FnumBinaries _ _)) (fun aa ww hk bs hd => FnumBinaries_walk 6 (⟨3, 0, List.replicate 200 120⟩ : Vl) (⟨3, 0, List.replicate 56 120⟩ : Vl) (wf_i64 (by omega) (by omega)) (wide_lit (by simp only; omega) (by simp only; omega) (by simp)) (wide_lit (by simp only; omega) (by simp only; omega) (by simp)) ww mx (HM.kept (ow.keep hk).kept)) rfl <|
    aS (fun hk bs hd => xpickT rfl (dp hd 8 rfl) (dp hd 11 rfl)) rfl <|
    mvD 12 rfl rfl rfl rfl rfl rfl <|
    armS (wg (j := 13) (b := true) rfl rfl rfl) (fun aa ww hk bs hd => xloadN 3 rfl (by kernel_rfl) (by kernel_rfl) (bg bs s9) ((ow.keep hk).box 1 rfl) (Nat.le_of_ble_eq_true rfl) rfl) rfl <|
    armS (wg (j := 13) (b := true) rfl rfl rfl) (fun aa ww hk bs hd => xmove rfl (bg bs s7)) rfl <|
    armS (wg (j := 13) (b := true) rfl rfl rfl) (fun aa ww hk bs hd => xsliceToB rfl (h := 57) (dp hd 15 rfl) rfl (by decide)) rfl <|
    armS (wg (j := 13) (b := true) rfl rfl rfl) (fun aa ww hk bs hd => xstrC (c := 120) (n := 257) rfl (dp hd 16 rfl) ((ow.keep hk).box 2 rfl) (by decide)) rfl <|
    arm (fun aa ww hk bs hd => by
      have d13 := dp hd 13 rfl; have d17 : aa.eval (.tmp 108) = .string ⟨(List.replicate 57 120).toArray⟩ := depX hd 17 rfl; exact stepX_same (v := aggV (⟨3, 0, List.replicate 57 120⟩ : Vl)) (want1 (j := 13) (b := true) rfl d13) (xbuild (us := #[(0, .int .u8 3), (2, .string ⟨(List.replicate 57 120).toArray⟩)]) rfl (by simp only [List.map_toArray, List.map_cons, List.map_nil, d17]; rfl) (by kernel_rfl)) rfl rfl
      ) <|
    armC (wg (j := 13) (b := true) rfl rfl rfl) (fun aa ww hk bs hd => xcall3 rfl rfl (dp hd 14 rfl) (dp hd 18 rfl) (en_louvrelaw13_FnumBinaries _ _)) (fun aa ww hk bs hd => FnumBinaries_walk 6 (⟨3, 0, List.replicate 200 120⟩ : Vl) (⟨3, 0, List.replicate 57 120⟩ : Vl) (wf_i64 (by omega) (by omega)) (wide_lit (by simp only; omega) (by simp only; omega) (by simp)) (wide_lit (by simp only; omega) (by simp only; omega) (by simp)) ww mx (HM.kept (ow.keep hk).kept)) rfl <|
    aS (fun hk bs hd => xpickT rfl (dp hd 13 rfl) (dp hd 19 rfl)) rfl <|
    mvD 20 rfl rfl rfl rfl rfl rfl <|
    armS (wg (j := 21) (b := true) rfl rfl rfl) (fun aa ww hk bs hd => xmove rfl (bg bs s7)) rfl <|
    armS (wg (j := 21) (b := true) rfl rfl rfl) (fun aa ww hk bs hd => xstrC (c := 120) (n := 257) rfl (dp hd 22 rfl) ((ow.keep hk).box 2 rfl) (by decide)) rfl <|
    arm (fun aa ww hk bs hd => by
      have d21 := dp hd 21 rfl; have d23 : aa.eval (.tmp 114) = .string ⟨(List.replicate 257 120).toArray⟩ := depX hd 23 rfl; exact stepX_same (v := aggV (⟨3, 0, List.replicate 257 120⟩ : Vl)) (want1 (j := 21) (b := true) rfl d21) (xbuild (us := #[(0, .int .u8 3), (2, .string ⟨(List.replicate 257 120).toArray⟩)]) rfl (by simp only [List.map_toArray, List.map_cons, List.map_nil, d23]; rfl) (by kernel_rfl)) rfl rfl
      ) <|
    armS (wg (j := 21) (b := true) rfl rfl rfl) (fun aa ww hk bs hd => xloadN 3 rfl (by kernel_rfl) (by kernel_rfl) (bg bs s10) ((ow.keep hk).box 0 rfl) (Nat.le_of_ble_eq_true rfl) rfl) rfl <|
    armC (wg (j := 21) (b := true) rfl rfl rfl) (fun aa ww hk bs hd => xcall3 rfl rfl (dp hd 24 rfl) (dp hd 25 rfl) (en_louvrelaw13_FnumBinaries _ _)) (fun aa ww hk bs hd => FnumBinaries_walk 6 (⟨3, 0, List.replicate 257 120⟩ : Vl) (⟨3, 0, List.replicate 56 120⟩ : Vl) (wf_i64 (by omega) (by omega)) (wide_lit (by simp only; omega) (by simp only; omega) (by simp)) (wide_lit (by simp only; omega) (by simp only; omega) (by simp)) ww mx (HM.kept (ow.keep hk).kept)) rfl <|
    aS (fun hk bs hd => xpickT rfl (dp hd 21 rfl) (dp hd 26 rfl)) rfl <|
    mvD 27 rfl rfl rfl rfl rfl rfl <|
    aS (fun hk bs hd => xpickT rfl (dp hd 28 rfl) rfl) rfl <|
    mvD 29 rfl rfl rfl rfl rfl rfl <|
    armC (wg (j := 30) (b := true) rfl rfl rfl) (fun aa ww hk bs hd => xcall0 rfl (en_louvrelaw13_awake _ _)) (fun aa ww hk bs hd => awake13_any ww mx (HM.kept (ow.keep hk).kept)) rfl <|
    aS (fun hk bs hd => xpickT rfl (dp hd 30 rfl) (dp hd 31 rfl)) rfl <|
    asD 32 rfl rfl rfl rfl rfl rfl <|
    arm0) fun fa fw bs hv ap z q ow => ?_
  have s0 := gv hv 33 rfl rfl; refine wt hK38 ?_; refine wp_ret ?_; refine results_one rfl (res_tmp s0) q ?_; exact ⟨rfl, ow.kept⟩
end Go.Proofs.YtbpkfnoenkoabaaGreatDoor
