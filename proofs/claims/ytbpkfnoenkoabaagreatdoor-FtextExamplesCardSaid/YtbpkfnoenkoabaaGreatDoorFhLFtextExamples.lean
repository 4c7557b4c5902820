/- The law FtextExamples, walked (printed by wip/mklaw13.py). -/
import Derived.Test.YtbpkfnoenkoabaaGreatDoorFhLFtextCalls
import Derived.Test.YtbpkfnoenkoabaaGreatDoorFhMixBA
namespace Go.Proofs.YtbpkfnoenkoabaaGreatDoor
set_option linter.unusedVariables false
set_option linter.unusedSimpArgs false
open Go.RowKit Lv
set_option maxRecDepth 100000
theorem rowV_own {w : World} {base n c : Nat} {A : Option Addr} {l : List Vl} (h : w.ownsRow base 25 3 (.slice A n c) l.length (flatV l)) : RowV w A l := by
  obtain ⟨A2, c2, e, r, _⟩ := OwnV.row (l := l) h
  cases e
  exact r
theorem vals_blank {w : World} {g : Nat} (n : Nat) (h : w.heap[g]? = some (rowObj (List.replicate n blankV))) (hn : n ≤ 300) : ValsIn w (some ⟨g, 0, none⟩) n n (List.replicate n blankV) := by
  have := vals_obj h (fun v hv => by rw [List.eq_of_mem_replicate hv]; exact wide_lit (by decide) (by decide) (by decide)) (by simp; exact hn)
  rwa [List.length_replicate] at this
theorem xmakeV {a : Act} {w : World} {o : Oper} {n : Nat} {x y : Operand} (ho : o.op = .makeSlice 22 x y) (hx : a.eval x = .int .i64 n) (hy : a.eval y = .int .i64 n) (hn : n ≤ 1000) (he : madeCells #[.int .u8 0, .int .i64 0, .string ByteArray.empty] (n * 3) = (flatV (List.replicate n blankV)).toArray) : (execOp a.eval o).run Tryz.prog w = .ok (.value (.slice (some ⟨w.heap.size, 0, none⟩) n n)) (w.alloc (rowObj (List.replicate n blankV))) := by
  obtain ⟨i, hi, h1, h2, h3⟩ := info_val; have hr := run_make (P := Tryz.prog) w 22 25 i _ Tryz.underlying22 hi h1 .i64 .i64 n n (by omega) (Int.le_refl _) (by rw [h3]; omega) (by omega)
  simp only [Int.toNat_natCast] at hr
  rw [h2, show (Value.agg #[.int .u8 0, .int .i64 0, .string ByteArray.empty]).cells = #[.int .u8 0, .int .i64 0, .string ByteArray.empty] from rfl, he] at hr; unfold execOp
  simp only [ho, hx, hy, Sem.run_bind, Sem.run_pure, hr, Result.andThen_ok]
theorem cq_of (n : Int) : ∃ cq : Nat, max (0 : Int) (Int.tmod n 4) = (cq : Int) ∧ cq ≤ ([97, 98, 99, 98] : List UInt8).length := by
  have h1 := Int.tmod_lt_of_pos n (show (0 : Int) < 4 by omega); refine ⟨(max (0 : Int) (Int.tmod n 4)).toNat, by omega, ?_⟩; show (max (0 : Int) (Int.tmod n 4)).toNat ≤ 4
  omega
theorem en_louvrelaw13_Values : En 25 := by intro args w; go_simp
theorem en_louvrelaw14_FtextCalls : En 3 := by intro args w; go_simp
theorem en_louvrelaw14_awake : En 24 := by intro args w; go_simp
set_option maxHeartbeats 8000000 in
theorem FtextExamples_walk (w : World) (mx : Int) (HM : Mx w mx) :
    Calls Tryz.prog 4 #[] w fun e w' => e = .returned (.bool true) ∧ Below w.heap.size w w' := by
  go_enter Tryz.func4, Tryz.ntmps4; refine sq fun hK1 => ?_
  refine ro [yV _] 1 244 rfl rfl (Own.start w) (
    aS (fun hk bs hd => xassign rfl rfl) rfl <|
    arm0) fun fa fw bs hv ap z q ow => ?_
  have s0 := gv hv 0 rfl rfl; refine wt hK1 ?_; refine sq fun hK2 => ?_; refine wp_region_lit ?_; refine wl_enter (want0 rfl) (xcall0 rfl (en_louvrelaw13_Values _ _)) ((values_any _).mono ?_); rintro _ fw ⟨l, hl, hw, v9, rfl, hown, hk⟩; refine ⟨_, rfl, ?_⟩; rcases (rfl : (0 : Nat) = 0) with _
  have ow := ow.add (t := Th.row _ 25 3 _ l.length (flatV l)) hown hk (fun g e => (World.ownsRow.lt hown g e).1); clear hk hown; obtain ⟨A9, cl, rfl, _, _, hn9⟩ := OwnV.row (l := l) (ow.row 0 rfl); obtain ⟨gl, rfl, _⟩ := hn9 (fun c => by rw [c] at hl; cases hl); refine wl_value (v := .slice (some ⟨gl, 0, none⟩) l.length cl) (want0 rfl) (xassign rfl (put_in (t := 11) z rfl)) ?_; refine gt2 (put_size (put_size z)) (put_def (put_def q)) ow 0 (pb 1 (pb 11 s0 rfl) rfl) 1 (put_in (t := 1) (put_size z) rfl) fun fa fw z q ow s0 s1 => ?_; refine wt hK2 ?_; refine sq fun hK3 => ?_
  refine ro [yV (aggV (⟨3, 0, [97, 98, 99, 98]⟩ : Vl)), yNew fw.heap.size (.cells #[.int .u8 0, .int .i64 0, .string ⟨[].toArray⟩] 25 (0, 0))] 2 244 z q ow (
    aS (fun hk bs hd => xbuild (us := #[(0, .int .u8 3), (2, .string ⟨[97, 98, 99, 98].toArray⟩)]) rfl (by simp only [List.map_toArray, List.map_cons, List.map_nil]; rfl) (by kernel_rfl)) rfl <|
    aP (fun hk bs hd => xalloc rfl (by kernel_rfl)) rfl <|
    arm0) fun fa fw bs hv ap z q ov => ?_
  obtain ⟨s0, s1⟩ := b2 bs s0 s1; have s12 := gv hv 0 rfl rfl; obtain ⟨gb1, s2, bgb1, hgb1⟩ := gotP hv 1 rfl rfl rfl; have ov := ov.cons hgb1 (Nat.le_trans ow.kept.size bgb1) (ow.below bgb1); have ow := ov; refine ws ow 0 0 s2 s12 fun fw ow => ?_; refine wt hK3 ?_; refine sq fun hK4 => ?_; refine sq fun hK5 => ?_
  refine ro [yV _] 1 244 z q ow (
    aS (fun hk bs hd => xassign rfl rfl) rfl <|
    arm0) fun fa fw bs hv ap z q ow => ?_
  obtain ⟨s0, s1, s2⟩ := b3 bs s0 s1 s2; have s3 := gv hv 0 rfl rfl; refine wt hK5 ?_; refine wp_block ?_; refine wp_loop_g (fun (f : Nat) fr u => (f ≤ 52) ∧ fr.tmps.size = 244 ∧ fr.defers = [] ∧ Own w [Th.obj gb1 (.cells #[.int .u8 3, .int .i64 0, .string ⟨[97, 98, 99, 98].toArray⟩] 25 (0, 0)), Th.row _ 25 3 (.slice (some ⟨gl, 0, none⟩) l.length cl) l.length (flatV l)] u ∧ fr.eval (.tmp 0) = .bool false ∧ fr.eval (.tmp 1) = .slice (some ⟨gl, 0, none⟩) l.length cl ∧ fr.eval (.tmp 2) = .pointer (some ⟨gb1, 0, none⟩) ∧ fr.eval (.tmp 3) = .int .u8 (f : Int)) (fun f => 52 - f) 0 ⟨(Nat.zero_le _), z, q, ow, s0, s1, s2, s3⟩ (fun f b_ u_ hI => ?_)
  revert b_ u_; intro fa fw hI
  obtain ⟨hf0, z, q, ow, s0, s1, s2, s3⟩ := hI; refine sq fun hK6 => ?_; refine sq fun hK7 => ?_
  refine ro [yV _, yV _] 2 244 z q ow (
    mvS s3 rfl rfl rfl rfl <|
    aS (fun hk bs hd => xleq rfl (dp hd 0 rfl) rfl) rfl <|
    arm0) fun fa fw bs hv ap z q ow => ?_
  obtain ⟨s0, s1, s2, s3⟩ := b4 bs s0 s1 s2 s3; have s14 := gv hv 1 rfl rfl; refine wt hK7 ?_
  by_cases hc1 : (f : Int) ≤ (51 : Int)
  ·refine ct s14 ((decide_eq_true_iff).2 hc1) ?_
   refine wp_skip ?_; refine tn hK6 ?_; refine sq fun hK8 => ?_; refine wp_block ?_; refine sq fun hK9 => ?_
   refine ro [yV _] 1 244 z q ow (
     aS (fun hk bs hd => xassign rfl rfl) rfl <|
     arm0) fun fa fw bs hv ap z q ow => ?_
   obtain ⟨s0, s1, s2, s3⟩ := b4 bs s0 s1 s2 s3; have s4 := gv hv 0 rfl rfl; refine wt hK9 ?_; refine wp_block ?_; refine wp_loop_g (fun (k : Nat) fr u => (k ≤ l.length) ∧ fr.tmps.size = 244 ∧ fr.defers = [] ∧ Own w [Th.obj gb1 (.cells #[.int .u8 3, .int .i64 0, .string ⟨[97, 98, 99, 98].toArray⟩] 25 (0, 0)), Th.row _ 25 3 (.slice (some ⟨gl, 0, none⟩) l.length cl) l.length (flatV l)] u ∧ fr.eval (.tmp 0) = .bool false ∧ fr.eval (.tmp 1) = .slice (some ⟨gl, 0, none⟩) l.length cl ∧ fr.eval (.tmp 2) = .pointer (some ⟨gb1, 0, none⟩) ∧ fr.eval (.tmp 3) = .int .u8 (f : Int) ∧ fr.eval (.tmp 4) = .int .i64 (k : Int)) (fun k => l.length - k) 0 ⟨(Nat.zero_le _), z, q, ow, s0, s1, s2, s3, s4⟩ (fun k b_ u_ hI => ?_)
   revert b_ u_; intro fa fw hI
   obtain ⟨hk0, z, q, ow, s0, s1, s2, s3, s4⟩ := hI; refine sq fun hK10 => ?_; refine sq fun hK11 => ?_
   refine ro [yV _, yV _, yV _, yV _] 4 244 z q ow (
     mvS s4 rfl rfl rfl rfl <|
     mvS s1 rfl rfl rfl rfl <|
     aS (fun hk bs hd => xlen Tryz.underlying22 rfl (dp hd 1 rfl)) rfl <|
     aS (fun hk bs hd => xlss rfl (dp hd 0 rfl) (dp hd 2 rfl)) rfl <|
     arm0) fun fa fw bs hv ap z q ow => ?_
   obtain ⟨s0, s1, s2, s3, s4⟩ := b5 bs s0 s1 s2 s3 s4; have s20 := gv hv 3 rfl rfl; refine wt hK11 ?_
   by_cases hc2 : (k : Int) < ((l.length : Nat) : Int)
   ·refine ct s20 ((decide_eq_true_iff).2 hc2) ?_
    refine wp_skip ?_; refine tn hK10 ?_; refine sq fun hK12 => ?_; refine wp_block ?_; refine sq fun hK13 => ?_; have hkl : k < l.length := by omega
    have hkl2 : l.length - 1 - k < l.length := by omega
    have hx2 : ((l.length : Nat) : Int) - 1 - (k : Int) = ((l.length - 1 - k : Nat) : Int) := by omega
    refine ro [yV _, yV _, yV _, yV _, yV (.int .i64 ((k + 1 : Nat) : Int)), yV (.slice (some ⟨gl, 0 + k * 3, none⟩) 1 (cl - k)), yV (.bool true), yV _, yV _, yV _, yV (aggV (⟨3, 0, [97, 98, 99, 98]⟩ : Vl)), yV _, yV _, yV _, yV (aggV (l.getD k blankV)), ySlice fw.heap.size 2 (rowObj [(⟨3, 0, [97, 98, 99, 98]⟩ : Vl), l.getD k blankV]), yV (.bool true), yV _, yV _, yV _, yV _, yV _, yV _, yV _, yV (aggV (l.getD k blankV)), yV (aggV (⟨3, 0, [97, 98, 99, 98]⟩ : Vl)), ySlice fw.heap.size 2 (rowObj [l.getD k blankV, (⟨3, 0, [97, 98, 99, 98]⟩ : Vl)]), yV (.bool true), yV _, yV _, yV _, yV _, yV _, yV _, yV _, yV (aggV (l.getD k blankV)), yV _, yV _, yV _, yV _, yV _, yV (.int .i64 ((l.length - 1 - k : Nat) : Int)), yV _, yV (aggV (l.getD (l.length - 1 - k) blankV)), ySlice fw.heap.size 2 (rowObj [l.getD k blankV, l.getD (l.length - 1 - k) blankV]), yV (.bool true), yV _, yV _, yV _, yV _, yV (aggV (⟨3, 0, [97, 98, 99, 98]⟩ : Vl)), yV _, yV _, yV _, yV (aggV (l.getD k blankV)), yV (aggV (⟨1, 20000, []⟩ : Vl)), ySlice fw.heap.size 3 (rowObj [(⟨3, 0, [97, 98, 99, 98]⟩ : Vl), l.getD k blankV, (⟨1, 20000, []⟩ : Vl)]), yV (.bool true), yV _, yV _, yV _, yV _, yV (aggV (⟨3, 0, [97, 98, 99, 98]⟩ : Vl)), yV (aggV (⟨1, 20000, []⟩ : Vl)), yV _, yV _, yV _, yV (aggV (l.getD k blankV)), ySlice fw.heap.size 3 (rowObj [(⟨3, 0, [97, 98, 99, 98]⟩ : Vl), (⟨1, 20000, []⟩ : Vl), l.getD k blankV]), yV (.bool true), yV _, yV _, yV _, yV _, yV (aggV (⟨3, 0, [97, 98, 99, 98]⟩ : Vl)), yV (aggV (⟨3, 0, [97, 98, 99, 98]⟩ : Vl)), yV _, yV _, yV _, yV (aggV (l.getD k blankV)), ySlice fw.heap.size 3 (rowObj [(⟨3, 0, [97, 98, 99, 98]⟩ : Vl), (⟨3, 0, [97, 98, 99, 98]⟩ : Vl), l.getD k blankV]), yV (.bool true), yV _, yV _] 84 244 z q ow (
      mvS s3 rfl rfl rfl rfl <|
      mvS s1 rfl rfl rfl rfl <|
      mvS s4 rfl rfl rfl rfl <|
      mvS s4 rfl rfl rfl rfl <|
      aS (fun hk bs hd => xadd (Or.inl rfl) rfl (dp hd 3 rfl) rfl (by omega) (by omega)) rfl <|
      aE (fun hk bs hd => xslicePart Tryz.underlying22 (by kernel_rfl) rfl (l := k) (h := k + 1) (dp hd 1 rfl) (dp hd 2 rfl) (dp hd 4 rfl) (by omega) (by have := (OwnV.cap ((ow.keep hk).row 1 rfl)).2.1; omega) (by have := (OwnV.cap ((ow.keep hk).row 1 rfl)).2.1; omega)) (by rw [Nat.add_sub_cancel_left]) rfl <|
      aC (fun hk bs hd => xcall2 rfl (dp hd 0 rfl) (dp hd 5 rfl) (en_louvrelaw14_FtextCalls _ _)) (fun hk bs hd => FtextCalls_walk (f : Int) (some ⟨gl, 0 + k * 3, none⟩) 1 (cl - k) [l.getD k blankV] _ (wf_u8 (by omega) (by omega)) (vals_part ((ow.keep hk).row 1 rfl) hw hkl) mx (HM.kept (ow.keep hk).kept)) rfl <|
      aS (fun hk bs hd => xnot rfl (dp hd 6 rfl)) rfl <|
      mvD 7 rfl rfl rfl rfl rfl rfl <|
      armS (wg (j := 8) (b := false) rfl rfl rfl) (fun aa ww hk bs hd => xmove rfl (bg bs s3)) rfl <|
      armS (wg (j := 8) (b := false) rfl rfl rfl) (fun aa ww hk bs hd => xloadN 3 rfl (by kernel_rfl) (by kernel_rfl) (bg bs s2) ((ow.keep hk).box 0 rfl) (Nat.le_of_ble_eq_true rfl) rfl) rfl <|
      armS (wg (j := 8) (b := false) rfl rfl rfl) (fun aa ww hk bs hd => xmove rfl (bg bs s1)) rfl <|
      armS (wg (j := 8) (b := false) rfl rfl rfl) (fun aa ww hk bs hd => xmove rfl (bg bs s4)) rfl <|
      armS (wg (j := 8) (b := false) rfl rfl rfl) (fun aa ww hk bs hd => xplaceV rfl (k := k) (dp hd 11 rfl) (dp hd 12 rfl) hkl) rfl <|
      armS (wg (j := 8) (b := false) rfl rfl rfl) (fun aa ww hk bs hd => xatV rfl (l := l) (k := k) (dp hd 13 rfl) (rowV_own (l := l) ((ow.keep hk).row 1 rfl)) hkl) rfl <|
      arm (fun aa ww hk bs hd => by
        have d8 := dp hd 8 rfl; have d10 := dp hd 10 rfl; have d14 := dp hd 14 rfl; exact stepX_new _ (want1 (j := 8) (b := false) rfl d8) (xrow2 rfl (d10) (d14)) ⟨_, rfl, hk.size, Go.heap_alloc_new _ _⟩ ((Kept.refl _).alloc _) rfl (Nat.le_refl _)
        ) <|
      arm (fun aa ww hk bs hd => by
        have d8 := dp hd 8 rfl; have d9 := dp hd 9 rfl; have d15 := dL hd 15 rfl; obtain ⟨g15, e15, _, h15⟩ := d15; exact stepX_enter (want1 (j := 8) (b := false) rfl d8) (xcall2 (u := .int .u8 (f : Int)) (v := .slice (some ⟨g15, 0, none⟩) 2 2) rfl (d9) e15 (en_louvrelaw14_FtextCalls _ _)) ((FtextCalls_walk (f : Int) (some ⟨g15, 0, none⟩) 2 2 [(⟨3, 0, [97, 98, 99, 98]⟩ : Vl), l.getD k blankV] ww (wf_u8 (by omega) (by omega)) (vals_obj h15 (wide2 (wide_lit (by simp only; omega) (by simp only; omega) (by simp; try omega)) (wideD hw hkl)) (by simp)) mx (HM.kept (ow.keep hk).kept)).mono fun _ _ ⟨he, hk2⟩ => ⟨_, he, rfl, hk2⟩) rfl
        ) <|
      armS (wg (j := 8) (b := false) rfl rfl rfl) (fun aa ww hk bs hd => xnot rfl (dp hd 16 rfl)) rfl <|
      aS (fun hk bs hd => xpickF rfl (dp hd 8 rfl) (dp hd 17 rfl)) rfl <|
      mvD 18 rfl rfl rfl rfl rfl rfl <|
      armS (wg (j := 19) (b := false) rfl rfl rfl) (fun aa ww hk bs hd => xmove rfl (bg bs s3)) rfl <|
      armS (wg (j := 19) (b := false) rfl rfl rfl) (fun aa ww hk bs hd => xmove rfl (bg bs s1)) rfl <|
      armS (wg (j := 19) (b := false) rfl rfl rfl) (fun aa ww hk bs hd => xmove rfl (bg bs s4)) rfl <|
      armS (wg (j := 19) (b := false) rfl rfl rfl) (fun aa ww hk bs hd => xplaceV rfl (k := k) (dp hd 21 rfl) (dp hd 22 rfl) hkl) rfl <|
      armS (wg (j := 19) (b := false) rfl rfl rfl) (fun aa ww hk bs hd => xatV rfl (l := l) (k := k) (dp hd 23 rfl) (rowV_own (l := l) ((ow.keep hk).row 1 rfl)) hkl) rfl <|
      armS (wg (j := 19) (b := false) rfl rfl rfl) (fun aa ww hk bs hd => xloadN 3 rfl (by kernel_rfl) (by kernel_rfl) (bg bs s2) ((ow.keep hk).box 0 rfl) (Nat.le_of_ble_eq_true rfl) rfl) rfl <|
      arm (fun aa ww hk bs hd => by
        have d19 := dp hd 19 rfl; have d24 := dp hd 24 rfl; have d25 := dp hd 25 rfl; exact stepX_new _ (want1 (j := 19) (b := false) rfl d19) (xrow2 rfl (d24) (d25)) ⟨_, rfl, hk.size, Go.heap_alloc_new _ _⟩ ((Kept.refl _).alloc _) rfl (Nat.le_refl _)
        ) <|
      arm (fun aa ww hk bs hd => by
        have d19 := dp hd 19 rfl; have d20 := dp hd 20 rfl; have d26 := dL hd 26 rfl; obtain ⟨g26, e26, _, h26⟩ := d26; exact stepX_enter (want1 (j := 19) (b := false) rfl d19) (xcall2 (u := .int .u8 (f : Int)) (v := .slice (some ⟨g26, 0, none⟩) 2 2) rfl (d20) e26 (en_louvrelaw14_FtextCalls _ _)) ((FtextCalls_walk (f : Int) (some ⟨g26, 0, none⟩) 2 2 [l.getD k blankV, (⟨3, 0, [97, 98, 99, 98]⟩ : Vl)] ww (wf_u8 (by omega) (by omega)) (vals_obj h26 (wide2 (wideD hw hkl) (wide_lit (by simp only; omega) (by simp only; omega) (by simp; try omega))) (by simp)) mx (HM.kept (ow.keep hk).kept)).mono fun _ _ ⟨he, hk2⟩ => ⟨_, he, rfl, hk2⟩) rfl
        ) <|
      armS (wg (j := 19) (b := false) rfl rfl rfl) (fun aa ww hk bs hd => xnot rfl (dp hd 27 rfl)) rfl <|
      aS (fun hk bs hd => xpickF rfl (dp hd 19 rfl) (dp hd 28 rfl)) rfl <|
      mvD 29 rfl rfl rfl rfl rfl rfl <|
      armS (wg (j := 30) (b := false) rfl rfl rfl) (fun aa ww hk bs hd => xmove rfl (bg bs s3)) rfl <|
      armS (wg (j := 30) (b := false) rfl rfl rfl) (fun aa ww hk bs hd => xmove rfl (bg bs s1)) rfl <|
      armS (wg (j := 30) (b := false) rfl rfl rfl) (fun aa ww hk bs hd => xmove rfl (bg bs s4)) rfl <|
      armS (wg (j := 30) (b := false) rfl rfl rfl) (fun aa ww hk bs hd => xplaceV rfl (k := k) (dp hd 32 rfl) (dp hd 33 rfl) hkl) rfl <|
      armS (wg (j := 30) (b := false) rfl rfl rfl) (fun aa ww hk bs hd => xatV rfl (l := l) (k := k) (dp hd 34 rfl) (rowV_own (l := l) ((ow.keep hk).row 1 rfl)) hkl) rfl <|
      armS (wg (j := 30) (b := false) rfl rfl rfl) (fun aa ww hk bs hd => xmove rfl (bg bs s1)) rfl <|
      armS (wg (j := 30) (b := false) rfl rfl rfl) (fun aa ww hk bs hd => xmove rfl (bg bs s1)) rfl <|
      armS (wg (j := 30) (b := false) rfl rfl rfl) (fun aa ww hk bs hd => xlen Tryz.underlying22 rfl (dp hd 37 rfl)) rfl <|
      armS (wg (j := 30) (b := false) rfl rfl rfl) (fun aa ww hk bs hd => xsub (Or.inl rfl) rfl (dp hd 38 rfl) rfl (by omega) (by omega)) rfl <|
      armS (wg (j := 30) (b := false) rfl rfl rfl) (fun aa ww hk bs hd => xmove rfl (bg bs s4)) rfl <|
      armE (wg (j := 30) (b := false) rfl rfl rfl) (fun aa ww hk bs hd => xsub (Or.inl rfl) rfl (dp hd 39 rfl) (dp hd 40 rfl) (by omega) (by omega)) (congrArg (Value.int .i64) hx2) rfl <|
      armS (wg (j := 30) (b := false) rfl rfl rfl) (fun aa ww hk bs hd => xplaceV rfl (k := (l.length - 1 - k)) (dp hd 36 rfl) (dp hd 41 rfl) hkl2) rfl <|
      armS (wg (j := 30) (b := false) rfl rfl rfl) (fun aa ww hk bs hd => xatV rfl (l := l) (k := (l.length - 1 - k)) (dp hd 42 rfl) (rowV_own (l := l) ((ow.keep hk).row 1 rfl)) hkl2) rfl <|
      arm (fun aa ww hk bs hd => by
        have d30 := dp hd 30 rfl; have d35 := dp hd 35 rfl; have d43 := dp hd 43 rfl; exact stepX_new _ (want1 (j := 30) (b := false) rfl d30) (xrow2 rfl (d35) (d43)) ⟨_, rfl, hk.size, Go.heap_alloc_new _ _⟩ ((Kept.refl _).alloc _) rfl (Nat.le_refl _)
        ) <|
      arm (fun aa ww hk bs hd => by
        have d30 := dp hd 30 rfl; have d31 := dp hd 31 rfl; have d44 := dL hd 44 rfl; obtain ⟨g44, e44, _, h44⟩ := d44; exact stepX_enter (want1 (j := 30) (b := false) rfl d30) (xcall2 (u := .int .u8 (f : Int)) (v := .slice (some ⟨g44, 0, none⟩) 2 2) rfl (d31) e44 (en_louvrelaw14_FtextCalls _ _)) ((FtextCalls_walk (f : Int) (some ⟨g44, 0, none⟩) 2 2 [l.getD k blankV, l.getD (l.length - 1 - k) blankV] ww (wf_u8 (by omega) (by omega)) (vals_obj h44 (wide2 (wideD hw hkl) (wideD hw hkl2)) (by simp)) mx (HM.kept (ow.keep hk).kept)).mono fun _ _ ⟨he, hk2⟩ => ⟨_, he, rfl, hk2⟩) rfl
        ) <|
      armS (wg (j := 30) (b := false) rfl rfl rfl) (fun aa ww hk bs hd => xnot rfl (dp hd 45 rfl)) rfl <|
      aS (fun hk bs hd => xpickF rfl (dp hd 30 rfl) (dp hd 46 rfl)) rfl <|
      mvD 47 rfl rfl rfl rfl rfl rfl <|
      armS (wg (j := 48) (b := false) rfl rfl rfl) (fun aa ww hk bs hd => xmove rfl (bg bs s3)) rfl <|
      armS (wg (j := 48) (b := false) rfl rfl rfl) (fun aa ww hk bs hd => xloadN 3 rfl (by kernel_rfl) (by kernel_rfl) (bg bs s2) ((ow.keep hk).box 0 rfl) (Nat.le_of_ble_eq_true rfl) rfl) rfl <|
      armS (wg (j := 48) (b := false) rfl rfl rfl) (fun aa ww hk bs hd => xmove rfl (bg bs s1)) rfl <|
      armS (wg (j := 48) (b := false) rfl rfl rfl) (fun aa ww hk bs hd => xmove rfl (bg bs s4)) rfl <|
      armS (wg (j := 48) (b := false) rfl rfl rfl) (fun aa ww hk bs hd => xplaceV rfl (k := k) (dp hd 51 rfl) (dp hd 52 rfl) hkl) rfl <|
      armS (wg (j := 48) (b := false) rfl rfl rfl) (fun aa ww hk bs hd => xatV rfl (l := l) (k := k) (dp hd 53 rfl) (rowV_own (l := l) ((ow.keep hk).row 1 rfl)) hkl) rfl <|
      armC (wg (j := 48) (b := false) rfl rfl rfl) (fun aa ww hk bs hd => xcall1 rfl rfl (en_louvrelaw14_num _ _)) (fun aa ww hk bs hd => lnum14_any 20000 ww) rfl <|
      arm (fun aa ww hk bs hd => by
        have d48 := dp hd 48 rfl; have d50 := dp hd 50 rfl; have d54 := dp hd 54 rfl; have d55 := dp hd 55 rfl; exact stepX_new _ (want1 (j := 48) (b := false) rfl d48) (xrow3 rfl (d50) (d54) (d55)) ⟨_, rfl, hk.size, Go.heap_alloc_new _ _⟩ ((Kept.refl _).alloc _) rfl (Nat.le_refl _)
        ) <|
      arm (fun aa ww hk bs hd => by
        have d48 := dp hd 48 rfl; have d49 := dp hd 49 rfl; have d56 := dL hd 56 rfl; obtain ⟨g56, e56, _, h56⟩ := d56; exact stepX_enter (want1 (j := 48) (b := false) rfl d48) (xcall2 (u := .int .u8 (f : Int)) (v := .slice (some ⟨g56, 0, none⟩) 3 3) rfl (d49) e56 (en_louvrelaw14_FtextCalls _ _)) ((FtextCalls_walk (f : Int) (some ⟨g56, 0, none⟩) 3 3 [(⟨3, 0, [97, 98, 99, 98]⟩ : Vl), l.getD k blankV, (⟨1, 20000, []⟩ : Vl)] ww (wf_u8 (by omega) (by omega)) (vals_obj h56 (wide3 (wide_lit (by simp only; omega) (by simp only; omega) (by simp; try omega)) (wideD hw hkl) (wide_lit (by simp only; omega) (by simp only; omega) (by simp; try omega))) (by simp)) mx (HM.kept (ow.keep hk).kept)).mono fun _ _ ⟨he, hk2⟩ => ⟨_, he, rfl, hk2⟩) rfl
        ) <|
      armS (wg (j := 48) (b := false) rfl rfl rfl) (fun aa ww hk bs hd => xnot rfl (dp hd 57 rfl)) rfl <|
      aS (fun hk bs hd => xpickF rfl (dp hd 48 rfl) (dp hd 58 rfl)) rfl <|
      mvD 59 rfl rfl rfl rfl rfl rfl <|
      armS (wg (j := 60) (b := false) rfl rfl rfl) (fun aa ww hk bs hd => xmove rfl (bg bs s3)) rfl <|
      armS (wg (j := 60) (b := false) rfl rfl rfl) (fun aa ww hk bs hd => xloadN 3 rfl (by kernel_rfl) (by kernel_rfl) (bg bs s2) ((ow.keep hk).box 0 rfl) (Nat.le_of_ble_eq_true rfl) rfl) rfl <|
      armC (wg (j := 60) (b := false) rfl rfl rfl) (fun aa ww hk bs hd => xcall1 rfl rfl (en_louvrelaw14_num _ _)) (fun aa ww hk bs hd => lnum14_any 20000 ww) rfl <|
      armS (wg (j := 60) (b := false) rfl rfl rfl) (fun aa ww hk bs hd => xmove rfl (bg bs s1)) rfl <|
      armS (wg (j := 60) (b := false) rfl rfl rfl) (fun aa ww hk bs hd => xmove rfl (bg bs s4)) rfl <|
      armS (wg (j := 60) (b := false) rfl rfl rfl) (fun aa ww hk bs hd => xplaceV rfl (k := k) (dp hd 64 rfl) (dp hd 65 rfl) hkl) rfl <|
      armS (wg (j := 60) (b := false) rfl rfl rfl) (fun aa ww hk bs hd => xatV rfl (l := l) (k := k) (dp hd 66 rfl) (rowV_own (l := l) ((ow.keep hk).row 1 rfl)) hkl) rfl <|
      arm (fun aa ww hk bs hd => by
        have d60 := dp hd 60 rfl; have d62 := dp hd 62 rfl; have d63 := dp hd 63 rfl; have d67 := dp hd 67 rfl; exact stepX_new _ (want1 (j := 60) (b := false) rfl d60) (xrow3 rfl (d62) (d63) (d67)) ⟨_, rfl, hk.size, Go.heap_alloc_new _ _⟩ ((Kept.refl _).alloc _) rfl (Nat.le_refl _)
        ) <|
      arm (fun aa ww hk bs hd => by
        have d60 := dp hd 60 rfl; have d61 := dp hd 61 rfl; have d68 := dL hd 68 rfl; obtain ⟨g68, e68, _, h68⟩ := d68; exact stepX_enter (want1 (j := 60) (b := false) rfl d60) (xcall2 (u := .int .u8 (f : Int)) (v := .slice (some ⟨g68, 0, none⟩) 3 3) rfl (d61) e68 (en_louvrelaw14_FtextCalls _ _)) ((FtextCalls_walk (f : Int) (some ⟨g68, 0, none⟩) 3 3 [(⟨3, 0, [97, 98, 99, 98]⟩ : Vl), (⟨1, 20000, []⟩ : Vl), l.getD k blankV] ww (wf_u8 (by omega) (by omega)) (vals_obj h68 (wide3 (wide_lit (by simp only; omega) (by simp only; omega) (by simp; try omega)) (wide_lit (by simp only; omega) (by simp only; omega) (by simp; try omega)) (wideD hw hkl)) (by simp)) mx (HM.kept (ow.keep hk).kept)).mono fun _ _ ⟨he, hk2⟩ => ⟨_, he, rfl, hk2⟩) rfl
        ) <|
      armS (wg (j := 60) (b := false) rfl rfl rfl) (fun aa ww hk bs hd => xnot rfl (dp hd 69 rfl)) rfl <|
      aS (fun hk bs hd => xpickF rfl (dp hd 60 rfl) (dp hd 70 rfl)) rfl <|
      mvD 71 rfl rfl rfl rfl rfl rfl <|
      armS (wg (j := 72) (b := false) rfl rfl rfl) (fun aa ww hk bs hd => xmove rfl (bg bs s3)) rfl <|
      armS (wg (j := 72) (b := false) rfl rfl rfl) (fun aa ww hk bs hd => xloadN 3 rfl (by kernel_rfl) (by kernel_rfl) (bg bs s2) ((ow.keep hk).box 0 rfl) (Nat.le_of_ble_eq_true rfl) rfl) rfl <|
      armS (wg (j := 72) (b := false) rfl rfl rfl) (fun aa ww hk bs hd => xloadN 3 rfl (by kernel_rfl) (by kernel_rfl) (bg bs s2) ((ow.keep hk).box 0 rfl) (Nat.le_of_ble_eq_true rfl) rfl) rfl <|
      armS (wg (j := 72) (b := false) rfl rfl rfl) (fun aa ww hk bs hd => xmove rfl (bg bs s1)) rfl <|
      armS (wg (j := 72) (b := false) rfl rfl rfl) (fun aa ww hk bs hd => xmove rfl (bg bs s4)) rfl <|
      armS (wg (j := 72) (b := false) rfl rfl rfl) (fun aa ww hk bs hd => xplaceV rfl (k := k) (dp hd 76 rfl) (dp hd 77 rfl) hkl) rfl <|
      armS (wg (j := 72) (b := false) rfl rfl rfl) (fun aa ww hk bs hd => xatV rfl (l := l) (k := k) (dp hd 78 rfl) (rowV_own (l := l) ((ow.keep hk).row 1 rfl)) hkl) rfl <|
      arm (fun aa ww hk bs hd => by
        have d72 := dp hd 72 rfl; have d74 := dp hd 74 rfl; have d75 := dp hd 75 rfl; have d79 := dp hd 79 rfl; exact stepX_new _ (want1 (j := 72) (b := false) rfl d72) (xrow3 rfl (d74) (d75) (d79)) ⟨_, rfl, hk.size, Go.heap_alloc_new _ _⟩ ((Kept.refl _).alloc _) rfl (Nat.le_refl _)
        ) <|
      arm (fun aa ww hk bs hd => by
        have d72 := dp hd 72 rfl; have d73 := dp hd 73 rfl; have d80 := dL hd 80 rfl; obtain ⟨g80, e80, _, h80⟩ := d80; exact stepX_enter (want1 (j := 72) (b := false) rfl d72) (xcall2 (u := .int .u8 (f : Int)) (v := .slice (some ⟨g80, 0, none⟩) 3 3) rfl (d73) e80 (en_louvrelaw14_FtextCalls _ _)) ((FtextCalls_walk (f : Int) (some ⟨g80, 0, none⟩) 3 3 [(⟨3, 0, [97, 98, 99, 98]⟩ : Vl), (⟨3, 0, [97, 98, 99, 98]⟩ : Vl), l.getD k blankV] ww (wf_u8 (by omega) (by omega)) (vals_obj h80 (wide3 (wide_lit (by simp only; omega) (by simp only; omega) (by simp; try omega)) (wide_lit (by simp only; omega) (by simp only; omega) (by simp; try omega)) (wideD hw hkl)) (by simp)) mx (HM.kept (ow.keep hk).kept)).mono fun _ _ ⟨he, hk2⟩ => ⟨_, he, rfl, hk2⟩) rfl
        ) <|
      armS (wg (j := 72) (b := false) rfl rfl rfl) (fun aa ww hk bs hd => xnot rfl (dp hd 81 rfl)) rfl <|
      aS (fun hk bs hd => xpickF rfl (dp hd 72 rfl) (dp hd 82 rfl)) rfl <|
      arm0) fun fa fw bs hv ap z q ow => ?_
    obtain ⟨s0, s1, s2, s3, s4⟩ := b5 bs s0 s1 s2 s3 s4; have s106 := gv hv 83 rfl rfl; refine wt hK13 ?_; refine wp_cond_false (s106) ?_; refine wp_skip ?_; refine block_n ?_; refine tn hK12 ?_
    refine ro [yV _, yV (.int .i64 ((k + 1 : Nat) : Int))] 2 244 z q ow (
      mvS s4 rfl rfl rfl rfl <|
      aS (fun hk bs hd => xadd (Or.inl rfl) rfl (dp hd 0 rfl) rfl (by omega) (by omega)) rfl <|
      arm0) fun fa fw bs hv ap z q ow => ?_
    obtain ⟨s0, s1, s2, s3, s4⟩ := b5 bs s0 s1 s2 s3 s4; have s22 := gv hv 1 rfl rfl; refine wl_value (v := .int .i64 ((k + 1 : Nat) : Int)) (want0 rfl) (xassign rfl s22) ?_; refine gp4 z q ow s0 s1 s2 s3 fun fa fw z q ow s0 s1 s2 s3 s4 => ?_; refine wl_end ?_; exact then_n ⟨(k + 1), ⟨(by omega), z, q, ow, s0, s1, s2, s3, s4⟩, (show l.length - (k + 1) < l.length - k by omega)⟩
   refine cf s20 (decide_eq_true_iff) hc2 ?_; refine wp_exit ?_; refine then_e ?_; refine then_e ?_; refine block_hit ?_; refine block_n ?_; refine tn hK8 ?_
   refine ro [yV _, yV (.int .u8 ((f + 1 : Nat) : Int))] 2 244 z q ow (
     mvS s3 rfl rfl rfl rfl <|
     aS (fun hk bs hd => xaddU8n (n := f) (m := 1) rfl (dp hd 0 rfl) rfl (by omega)) rfl <|
     arm0) fun fa fw bs hv ap z q ow => ?_
   obtain ⟨s0, s1, s2, s3⟩ := b4 bs s0 s1 s2 s3; have s16 := gv hv 1 rfl rfl; refine wl_value (v := .int .u8 ((f + 1 : Nat) : Int)) (want0 rfl) (xassign rfl s16) ?_; refine gp3 z q ow s0 s1 s2 fun fa fw z q ow s0 s1 s2 s3 => ?_; refine wl_end ?_; exact then_n ⟨(f + 1), ⟨(by omega), z, q, ow, s0, s1, s2, s3⟩, (show 52 - (f + 1) < 52 - f by omega)⟩
  refine cf s14 (decide_eq_true_iff) hc1 ?_; refine wp_exit ?_; refine then_e ?_; refine then_e ?_; refine block_hit ?_; refine tn hK4 ?_; refine sq fun hK14 => ?_; refine sq fun hK15 => ?_
  refine ro [yV _] 1 244 z q ow (
    aS (fun hk bs hd => xassign rfl rfl) rfl <|
    arm0) fun fa fw bs hv ap z q ow => ?_
  obtain ⟨s0, s2⟩ := b2 bs s0 s2; have s5 := gv hv 0 rfl rfl; refine wt hK15 ?_; refine wp_block ?_; refine wp_loop_g (fun (m : Int) fr u => (-2 ≤ m ∧ m ≤ 7) ∧ fr.tmps.size = 244 ∧ fr.defers = [] ∧ Own w [Th.obj gb1 (.cells #[.int .u8 3, .int .i64 0, .string ⟨[97, 98, 99, 98].toArray⟩] 25 (0, 0)), Th.row _ 25 3 (.slice (some ⟨gl, 0, none⟩) l.length cl) l.length (flatV l)] u ∧ fr.eval (.tmp 0) = .bool false ∧ fr.eval (.tmp 2) = .pointer (some ⟨gb1, 0, none⟩) ∧ fr.eval (.tmp 5) = .int .i64 m) (fun m => (7 - m).toNat) (-2) ⟨(by omega), z, q, ow, s0, s2, s5⟩ (fun m b_ u_ hI => ?_)
  revert b_ u_; intro fa fw hI
  obtain ⟨hm0, z, q, ow, s0, s2, s5⟩ := hI; refine sq fun hK16 => ?_; refine sq fun hK17 => ?_
  refine ro [yV _, yV _] 2 244 z q ow (
    mvS s5 rfl rfl rfl rfl <|
    aS (fun hk bs hd => xlss rfl (dp hd 0 rfl) rfl) rfl <|
    arm0) fun fa fw bs hv ap z q ow => ?_
  obtain ⟨s0, s2, s5⟩ := b3 bs s0 s2 s5; have s108 := gv hv 1 rfl rfl; refine wt hK17 ?_
  by_cases hc3 : (m : Int) < (7 : Int)
  ·refine ct s108 ((decide_eq_true_iff).2 hc3) ?_
   refine wp_skip ?_; refine tn hK16 ?_; refine sq fun hK18 => ?_; refine wp_block ?_; refine sq fun hK19 => ?_
   refine ro [yV _] 1 244 z q ow (
     aS (fun hk bs hd => xassign rfl rfl) rfl <|
     arm0) fun fa fw bs hv ap z q ow => ?_
   obtain ⟨s0, s2, s5⟩ := b3 bs s0 s2 s5; have s6 := gv hv 0 rfl rfl; refine wt hK19 ?_; refine wp_block ?_; refine wp_loop_g (fun (n : Int) fr u => (-2 ≤ n ∧ n ≤ 7) ∧ fr.tmps.size = 244 ∧ fr.defers = [] ∧ Own w [Th.obj gb1 (.cells #[.int .u8 3, .int .i64 0, .string ⟨[97, 98, 99, 98].toArray⟩] 25 (0, 0)), Th.row _ 25 3 (.slice (some ⟨gl, 0, none⟩) l.length cl) l.length (flatV l)] u ∧ fr.eval (.tmp 0) = .bool false ∧ fr.eval (.tmp 2) = .pointer (some ⟨gb1, 0, none⟩) ∧ fr.eval (.tmp 5) = .int .i64 m ∧ fr.eval (.tmp 6) = .int .i64 n) (fun n => (7 - n).toNat) (-2) ⟨(by omega), z, q, ow, s0, s2, s5, s6⟩ (fun n b_ u_ hI => ?_)
   revert b_ u_; intro fa fw hI
   obtain ⟨hn0, z, q, ow, s0, s2, s5, s6⟩ := hI; obtain ⟨cq, hce, hcq⟩ := cq_of n; refine sq fun hK20 => ?_; refine sq fun hK21 => ?_
   refine ro [yV _, yV _] 2 244 z q ow (
     mvS s6 rfl rfl rfl rfl <|
     aS (fun hk bs hd => xlss rfl (dp hd 0 rfl) rfl) rfl <|
     arm0) fun fa fw bs hv ap z q ow => ?_
   obtain ⟨s0, s2, s5, s6⟩ := b4 bs s0 s2 s5 s6; have s112 := gv hv 1 rfl rfl; refine wt hK21 ?_
   by_cases hc4 : (n : Int) < (7 : Int)
   ·refine ct s112 ((decide_eq_true_iff).2 hc4) ?_
    refine wp_skip ?_; refine tn hK20 ?_; refine sq fun hK22 => ?_; refine wp_block ?_; refine sq fun hK23 => ?_
    refine ro [yV (aggV (⟨3, 0, [97, 98, 99, 98]⟩ : Vl)), yV _, yV _, yV (aggV (⟨1, m * 10000, []⟩ : Vl)), yV _, yV _, yV (aggV (⟨1, n * 10000, []⟩ : Vl)), ySlice fw.heap.size 3 (rowObj [(⟨3, 0, [97, 98, 99, 98]⟩ : Vl), (⟨1, m * 10000, []⟩ : Vl), (⟨1, n * 10000, []⟩ : Vl)]), yV (.bool true), yV _, yV _, yV _, yV _, yV (.int .i64 (cq : Int)), yV _, yV (aggV (⟨3, 0, [97, 98, 99, 98].take cq⟩ : Vl)), yV (aggV (⟨3, 0, [97, 98, 99, 98]⟩ : Vl)), yV _, yV _, yV (aggV (⟨1, m * 10000, []⟩ : Vl)), ySlice fw.heap.size 3 (rowObj [(⟨3, 0, [97, 98, 99, 98].take cq⟩ : Vl), (⟨3, 0, [97, 98, 99, 98]⟩ : Vl), (⟨1, m * 10000, []⟩ : Vl)]), yV (.bool true), yV _, yV _, yV _, yV (aggV (⟨3, 0, [97, 98, 99, 98]⟩ : Vl)), yV _, yV _, yV _, yV _, yV _, yV (aggV (⟨1, (m * 300000) + (n * 5000), []⟩ : Vl)), ySlice fw.heap.size 2 (rowObj [(⟨3, 0, [97, 98, 99, 98]⟩ : Vl), (⟨1, (m * 300000) + (n * 5000), []⟩ : Vl)]), yV (.bool true), yV _, yV _, yV _, yV (aggV (⟨3, 0, [97, 98, 99, 98]⟩ : Vl)), yV _, yV _, yV _, yV (aggV (⟨1, (n * 10000) + 9999, []⟩ : Vl)), ySlice fw.heap.size 2 (rowObj [(⟨3, 0, [97, 98, 99, 98]⟩ : Vl), (⟨1, (n * 10000) + 9999, []⟩ : Vl)]), yV (.bool true), yV _, yV _, yV _, yV (aggV (⟨3, 0, [97, 98, 99, 98]⟩ : Vl)), yV _, yV _, yV (aggV (⟨1, n * 10000, []⟩ : Vl)), ySlice fw.heap.size 2 (rowObj [(⟨3, 0, [97, 98, 99, 98]⟩ : Vl), (⟨1, n * 10000, []⟩ : Vl)]), yV (.bool true), yV _, yV _] 55 244 z q ow (
      aS (fun hk bs hd => xloadN 3 rfl (by kernel_rfl) (by kernel_rfl) (bg bs s2) ((ow.keep hk).box 0 rfl) (Nat.le_of_ble_eq_true rfl) rfl) rfl <|
      mvS s5 rfl rfl rfl rfl <|
      aS (fun hk bs hd => xmul (Or.inr rfl) rfl (dp hd 1 rfl) rfl (by omega) (by omega)) rfl <|
      aC (fun hk bs hd => xcall1 rfl (dp hd 2 rfl) (en_louvrelaw14_num _ _)) (fun hk bs hd => lnum14_any (m * 10000) _) rfl <|
      mvS s6 rfl rfl rfl rfl <|
      aS (fun hk bs hd => xmul (Or.inr rfl) rfl (dp hd 4 rfl) rfl (by omega) (by omega)) rfl <|
      aC (fun hk bs hd => xcall1 rfl (dp hd 5 rfl) (en_louvrelaw14_num _ _)) (fun hk bs hd => lnum14_any (n * 10000) _) rfl <|
      arm (fun aa ww hk bs hd => by
        have d0 := dp hd 0 rfl; have d3 := dp hd 3 rfl; have d6 := dp hd 6 rfl; exact stepX_new _ (want0 rfl) (xrow3 rfl (d0) (d3) (d6)) ⟨_, rfl, hk.size, Go.heap_alloc_new _ _⟩ ((Kept.refl _).alloc _) rfl (Nat.le_refl _)
        ) <|
      arm (fun aa ww hk bs hd => by
        have d7 := dL hd 7 rfl; obtain ⟨g7, e7, _, h7⟩ := d7; exact stepX_enter (want0 rfl) (xcall2 (u := .int .u8 34) (v := .slice (some ⟨g7, 0, none⟩) 3 3) rfl rfl e7 (en_louvrelaw14_FtextCalls _ _)) ((FtextCalls_walk 34 (some ⟨g7, 0, none⟩) 3 3 [(⟨3, 0, [97, 98, 99, 98]⟩ : Vl), (⟨1, m * 10000, []⟩ : Vl), (⟨1, n * 10000, []⟩ : Vl)] ww (wf_u8 (by omega) (by omega)) (vals_obj h7 (wide3 (wide_lit (by simp only; omega) (by simp only; omega) (by simp; try omega)) (wide_lit (by simp only; omega) (by simp only; omega) (by simp; try omega)) (wide_lit (by simp only; omega) (by simp only; omega) (by simp; try omega))) (by simp)) mx (HM.kept (ow.keep hk).kept)).mono fun _ _ ⟨he, hk2⟩ => ⟨_, he, rfl, hk2⟩) rfl
        ) <|
      aS (fun hk bs hd => xnot rfl (dp hd 8 rfl)) rfl <|
      mvD 9 rfl rfl rfl rfl rfl rfl <|
      armS (wg (j := 10) (b := false) rfl rfl rfl) (fun aa ww hk bs hd => xmove rfl (bg bs s6)) rfl <|
      armS (wg (j := 10) (b := false) rfl rfl rfl) (fun aa ww hk bs hd => xremZ (Or.inr rfl) rfl (n := n) (m := 4) (dp hd 11 rfl) rfl (by decide) (by omega) (by omega)) rfl <|
      armE (wg (j := 10) (b := false) rfl rfl rfl) (fun aa ww hk bs hd => xmaxI rfl (Or.inr rfl) rfl (dp hd 12 rfl)) (congrArg (Value.int .i64) hce) rfl <|
      armS (wg (j := 10) (b := false) rfl rfl rfl) (fun aa ww hk bs hd => xslice (u := .string ⟨[97, 98, 99, 98].toArray⟩) (l := none) (h := some (.int .i64 (cq : Nat))) (m := none) rfl rfl rfl (congrArg some (dp hd 13 rfl)) rfl (run_sliceTo Tryz.underlying9 [97, 98, 99, 98] cq hcq)) rfl <|
      arm (fun aa ww hk bs hd => by
        have d10 := dp hd 10 rfl; have d14 : aa.eval (.tmp 129) = .string ⟨([97, 98, 99, 98].take cq).toArray⟩ := depX hd 14 rfl; exact stepX_same (v := aggV (⟨3, 0, [97, 98, 99, 98].take cq⟩ : Vl)) (want1 (j := 10) (b := false) rfl d10) (xbuild (us := #[(0, .int .u8 3), (2, .string ⟨([97, 98, 99, 98].take cq).toArray⟩)]) rfl (by simp only [List.map_toArray, List.map_cons, List.map_nil, d14]; rfl) (by kernel_rfl)) rfl rfl
        ) <|
      armS (wg (j := 10) (b := false) rfl rfl rfl) (fun aa ww hk bs hd => xloadN 3 rfl (by kernel_rfl) (by kernel_rfl) (bg bs s2) ((ow.keep hk).box 0 rfl) (Nat.le_of_ble_eq_true rfl) rfl) rfl <|
      armS (wg (j := 10) (b := false) rfl rfl rfl) (fun aa ww hk bs hd => xmove rfl (bg bs s5)) rfl <|
      armS (wg (j := 10) (b := false) rfl rfl rfl) (fun aa ww hk bs hd => xmul (Or.inr rfl) rfl (dp hd 17 rfl) rfl (by omega) (by omega)) rfl <|
      armC (wg (j := 10) (b := false) rfl rfl rfl) (fun aa ww hk bs hd => xcall1 rfl (dp hd 18 rfl) (en_louvrelaw14_num _ _)) (fun aa ww hk bs hd => lnum14_any (m * 10000) ww) rfl <|
      arm (fun aa ww hk bs hd => by
        have d10 := dp hd 10 rfl; have d15 := dp hd 15 rfl; have d16 := dp hd 16 rfl; have d19 := dp hd 19 rfl; exact stepX_new _ (want1 (j := 10) (b := false) rfl d10) (xrow3 rfl (d15) (d16) (d19)) ⟨_, rfl, hk.size, Go.heap_alloc_new _ _⟩ ((Kept.refl _).alloc _) rfl (Nat.le_refl _)
        ) <|
      arm (fun aa ww hk bs hd => by
        have d10 := dp hd 10 rfl; have d20 := dL hd 20 rfl; obtain ⟨g20, e20, _, h20⟩ := d20; exact stepX_enter (want1 (j := 10) (b := false) rfl d10) (xcall2 (u := .int .u8 41) (v := .slice (some ⟨g20, 0, none⟩) 3 3) rfl rfl e20 (en_louvrelaw14_FtextCalls _ _)) ((FtextCalls_walk 41 (some ⟨g20, 0, none⟩) 3 3 [(⟨3, 0, [97, 98, 99, 98].take cq⟩ : Vl), (⟨3, 0, [97, 98, 99, 98]⟩ : Vl), (⟨1, m * 10000, []⟩ : Vl)] ww (wf_u8 (by omega) (by omega)) (vals_obj h20 (wide3 (wide_lit (by simp only; omega) (by simp only; omega) (by simp; try omega)) (wide_lit (by simp only; omega) (by simp only; omega) (by simp; try omega)) (wide_lit (by simp only; omega) (by simp only; omega) (by simp; try omega))) (by simp)) mx (HM.kept (ow.keep hk).kept)).mono fun _ _ ⟨he, hk2⟩ => ⟨_, he, rfl, hk2⟩) rfl
        ) <|
      armS (wg (j := 10) (b := false) rfl rfl rfl) (fun aa ww hk bs hd => xnot rfl (dp hd 21 rfl)) rfl <|
      aS (fun hk bs hd => xpickF rfl (dp hd 10 rfl) (dp hd 22 rfl)) rfl <|
      mvD 23 rfl rfl rfl rfl rfl rfl <|
      armS (wg (j := 24) (b := false) rfl rfl rfl) (fun aa ww hk bs hd => xloadN 3 rfl (by kernel_rfl) (by kernel_rfl) (bg bs s2) ((ow.keep hk).box 0 rfl) (Nat.le_of_ble_eq_true rfl) rfl) rfl <|
      armS (wg (j := 24) (b := false) rfl rfl rfl) (fun aa ww hk bs hd => xmove rfl (bg bs s5)) rfl <|
      armS (wg (j := 24) (b := false) rfl rfl rfl) (fun aa ww hk bs hd => xmul (Or.inr rfl) rfl (dp hd 26 rfl) rfl (by omega) (by omega)) rfl <|
      armS (wg (j := 24) (b := false) rfl rfl rfl) (fun aa ww hk bs hd => xmove rfl (bg bs s6)) rfl <|
      armS (wg (j := 24) (b := false) rfl rfl rfl) (fun aa ww hk bs hd => xmul (Or.inr rfl) rfl (dp hd 28 rfl) rfl (by omega) (by omega)) rfl <|
      armS (wg (j := 24) (b := false) rfl rfl rfl) (fun aa ww hk bs hd => xadd (Or.inr rfl) rfl (dp hd 27 rfl) (dp hd 29 rfl) (by omega) (by omega)) rfl <|
      armC (wg (j := 24) (b := false) rfl rfl rfl) (fun aa ww hk bs hd => xcall1 rfl (dp hd 30 rfl) (en_louvrelaw14_num _ _)) (fun aa ww hk bs hd => lnum14_any ((m * 300000) + (n * 5000)) ww) rfl <|
      arm (fun aa ww hk bs hd => by
        have d24 := dp hd 24 rfl; have d25 := dp hd 25 rfl; have d31 := dp hd 31 rfl; exact stepX_new _ (want1 (j := 24) (b := false) rfl d24) (xrow2 rfl (d25) (d31)) ⟨_, rfl, hk.size, Go.heap_alloc_new _ _⟩ ((Kept.refl _).alloc _) rfl (Nat.le_refl _)
        ) <|
      arm (fun aa ww hk bs hd => by
        have d24 := dp hd 24 rfl; have d32 := dL hd 32 rfl; obtain ⟨g32, e32, _, h32⟩ := d32; exact stepX_enter (want1 (j := 24) (b := false) rfl d24) (xcall2 (u := .int .u8 39) (v := .slice (some ⟨g32, 0, none⟩) 2 2) rfl rfl e32 (en_louvrelaw14_FtextCalls _ _)) ((FtextCalls_walk 39 (some ⟨g32, 0, none⟩) 2 2 [(⟨3, 0, [97, 98, 99, 98]⟩ : Vl), (⟨1, (m * 300000) + (n * 5000), []⟩ : Vl)] ww (wf_u8 (by omega) (by omega)) (vals_obj h32 (wide2 (wide_lit (by simp only; omega) (by simp only; omega) (by simp; try omega)) (wide_lit (by simp only; omega) (by simp only; omega) (by simp; try omega))) (by simp)) mx (HM.kept (ow.keep hk).kept)).mono fun _ _ ⟨he, hk2⟩ => ⟨_, he, rfl, hk2⟩) rfl
        ) <|
      armS (wg (j := 24) (b := false) rfl rfl rfl) (fun aa ww hk bs hd => xnot rfl (dp hd 33 rfl)) rfl <|
      aS (fun hk bs hd => xpickF rfl (dp hd 24 rfl) (dp hd 34 rfl)) rfl <|
      mvD 35 rfl rfl rfl rfl rfl rfl <|
      armS (wg (j := 36) (b := false) rfl rfl rfl) (fun aa ww hk bs hd => xloadN 3 rfl (by kernel_rfl) (by kernel_rfl) (bg bs s2) ((ow.keep hk).box 0 rfl) (Nat.le_of_ble_eq_true rfl) rfl) rfl <|
      armS (wg (j := 36) (b := false) rfl rfl rfl) (fun aa ww hk bs hd => xmove rfl (bg bs s6)) rfl <|
      armS (wg (j := 36) (b := false) rfl rfl rfl) (fun aa ww hk bs hd => xmul (Or.inr rfl) rfl (dp hd 38 rfl) rfl (by omega) (by omega)) rfl <|
      armS (wg (j := 36) (b := false) rfl rfl rfl) (fun aa ww hk bs hd => xadd (Or.inr rfl) rfl (dp hd 39 rfl) rfl (by omega) (by omega)) rfl <|
      armC (wg (j := 36) (b := false) rfl rfl rfl) (fun aa ww hk bs hd => xcall1 rfl (dp hd 40 rfl) (en_louvrelaw14_num _ _)) (fun aa ww hk bs hd => lnum14_any ((n * 10000) + 9999) ww) rfl <|
      arm (fun aa ww hk bs hd => by
        have d36 := dp hd 36 rfl; have d37 := dp hd 37 rfl; have d41 := dp hd 41 rfl; exact stepX_new _ (want1 (j := 36) (b := false) rfl d36) (xrow2 rfl (d37) (d41)) ⟨_, rfl, hk.size, Go.heap_alloc_new _ _⟩ ((Kept.refl _).alloc _) rfl (Nat.le_refl _)
        ) <|
      arm (fun aa ww hk bs hd => by
        have d36 := dp hd 36 rfl; have d42 := dL hd 42 rfl; obtain ⟨g42, e42, _, h42⟩ := d42; exact stepX_enter (want1 (j := 36) (b := false) rfl d36) (xcall2 (u := .int .u8 32) (v := .slice (some ⟨g42, 0, none⟩) 2 2) rfl rfl e42 (en_louvrelaw14_FtextCalls _ _)) ((FtextCalls_walk 32 (some ⟨g42, 0, none⟩) 2 2 [(⟨3, 0, [97, 98, 99, 98]⟩ : Vl), (⟨1, (n * 10000) + 9999, []⟩ : Vl)] ww (wf_u8 (by omega) (by omega)) (vals_obj h42 (wide2 (wide_lit (by simp only; omega) (by simp only; omega) (by simp; try omega)) (wide_lit (by simp only; omega) (by simp only; omega) (by simp; try omega))) (by simp)) mx (HM.kept (ow.keep hk).kept)).mono fun _ _ ⟨he, hk2⟩ => ⟨_, he, rfl, hk2⟩) rfl
        ) <|
      armS (wg (j := 36) (b := false) rfl rfl rfl) (fun aa ww hk bs hd => xnot rfl (dp hd 43 rfl)) rfl <|
      aS (fun hk bs hd => xpickF rfl (dp hd 36 rfl) (dp hd 44 rfl)) rfl <|
      mvD 45 rfl rfl rfl rfl rfl rfl <|
      armS (wg (j := 46) (b := false) rfl rfl rfl) (fun aa ww hk bs hd => xloadN 3 rfl (by kernel_rfl) (by kernel_rfl) (bg bs s2) ((ow.keep hk).box 0 rfl) (Nat.le_of_ble_eq_true rfl) rfl) rfl <|
      armS (wg (j := 46) (b := false) rfl rfl rfl) (fun aa ww hk bs hd => xmove rfl (bg bs s6)) rfl <|
      armS (wg (j := 46) (b := false) rfl rfl rfl) (fun aa ww hk bs hd => xmul (Or.inr rfl) rfl (dp hd 48 rfl) rfl (by omega) (by omega)) rfl <|
      armC (wg (j := 46) (b := false) rfl rfl rfl) (fun aa ww hk bs hd => xcall1 rfl (dp hd 49 rfl) (en_louvrelaw14_num _ _)) (fun aa ww hk bs hd => lnum14_any (n * 10000) ww) rfl <|
      arm (fun aa ww hk bs hd => by
        have d46 := dp hd 46 rfl; have d47 := dp hd 47 rfl; have d50 := dp hd 50 rfl; exact stepX_new _ (want1 (j := 46) (b := false) rfl d46) (xrow2 rfl (d47) (d50)) ⟨_, rfl, hk.size, Go.heap_alloc_new _ _⟩ ((Kept.refl _).alloc _) rfl (Nat.le_refl _)
        ) <|
      arm (fun aa ww hk bs hd => by
        have d46 := dp hd 46 rfl; have d51 := dL hd 51 rfl; obtain ⟨g51, e51, _, h51⟩ := d51; exact stepX_enter (want1 (j := 46) (b := false) rfl d46) (xcall2 (u := .int .u8 33) (v := .slice (some ⟨g51, 0, none⟩) 2 2) rfl rfl e51 (en_louvrelaw14_FtextCalls _ _)) ((FtextCalls_walk 33 (some ⟨g51, 0, none⟩) 2 2 [(⟨3, 0, [97, 98, 99, 98]⟩ : Vl), (⟨1, n * 10000, []⟩ : Vl)] ww (wf_u8 (by omega) (by omega)) (vals_obj h51 (wide2 (wide_lit (by simp only; omega) (by simp only; omega) (by simp; try omega)) (wide_lit (by simp only; omega) (by simp only; omega) (by simp; try omega))) (by simp)) mx (HM.kept (ow.keep hk).kept)).mono fun _ _ ⟨he, hk2⟩ => ⟨_, he, rfl, hk2⟩) rfl
        ) <|
      armS (wg (j := 46) (b := false) rfl rfl rfl) (fun aa ww hk bs hd => xnot rfl (dp hd 52 rfl)) rfl <|
      aS (fun hk bs hd => xpickF rfl (dp hd 46 rfl) (dp hd 53 rfl)) rfl <|
      arm0) fun fa fw bs hv ap z q ow => ?_
    obtain ⟨s0, s2, s5, s6⟩ := b4 bs s0 s2 s5 s6; have s169 := gv hv 54 rfl rfl; refine wt hK23 ?_; refine wp_cond_false (s169) ?_; refine wp_skip ?_; refine block_n ?_; refine tn hK22 ?_
    refine ro [yV _, yV _] 2 244 z q ow (
      mvS s6 rfl rfl rfl rfl <|
      aS (fun hk bs hd => xadd (Or.inr rfl) rfl (dp hd 0 rfl) rfl (by omega) (by omega)) rfl <|
      arm0) fun fa fw bs hv ap z q ow => ?_
    obtain ⟨s0, s2, s5, s6⟩ := b4 bs s0 s2 s5 s6; have s114 := gv hv 1 rfl rfl; refine wl_value (v := .int .i64 (n + 1)) (want0 rfl) (xassign rfl s114) ?_; refine gp3 z q ow s0 s2 s5 fun fa fw z q ow s0 s2 s5 s6 => ?_; refine wl_end ?_; exact then_n ⟨(n + 1), ⟨(by omega), z, q, ow, s0, s2, s5, s6⟩, (show (7 - (n + 1)).toNat < (7 - n).toNat by omega)⟩
   refine cf s112 (decide_eq_true_iff) hc4 ?_; refine wp_exit ?_; refine then_e ?_; refine then_e ?_; refine block_hit ?_; refine block_n ?_; refine tn hK18 ?_
   refine ro [yV _, yV _] 2 244 z q ow (
     mvS s5 rfl rfl rfl rfl <|
     aS (fun hk bs hd => xadd (Or.inr rfl) rfl (dp hd 0 rfl) rfl (by omega) (by omega)) rfl <|
     arm0) fun fa fw bs hv ap z q ow => ?_
   obtain ⟨s0, s2, s5⟩ := b3 bs s0 s2 s5; have s110 := gv hv 1 rfl rfl; refine wl_value (v := .int .i64 (m + 1)) (want0 rfl) (xassign rfl s110) ?_; refine gp2 z q ow s0 s2 fun fa fw z q ow s0 s2 s5 => ?_; refine wl_end ?_; exact then_n ⟨(m + 1), ⟨(by omega), z, q, ow, s0, s2, s5⟩, (show (7 - (m + 1)).toNat < (7 - m).toNat by omega)⟩
  refine cf s108 (decide_eq_true_iff) hc3 ?_; refine wp_exit ?_; refine then_e ?_; refine then_e ?_; refine block_hit ?_; refine tn hK14 ?_; refine sq fun hK24 => ?_
  refine ro [ySlice fw.heap.size 257 (.cells (fillC 97 257 0) 5 (0, 0))] 1 244 z q ow (
    aL (fun hk bs hd => xmakeC 97 (n := 257) rfl rfl rfl (by decide)) rfl <|
    arm0) fun fa fw bs hv ap z q ov => ?_
  have s0 := bg bs s0; obtain ⟨gb2, s170, bgb2, hgb2⟩ := gotL hv 0 rfl rfl rfl; have ov := ov.cons hgb2 (Nat.le_trans ow.kept.size bgb2) (ow.below bgb2); have ow := ov; refine wl_value (v := .slice (some ⟨gb2, 0, none⟩) 257 257) (want0 rfl) (xassign rfl s170) ?_; refine gp1 z q ow s0 fun fa fw z q ow s0 s7 => ?_; refine wt hK24 ?_; refine sq fun hK25 => ?_; refine sq fun hK26 => ?_
  refine ro [yV _] 1 244 z q ow (
    aS (fun hk bs hd => xassign rfl rfl) rfl <|
    arm0) fun fa fw bs hv ap z q ow => ?_
  obtain ⟨s0, s7⟩ := b2 bs s0 s7; have s8 := gv hv 0 rfl rfl; refine wt hK26 ?_; refine wp_block ?_; refine wp_loop_g (fun (k : Nat) fr u => (k ≤ 257) ∧ fr.tmps.size = 244 ∧ fr.defers = [] ∧ Own w [Th.obj gb2 (.cells (fillC 97 257 k) 5 (0, 0))] u ∧ fr.eval (.tmp 0) = .bool false ∧ fr.eval (.tmp 7) = .slice (some ⟨gb2, 0, none⟩) 257 257 ∧ fr.eval (.tmp 8) = .int .i64 (k : Int)) (fun k => 257 - k) 0 ⟨(Nat.zero_le _), z, q, (ow.sub (List.Sublist.cons_cons _ (List.nil_sublist _))), s0, s7, s8⟩ (fun k b_ u_ hI => ?_)
  revert b_ u_; intro fa fw hI
  obtain ⟨hk0, z, q, ow, s0, s7, s8⟩ := hI; refine sq fun hK27 => ?_; refine sq fun hK28 => ?_
  refine ro [yV _, yV _, yV _, yV _] 4 244 z q ow (
    mvS s8 rfl rfl rfl rfl <|
    mvS s7 rfl rfl rfl rfl <|
    aS (fun hk bs hd => xlen Tryz.underlying35 rfl (dp hd 1 rfl)) rfl <|
    aS (fun hk bs hd => xlss rfl (dp hd 0 rfl) (dp hd 2 rfl)) rfl <|
    arm0) fun fa fw bs hv ap z q ow => ?_
  obtain ⟨s0, s7, s8⟩ := b3 bs s0 s7 s8; have s174 := gv hv 3 rfl rfl; refine wt hK28 ?_
  by_cases hc5 : (k : Int) < (257 : Int)
  ·refine ct s174 ((decide_eq_true_iff).2 hc5) ?_
   refine wp_skip ?_; refine tn hK27 ?_; refine sq fun hK29 => ?_; refine wp_block ?_
   refine ro [yV _, yV _, yV _] 3 244 z q ow (
     mvS s7 rfl rfl rfl rfl <|
     mvS s8 rfl rfl rfl rfl <|
     aS (fun hk bs hd => xindexAddr (u := .slice (some ⟨gb2, 0, none⟩) 257 257) (z := .int .i64 (k : Int)) rfl (dp hd 0 rfl) (dp hd 1 rfl) (run_place1 Tryz.underlying35 (by kernel_rfl) (by omega))) rfl <|
     arm0) fun fa fw bs hv ap z q ow => ?_
   obtain ⟨s0, s7, s8⟩ := b3 bs s0 s7 s8; have s179 := gv hv 2 rfl rfl; refine wl_skip (want0 rfl) rfl (xstoreN (v := .int .u8 97) (off := 0 + k) rfl s179 rfl (by kernel_rfl) (ow.box 0 rfl) rfl (by show 0 + k + 1 ≤ _; rw [fillC_size (by omega)]; omega)) ?_; have ow : Own w [Th.obj gb2 (.cells (fillC 97 257 (k + 1)) 5 (0, 0))] _ := (by have o := ow.put 0 rfl (0 + k) [.int .u8 97]; rw [show setCells (fillC 97 257 k) (0 + k) [Value.int .u8 97] = fillC 97 257 (k + 1) from fillC_step (by omega)] at o; exact o); refine gt3 z q ow 0 s0 7 s7 8 s8 fun fa fw z q ow s0 s7 s8 => ?_; refine wl_end ?_; refine block_n ?_; refine tn hK29 ?_
   refine ro [yV _, yV (.int .i64 ((k + 1 : Nat) : Int))] 2 244 z q ow (
     mvS s8 rfl rfl rfl rfl <|
     aS (fun hk bs hd => xadd (Or.inl rfl) rfl (dp hd 0 rfl) rfl (by omega) (by omega)) rfl <|
     arm0) fun fa fw bs hv ap z q ow => ?_
   obtain ⟨s0, s7, s8⟩ := b3 bs s0 s7 s8; have s176 := gv hv 1 rfl rfl; refine wl_value (v := .int .i64 ((k + 1 : Nat) : Int)) (want0 rfl) (xassign rfl s176) ?_; refine gp2 z q ow s0 s7 fun fa fw z q ow s0 s7 s8 => ?_; refine wl_end ?_; exact then_n ⟨(k + 1), ⟨(by omega), z, q, ow, s0, s7, s8⟩, (show 257 - (k + 1) < 257 - k by omega)⟩
  refine cf s174 (decide_eq_true_iff) hc5 ?_; have hk257 : k = 257 := by omega
  subst hk257; refine wp_exit ?_; refine then_e ?_; refine then_e ?_; refine block_hit ?_; refine tn hK25 ?_; refine sq fun hK30 => ?_
  refine rgf [yV _, yV _, yV _, yV (aggV (⟨3, 0, List.replicate 256 97⟩ : Vl)), yV _, yV _, yV _, yV (aggV (⟨3, 0, List.replicate 1 97⟩ : Vl)), yPtr fw.heap.size, yPtr fw.heap.size, yNo, yNo] [⟨10, 8, 9, 25, #[.int .u8 0, .int .i64 0, .string ⟨[].toArray⟩], (aggV (⟨3, 0, List.replicate 256 97⟩ : Vl)).cells.toList⟩, ⟨11, 9, 10, 25, #[.int .u8 0, .int .i64 0, .string ⟨[].toArray⟩], (aggV (⟨3, 0, List.replicate 1 97⟩ : Vl)).cells.toList⟩] 244 z (by kernel_rfl) (by kernel_rfl) (by kernel_rfl) (lastingV <| lastingV <| lastingV <| lastingV <| lastingV <| lastingV <| lastingV <| lastingV <| lastingP <| lastingP <| lastingN <| lastingN <| lasting0) ⟨⟨rfl, rfl⟩, ⟨rfl, rfl⟩, trivial⟩ (
    fx (mvS s7 rfl rfl rfl rfl arm0) rfl <|
    fx (aS (fun hk bs hd => xsliceToB rfl (h := 256) (dp hd 0 rfl) rfl (by decide)) rfl arm0) rfl <|
    fx (aS (fun hk bs hd => xstrC (c := 97) (n := 257) rfl (dp hd 1 rfl) ((ow.keep hk).box 0 rfl) (by decide)) rfl arm0) rfl <|
    fx (arm (fun aa ww hk bs hd => by
      have d2 : aa.eval (.tmp 182) = .string ⟨(List.replicate 256 97).toArray⟩ := depX hd 2 rfl; exact stepX_same (v := aggV (⟨3, 0, List.replicate 256 97⟩ : Vl)) (want0 rfl) (xbuild (us := #[(0, .int .u8 3), (2, .string ⟨(List.replicate 256 97).toArray⟩)]) rfl (by simp only [List.map_toArray, List.map_cons, List.map_nil, d2]; rfl) (by kernel_rfl)) rfl rfl
      ) arm0) rfl <|
    fx (mvS s7 rfl rfl rfl rfl arm0) rfl <|
    fx (aS (fun hk bs hd => xsliceToB rfl (h := 1) (dp hd 4 rfl) rfl (by decide)) rfl arm0) rfl <|
    fx (aS (fun hk bs hd => xstrC (c := 97) (n := 257) rfl (dp hd 5 rfl) ((ow.keep hk).box 0 rfl) (by decide)) rfl arm0) rfl <|
    fx (arm (fun aa ww hk bs hd => by
      have d6 : aa.eval (.tmp 186) = .string ⟨(List.replicate 1 97).toArray⟩ := depX hd 6 rfl; exact stepX_same (v := aggV (⟨3, 0, List.replicate 1 97⟩ : Vl)) (want0 rfl) (xbuild (us := #[(0, .int .u8 3), (2, .string ⟨(List.replicate 1 97).toArray⟩)]) rfl (by simp only [List.map_toArray, List.map_cons, List.map_nil, d6]; rfl) (by kernel_rfl)) rfl rfl
      ) arm0) rfl <|
    sfA 0 rfl rfl rfl (fun aa ww hk bs hd => xalloc rfl (by kernel_rfl)) <|
    sfA 1 rfl rfl rfl (fun aa ww hk bs hd => xalloc rfl (by kernel_rfl)) <|
    sfS 0 rfl rfl rfl (fun aa ww g hk bs hd e bx => xstoreN rfl e (dp hd 3 rfl) (by kernel_rfl) bx rfl (Nat.le_of_ble_eq_true rfl)) <|
    sfS 1 rfl rfl rfl (fun aa ww g hk bs hd e bx => xstoreN rfl e (dp hd 7 rfl) (by kernel_rfl) bx rfl (Nat.le_of_ble_eq_true rfl)) <|
    armF0) fun fa fw hk bs hv ap hc => ?_
  obtain ⟨z, q, ov⟩ := aft hk bs z q ow; obtain ⟨s0, s7⟩ := b2 bs s0 s7; obtain ⟨gb3, s9, bgb3, hgb3⟩ := gotF hv hc 0 rfl rfl rfl rfl; have ov := ov.cons hgb3 (Nat.le_trans ow.kept.size bgb3) (ow.below bgb3); obtain ⟨gb4, s10, bgb4, hgb4⟩ := gotF hv hc 1 rfl rfl rfl rfl; have ov := ov.cons hgb4 (Nat.le_trans ow.kept.size bgb4) (ne_cons (apartP ap 8 9 rfl rfl rfl s9 rfl s10 rfl) (ow.below bgb4)); have ow := ov; refine wt hK30 ?_; refine sq fun hK31 => ?_
  refine ro [yV (aggV (⟨3, 0, List.replicate 256 97⟩ : Vl)), ySlice fw.heap.size 1 (rowObj [(⟨3, 0, List.replicate 256 97⟩ : Vl)]), yV (.bool true), yV _, yV (aggV (⟨3, 0, List.replicate 256 97⟩ : Vl)), yV (aggV (⟨3, 0, List.replicate 1 97⟩ : Vl)), ySlice fw.heap.size 2 (rowObj [(⟨3, 0, List.replicate 256 97⟩ : Vl), (⟨3, 0, List.replicate 1 97⟩ : Vl)]), yV (.bool true), yV _, yV _, ySlice fw.heap.size 16 (rowObj (List.replicate 16 blankV)), yV (.bool true), yV _, yV _, ySlice fw.heap.size 17 (rowObj (List.replicate 17 blankV)), yV (.bool true), yV _, yV _, yV (aggV (⟨3, 0, List.replicate 1 97⟩ : Vl)), yV (aggV (⟨1, 2560000, []⟩ : Vl)), ySlice fw.heap.size 2 (rowObj [(⟨3, 0, List.replicate 1 97⟩ : Vl), (⟨1, 2560000, []⟩ : Vl)]), yV (.bool true), yV _, yV _, yV (aggV (⟨3, 0, List.replicate 1 97⟩ : Vl)), yV (aggV (⟨1, 2570000, []⟩ : Vl)), ySlice fw.heap.size 2 (rowObj [(⟨3, 0, List.replicate 1 97⟩ : Vl), (⟨1, 2570000, []⟩ : Vl)]), yV (.bool true), yV _, yV _, yV (aggV (⟨0, 0, []⟩ : Vl)), yV (aggV (⟨1, 9223372036854775807, []⟩ : Vl)), ySlice fw.heap.size 2 (rowObj [(⟨0, 0, []⟩ : Vl), (⟨1, 9223372036854775807, []⟩ : Vl)]), yV (.bool true), yV _, yV _, yV (aggV (⟨3, 0, List.replicate 1 97⟩ : Vl)), yV (aggV (⟨1, 9223372036854775807, []⟩ : Vl)), ySlice fw.heap.size 2 (rowObj [(⟨3, 0, List.replicate 1 97⟩ : Vl), (⟨1, 9223372036854775807, []⟩ : Vl)]), yV (.bool true), yV _, yV _, yV (.bool true), yV _, yV _, yV _, yV _, yV (aggV (⟨3, 0, List.replicate 257 97⟩ : Vl)), ySlice fw.heap.size 1 (rowObj [(⟨3, 0, List.replicate 257 97⟩ : Vl)]), yV (.bool true), yV _, yV _, yV _, yV _, yV (.bool true), yV _, yV _] 57 244 z q ow (
    aS (fun hk bs hd => xloadN 3 rfl (by kernel_rfl) (by kernel_rfl) (bg bs s9) ((ow.keep hk).box 1 rfl) (Nat.le_of_ble_eq_true rfl) rfl) rfl <|
    arm (fun aa ww hk bs hd => by
      have d0 := dp hd 0 rfl; exact stepX_new _ (want0 rfl) (xrow1 rfl (d0)) ⟨_, rfl, hk.size, Go.heap_alloc_new _ _⟩ ((Kept.refl _).alloc _) rfl (Nat.le_refl _)
      ) <|
    arm (fun aa ww hk bs hd => by
      have d1 := dL hd 1 rfl; obtain ⟨g1, e1, _, h1⟩ := d1; exact stepX_enter (want0 rfl) (xcall2 (u := .int .u8 38) (v := .slice (some ⟨g1, 0, none⟩) 1 1) rfl rfl e1 (en_louvrelaw14_FtextCalls _ _)) ((FtextCalls_walk 38 (some ⟨g1, 0, none⟩) 1 1 [(⟨3, 0, List.replicate 256 97⟩ : Vl)] ww (wf_u8 (by omega) (by omega)) (vals_obj h1 (wide1 (wide_lit (by simp only; omega) (by simp only; omega) (by simp; try omega))) (by simp)) mx (HM.kept (ow.keep hk).kept)).mono fun _ _ ⟨he, hk2⟩ => ⟨_, he, rfl, hk2⟩) rfl
      ) <|
    mvD 2 rfl rfl rfl rfl rfl rfl <|
    armS (wg (j := 3) (b := true) rfl rfl rfl) (fun aa ww hk bs hd => xloadN 3 rfl (by kernel_rfl) (by kernel_rfl) (bg bs s9) ((ow.keep hk).box 1 rfl) (Nat.le_of_ble_eq_true rfl) rfl) rfl <|
    armS (wg (j := 3) (b := true) rfl rfl rfl) (fun aa ww hk bs hd => xloadN 3 rfl (by kernel_rfl) (by kernel_rfl) (bg bs s10) ((ow.keep hk).box 0 rfl) (Nat.le_of_ble_eq_true rfl) rfl) rfl <|
    arm (fun aa ww hk bs hd => by
      have d3 := dp hd 3 rfl; have d4 := dp hd 4 rfl; have d5 := dp hd 5 rfl; exact stepX_new _ (want1 (j := 3) (b := true) rfl d3) (xrow2 rfl (d4) (d5)) ⟨_, rfl, hk.size, Go.heap_alloc_new _ _⟩ ((Kept.refl _).alloc _) rfl (Nat.le_refl _)
      ) <|
    arm (fun aa ww hk bs hd => by
      have d3 := dp hd 3 rfl; have d6 := dL hd 6 rfl; obtain ⟨g6, e6, _, h6⟩ := d6; exact stepX_enter (want1 (j := 3) (b := true) rfl d3) (xcall2 (u := .int .u8 38) (v := .slice (some ⟨g6, 0, none⟩) 2 2) rfl rfl e6 (en_louvrelaw14_FtextCalls _ _)) ((FtextCalls_walk 38 (some ⟨g6, 0, none⟩) 2 2 [(⟨3, 0, List.replicate 256 97⟩ : Vl), (⟨3, 0, List.replicate 1 97⟩ : Vl)] ww (wf_u8 (by omega) (by omega)) (vals_obj h6 (wide2 (wide_lit (by simp only; omega) (by simp only; omega) (by simp; try omega)) (wide_lit (by simp only; omega) (by simp only; omega) (by simp; try omega))) (by simp)) mx (HM.kept (ow.keep hk).kept)).mono fun _ _ ⟨he, hk2⟩ => ⟨_, he, rfl, hk2⟩) rfl
      ) <|
    aS (fun hk bs hd => xpickT rfl (dp hd 3 rfl) (dp hd 7 rfl)) rfl <|
    mvD 8 rfl rfl rfl rfl rfl rfl <|
    armL (wg (j := 9) (b := true) rfl rfl rfl) (fun aa ww hk bs hd => xmakeV (n := 16) rfl rfl rfl (by decide) (by kernel_rfl)) rfl <|
    arm (fun aa ww hk bs hd => by
      have d9 := dp hd 9 rfl; have d10 := dL hd 10 rfl; obtain ⟨g10, e10, _, h10⟩ := d10; exact stepX_enter (want1 (j := 9) (b := true) rfl d9) (xcall2 (u := .int .u8 38) (v := .slice (some ⟨g10, 0, none⟩) 16 16) rfl rfl e10 (en_louvrelaw14_FtextCalls _ _)) ((FtextCalls_walk 38 (some ⟨g10, 0, none⟩) 16 16 (List.replicate 16 blankV) ww (wf_u8 (by omega) (by omega)) (vals_blank 16 h10 (by decide)) mx (HM.kept (ow.keep hk).kept)).mono fun _ _ ⟨he, hk2⟩ => ⟨_, he, rfl, hk2⟩) rfl
      ) <|
    aS (fun hk bs hd => xpickT rfl (dp hd 9 rfl) (dp hd 11 rfl)) rfl <|
    mvD 12 rfl rfl rfl rfl rfl rfl <|
    armL (wg (j := 13) (b := true) rfl rfl rfl) (fun aa ww hk bs hd => xmakeV (n := 17) rfl rfl rfl (by decide) (by kernel_rfl)) rfl <|
    arm (fun aa ww hk bs hd => by
      have d13 := dp hd 13 rfl; have d14 := dL hd 14 rfl; obtain ⟨g14, e14, _, h14⟩ := d14; exact stepX_enter (want1 (j := 13) (b := true) rfl d13) (xcall2 (u := .int .u8 38) (v := .slice (some ⟨g14, 0, none⟩) 17 17) rfl rfl e14 (en_louvrelaw14_FtextCalls _ _)) ((FtextCalls_walk 38 (some ⟨g14, 0, none⟩) 17 17 (List.replicate 17 blankV) ww (wf_u8 (by omega) (by omega)) (vals_blank 17 h14 (by decide)) mx (HM.kept (ow.keep hk).kept)).mono fun _ _ ⟨he, hk2⟩ => ⟨_, he, rfl, hk2⟩) rfl
      ) <|
    aS (fun hk bs hd => xpickT rfl (dp hd 13 rfl) (dp hd 15 rfl)) rfl <|
    mvD 16 rfl rfl rfl rfl rfl rfl <|
    armS (wg (j := 17) (b := true) rfl rfl rfl) (fun aa ww hk bs hd => xloadN 3 rfl (by kernel_rfl) (by kernel_rfl) (bg bs s10) ((ow.keep hk).box 0 rfl) (Nat.le_of_ble_eq_true rfl) rfl) rfl <|
    armC (wg (j := 17) (b := true) rfl rfl rfl) (fun aa ww hk bs hd => xcall1 rfl rfl (en_louvrelaw14_num _ _)) (fun aa ww hk bs hd => lnum14_any 2560000 ww) rfl <|
    arm (fun aa ww hk bs hd => by
      have d17 := dp hd 17 rfl; have d18 := dp hd 18 rfl; have d19 := dp hd 19 rfl; exact stepX_new _ (want1 (j := 17) (b := true) rfl d17) (xrow2 rfl (d18) (d19)) ⟨_, rfl, hk.size, Go.heap_alloc_new _ _⟩ ((Kept.refl _).alloc _) rfl (Nat.le_refl _)
      ) <|
    arm (fun aa ww hk bs hd => by
      have d17 := dp hd 17 rfl; have d20 := dL hd 20 rfl; obtain ⟨g20, e20, _, h20⟩ := d20; exact stepX_enter (want1 (j := 17) (b := true) rfl d17) (xcall2 (u := .int .u8 39) (v := .slice (some ⟨g20, 0, none⟩) 2 2) rfl rfl e20 (en_louvrelaw14_FtextCalls _ _)) ((FtextCalls_walk 39 (some ⟨g20, 0, none⟩) 2 2 [(⟨3, 0, List.replicate 1 97⟩ : Vl), (⟨1, 2560000, []⟩ : Vl)] ww (wf_u8 (by omega) (by omega)) (vals_obj h20 (wide2 (wide_lit (by simp only; omega) (by simp only; omega) (by simp; try omega)) (wide_lit (by simp only; omega) (by simp only; omega) (by simp; try omega))) (by simp)) mx (HM.kept (ow.keep hk).kept)).mono fun _ _ ⟨he, hk2⟩ => ⟨_, he, rfl, hk2⟩) rfl
      ) <|
    aS (fun hk bs hd => xpickT rfl (dp hd 17 rfl) (dp hd 21 rfl)) rfl <|
    mvD 22 rfl rfl rfl rfl rfl rfl <|
    armS (wg (j := 23) (b := true) rfl rfl rfl) (fun aa ww hk bs hd => xloadN 3 rfl (by kernel_rfl) (by kernel_rfl) (bg bs s10) ((ow.keep hk).box 0 rfl) (Nat.le_of_ble_eq_true rfl) rfl) rfl <|
    armC (wg (j := 23) (b := true) rfl rfl rfl) (fun aa ww hk bs hd => xcall1 rfl rfl (en_louvrelaw14_num _ _)) (fun aa ww hk bs hd => lnum14_any 2570000 ww) rfl <|
    arm (fun aa ww hk bs hd => by
      have d23 := dp hd 23 rfl; have d24 := dp hd 24 rfl; have d25 := dp hd 25 rfl; exact stepX_new _ (want1 (j := 23) (b := true) rfl d23) (xrow2 rfl (d24) (d25)) ⟨_, rfl, hk.size, Go.heap_alloc_new _ _⟩ ((Kept.refl _).alloc _) rfl (Nat.le_refl _)
      ) <|
    arm (fun aa ww hk bs hd => by
      have d23 := dp hd 23 rfl; have d26 := dL hd 26 rfl; obtain ⟨g26, e26, _, h26⟩ := d26; exact stepX_enter (want1 (j := 23) (b := true) rfl d23) (xcall2 (u := .int .u8 39) (v := .slice (some ⟨g26, 0, none⟩) 2 2) rfl rfl e26 (en_louvrelaw14_FtextCalls _ _)) ((FtextCalls_walk 39 (some ⟨g26, 0, none⟩) 2 2 [(⟨3, 0, List.replicate 1 97⟩ : Vl), (⟨1, 2570000, []⟩ : Vl)] ww (wf_u8 (by omega) (by omega)) (vals_obj h26 (wide2 (wide_lit (by simp only; omega) (by simp only; omega) (by simp; try omega)) (wide_lit (by simp only; omega) (by simp only; omega) (by simp; try omega))) (by simp)) mx (HM.kept (ow.keep hk).kept)).mono fun _ _ ⟨he, hk2⟩ => ⟨_, he, rfl, hk2⟩) rfl
      ) <|
    aS (fun hk bs hd => xpickT rfl (dp hd 23 rfl) (dp hd 27 rfl)) rfl <|
    mvD 28 rfl rfl rfl rfl rfl rfl <|
    armS (wg (j := 29) (b := true) rfl rfl rfl) (fun aa ww hk bs hd => xbuild (us := #[]) rfl (by simp) (by kernel_rfl)) rfl <|
    armC (wg (j := 29) (b := true) rfl rfl rfl) (fun aa ww hk bs hd => xcall1 rfl rfl (en_louvrelaw14_num _ _)) (fun aa ww hk bs hd => lnum14_any 9223372036854775807 ww) rfl <|
    arm (fun aa ww hk bs hd => by
      have d29 := dp hd 29 rfl; have d30 := dp hd 30 rfl; have d31 := dp hd 31 rfl; exact stepX_new _ (want1 (j := 29) (b := true) rfl d29) (xrow2 rfl (d30) (d31)) ⟨_, rfl, hk.size, Go.heap_alloc_new _ _⟩ ((Kept.refl _).alloc _) rfl (Nat.le_refl _)
      ) <|
    arm (fun aa ww hk bs hd => by
      have d29 := dp hd 29 rfl; have d32 := dL hd 32 rfl; obtain ⟨g32, e32, _, h32⟩ := d32; exact stepX_enter (want1 (j := 29) (b := true) rfl d29) (xcall2 (u := .int .u8 39) (v := .slice (some ⟨g32, 0, none⟩) 2 2) rfl rfl e32 (en_louvrelaw14_FtextCalls _ _)) ((FtextCalls_walk 39 (some ⟨g32, 0, none⟩) 2 2 [(⟨0, 0, []⟩ : Vl), (⟨1, 9223372036854775807, []⟩ : Vl)] ww (wf_u8 (by omega) (by omega)) (vals_obj h32 (wide2 (wide_lit (by simp only; omega) (by simp only; omega) (by simp; try omega)) (wide_lit (by simp only; omega) (by simp only; omega) (by simp; try omega))) (by simp)) mx (HM.kept (ow.keep hk).kept)).mono fun _ _ ⟨he, hk2⟩ => ⟨_, he, rfl, hk2⟩) rfl
      ) <|
    aS (fun hk bs hd => xpickT rfl (dp hd 29 rfl) (dp hd 33 rfl)) rfl <|
    mvD 34 rfl rfl rfl rfl rfl rfl <|
    armS (wg (j := 35) (b := true) rfl rfl rfl) (fun aa ww hk bs hd => xloadN 3 rfl (by kernel_rfl) (by kernel_rfl) (bg bs s10) ((ow.keep hk).box 0 rfl) (Nat.le_of_ble_eq_true rfl) rfl) rfl <|
    armC (wg (j := 35) (b := true) rfl rfl rfl) (fun aa ww hk bs hd => xcall1 rfl rfl (en_louvrelaw14_num _ _)) (fun aa ww hk bs hd => lnum14_any 9223372036854775807 ww) rfl <|
    arm (fun aa ww hk bs hd => by
      have d35 := dp hd 35 rfl; have d36 := dp hd 36 rfl; have d37 := dp hd 37 rfl; exact stepX_new _ (want1 (j := 35) (b := true) rfl d35) (xrow2 rfl (d36) (d37)) ⟨_, rfl, hk.size, Go.heap_alloc_new _ _⟩ ((Kept.refl _).alloc _) rfl (Nat.le_refl _)
      ) <|
    arm (fun aa ww hk bs hd => by
      have d35 := dp hd 35 rfl; have d38 := dL hd 38 rfl; obtain ⟨g38, e38, _, h38⟩ := d38; exact stepX_enter (want1 (j := 35) (b := true) rfl d35) (xcall2 (u := .int .u8 39) (v := .slice (some ⟨g38, 0, none⟩) 2 2) rfl rfl e38 (en_louvrelaw14_FtextCalls _ _)) ((FtextCalls_walk 39 (some ⟨g38, 0, none⟩) 2 2 [(⟨3, 0, List.replicate 1 97⟩ : Vl), (⟨1, 9223372036854775807, []⟩ : Vl)] ww (wf_u8 (by omega) (by omega)) (vals_obj h38 (wide2 (wide_lit (by simp only; omega) (by simp only; omega) (by simp; try omega)) (wide_lit (by simp only; omega) (by simp only; omega) (by simp; try omega))) (by simp)) mx (HM.kept (ow.keep hk).kept)).mono fun _ _ ⟨he, hk2⟩ => ⟨_, he, rfl, hk2⟩) rfl
      ) <|
    aS (fun hk bs hd => xpickT rfl (dp hd 35 rfl) (dp hd 39 rfl)) rfl <|
    mvD 40 rfl rfl rfl rfl rfl rfl <|
    armC (wg (j := 41) (b := true) rfl rfl rfl) (fun aa ww hk bs hd => xcall2 rfl rfl rfl (en_louvrelaw14_FtextCalls _ _)) (fun aa ww hk bs hd => FtextCalls_walk 38 none 0 0 [] ww (wf_u8 (by omega) (by omega)) (vals_nil _) mx (HM.kept (ow.keep hk).kept)) rfl <|
    aS (fun hk bs hd => xpickT rfl (dp hd 41 rfl) (dp hd 42 rfl)) rfl <|
    mvD 43 rfl rfl rfl rfl rfl rfl <|
    armS (wg (j := 44) (b := true) rfl rfl rfl) (fun aa ww hk bs hd => xmove rfl (bg bs s7)) rfl <|
    armS (wg (j := 44) (b := true) rfl rfl rfl) (fun aa ww hk bs hd => xstrC (c := 97) (n := 257) rfl (dp hd 45 rfl) ((ow.keep hk).box 2 rfl) (by decide)) rfl <|
    arm (fun aa ww hk bs hd => by
      have d44 := dp hd 44 rfl; have d46 : aa.eval (.tmp 234) = .string ⟨(List.replicate 257 97).toArray⟩ := depX hd 46 rfl; exact stepX_same (v := aggV (⟨3, 0, List.replicate 257 97⟩ : Vl)) (want1 (j := 44) (b := true) rfl d44) (xbuild (us := #[(0, .int .u8 3), (2, .string ⟨(List.replicate 257 97).toArray⟩)]) rfl (by simp only [List.map_toArray, List.map_cons, List.map_nil, d46]; rfl) (by kernel_rfl)) rfl rfl
      ) <|
    arm (fun aa ww hk bs hd => by
      have d44 := dp hd 44 rfl; have d47 := dp hd 47 rfl; exact stepX_new _ (want1 (j := 44) (b := true) rfl d44) (xrow1 rfl (d47)) ⟨_, rfl, hk.size, Go.heap_alloc_new _ _⟩ ((Kept.refl _).alloc _) rfl (Nat.le_refl _)
      ) <|
    arm (fun aa ww hk bs hd => by
      have d44 := dp hd 44 rfl; have d48 := dL hd 48 rfl; obtain ⟨g48, e48, _, h48⟩ := d48; exact stepX_enter (want1 (j := 44) (b := true) rfl d44) (xcall2 (u := .int .u8 31) (v := .slice (some ⟨g48, 0, none⟩) 1 1) rfl rfl e48 (en_louvrelaw14_FtextCalls _ _)) ((FtextCalls_walk 31 (some ⟨g48, 0, none⟩) 1 1 [(⟨3, 0, List.replicate 257 97⟩ : Vl)] ww (wf_u8 (by omega) (by omega)) (vals_obj h48 (wide1 (wide_lit (by simp only; omega) (by simp only; omega) (by simp; try omega))) (by simp)) mx (HM.kept (ow.keep hk).kept)).mono fun _ _ ⟨he, hk2⟩ => ⟨_, he, rfl, hk2⟩) rfl
      ) <|
    aS (fun hk bs hd => xpickT rfl (dp hd 44 rfl) (dp hd 49 rfl)) rfl <|
    mvD 50 rfl rfl rfl rfl rfl rfl <|
    aS (fun hk bs hd => xpickT rfl (dp hd 51 rfl) rfl) rfl <|
    mvD 52 rfl rfl rfl rfl rfl rfl <|
    armC (wg (j := 53) (b := true) rfl rfl rfl) (fun aa ww hk bs hd => xcall0 rfl (en_louvrelaw14_awake _ _)) (fun aa ww hk bs hd => awake14_any ww mx (HM.kept (ow.keep hk).kept)) rfl <|
    aS (fun hk bs hd => xpickT rfl (dp hd 53 rfl) (dp hd 54 rfl)) rfl <|
    asD 55 rfl rfl rfl rfl rfl rfl <|
    arm0) fun fa fw bs hv ap z q ow => ?_
  have s0 := gv hv 56 rfl rfl; refine wt hK31 ?_; refine wp_ret ?_; refine results_one rfl (res_tmp s0) q ?_; exact ⟨rfl, ow.kept⟩
end Go.Proofs.YtbpkfnoenkoabaaGreatDoor
