/- The law AggParts, walked (printed by wip/mklaw13.py). -/
import Derived.Test.YtbkjdcpfkepheaaGreatDoorUMixBF
namespace Go.Proofs.YtbkjdcpfkepheaaGreatDoor
set_option linter.unusedVariables false
set_option linter.unusedSimpArgs false
open Go.RowKit Lv
set_option maxRecDepth 100000
theorem cellsAt_row {w : World} {A : Option Addr} {n c : Nat} {l : List Cl} (h : (cellRow (.slice A n c) l).p w) : CellsAt w (.slice A n c) l := by
  obtain ⟨A2, c2, e, r, hc, _⟩ := RowK.own clV_len h; exact ⟨A2, c2, e, r, hc⟩
theorem okR_wide {y : Ar} (hy : okArg y = true) (hw : y.w = true) : okR y.x = true := by
  have e := wide_eq hy hw; rw [e] at hy; exact (okWide_iff.1 hy).1
theorem up_len (row : Int) (l : List Cl) (i : Nat) : (upC row (l.take i)).length ≤ l.length := Nat.le_trans (List.length_filter_le _ _) (by rw [List.length_take]; omega)
theorem down_len (row : Int) (l : List Cl) (i : Nat) : (downC row (l.take i)).length ≤ l.length := Nat.le_trans (List.length_filter_le _ _) (by rw [List.length_take]; omega)
theorem up_snoc {row : Int} {l : List Cl} {i : Nat} {c : Cl} (h : l[i]? = some c) (hc : (c.r : Int) ≤ (row : Int)) : upC row (l.take i) ++ [c] = upC row (l.take (i + 1)) := by
  unfold upC; rw [take_at h, List.filter_append, List.filter_cons_of_pos (by simpa using hc), List.filter_nil]
theorem up_same {row : Int} {l : List Cl} {i : Nat} {c : Cl} (h : l[i]? = some c) (hc : ¬ ((c.r : Int) ≤ (row : Int))) : upC row (l.take i) = upC row (l.take (i + 1)) := by
  unfold upC; rw [take_at h, List.filter_append, List.filter_cons_of_neg (by simpa using hc), List.filter_nil, List.append_nil]
theorem down_snoc {row : Int} {l : List Cl} {i : Nat} {c : Cl} (h : l[i]? = some c) (hc : ¬ ((c.r : Int) ≤ (row : Int))) : downC row (l.take i) ++ [c] = downC row (l.take (i + 1)) := by
  unfold downC; rw [take_at h, List.filter_append, List.filter_cons_of_pos (by simpa using hc), List.filter_nil]
theorem down_same {row : Int} {l : List Cl} {i : Nat} {c : Cl} (h : l[i]? = some c) (hc : (c.r : Int) ≤ (row : Int)) : downC row (l.take i) = downC row (l.take (i + 1)) := by
  unfold downC; rw [take_at h, List.filter_append, List.filter_cons_of_neg (by simpa using hc), List.filter_nil, List.append_nil]
theorem parts_counts {y : Ar} (hy : okArg y = true) (hw : y.w = true) (hl : y.l.length ≤ 60) : (vCall16 12 [y]).1 = ⟨1, ((y.l.length : Nat) : Int) * 10000, []⟩ ∧ (vCall16 13 [y]).1 = ⟨1, (size16 y.x - ((y.l.length : Nat) : Int)) * 10000, []⟩ := by
  obtain ⟨s1, s2, _⟩ := size_big (okR_wide hy hw); have e := wide_eq hy hw; generalize y.x = x at e s1 s2; generalize y.l = l at e hl; subst e; obtain ⟨c1, c2⟩ := counts16 (x := x) (l := l); rw [call_area (by simp) hy, call_area (by simp) hy]
  simp only [val16, isFold16]
  simp [c1, c2]
  exact ⟨make_num ⟨by omega, by omega⟩, make_num ⟨by omega, by omega⟩⟩
theorem parts_eq {y : Ar} {row : Int} {i : Nat} (hy : okArg y = true) (hw : y.w = true) (hs : SmallAr y) (hl : y.l.length ≤ 60) (h1 : y.x.r1 ≤ row) (h2 : row < y.x.r2) (hi : y.l.length ≤ i) :
    (SmallAr ⟨true, ⟨0, 0, []⟩, ⟨y.x.c1, y.x.r1, y.x.c2, row⟩, upC row (y.l.take i)⟩ ∧ (upC row (y.l.take i)).length ≤ 900) ∧ (SmallAr ⟨true, ⟨0, 0, []⟩, ⟨y.x.c1, row + 1, y.x.c2, y.x.r2⟩, downC row (y.l.take i)⟩ ∧ (downC row (y.l.take i)).length ≤ 900) ∧
    (vCall16 9 [y]).1 = (vCall16 9 [⟨true, ⟨0, 0, []⟩, ⟨y.x.c1, y.x.r1, y.x.c2, row⟩, upC row (y.l.take i)⟩, ⟨true, ⟨0, 0, []⟩, ⟨y.x.c1, row + 1, y.x.c2, y.x.r2⟩, downC row (y.l.take i)⟩]).1 ∧
    (vCall16 11 [y]).1 = (vCall16 11 [⟨true, ⟨0, 0, []⟩, ⟨y.x.c1, y.x.r1, y.x.c2, row⟩, upC row (y.l.take i)⟩, ⟨true, ⟨0, 0, []⟩, ⟨y.x.c1, row + 1, y.x.c2, y.x.r2⟩, downC row (y.l.take i)⟩]).1 ∧
    (vCall16 12 [y]).1 = (vCall16 12 [⟨true, ⟨0, 0, []⟩, ⟨y.x.c1, y.x.r1, y.x.c2, row⟩, upC row (y.l.take i)⟩, ⟨true, ⟨0, 0, []⟩, ⟨y.x.c1, row + 1, y.x.c2, y.x.r2⟩, downC row (y.l.take i)⟩]).1 ∧
    (vCall16 15 [y]).1 = (vCall16 15 [⟨true, ⟨0, 0, []⟩, ⟨y.x.c1, y.x.r1, y.x.c2, row⟩, upC row (y.l.take i)⟩, ⟨true, ⟨0, 0, []⟩, ⟨y.x.c1, row + 1, y.x.c2, y.x.r2⟩, downC row (y.l.take i)⟩]).1 ∧
    (vCall16 16 [y]).1 = (vCall16 16 [⟨true, ⟨0, 0, []⟩, ⟨y.x.c1, y.x.r1, y.x.c2, row⟩, upC row (y.l.take i)⟩, ⟨true, ⟨0, 0, []⟩, ⟨y.x.c1, row + 1, y.x.c2, y.x.r2⟩, downC row (y.l.take i)⟩]).1 := by
  have z : SmallAr y → ∀ l : List Cl, (∀ c ∈ l, c ∈ y.l) → ∀ x : Rc, SmallAr ⟨true, ⟨0, 0, []⟩, x, l⟩ := fun h l hl x => ⟨show Small (⟨0, 0, []⟩ : Vl) from ⟨⟨by decide, by decide⟩, by decide⟩, fun c hc => h.2 c (hl c hc)⟩; refine ⟨⟨z hs _ (fun c hc => List.mem_of_mem_take (List.mem_filter.1 hc).1) _, Nat.le_trans (up_len row y.l i) (by omega)⟩, ⟨z hs _ (fun c hc => List.mem_of_mem_take (List.mem_filter.1 hc).1) _, Nat.le_trans (down_len row y.l i) (by omega)⟩, ?_⟩; rw [List.take_of_length_le hi]; have e := wide_eq hy hw; generalize y.x = x at e h1 h2; generalize y.l = l at e; subst e; have k := fun (fn : Nat) (hf : fn = 9 ∨ fn = 11 ∨ fn = 12 ∨ fn = 15 ∨ fn = 16) => congrArg Prod.fst (val_divide hf hy h1 h2); exact ⟨k 9 (by simp), k 11 (by simp), k 12 (by simp), k 15 (by simp), k 16 (by simp)⟩
theorem en_louvrelaw16_Good : En 13 := by intro args w; go_simp
theorem en_louvrelaw16_awake : En 15 := by intro args w; go_simp
theorem en_louvrelaw16_of : En 17 := by intro args w; go_simp
set_option maxHeartbeats 8000000 in
theorem AggParts_walk (x0 : Rc) (a0 : Option Addr) (cap0 : Nat) (l0 : List Cl) (a1 : Int) (w : World) (w0 : WideR x0 ∧ CellsIn w (.slice a0 l0.length cap0) l0 ∧ (∀ c ∈ l0, WideC c) ∧ l0.length ≤ 2932031007402) (w1 : (Lit.int .i64 a1).wf = true) (mx : Int) (HM : Mx w mx) :
    Calls Tryz.prog 4 #[.agg #[.int .i64 x0.c1, .int .i64 x0.r1, .int .i64 x0.c2, .int .i64 x0.r2, .slice a0 l0.length cap0], .int .i64 a1] w fun e w' => e = .returned (.bool true) ∧ Below w.heap.size w w' := by
  obtain ⟨y, hy⟩ : ∃ y, y = goodAr (cutAr ⟨true, blankV, x0, l0⟩) := ⟨_, rfl⟩; obtain ⟨hyo, hyl, hys, hyi⟩ := area_facts hy w0.2.2.1; have fy : SmallAr y ∧ y.l.length ≤ 900 := ⟨hys, by omega⟩; have r1 := Go.bounds_i64 w1; go_enter Tryz.func4, Tryz.ntmps4; refine sq fun hK1 => ?_
  refine ro [yNew w.heap.size (.cells #[.int .i64 x0.c1, .int .i64 x0.r1, .int .i64 x0.c2, .int .i64 x0.r2, .slice a0 l0.length cap0] 37 (0, 0)), yV _] 2 150 rfl rfl (Own.start w) (
    aP (fun hk bs hd => xbox rfl (bs.get 0 rfl rfl) (by kernel_rfl)) rfl <|
    aS (fun hk bs hd => xassign rfl rfl) rfl <|
    arm0) fun fa fw bs hv ap z q ov => ?_
  have s1 := bs.get 1 rfl rfl; obtain ⟨gb1, s2, bgb1, hgb1⟩ := gotP hv 0 rfl rfl rfl; have ov := ov.cons hgb1 (Nat.le_trans (Own.start w).kept.size bgb1) ((Own.start w).below bgb1); have s4 := gv hv 1 rfl rfl; have ow := ov; refine wt hK1 ?_; refine sq fun hK2 => ?_
  refine ro [yV (.agg #[.int .i64 x0.c1, .int .i64 x0.r1, .int .i64 x0.c2, .int .i64 x0.r2, .slice a0 l0.length cap0]), yV (.agg #[.bool true, .int .u8 0, .int .i64 0, .string ⟨[].toArray⟩, .int .i64 x0.c1, .int .i64 x0.r1, .int .i64 x0.c2, .int .i64 x0.r2, .slice a0 l0.length cap0]), ySlice fw.heap.size 1 (argsObj [((⟨true, ⟨0, 0, []⟩, ⟨x0.c1, x0.r1, x0.c2, x0.r2⟩, l0⟩ : Ar), .slice a0 l0.length cap0)])] 3 150 z q ow (
    aS (fun hk bs hd => xloadN 5 rfl (by kernel_rfl) (by kernel_rfl) (bg bs s2) ((ow.keep hk).box 0 rfl) (Nat.le_of_ble_eq_true rfl) rfl) rfl <|
    arm (fun aa ww hk bs hd => by
      have d0 : aa.eval (.tmp 16) = .agg #[.int .i64 x0.c1, .int .i64 x0.r1, .int .i64 x0.c2, .int .i64 x0.r2, .slice a0 l0.length cap0] := depX hd 0 rfl; exact stepX_same (v := .agg #[.bool true, .int .u8 0, .int .i64 0, .string ⟨[].toArray⟩, .int .i64 x0.c1, .int .i64 x0.r1, .int .i64 x0.c2, .int .i64 x0.r2, .slice a0 l0.length cap0]) (want0 rfl) (xbuild (us := #[(0, .bool true), (2, .agg #[.int .i64 x0.c1, .int .i64 x0.r1, .int .i64 x0.c2, .int .i64 x0.r2, .slice a0 l0.length cap0])]) rfl (by simp only [List.map_toArray, List.map_cons, List.map_nil, d0]; rfl) (by kernel_rfl)) rfl rfl
      ) <|
    arm (fun aa ww hk bs hd => by
      have d1 : aa.eval (.tmp 17) = .agg #[.bool true, .int .u8 0, .int .i64 0, .string ⟨[].toArray⟩, .int .i64 x0.c1, .int .i64 x0.r1, .int .i64 x0.c2, .int .i64 x0.r2, .slice a0 l0.length cap0] := depX hd 1 rfl; exact stepX_new _ (want0 rfl) (xbuildSlice (us := #[(0, .agg #[.bool true, .int .u8 0, .int .i64 0, .string ⟨[].toArray⟩, .int .i64 x0.c1, .int .i64 x0.r1, .int .i64 x0.c2, .int .i64 x0.r2, .slice a0 l0.length cap0])]) (b := argsObj [((⟨true, ⟨0, 0, []⟩, ⟨x0.c1, x0.r1, x0.c2, x0.r2⟩, l0⟩ : Ar), .slice a0 l0.length cap0)]) rfl (by simp only [List.map_toArray, List.map_cons, List.map_nil, d1]) (by kernel_rfl)) ⟨_, rfl, hk.size, Go.heap_alloc_new _ _⟩ ((Kept.refl _).alloc _) rfl (Nat.le_refl _)
      ) <|
    arm0) fun fa fw bs hv ap z q ov => ?_
  obtain ⟨s1, s4⟩ := b2 bs s1 s4; obtain ⟨gb2, s18, bgb2, hgb2⟩ := gotL hv 2 rfl rfl rfl; have ov := ov.cons hgb2 (Nat.le_trans ow.kept.size bgb2) (ow.below bgb2); have ow := ov; refine wl_enter (want0 rfl) (xcall1 (u := .slice (some ⟨gb2, 0, none⟩) 1 1) rfl s18 (en_louvrelaw16_Good _ _)) ((good_area hy (ow.get 0 rfl) (w0.2.1.kept ow.kept) w0.2.2.1 w0.2.2.2).mono ?_); rintro _ fw ⟨gy, cy, Ay, cly, rfl, ho⟩; refine ⟨_, rfl, ?_⟩; rcases (rfl : (0 : Nat) = 0) with _
  have ow := ow.join ho; clear ho; refine wl_value (v := .slice (some ⟨gy, 0, none⟩) 1 cy) (want0 rfl) (xassign rfl (put_in (t := 19) z rfl)) ?_; refine gt3 (put_size (put_size z)) (put_def (put_def q)) ow 1 (pb 5 (pb 19 s1 rfl) rfl) 4 (pb 5 (pb 19 s4 rfl) rfl) 5 (put_in (t := 5) (put_size z) rfl) fun fa fw z q ow s1 s4 s5 => ?_; refine wt hK2 ?_; refine sq fun hK3 => ?_; refine sq fun hK4 => ?_
  refine ro [yV _, yV _, yV (.bool false), yV _, yV _, yV _, yV (.pointer (some ⟨gy, 0 + 0 * 9, none⟩)), yV _, yV _, yV _] 10 150 z q ow (
    mvS s5 rfl rfl rfl rfl <|
    aS (fun hk bs hd => xlen Tryz.underlying22 rfl (dp hd 0 rfl)) rfl <|
    aE (fun hk bs hd => xnei rfl (dp hd 1 rfl) rfl) (congrArg Value.bool rfl) rfl <|
    mvD 2 rfl rfl rfl rfl rfl rfl <|
    armS (wg (j := 3) (b := false) rfl rfl rfl) (fun aa ww hk bs hd => xmove rfl (bg bs s5)) rfl <|
    armS (wg (j := 3) (b := false) rfl rfl rfl) (fun aa ww hk bs hd => xplaceK 9 Tryz.underlying22 (by kernel_rfl) rfl (i := 0) rfl (dp hd 4 rfl) rfl (by decide)) rfl <|
    armS (wg (j := 3) (b := false) rfl rfl rfl) (fun aa ww hk bs hd => xfieldAddr rfl (dp hd 5 rfl) (by kernel_rfl)) rfl <|
    armS (wg (j := 3) (b := false) rfl rfl rfl) (fun aa ww hk bs hd => xcellK 0 rfl (by kernel_rfl) (dp hd 6 rfl) rfl (own_elem (l := [(y, (.slice Ay y.l.length cly))]) (i := 0) argE_len rfl ((ow.keep hk).row 0 rfl) rfl) rfl) rfl <|
    armS (wg (j := 3) (b := false) rfl rfl rfl) (fun aa ww hk bs hd => xnot rfl (dp hd 7 rfl)) rfl <|
    aS (fun hk bs hd => xpickF rfl (dp hd 3 rfl) (dp hd 8 rfl)) rfl <|
    arm0) fun fa fw bs hv ap z q ow => ?_
  obtain ⟨s1, s4, s5⟩ := b3 bs s1 s4 s5; have s29 := gv hv 9 rfl rfl; refine wt hK4 ?_
  by_cases hc1 : ¬ (y.w = true)
  ·refine ct s29 ((bnot (Iff.rfl)).2 hc1) ?_
   refine sq fun hK5 => ?_
   refine ro [yV (.bool true), yV _] 2 150 z q ow (
     aC (fun hk bs hd => xcall0 rfl (en_louvrelaw16_awake _ _)) (fun hk bs hd => awake16_any _ mx (HM.kept (ow.keep hk).kept)) rfl <|
     asD 0 rfl rfl rfl rfl rfl rfl <|
     arm0) fun fa fw bs hv ap z q ow => ?_
   obtain ⟨s1, s5⟩ := b2 bs s1 s5; have s4 := gv hv 1 rfl rfl; refine wt hK5 ?_; refine wp_ret ?_; refine then_r ?_; refine results_one rfl (res_tmp s4) q ?_; exact ⟨rfl, ow.kept⟩
  refine cf s29 (bnot (Iff.rfl)) hc1 ?_; have hyw : y.w = true := Classical.not_not.1 hc1; have hwd := wide_1024 hyo hyw; obtain ⟨z1, z2, z3⟩ := size_big (okR_wide hyo hyw); have hcn := parts_counts hyo hyw hyl; refine wp_skip ?_; refine tn hK3 ?_; refine sq fun hK6 => ?_
  refine ro [yV _, yV _, yV (.pointer (some ⟨gy, 0 + 0 * 9 + 4, none⟩)), yV (.agg #[.int .i64 y.x.c1, .int .i64 y.x.r1, .int .i64 y.x.c2, .int .i64 y.x.r2, .slice Ay y.l.length cly]), yNew fw.heap.size (.cells #[.int .i64 0, .int .i64 0, .int .i64 0, .int .i64 0, .slice none 0 0] 37 (0, 0))] 5 150 z q ow (
    mvS s5 rfl rfl rfl rfl <|
    aS (fun hk bs hd => xplaceK 9 Tryz.underlying22 (by kernel_rfl) rfl (i := 0) rfl (dp hd 0 rfl) rfl (by decide)) rfl <|
    aS (fun hk bs hd => xfieldAddr rfl (dp hd 1 rfl) (by kernel_rfl)) rfl <|
    aS (fun hk bs hd => xpartK (n := 5) 4 rfl (by kernel_rfl) (by kernel_rfl) (dp hd 2 rfl) rfl (own_elem (l := [(y, (.slice Ay y.l.length cly))]) (i := 0) argE_len rfl ((ow.keep hk).row 0 rfl) rfl)) rfl <|
    aP (fun hk bs hd => xalloc rfl (by kernel_rfl)) rfl <|
    arm0) fun fa fw bs hv ap z q ov => ?_
  obtain ⟨s1, s4, s5⟩ := b3 bs s1 s4 s5; have s34 := gv hv 3 rfl rfl; obtain ⟨gb3, s6, bgb3, hgb3⟩ := gotP hv 4 rfl rfl rfl; have ov := ov.cons hgb3 (Nat.le_trans ow.kept.size bgb3) (ow.below bgb3); have ow := ov; refine ws ow 0 0 s6 s34 fun fw ow => ?_; refine wt hK6 ?_; refine sq fun hK7 => ?_
  refine ro [yV (.pointer (some ⟨gb3, 0, none⟩)), yV (.agg #[.int .i64 y.x.c1, .int .i64 y.x.r1, .int .i64 y.x.c2, .int .i64 y.x.r2]), yV (.tuple #[.int .i64 (size16 y.x), .int .i64 (chkR y.x)]), yV _, yV _, yV _, yV _, yV _] 8 150 z q ow (
    aS (fun hk bs hd => xfieldAddr rfl (bg bs s6) (by kernel_rfl)) rfl <|
    aS (fun hk bs hd => xloadN 4 rfl (by kernel_rfl) (by kernel_rfl) (dp hd 0 rfl) ((ow.keep hk).box 0 rfl) (Nat.le_of_ble_eq_true rfl) rfl) rfl <|
    aC (fun hk bs hd => xcall1 rfl (dp hd 1 rfl) (en_rect_Area _ _)) (fun hk bs hd => rarea_any y.x _) rfl <|
    mvD 2 rfl rfl rfl rfl rfl rfl <|
    aS (fun hk bs hd => xextract rfl (dp hd 3 rfl) rfl) rfl <|
    aS (fun hk bs hd => xextract rfl (dp hd 3 rfl) rfl) rfl <|
    asD 4 rfl rfl rfl rfl rfl rfl <|
    asD 5 rfl rfl rfl rfl rfl rfl <|
    arm0) fun fa fw bs hv ap z q ow => ?_
  obtain ⟨s1, s4, s5, s6⟩ := b4 bs s1 s4 s5 s6; have s7 := gv hv 6 rfl rfl; refine wt hK7 ?_; refine sq fun hK8 => ?_
  refine ro [yV _, yV _, yV (.agg #[.bool y.w, .int .u8 y.v.k, .int .i64 y.v.n, .string ⟨y.v.t.toArray⟩, .int .i64 y.x.c1, .int .i64 y.x.r1, .int .i64 y.x.c2, .int .i64 y.x.r2, .slice Ay y.l.length cly]), ySlice fw.heap.size 1 (argsObj [(y, .slice Ay y.l.length cly)]), yV (aggV (⟨1, ((y.l.length : Nat) : Int) * 10000, []⟩ : Vl)), yV _, yV _, yV (.agg #[.bool y.w, .int .u8 y.v.k, .int .i64 y.v.n, .string ⟨y.v.t.toArray⟩, .int .i64 y.x.c1, .int .i64 y.x.r1, .int .i64 y.x.c2, .int .i64 y.x.r2, .slice Ay y.l.length cly]), ySlice fw.heap.size 1 (argsObj [(y, .slice Ay y.l.length cly)]), yV (aggV (⟨1, (size16 y.x - ((y.l.length : Nat) : Int)) * 10000, []⟩ : Vl)), yNew fw.heap.size (.cells #[.int .u8 0, .int .i64 0, .string ⟨[].toArray⟩] 25 (0, 0)), yNew fw.heap.size (.cells #[.int .u8 0, .int .i64 0, .string ⟨[].toArray⟩] 25 (0, 0))] 12 150 z q ow (
    mvS s5 rfl rfl rfl rfl <|
    aS (fun hk bs hd => xplaceK 9 Tryz.underlying22 (by kernel_rfl) rfl (i := 0) rfl (dp hd 0 rfl) rfl (by decide)) rfl <|
    aS (fun hk bs hd => xpartK (n := 9) 0 rfl (by kernel_rfl) (by kernel_rfl) (dp hd 1 rfl) rfl (own_elem (l := [(y, (.slice Ay y.l.length cly))]) (i := 0) argE_len rfl ((ow.keep hk).row 1 rfl) rfl)) rfl <|
    arm (fun aa ww hk bs hd => by
      have d2 : aa.eval (.tmp 43) = .agg #[.bool y.w, .int .u8 y.v.k, .int .i64 y.v.n, .string ⟨y.v.t.toArray⟩, .int .i64 y.x.c1, .int .i64 y.x.r1, .int .i64 y.x.c2, .int .i64 y.x.r2, .slice Ay y.l.length cly] := depX hd 2 rfl; exact stepX_new _ (want0 rfl) (xbuildSlice (us := #[(0, .agg #[.bool y.w, .int .u8 y.v.k, .int .i64 y.v.n, .string ⟨y.v.t.toArray⟩, .int .i64 y.x.c1, .int .i64 y.x.r1, .int .i64 y.x.c2, .int .i64 y.x.r2, .slice Ay y.l.length cly])]) (b := argsObj [(y, .slice Ay y.l.length cly)]) rfl (by simp only [List.map_toArray, List.map_cons, List.map_nil, d2]) (by kernel_rfl)) ⟨_, rfl, hk.size, Go.heap_alloc_new _ _⟩ ((Kept.refl _).alloc _) rfl (Nat.le_refl _)
      ) <|
    arm (fun aa ww hk bs hd => by
      have d3 := dL hd 3 rfl; obtain ⟨g3, e3, _, h3⟩ := d3; exact stepX_enter (want0 rfl) (xcall2 (u := .int .u8 12) (v := .slice (some ⟨g3, 0, none⟩) 1 1) rfl rfl e3 (en_louvrelaw16_of _ _)) ((of16_eq (⟨1, ((y.l.length : Nat) : Int) * 10000, []⟩ : Vl) 12 (some ⟨g3, 0, none⟩) 1 [y] ww mx (HM.kept (ow.keep hk).kept) (argsObj_at (L := [(y, .slice Ay y.l.length cly)]) h3 (atCons (cellsAt_own (p := (y, (.slice Ay y.l.length cly))) ((ow.keep hk).thing 2 rfl)) atNil)) (fit_cons fy.1 fy.2 (Nat.le_of_ble_eq_true rfl) fit_nil) (Nat.le_of_ble_eq_true rfl) hcn.1).mono fun _ _ ⟨he, hk2⟩ => ⟨_, he, rfl, hk2⟩) rfl
      ) <|
    mvS s5 rfl rfl rfl rfl <|
    aS (fun hk bs hd => xplaceK 9 Tryz.underlying22 (by kernel_rfl) rfl (i := 0) rfl (dp hd 5 rfl) rfl (by decide)) rfl <|
    aS (fun hk bs hd => xpartK (n := 9) 0 rfl (by kernel_rfl) (by kernel_rfl) (dp hd 6 rfl) rfl (own_elem (l := [(y, (.slice Ay y.l.length cly))]) (i := 0) argE_len rfl ((ow.keep hk).row 1 rfl) rfl)) rfl <|
    arm (fun aa ww hk bs hd => by
      have d7 : aa.eval (.tmp 48) = .agg #[.bool y.w, .int .u8 y.v.k, .int .i64 y.v.n, .string ⟨y.v.t.toArray⟩, .int .i64 y.x.c1, .int .i64 y.x.r1, .int .i64 y.x.c2, .int .i64 y.x.r2, .slice Ay y.l.length cly] := depX hd 7 rfl; exact stepX_new _ (want0 rfl) (xbuildSlice (us := #[(0, .agg #[.bool y.w, .int .u8 y.v.k, .int .i64 y.v.n, .string ⟨y.v.t.toArray⟩, .int .i64 y.x.c1, .int .i64 y.x.r1, .int .i64 y.x.c2, .int .i64 y.x.r2, .slice Ay y.l.length cly])]) (b := argsObj [(y, .slice Ay y.l.length cly)]) rfl (by simp only [List.map_toArray, List.map_cons, List.map_nil, d7]) (by kernel_rfl)) ⟨_, rfl, hk.size, Go.heap_alloc_new _ _⟩ ((Kept.refl _).alloc _) rfl (Nat.le_refl _)
      ) <|
    arm (fun aa ww hk bs hd => by
      have d8 := dL hd 8 rfl; obtain ⟨g8, e8, _, h8⟩ := d8; exact stepX_enter (want0 rfl) (xcall2 (u := .int .u8 13) (v := .slice (some ⟨g8, 0, none⟩) 1 1) rfl rfl e8 (en_louvrelaw16_of _ _)) ((of16_eq (⟨1, (size16 y.x - ((y.l.length : Nat) : Int)) * 10000, []⟩ : Vl) 13 (some ⟨g8, 0, none⟩) 1 [y] ww mx (HM.kept (ow.keep hk).kept) (argsObj_at (L := [(y, .slice Ay y.l.length cly)]) h8 (atCons (cellsAt_own (p := (y, (.slice Ay y.l.length cly))) ((ow.keep hk).thing 2 rfl)) atNil)) (fit_cons fy.1 fy.2 (Nat.le_of_ble_eq_true rfl) fit_nil) (Nat.le_of_ble_eq_true rfl) hcn.2).mono fun _ _ ⟨he, hk2⟩ => ⟨_, he, rfl, hk2⟩) rfl
      ) <|
    aP (fun hk bs hd => xalloc rfl (by kernel_rfl)) rfl <|
    aP (fun hk bs hd => xalloc rfl (by kernel_rfl)) rfl <|
    arm0) fun fa fw bs hv ap z q ov => ?_
  obtain ⟨s1, s4, s5, s6, s7⟩ := b5 bs s1 s4 s5 s6 s7; have s45 := gv hv 4 rfl rfl; have s50 := gv hv 9 rfl rfl; obtain ⟨gb4, s9, bgb4, hgb4⟩ := gotP hv 10 rfl rfl rfl; have ov := ov.cons hgb4 (Nat.le_trans ow.kept.size bgb4) (ow.below bgb4); obtain ⟨gb5, s10, bgb5, hgb5⟩ := gotP hv 11 rfl rfl rfl; have ov := ov.cons hgb5 (Nat.le_trans ow.kept.size bgb5) (ne_cons (apartP ap 10 11 rfl rfl rfl s9 rfl s10 rfl) (ow.below bgb5)); have ow := ov; refine ws ow 1 0 s9 s45 fun fw ow => ?_; refine ws ow 0 0 s10 s50 fun fw ow => ?_; refine wt hK8 ?_; refine sq fun hK9 => ?_; refine sq fun hK10 => ?_
  refine ro [yV (.pointer (some ⟨gb4, 1, none⟩)), yV _, yV (.pointer (some ⟨gb5, 1, none⟩)), yV _, yV _, yV _, yV _, yV (.bool false), yV _, yV (.pointer (some ⟨gb4, 1, none⟩)), yV _, yV (.pointer (some ⟨gb3, 4, none⟩)), yV _, yV _, yV _, yV (.bool false), yV _] 17 150 z q ow (
    aS (fun hk bs hd => xfieldAddr rfl (bg bs s9) (by kernel_rfl)) rfl <|
    aS (fun hk bs hd => xloadB rfl (by kernel_rfl) (dp hd 0 rfl) ((ow.keep hk).box 1 rfl) rfl) rfl <|
    aS (fun hk bs hd => xfieldAddr rfl (bg bs s10) (by kernel_rfl)) rfl <|
    aS (fun hk bs hd => xloadB rfl (by kernel_rfl) (dp hd 2 rfl) ((ow.keep hk).box 0 rfl) rfl) rfl <|
    aS (fun hk bs hd => xadd (Or.inr rfl) rfl (dp hd 1 rfl) (dp hd 3 rfl) (by (try dsimp only); omega) (by (try dsimp only); omega)) rfl <|
    mvS s7 rfl rfl rfl rfl <|
    aS (fun hk bs hd => xmul (Or.inr rfl) rfl (dp hd 5 rfl) rfl (by (try dsimp only); omega) (by (try dsimp only); omega)) rfl <|
    aE (fun hk bs hd => xnei rfl (dp hd 4 rfl) (dp hd 6 rfl)) (congrArg Value.bool (decide_eq_false (fun h => h (by (try dsimp only); omega)))) rfl <|
    mvD 7 rfl rfl rfl rfl rfl rfl <|
    armS (wg (j := 8) (b := false) rfl rfl rfl) (fun aa ww hk bs hd => xfieldAddr rfl (bg bs s9) (by kernel_rfl)) rfl <|
    armS (wg (j := 8) (b := false) rfl rfl rfl) (fun aa ww hk bs hd => xloadB rfl (by kernel_rfl) (dp hd 9 rfl) ((ow.keep hk).box 1 rfl) rfl) rfl <|
    armS (wg (j := 8) (b := false) rfl rfl rfl) (fun aa ww hk bs hd => xfieldAddr rfl (bg bs s6) (by kernel_rfl)) rfl <|
    armS (wg (j := 8) (b := false) rfl rfl rfl) (fun aa ww hk bs hd => xloadB rfl (by kernel_rfl) (dp hd 11 rfl) ((ow.keep hk).box 2 rfl) rfl) rfl <|
    armS (wg (j := 8) (b := false) rfl rfl rfl) (fun aa ww hk bs hd => xlen Tryz.underlying35 rfl (dp hd 12 rfl)) rfl <|
    armS (wg (j := 8) (b := false) rfl rfl rfl) (fun aa ww hk bs hd => xmul (Or.inr rfl) rfl (dp hd 13 rfl) rfl (by (try dsimp only); omega) (by (try dsimp only); omega)) rfl <|
    armE (wg (j := 8) (b := false) rfl rfl rfl) (fun aa ww hk bs hd => xnei rfl (dp hd 10 rfl) (dp hd 14 rfl)) (congrArg Value.bool (by simp)) rfl <|
    aS (fun hk bs hd => xpickF rfl (dp hd 8 rfl) (dp hd 15 rfl)) rfl <|
    arm0) fun fa fw bs hv ap z q ow => ?_
  obtain ⟨s1, s4, s5, s6⟩ := b4 bs s1 s4 s5 s6; have s67 := gv hv 16 rfl rfl; refine wt hK10 ?_; refine wp_cond_false (s67) ?_; refine wp_skip ?_; refine tn hK9 ?_; refine sq fun hK11 => ?_; refine sq fun hK12 => ?_
  refine ro [yV _, yV (.pointer (some ⟨gb3, 0, none⟩)), yV (.pointer (some ⟨gb3, 1, none⟩)), yV _, yV _, yV _, yIf _ (yV _), yIf _ (yV (.pointer (some ⟨gb3, 0, none⟩))), yIf _ (yV (.pointer (some ⟨gb3, 3, none⟩))), yIf _ (yV _), yIf _ (yV _), yV _] 12 150 z q ow (
    mvS s1 rfl rfl rfl rfl <|
    aS (fun hk bs hd => xfieldAddr rfl (bg bs s6) (by kernel_rfl)) rfl <|
    aS (fun hk bs hd => xfieldAddr rfl (dp hd 1 rfl) (by kernel_rfl)) rfl <|
    aS (fun hk bs hd => xloadB rfl (by kernel_rfl) (dp hd 2 rfl) ((ow.keep hk).box 2 rfl) rfl) rfl <|
    aS (fun hk bs hd => xlss rfl (dp hd 0 rfl) (dp hd 3 rfl)) rfl <|
    mvD 4 rfl rfl rfl rfl rfl rfl <|
    ai (g1 5 rfl rfl) (fun hk bs hd hz => xmove rfl (bg bs s1)) rfl <|
    ai (g1 5 rfl rfl) (fun hk bs hd hz => xfieldAddr rfl (bg bs s6) (by kernel_rfl)) rfl <|
    ai (g1 5 rfl rfl) (fun hk bs hd hz => xfieldAddr rfl (di hd 7 rfl hz) (by kernel_rfl)) rfl <|
    ai (g1 5 rfl rfl) (fun hk bs hd hz => xloadB rfl (by kernel_rfl) (di hd 8 rfl hz) ((ow.keep hk).box 2 rfl) rfl) rfl <|
    ai (g1 5 rfl rfl) (fun hk bs hd hz => xgeq rfl (di hd 6 rfl hz) (di hd 9 rfl hz)) rfl <|
    aS (fun hk bs hd => xor_ rfl (dp hd 5 rfl) rfl (fun hb => di hd 10 rfl hb)) rfl <|
    arm0) fun fa fw bs hv ap z q ow => ?_
  obtain ⟨s1, s4, s5, s6⟩ := b4 bs s1 s4 s5 s6; have s79 := gv hv 11 rfl rfl; refine wt hK12 ?_
  by_cases hc2 : ((a1 : Int) < (y.x.r1 : Int)) ∨ ((y.x.r2 : Int) ≤ (a1 : Int))
  ·refine ct s79 ((bor (decide_eq_true_iff) (decide_eq_true_iff)).2 hc2) ?_
   refine sq fun hK13 => ?_
   refine ro [yV (.bool true), yV _] 2 150 z q ow (
     aC (fun hk bs hd => xcall0 rfl (en_louvrelaw16_awake _ _)) (fun hk bs hd => awake16_any _ mx (HM.kept (ow.keep hk).kept)) rfl <|
     asD 0 rfl rfl rfl rfl rfl rfl <|
     arm0) fun fa fw bs hv ap z q ow => ?_
   obtain ⟨s1, s5, s6⟩ := b3 bs s1 s5 s6; have s4 := gv hv 1 rfl rfl; refine wt hK13 ?_; refine wp_ret ?_; refine then_r ?_; refine results_one rfl (res_tmp s4) q ?_; exact ⟨rfl, ow.kept⟩
  refine cf s79 (bor (decide_eq_true_iff) (decide_eq_true_iff)) hc2 ?_; have hr1 : y.x.r1 ≤ a1 := by omega
  have hr2 : a1 < y.x.r2 := by omega
  refine wp_skip ?_; refine tn hK11 ?_; refine sq fun hK14 => ?_
  refine rgf [yV (.pointer (some ⟨gb3, 0, none⟩)), yV (.agg #[.int .i64 y.x.c1, .int .i64 y.x.r1, .int .i64 y.x.c2, .int .i64 y.x.r2]), yV (.agg #[.int .i64 y.x.c1, .int .i64 y.x.r1, .int .i64 y.x.c2, .int .i64 y.x.r2, .slice none 0 0]), yV (.pointer (some ⟨gb3, 0, none⟩)), yV (.agg #[.int .i64 y.x.c1, .int .i64 y.x.r1, .int .i64 y.x.c2, .int .i64 y.x.r2]), yV (.agg #[.int .i64 y.x.c1, .int .i64 y.x.r1, .int .i64 y.x.c2, .int .i64 y.x.r2, .slice none 0 0]), yPtr fw.heap.size, yPtr fw.heap.size, yNo, yNo] [⟨8, 6, 11, 37, #[.int .i64 0, .int .i64 0, .int .i64 0, .int .i64 0, .slice none 0 0], (Value.agg #[.int .i64 y.x.c1, .int .i64 y.x.r1, .int .i64 y.x.c2, .int .i64 y.x.r2, .slice none 0 0]).cells.toList⟩, ⟨9, 7, 12, 37, #[.int .i64 0, .int .i64 0, .int .i64 0, .int .i64 0, .slice none 0 0], (Value.agg #[.int .i64 y.x.c1, .int .i64 y.x.r1, .int .i64 y.x.c2, .int .i64 y.x.r2, .slice none 0 0]).cells.toList⟩] 150 z (by kernel_rfl) (by kernel_rfl) (by kernel_rfl) (lastingV <| lastingV <| lastingV <| lastingV <| lastingV <| lastingV <| lastingP <| lastingP <| lastingN <| lastingN <| lasting0) ⟨⟨rfl, rfl⟩, ⟨rfl, rfl⟩, trivial⟩ (
    fx (aS (fun hk bs hd => xfieldAddr rfl (bg bs s6) (by kernel_rfl)) rfl arm0) rfl <|
    fx (aS (fun hk bs hd => xloadN 4 rfl (by kernel_rfl) (by kernel_rfl) (dp hd 0 rfl) ((ow.keep hk).box 2 rfl) (Nat.le_of_ble_eq_true rfl) rfl) rfl arm0) rfl <|
    fx (arm (fun aa ww hk bs hd => by
      have d1 : aa.eval (.tmp 82) = .agg #[.int .i64 y.x.c1, .int .i64 y.x.r1, .int .i64 y.x.c2, .int .i64 y.x.r2] := depX hd 1 rfl; exact stepX_same (v := .agg #[.int .i64 y.x.c1, .int .i64 y.x.r1, .int .i64 y.x.c2, .int .i64 y.x.r2, .slice none 0 0]) (want0 rfl) (xbuild (us := #[(0, .agg #[.int .i64 y.x.c1, .int .i64 y.x.r1, .int .i64 y.x.c2, .int .i64 y.x.r2])]) rfl (by simp only [List.map_toArray, List.map_cons, List.map_nil, d1]) (by kernel_rfl)) rfl rfl
      ) arm0) rfl <|
    fx (aS (fun hk bs hd => xfieldAddr rfl (bg bs s6) (by kernel_rfl)) rfl arm0) rfl <|
    fx (aS (fun hk bs hd => xloadN 4 rfl (by kernel_rfl) (by kernel_rfl) (dp hd 3 rfl) ((ow.keep hk).box 2 rfl) (Nat.le_of_ble_eq_true rfl) rfl) rfl arm0) rfl <|
    fx (arm (fun aa ww hk bs hd => by
      have d4 : aa.eval (.tmp 85) = .agg #[.int .i64 y.x.c1, .int .i64 y.x.r1, .int .i64 y.x.c2, .int .i64 y.x.r2] := depX hd 4 rfl; exact stepX_same (v := .agg #[.int .i64 y.x.c1, .int .i64 y.x.r1, .int .i64 y.x.c2, .int .i64 y.x.r2, .slice none 0 0]) (want0 rfl) (xbuild (us := #[(0, .agg #[.int .i64 y.x.c1, .int .i64 y.x.r1, .int .i64 y.x.c2, .int .i64 y.x.r2])]) rfl (by simp only [List.map_toArray, List.map_cons, List.map_nil, d4]) (by kernel_rfl)) rfl rfl
      ) arm0) rfl <|
    sfA 0 rfl rfl rfl (fun aa ww hk bs hd => xalloc rfl (by kernel_rfl)) <|
    sfA 1 rfl rfl rfl (fun aa ww hk bs hd => xalloc rfl (by kernel_rfl)) <|
    sfS 0 rfl rfl rfl (fun aa ww g hk bs hd e bx => xstoreN rfl e (dp hd 2 rfl) (by kernel_rfl) bx rfl (Nat.le_of_ble_eq_true rfl)) <|
    sfS 1 rfl rfl rfl (fun aa ww g hk bs hd e bx => xstoreN rfl e (dp hd 5 rfl) (by kernel_rfl) bx rfl (Nat.le_of_ble_eq_true rfl)) <|
    armF0) fun fa fw hk bs hv ap hc => ?_
  obtain ⟨z, q, ov⟩ := aft hk bs z q ow; obtain ⟨s1, s4, s5, s6⟩ := b4 bs s1 s4 s5 s6; obtain ⟨gb6, s11, bgb6, hgb6⟩ := gotF hv hc 0 rfl rfl rfl rfl; have ov := ov.cons hgb6 (Nat.le_trans ow.kept.size bgb6) (ow.below bgb6); obtain ⟨gb7, s12, bgb7, hgb7⟩ := gotF hv hc 1 rfl rfl rfl rfl; have ov := ov.cons hgb7 (Nat.le_trans ow.kept.size bgb7) (ne_cons (apartP ap 6 7 rfl rfl rfl s11 rfl s12 rfl) (ow.below bgb7)); have ow := ov; refine wt hK14 ?_; refine sq fun hK15 => ?_
  refine ro [yV _, yV _, yV _, yV (.pointer (some ⟨gb6, 0, none⟩)), yV (.pointer (some ⟨gb6, 3, none⟩))] 5 150 z q ow (
    mvS s1 rfl rfl rfl rfl <|
    mvS s1 rfl rfl rfl rfl <|
    aS (fun hk bs hd => xadd (Or.inl rfl) rfl (dp hd 1 rfl) rfl (by omega) (by omega)) rfl <|
    aS (fun hk bs hd => xfieldAddr rfl (bg bs s11) (by kernel_rfl)) rfl <|
    aS (fun hk bs hd => xfieldAddr rfl (dp hd 3 rfl) (by kernel_rfl)) rfl <|
    arm0) fun fa fw bs hv ap z q ow => ?_
  obtain ⟨s1, s4, s5, s6, s11, s12⟩ := b6 bs s1 s4 s5 s6 s11 s12; have s87 := gv hv 0 rfl rfl; have s89 := gv hv 2 rfl rfl; have s91 := gv hv 4 rfl rfl; refine ws ow 1 3 s91 s87 fun fw ow => ?_; refine wl_value (v := .pointer (some ⟨gb7, 0, none⟩)) (want0 rfl) (xfieldAddr rfl s12 (by kernel_rfl)) ?_; refine wl_value (v := .pointer (some ⟨gb7, 1, none⟩)) (want0 rfl) (xfieldAddr rfl (put_in (t := 92) z rfl) (by kernel_rfl)) ?_; refine wl_store ow 0 1 (want0 rfl) rfl rfl (put_in (t := 93) (put_size z) rfl) (pb 93 (pb 92 s89 rfl) rfl) (by kernel_rfl) rfl rfl rfl fun fw ow => ?_; refine gt6 (put_size (put_size z)) (put_def (put_def q)) ow 1 (pb 93 (pb 92 s1 rfl) rfl) 4 (pb 93 (pb 92 s4 rfl) rfl) 5 (pb 93 (pb 92 s5 rfl) rfl) 6 (pb 93 (pb 92 s6 rfl) rfl) 11 (pb 93 (pb 92 s11 rfl) rfl) 12 (pb 93 (pb 92 s12 rfl) rfl) fun fa fw z q ow s1 s4 s5 s6 s11 s12 => ?_; refine wt hK15 ?_; refine sq fun hK16 => ?_; refine sq fun hK17 => ?_
  refine ro [yV _] 1 150 z q ow (
    aS (fun hk bs hd => xassign rfl rfl) rfl <|
    arm0) fun fa fw bs hv ap z q ow => ?_
  obtain ⟨s1, s4, s5, s6, s11, s12⟩ := b6 bs s1 s4 s5 s6 s11 s12; have s13 := gv hv 0 rfl rfl; refine wt hK17 ?_; refine wp_block ?_; refine wp_loop_g (fun (i : Nat) fr u => ∃ (A2 : Option Addr), ∃ (c2 : Nat), ∃ (A3 : Option Addr), ∃ (c3 : Nat), (i ≤ y.l.length) ∧ fr.tmps.size = 150 ∧ fr.defers = [] ∧ Own w [cellRow (.slice A2 ((upC a1 (y.l.take i)).length) c2) (upC a1 (y.l.take i)), cellRow (.slice A3 ((downC a1 (y.l.take i)).length) c3) (downC a1 (y.l.take i)), Th.obj gb7 (.cells #[.int .i64 y.x.c1, .int .i64 (a1 + 1), .int .i64 y.x.c2, .int .i64 y.x.r2, .slice A3 ((downC a1 (y.l.take i)).length) c3] 37 (0, 0)), Th.obj gb6 (.cells #[.int .i64 y.x.c1, .int .i64 y.x.r1, .int .i64 y.x.c2, .int .i64 a1, .slice A2 ((upC a1 (y.l.take i)).length) c2] 37 (0, 0)), Th.obj gb5 (.cells #[.int .u8 1, .int .i64 ((size16 y.x - ((y.l.length : Nat) : Int)) * 10000), .string ⟨[].toArray⟩] 25 (0, 0)), Th.obj gb4 (.cells #[.int .u8 1, .int .i64 (((y.l.length : Nat) : Int) * 10000), .string ⟨[].toArray⟩] 25 (0, 0)), Th.obj gb3 (.cells #[.int .i64 y.x.c1, .int .i64 y.x.r1, .int .i64 y.x.c2, .int .i64 y.x.r2, .slice Ay y.l.length cly] 37 (0, 0)), argTh (.slice (some ⟨gy, 0, none⟩) 1 cy) [(y, (.slice Ay y.l.length cly))], cellTh (y, (.slice Ay y.l.length cly)), Th.obj gb2 (argsObj [((⟨true, ⟨0, 0, []⟩, ⟨x0.c1, x0.r1, x0.c2, x0.r2⟩, l0⟩ : Ar), .slice a0 l0.length cap0)]), Th.obj gb1 (.cells #[.int .i64 x0.c1, .int .i64 x0.r1, .int .i64 x0.c2, .int .i64 x0.r2, .slice a0 l0.length cap0] 37 (0, 0))] u ∧ fr.eval (.tmp 1) = .int .i64 a1 ∧ fr.eval (.tmp 4) = .bool false ∧ fr.eval (.tmp 5) = .slice (some ⟨gy, 0, none⟩) 1 cy ∧ fr.eval (.tmp 6) = .pointer (some ⟨gb3, 0, none⟩) ∧ fr.eval (.tmp 11) = .pointer (some ⟨gb6, 0, none⟩) ∧ fr.eval (.tmp 12) = .pointer (some ⟨gb7, 0, none⟩) ∧ fr.eval (.tmp 13) = .int .i64 (i : Int)) (fun i => y.l.length - i) 0 ⟨none, 0, none, 0, (Nat.zero_le _), z, q, (own_nil0 (own_nil0 ow)), s1, s4, s5, s6, s11, s12, s13⟩ (fun i b_ u_ hI => ?_)
  revert b_ u_; intro fa fw hI
  obtain ⟨A2, c2, A3, c3, hi0, z, q, ow, s1, s4, s5, s6, s11, s12, s13⟩ := hI; refine sq fun hK18 => ?_; refine sq fun hK19 => ?_
  refine ro [yV _, yV (.pointer (some ⟨gb3, 4, none⟩)), yV _, yV _, yV _] 5 150 z q ow (
    mvS s13 rfl rfl rfl rfl <|
    aS (fun hk bs hd => xfieldAddr rfl (bg bs s6) (by kernel_rfl)) rfl <|
    aS (fun hk bs hd => xloadB rfl (by kernel_rfl) (dp hd 1 rfl) ((ow.keep hk).box 6 rfl) rfl) rfl <|
    aS (fun hk bs hd => xlen Tryz.underlying35 rfl (dp hd 2 rfl)) rfl <|
    aS (fun hk bs hd => xlss rfl (dp hd 0 rfl) (dp hd 3 rfl)) rfl <|
    arm0) fun fa fw bs hv ap z q ow => ?_
  obtain ⟨s1, s4, s5, s6, s11, s12, s13⟩ := b7 bs s1 s4 s5 s6 s11 s12 s13; have s98 := gv hv 4 rfl rfl; refine wt hK19 ?_
  by_cases hc3 : (i : Int) < ((y.l.length : Nat) : Int)
  ·refine ct s98 ((decide_eq_true_iff).2 hc3) ?_
   refine wp_skip ?_; refine tn hK18 ?_; refine sq fun hK20 => ?_; refine wp_block ?_; refine sq fun hK21 => ?_; have hlti : i < y.l.length := by omega
   obtain ⟨cl, hcl⟩ := at_some hlti; obtain ⟨gq, hAy, _⟩ := own_at (ow.row 8 rfl) (by show 0 < y.l.length; omega); have ecl := own_elem clV_len hAy (ow.row 8 rfl) hcl
   refine ro [yV (.pointer (some ⟨gb3, 4, none⟩)), yV _, yV _, yV _, yV (.pointer (some ⟨gq, 0 + i * 5, none⟩)), yV (.pointer (some ⟨gq, 0 + i * 5 + 1, none⟩)), yV _, yV _, yV _] 9 150 z q ow (
     aS (fun hk bs hd => xfieldAddr rfl (bg bs s6) (by kernel_rfl)) rfl <|
     aS (fun hk bs hd => xloadB rfl (by kernel_rfl) (dp hd 0 rfl) ((ow.keep hk).box 6 rfl) rfl) rfl <|
     mvS s13 rfl rfl rfl rfl <|
     aS (fun hk bs hd => xplaceK 5 Tryz.underlying35 (by kernel_rfl) rfl hAy (dp hd 1 rfl) (dp hd 2 rfl) hlti) rfl <|
     aS (fun hk bs hd => xfieldAddr rfl (dp hd 3 rfl) (by kernel_rfl)) rfl <|
     aS (fun hk bs hd => xfieldAddr rfl (dp hd 4 rfl) (by kernel_rfl)) rfl <|
     aS (fun hk bs hd => xcellK 1 rfl (by kernel_rfl) (dp hd 5 rfl) rfl (ecl.kept hk) rfl) rfl <|
     mvS s1 rfl rfl rfl rfl <|
     aS (fun hk bs hd => xleq rfl (dp hd 6 rfl) (dp hd 7 rfl)) rfl <|
     arm0) fun fa fw bs hv ap z q ow => ?_
   obtain ⟨s1, s4, s5, s6, s11, s12, s13⟩ := b7 bs s1 s4 s5 s6 s11 s12 s13; have s109 := gv hv 8 rfl rfl; refine wt hK21 ?_
   by_cases hc4 : (cl.r : Int) ≤ (a1 : Int)
   ·refine ct s109 ((decide_eq_true_iff).2 hc4) ?_
    have hup := hc4; have ecl := own_elem clV_len hAy (ow.row 8 rfl) hcl
    refine ro [yV (.pointer (some ⟨gb6, 4, none⟩)), yV _, yV (.pointer (some ⟨gb3, 4, none⟩)), yV _, yV _, yV _, yV (.agg #[.int .i64 cl.c, .int .i64 cl.r, .int .u8 cl.v.k, .int .i64 cl.v.n, .string ⟨cl.v.t.toArray⟩]), ySlice fw.heap.size 1 (.cells #[.int .i64 cl.c, .int .i64 cl.r, .int .u8 cl.v.k, .int .i64 cl.v.n, .string ⟨cl.v.t.toArray⟩] 46 (0, 0))] 8 150 z q ow (
      aS (fun hk bs hd => xfieldAddr rfl (bg bs s11) (by kernel_rfl)) rfl <|
      aS (fun hk bs hd => xloadB rfl (by kernel_rfl) (dp hd 0 rfl) ((ow.keep hk).box 3 rfl) rfl) rfl <|
      aS (fun hk bs hd => xfieldAddr rfl (bg bs s6) (by kernel_rfl)) rfl <|
      aS (fun hk bs hd => xloadB rfl (by kernel_rfl) (dp hd 2 rfl) ((ow.keep hk).box 6 rfl) rfl) rfl <|
      mvS s13 rfl rfl rfl rfl <|
      aS (fun hk bs hd => xplaceK 5 Tryz.underlying35 (by kernel_rfl) rfl hAy (dp hd 3 rfl) (dp hd 4 rfl) hlti) rfl <|
      aS (fun hk bs hd => xpartK (n := 5) 0 rfl (by kernel_rfl) (by kernel_rfl) (dp hd 5 rfl) rfl (ecl.kept hk)) rfl <|
      arm (fun aa ww hk bs hd => by
        have d6 : aa.eval (.tmp 116) = .agg #[.int .i64 cl.c, .int .i64 cl.r, .int .u8 cl.v.k, .int .i64 cl.v.n, .string ⟨cl.v.t.toArray⟩] := depX hd 6 rfl; exact stepX_new _ (want0 rfl) (xbuildSlice (us := #[(0, .agg #[.int .i64 cl.c, .int .i64 cl.r, .int .u8 cl.v.k, .int .i64 cl.v.n, .string ⟨cl.v.t.toArray⟩])]) (b := .cells #[.int .i64 cl.c, .int .i64 cl.r, .int .u8 cl.v.k, .int .i64 cl.v.n, .string ⟨cl.v.t.toArray⟩] 46 (0, 0)) rfl (by simp only [List.map_toArray, List.map_cons, List.map_nil, d6]) (by kernel_rfl)) ⟨_, rfl, hk.size, Go.heap_alloc_new _ _⟩ ((Kept.refl _).alloc _) rfl (Nat.le_refl _)
        ) <|
      arm0) fun fa fw bs hv ap z q ov => ?_
    obtain ⟨s1, s4, s5, s6, s11, s12, s13⟩ := b7 bs s1 s4 s5 s6 s11 s12 s13; have s111 := gv hv 1 rfl rfl; obtain ⟨gb8, s117, bgb8, hgb8⟩ := gotL hv 7 rfl rfl rfl; have ov := ov.cons hgb8 (Nat.le_trans ow.kept.size bgb8) (ow.below bgb8); have ow := ov; refine wl_appendCell (want0 rfl) rfl (y := cl) s111 s117 (ow.thing 1 rfl) (ow.get 0 rfl) (by have := up_len a1 y.l i; omega) (fun vr1 fw1 ho hg hb => ?_); have ow := ow.turn 1 rfl (t' := cellRow vr1 ((upC a1 (y.l.take i)) ++ [cl])) ho hg (turn_new hb); clear ho hg hb; refine wl_value (v := .pointer (some ⟨gb6, 4, none⟩)) (want0 rfl) (xfieldAddr rfl (pb 118 s11 rfl) (by kernel_rfl)) ?_; refine wl_skip (want0 rfl) rfl (xstoreR (off := 4) rfl (put_in (t := 119) (put_size z) rfl) (pb 119 (put_in (t := 118) z rfl) rfl) (by kernel_rfl) (ow.box 4 rfl) (row_one (ow.row 1 rfl)) (Nat.le_of_ble_eq_true rfl)) ?_; have ow : Own w [Th.obj gb8 (.cells #[.int .i64 cl.c, .int .i64 cl.r, .int .u8 cl.v.k, .int .i64 cl.v.n, .string ⟨cl.v.t.toArray⟩] 46 (0, 0)), cellRow vr1 ((upC a1 (y.l.take i)) ++ [cl]), cellRow (.slice A3 ((downC a1 (y.l.take i)).length) c3) (downC a1 (y.l.take i)), Th.obj gb7 (.cells #[.int .i64 y.x.c1, .int .i64 (a1 + 1), .int .i64 y.x.c2, .int .i64 y.x.r2, .slice A3 ((downC a1 (y.l.take i)).length) c3] 37 (0, 0)), Th.obj gb6 (.cells #[.int .i64 y.x.c1, .int .i64 y.x.r1, .int .i64 y.x.c2, .int .i64 a1, vr1] 37 (0, 0)), Th.obj gb5 (.cells #[.int .u8 1, .int .i64 ((size16 y.x - ((y.l.length : Nat) : Int)) * 10000), .string ⟨[].toArray⟩] 25 (0, 0)), Th.obj gb4 (.cells #[.int .u8 1, .int .i64 (((y.l.length : Nat) : Int) * 10000), .string ⟨[].toArray⟩] 25 (0, 0)), Th.obj gb3 (.cells #[.int .i64 y.x.c1, .int .i64 y.x.r1, .int .i64 y.x.c2, .int .i64 y.x.r2, .slice Ay y.l.length cly] 37 (0, 0)), argTh (.slice (some ⟨gy, 0, none⟩) 1 cy) [(y, (.slice Ay y.l.length cly))], cellTh (y, (.slice Ay y.l.length cly)), Th.obj gb2 (argsObj [((⟨true, ⟨0, 0, []⟩, ⟨x0.c1, x0.r1, x0.c2, x0.r2⟩, l0⟩ : Ar), .slice a0 l0.length cap0)]), Th.obj gb1 (.cells #[.int .i64 x0.c1, .int .i64 x0.r1, .int .i64 x0.c2, .int .i64 x0.r2, .slice a0 l0.length cap0] 37 (0, 0))] _ := ow.put 4 rfl 4 [vr1]
    refine gt7 (put_size (put_size z)) (put_def (put_def q)) ow 1 (pb 119 (pb 118 s1 rfl) rfl) 4 (pb 119 (pb 118 s4 rfl) rfl) 5 (pb 119 (pb 118 s5 rfl) rfl) 6 (pb 119 (pb 118 s6 rfl) rfl) 11 (pb 119 (pb 118 s11 rfl) rfl) 12 (pb 119 (pb 118 s12 rfl) rfl) 13 (pb 119 (pb 118 s13 rfl) rfl) fun fa fw z q ow s1 s4 s5 s6 s11 s12 s13 => ?_; refine wl_end ?_; refine block_n ?_; refine tn hK20 ?_
    refine ro [yV _, yV (.int .i64 ((i + 1 : Nat) : Int))] 2 150 z q ow (
      mvS s13 rfl rfl rfl rfl <|
      aS (fun hk bs hd => xadd (Or.inl rfl) rfl (dp hd 0 rfl) rfl (by omega) (by omega)) rfl <|
      arm0) fun fa fw bs hv ap z q ow => ?_
    obtain ⟨s1, s4, s5, s6, s11, s12, s13⟩ := b7 bs s1 s4 s5 s6 s11 s12 s13; have s100 := gv hv 1 rfl rfl; refine wl_value (v := .int .i64 ((i + 1 : Nat) : Int)) (want0 rfl) (xassign rfl s100) ?_; refine gp6 z q ow s1 s4 s5 s6 s11 s12 fun fa fw z q ow s1 s4 s5 s6 s11 s12 s13 => ?_; refine wl_end ?_; obtain ⟨A4, c4, rfl⟩ := row_slice (ow.row 1 rfl); have oz := ow.tail; rw [up_snoc hcl hup, down_same hcl hup] at oz; exact then_n ⟨(i + 1), ⟨A4, c4, A3, c3, hlti, z, q, oz, s1, s4, s5, s6, s11, s12, s13⟩, (show y.l.length - (i + 1) < y.l.length - i by omega)⟩
   refine cf s109 (decide_eq_true_iff) hc4 ?_; have hup := hc4; have ecl := own_elem clV_len hAy (ow.row 8 rfl) hcl
   refine ro [yV (.pointer (some ⟨gb7, 4, none⟩)), yV _, yV (.pointer (some ⟨gb3, 4, none⟩)), yV _, yV _, yV _, yV (.agg #[.int .i64 cl.c, .int .i64 cl.r, .int .u8 cl.v.k, .int .i64 cl.v.n, .string ⟨cl.v.t.toArray⟩]), ySlice fw.heap.size 1 (.cells #[.int .i64 cl.c, .int .i64 cl.r, .int .u8 cl.v.k, .int .i64 cl.v.n, .string ⟨cl.v.t.toArray⟩] 46 (0, 0))] 8 150 z q ow (
     aS (fun hk bs hd => xfieldAddr rfl (bg bs s12) (by kernel_rfl)) rfl <|
     aS (fun hk bs hd => xloadB rfl (by kernel_rfl) (dp hd 0 rfl) ((ow.keep hk).box 2 rfl) rfl) rfl <|
     aS (fun hk bs hd => xfieldAddr rfl (bg bs s6) (by kernel_rfl)) rfl <|
     aS (fun hk bs hd => xloadB rfl (by kernel_rfl) (dp hd 2 rfl) ((ow.keep hk).box 6 rfl) rfl) rfl <|
     mvS s13 rfl rfl rfl rfl <|
     aS (fun hk bs hd => xplaceK 5 Tryz.underlying35 (by kernel_rfl) rfl hAy (dp hd 3 rfl) (dp hd 4 rfl) hlti) rfl <|
     aS (fun hk bs hd => xpartK (n := 5) 0 rfl (by kernel_rfl) (by kernel_rfl) (dp hd 5 rfl) rfl (ecl.kept hk)) rfl <|
     arm (fun aa ww hk bs hd => by
       have d6 : aa.eval (.tmp 126) = .agg #[.int .i64 cl.c, .int .i64 cl.r, .int .u8 cl.v.k, .int .i64 cl.v.n, .string ⟨cl.v.t.toArray⟩] := depX hd 6 rfl; exact stepX_new _ (want0 rfl) (xbuildSlice (us := #[(0, .agg #[.int .i64 cl.c, .int .i64 cl.r, .int .u8 cl.v.k, .int .i64 cl.v.n, .string ⟨cl.v.t.toArray⟩])]) (b := .cells #[.int .i64 cl.c, .int .i64 cl.r, .int .u8 cl.v.k, .int .i64 cl.v.n, .string ⟨cl.v.t.toArray⟩] 46 (0, 0)) rfl (by simp only [List.map_toArray, List.map_cons, List.map_nil, d6]) (by kernel_rfl)) ⟨_, rfl, hk.size, Go.heap_alloc_new _ _⟩ ((Kept.refl _).alloc _) rfl (Nat.le_refl _)
       ) <|
     arm0) fun fa fw bs hv ap z q ov => ?_
   obtain ⟨s1, s4, s5, s6, s11, s12, s13⟩ := b7 bs s1 s4 s5 s6 s11 s12 s13; have s121 := gv hv 1 rfl rfl; obtain ⟨gb9, s127, bgb9, hgb9⟩ := gotL hv 7 rfl rfl rfl; have ov := ov.cons hgb9 (Nat.le_trans ow.kept.size bgb9) (ow.below bgb9); have ow := ov; refine wl_appendCell (want0 rfl) rfl (y := cl) s121 s127 (ow.thing 2 rfl) (ow.get 0 rfl) (by have := down_len a1 y.l i; omega) (fun vr2 fw2 ho hg hb => ?_); have ow := ow.turn 2 rfl (t' := cellRow vr2 ((downC a1 (y.l.take i)) ++ [cl])) ho hg (turn_new hb); clear ho hg hb; refine wl_value (v := .pointer (some ⟨gb7, 4, none⟩)) (want0 rfl) (xfieldAddr rfl (pb 128 s12 rfl) (by kernel_rfl)) ?_; refine wl_skip (want0 rfl) rfl (xstoreR (off := 4) rfl (put_in (t := 129) (put_size z) rfl) (pb 129 (put_in (t := 128) z rfl) rfl) (by kernel_rfl) (ow.box 3 rfl) (row_one (ow.row 2 rfl)) (Nat.le_of_ble_eq_true rfl)) ?_; have ow : Own w [Th.obj gb9 (.cells #[.int .i64 cl.c, .int .i64 cl.r, .int .u8 cl.v.k, .int .i64 cl.v.n, .string ⟨cl.v.t.toArray⟩] 46 (0, 0)), cellRow (.slice A2 ((upC a1 (y.l.take i)).length) c2) (upC a1 (y.l.take i)), cellRow vr2 ((downC a1 (y.l.take i)) ++ [cl]), Th.obj gb7 (.cells #[.int .i64 y.x.c1, .int .i64 (a1 + 1), .int .i64 y.x.c2, .int .i64 y.x.r2, vr2] 37 (0, 0)), Th.obj gb6 (.cells #[.int .i64 y.x.c1, .int .i64 y.x.r1, .int .i64 y.x.c2, .int .i64 a1, .slice A2 ((upC a1 (y.l.take i)).length) c2] 37 (0, 0)), Th.obj gb5 (.cells #[.int .u8 1, .int .i64 ((size16 y.x - ((y.l.length : Nat) : Int)) * 10000), .string ⟨[].toArray⟩] 25 (0, 0)), Th.obj gb4 (.cells #[.int .u8 1, .int .i64 (((y.l.length : Nat) : Int) * 10000), .string ⟨[].toArray⟩] 25 (0, 0)), Th.obj gb3 (.cells #[.int .i64 y.x.c1, .int .i64 y.x.r1, .int .i64 y.x.c2, .int .i64 y.x.r2, .slice Ay y.l.length cly] 37 (0, 0)), argTh (.slice (some ⟨gy, 0, none⟩) 1 cy) [(y, (.slice Ay y.l.length cly))], cellTh (y, (.slice Ay y.l.length cly)), Th.obj gb2 (argsObj [((⟨true, ⟨0, 0, []⟩, ⟨x0.c1, x0.r1, x0.c2, x0.r2⟩, l0⟩ : Ar), .slice a0 l0.length cap0)]), Th.obj gb1 (.cells #[.int .i64 x0.c1, .int .i64 x0.r1, .int .i64 x0.c2, .int .i64 x0.r2, .slice a0 l0.length cap0] 37 (0, 0))] _ := ow.put 3 rfl 4 [vr2]
   refine gt7 (put_size (put_size z)) (put_def (put_def q)) ow 1 (pb 129 (pb 128 s1 rfl) rfl) 4 (pb 129 (pb 128 s4 rfl) rfl) 5 (pb 129 (pb 128 s5 rfl) rfl) 6 (pb 129 (pb 128 s6 rfl) rfl) 11 (pb 129 (pb 128 s11 rfl) rfl) 12 (pb 129 (pb 128 s12 rfl) rfl) 13 (pb 129 (pb 128 s13 rfl) rfl) fun fa fw z q ow s1 s4 s5 s6 s11 s12 s13 => ?_; refine wl_end ?_; refine block_n ?_; refine tn hK20 ?_
   refine ro [yV _, yV (.int .i64 ((i + 1 : Nat) : Int))] 2 150 z q ow (
     mvS s13 rfl rfl rfl rfl <|
     aS (fun hk bs hd => xadd (Or.inl rfl) rfl (dp hd 0 rfl) rfl (by omega) (by omega)) rfl <|
     arm0) fun fa fw bs hv ap z q ow => ?_
   obtain ⟨s1, s4, s5, s6, s11, s12, s13⟩ := b7 bs s1 s4 s5 s6 s11 s12 s13; have s100 := gv hv 1 rfl rfl; refine wl_value (v := .int .i64 ((i + 1 : Nat) : Int)) (want0 rfl) (xassign rfl s100) ?_; refine gp6 z q ow s1 s4 s5 s6 s11 s12 fun fa fw z q ow s1 s4 s5 s6 s11 s12 s13 => ?_; refine wl_end ?_; obtain ⟨A4, c4, rfl⟩ := row_slice (ow.row 2 rfl); have oz := ow.tail; rw [down_snoc hcl hup, up_same hcl hup] at oz; exact then_n ⟨(i + 1), ⟨A2, c2, A4, c4, hlti, z, q, oz, s1, s4, s5, s6, s11, s12, s13⟩, (show y.l.length - (i + 1) < y.l.length - i by omega)⟩
  refine cf s98 (decide_eq_true_iff) hc3 ?_; refine wp_exit ?_; refine then_e ?_; refine then_e ?_; refine block_hit ?_; refine tn hK16 ?_; refine sq fun hK22 => ?_; refine sq fun hK23 => ?_; obtain ⟨fup, fdn, hdv9, hdv11, hdv12, hdv15, hdv16⟩ := parts_eq hyo hyw hys hyl hr1 hr2 (i := i) (by omega)
  refine ro [yV (.agg #[.int .u8 9, .int .u8 11, .int .u8 12, .int .u8 15, .int .u8 16]), yV _] 2 150 z q ow (
    aS (fun hk bs hd => xbuild (us := #[(0, .int .u8 9), (1, .int .u8 11), (2, .int .u8 12), (3, .int .u8 15), (4, .int .u8 16)]) rfl (by simp only [List.map_toArray, List.map_cons, List.map_nil]; rfl) (by kernel_rfl)) rfl <|
    aS (fun hk bs hd => xmove rfl rfl) rfl <|
    arm0) fun fa fw bs hv ap z q ow => ?_
  obtain ⟨s4, s5, s11, s12⟩ := b4 bs s4 s5 s11 s12; have s130 := gv hv 0 rfl rfl; have s131 := gv hv 1 rfl rfl; refine wt hK23 ?_; refine wp_block ?_; refine wp_loop_rounds 6 ?_; refine rnd1 ?_; refine sq fun hK24 => ?_
  refine ro [yV (.bool true)] 1 150 z q ow (
    aE (fun hk bs hd => xlss rfl (bg bs s131) rfl) (congrArg Value.bool rfl) rfl <|
    arm0) fun fa fw bs hv ap z q ow => ?_
  obtain ⟨s4, s5, s11, s12, s130, s131⟩ := b6 bs s4 s5 s11 s12 s130 s131; have s132 := gv hv 0 rfl rfl; refine wt hK24 ?_; refine sq fun hK25 => ?_; refine wp_cond_true (s132) ?_; refine wp_skip ?_; refine tn hK25 ?_; refine sq fun hK26 => ?_; refine wp_block ?_; refine sq fun hK27 => ?_
  refine ro [yV (.int .u8 9), yV _] 2 150 z q ow (
    aS (fun hk bs hd => xindex rfl (bg bs s130) (bg bs s131) (by kernel_rfl)) rfl <|
    asD 0 rfl rfl rfl rfl rfl rfl <|
    arm0) fun fa fw bs hv ap z q ow => ?_
  obtain ⟨s4, s5, s11, s12, s130, s131⟩ := b6 bs s4 s5 s11 s12 s130 s131; have s15 := gv hv 1 rfl rfl; refine wt hK27 ?_; refine sq fun hK28 => ?_
  refine ro [yV _, yV _, yV _, yV (.agg #[.bool y.w, .int .u8 y.v.k, .int .i64 y.v.n, .string ⟨y.v.t.toArray⟩, .int .i64 y.x.c1, .int .i64 y.x.r1, .int .i64 y.x.c2, .int .i64 y.x.r2, .slice Ay y.l.length cly]), ySlice fw.heap.size 1 (argsObj [(y, .slice Ay y.l.length cly)]), yV (aggV ((vCall16 9 [y]).1)), yV _, yV (.agg #[.int .i64 y.x.c1, .int .i64 y.x.r1, .int .i64 y.x.c2, .int .i64 a1, .slice A2 ((upC a1 (y.l.take i)).length) c2]), yV (.agg #[.bool true, .int .u8 0, .int .i64 0, .string ⟨[].toArray⟩, .int .i64 y.x.c1, .int .i64 y.x.r1, .int .i64 y.x.c2, .int .i64 a1, .slice A2 ((upC a1 (y.l.take i)).length) c2]), yV (.agg #[.int .i64 y.x.c1, .int .i64 (a1 + 1), .int .i64 y.x.c2, .int .i64 y.x.r2, .slice A3 ((downC a1 (y.l.take i)).length) c3]), yV (.agg #[.bool true, .int .u8 0, .int .i64 0, .string ⟨[].toArray⟩, .int .i64 y.x.c1, .int .i64 (a1 + 1), .int .i64 y.x.c2, .int .i64 y.x.r2, .slice A3 ((downC a1 (y.l.take i)).length) c3]), ySlice fw.heap.size 2 (argsObj [((⟨true, ⟨0, 0, []⟩, ⟨y.x.c1, y.x.r1, y.x.c2, a1⟩, (upC a1 (y.l.take i))⟩ : Ar), .slice A2 ((upC a1 (y.l.take i)).length) c2), ((⟨true, ⟨0, 0, []⟩, ⟨y.x.c1, a1 + 1, y.x.c2, y.x.r2⟩, (downC a1 (y.l.take i))⟩ : Ar), .slice A3 ((downC a1 (y.l.take i)).length) c3)]), yV (aggV ((vCall16 9 [(⟨true, ⟨0, 0, []⟩, ⟨y.x.c1, y.x.r1, y.x.c2, a1⟩, (upC a1 (y.l.take i))⟩ : Ar), (⟨true, ⟨0, 0, []⟩, ⟨y.x.c1, a1 + 1, y.x.c2, y.x.r2⟩, (downC a1 (y.l.take i))⟩ : Ar)]).1)), yV (.bool false)] 14 150 z q ow (
    mvS s15 rfl rfl rfl rfl <|
    mvS s5 rfl rfl rfl rfl <|
    aS (fun hk bs hd => xplaceK 9 Tryz.underlying22 (by kernel_rfl) rfl (i := 0) rfl (dp hd 1 rfl) rfl (by decide)) rfl <|
    aS (fun hk bs hd => xpartK (n := 9) 0 rfl (by kernel_rfl) (by kernel_rfl) (dp hd 2 rfl) rfl (own_elem (l := [(y, (.slice Ay y.l.length cly))]) (i := 0) argE_len rfl ((ow.keep hk).row 7 rfl) rfl)) rfl <|
    arm (fun aa ww hk bs hd => by
      have d3 : aa.eval (.tmp 137) = .agg #[.bool y.w, .int .u8 y.v.k, .int .i64 y.v.n, .string ⟨y.v.t.toArray⟩, .int .i64 y.x.c1, .int .i64 y.x.r1, .int .i64 y.x.c2, .int .i64 y.x.r2, .slice Ay y.l.length cly] := depX hd 3 rfl; exact stepX_new _ (want0 rfl) (xbuildSlice (us := #[(0, .agg #[.bool y.w, .int .u8 y.v.k, .int .i64 y.v.n, .string ⟨y.v.t.toArray⟩, .int .i64 y.x.c1, .int .i64 y.x.r1, .int .i64 y.x.c2, .int .i64 y.x.r2, .slice Ay y.l.length cly])]) (b := argsObj [(y, .slice Ay y.l.length cly)]) rfl (by simp only [List.map_toArray, List.map_cons, List.map_nil, d3]) (by kernel_rfl)) ⟨_, rfl, hk.size, Go.heap_alloc_new _ _⟩ ((Kept.refl _).alloc _) rfl (Nat.le_refl _)
      ) <|
    arm (fun aa ww hk bs hd => by
      have d0 := dp hd 0 rfl; have d4 := dL hd 4 rfl; obtain ⟨g4, e4, _, h4⟩ := d4; exact stepX_enter (want0 rfl) (xcall2 (u := .int .u8 9) (v := .slice (some ⟨g4, 0, none⟩) 1 1) rfl (d0) e4 (en_louvrelaw16_of _ _)) ((of16_any 9 (some ⟨g4, 0, none⟩) 1 [y] ww mx (HM.kept (ow.keep hk).kept) (argsObj_at (L := [(y, .slice Ay y.l.length cly)]) h4 (atCons (cellsAt_own (p := (y, (.slice Ay y.l.length cly))) ((ow.keep hk).thing 8 rfl)) atNil)) (fit_cons fy.1 fy.2 (Nat.le_of_ble_eq_true rfl) fit_nil) (Nat.le_of_ble_eq_true rfl)).mono fun _ _ ⟨he, hk2⟩ => ⟨_, he, rfl, hk2⟩) rfl
      ) <|
    mvS s15 rfl rfl rfl rfl <|
    aS (fun hk bs hd => xloadN 5 rfl (by kernel_rfl) (by kernel_rfl) (bg bs s11) ((ow.keep hk).box 3 rfl) (Nat.le_of_ble_eq_true rfl) rfl) rfl <|
    arm (fun aa ww hk bs hd => by
      have d7 : aa.eval (.tmp 141) = .agg #[.int .i64 y.x.c1, .int .i64 y.x.r1, .int .i64 y.x.c2, .int .i64 a1, .slice A2 ((upC a1 (y.l.take i)).length) c2] := depX hd 7 rfl; exact stepX_same (v := .agg #[.bool true, .int .u8 0, .int .i64 0, .string ⟨[].toArray⟩, .int .i64 y.x.c1, .int .i64 y.x.r1, .int .i64 y.x.c2, .int .i64 a1, .slice A2 ((upC a1 (y.l.take i)).length) c2]) (want0 rfl) (xbuild (us := #[(0, .bool true), (2, .agg #[.int .i64 y.x.c1, .int .i64 y.x.r1, .int .i64 y.x.c2, .int .i64 a1, .slice A2 ((upC a1 (y.l.take i)).length) c2])]) rfl (by simp only [List.map_toArray, List.map_cons, List.map_nil, d7]; rfl) (by kernel_rfl)) rfl rfl
      ) <|
    aS (fun hk bs hd => xloadN 5 rfl (by kernel_rfl) (by kernel_rfl) (bg bs s12) ((ow.keep hk).box 2 rfl) (Nat.le_of_ble_eq_true rfl) rfl) rfl <|
    arm (fun aa ww hk bs hd => by
      have d9 : aa.eval (.tmp 143) = .agg #[.int .i64 y.x.c1, .int .i64 (a1 + 1), .int .i64 y.x.c2, .int .i64 y.x.r2, .slice A3 ((downC a1 (y.l.take i)).length) c3] := depX hd 9 rfl; exact stepX_same (v := .agg #[.bool true, .int .u8 0, .int .i64 0, .string ⟨[].toArray⟩, .int .i64 y.x.c1, .int .i64 (a1 + 1), .int .i64 y.x.c2, .int .i64 y.x.r2, .slice A3 ((downC a1 (y.l.take i)).length) c3]) (want0 rfl) (xbuild (us := #[(0, .bool true), (2, .agg #[.int .i64 y.x.c1, .int .i64 (a1 + 1), .int .i64 y.x.c2, .int .i64 y.x.r2, .slice A3 ((downC a1 (y.l.take i)).length) c3])]) rfl (by simp only [List.map_toArray, List.map_cons, List.map_nil, d9]; rfl) (by kernel_rfl)) rfl rfl
      ) <|
    arm (fun aa ww hk bs hd => by
      have d8 : aa.eval (.tmp 142) = .agg #[.bool true, .int .u8 0, .int .i64 0, .string ⟨[].toArray⟩, .int .i64 y.x.c1, .int .i64 y.x.r1, .int .i64 y.x.c2, .int .i64 a1, .slice A2 ((upC a1 (y.l.take i)).length) c2] := depX hd 8 rfl; have d10 : aa.eval (.tmp 144) = .agg #[.bool true, .int .u8 0, .int .i64 0, .string ⟨[].toArray⟩, .int .i64 y.x.c1, .int .i64 (a1 + 1), .int .i64 y.x.c2, .int .i64 y.x.r2, .slice A3 ((downC a1 (y.l.take i)).length) c3] := depX hd 10 rfl; exact stepX_new _ (want0 rfl) (xbuildSlice (us := #[(0, .agg #[.bool true, .int .u8 0, .int .i64 0, .string ⟨[].toArray⟩, .int .i64 y.x.c1, .int .i64 y.x.r1, .int .i64 y.x.c2, .int .i64 a1, .slice A2 ((upC a1 (y.l.take i)).length) c2]), (1, .agg #[.bool true, .int .u8 0, .int .i64 0, .string ⟨[].toArray⟩, .int .i64 y.x.c1, .int .i64 (a1 + 1), .int .i64 y.x.c2, .int .i64 y.x.r2, .slice A3 ((downC a1 (y.l.take i)).length) c3])]) (b := argsObj [((⟨true, ⟨0, 0, []⟩, ⟨y.x.c1, y.x.r1, y.x.c2, a1⟩, (upC a1 (y.l.take i))⟩ : Ar), .slice A2 ((upC a1 (y.l.take i)).length) c2), ((⟨true, ⟨0, 0, []⟩, ⟨y.x.c1, a1 + 1, y.x.c2, y.x.r2⟩, (downC a1 (y.l.take i))⟩ : Ar), .slice A3 ((downC a1 (y.l.take i)).length) c3)]) rfl (by simp only [List.map_toArray, List.map_cons, List.map_nil, d8, d10]) (by kernel_rfl)) ⟨_, rfl, hk.size, Go.heap_alloc_new _ _⟩ ((Kept.refl _).alloc _) rfl (Nat.le_refl _)
      ) <|
    arm (fun aa ww hk bs hd => by
      have d6 := dp hd 6 rfl; have d11 := dL hd 11 rfl; obtain ⟨g11, e11, _, h11⟩ := d11; exact stepX_enter (want0 rfl) (xcall2 (u := .int .u8 9) (v := .slice (some ⟨g11, 0, none⟩) 2 2) rfl (d6) e11 (en_louvrelaw16_of _ _)) ((of16_any 9 (some ⟨g11, 0, none⟩) 2 [(⟨true, ⟨0, 0, []⟩, ⟨y.x.c1, y.x.r1, y.x.c2, a1⟩, (upC a1 (y.l.take i))⟩ : Ar), (⟨true, ⟨0, 0, []⟩, ⟨y.x.c1, a1 + 1, y.x.c2, y.x.r2⟩, (downC a1 (y.l.take i))⟩ : Ar)] ww mx (HM.kept (ow.keep hk).kept) (argsObj_at (L := [((⟨true, ⟨0, 0, []⟩, ⟨y.x.c1, y.x.r1, y.x.c2, a1⟩, (upC a1 (y.l.take i))⟩ : Ar), .slice A2 ((upC a1 (y.l.take i)).length) c2), ((⟨true, ⟨0, 0, []⟩, ⟨y.x.c1, a1 + 1, y.x.c2, y.x.r2⟩, (downC a1 (y.l.take i))⟩ : Ar), .slice A3 ((downC a1 (y.l.take i)).length) c3)]) h11 (atCons (cellsAt_row ((ow.keep hk).thing 0 rfl)) (atCons (cellsAt_row ((ow.keep hk).thing 1 rfl)) atNil))) (fit_cons fup.1 fup.2 (Nat.le_of_ble_eq_true rfl) (fit_cons fdn.1 fdn.2 (Nat.le_of_ble_eq_true rfl) fit_nil)) (Nat.le_of_ble_eq_true rfl)).mono fun _ _ ⟨he, hk2⟩ => ⟨_, he, rfl, hk2⟩) rfl
      ) <|
    aE (fun hk bs hd => xnev rfl (dp hd 5 rfl) (dp hd 12 rfl)) (congrArg Value.bool (by rw [hdv9, sameV_self]; rfl)) rfl <|
    arm0) fun fa fw bs hv ap z q ow => ?_
  obtain ⟨s4, s5, s11, s12, s130, s131⟩ := b6 bs s4 s5 s11 s12 s130 s131; have s147 := gv hv 13 rfl rfl; refine wt hK28 ?_; refine wp_cond_false (s147) ?_; refine wp_skip ?_; refine block_n ?_; refine tn hK26 ?_
  refine ro [yV (.int .i64 1)] 1 150 z q ow (
    aS (fun hk bs hd => xadd (Or.inl rfl) rfl (bg bs s131) rfl (by omega) (by omega)) rfl <|
    arm0) fun fa fw bs hv ap z q ow => ?_
  obtain ⟨s4, s5, s11, s12, s130, s131⟩ := b6 bs s4 s5 s11 s12 s130 s131; have s148 := gv hv 0 rfl rfl; refine wl_value (v := .int .i64 1) (want0 rfl) (xmove rfl s148) ?_; refine gp5 z q ow s4 s5 s11 s12 s130 fun fa fw z q ow s4 s5 s11 s12 s130 s131 => ?_; refine wl_end ?_; refine then_n ?_; refine rnd1 ?_; refine sq fun hK29 => ?_
  refine ro [yV (.bool true)] 1 150 z q ow (
    aE (fun hk bs hd => xlss rfl (bg bs s131) rfl) (congrArg Value.bool rfl) rfl <|
    arm0) fun fa fw bs hv ap z q ow => ?_
  obtain ⟨s4, s5, s11, s12, s130, s131⟩ := b6 bs s4 s5 s11 s12 s130 s131; have s132 := gv hv 0 rfl rfl; refine wt hK29 ?_; refine sq fun hK30 => ?_; refine wp_cond_true (s132) ?_; refine wp_skip ?_; refine tn hK30 ?_; refine sq fun hK31 => ?_; refine wp_block ?_; refine sq fun hK32 => ?_
  refine ro [yV (.int .u8 11), yV _] 2 150 z q ow (
    aS (fun hk bs hd => xindex rfl (bg bs s130) (bg bs s131) (by kernel_rfl)) rfl <|
    asD 0 rfl rfl rfl rfl rfl rfl <|
    arm0) fun fa fw bs hv ap z q ow => ?_
  obtain ⟨s4, s5, s11, s12, s130, s131⟩ := b6 bs s4 s5 s11 s12 s130 s131; have s15 := gv hv 1 rfl rfl; refine wt hK32 ?_; refine sq fun hK33 => ?_
  refine ro [yV _, yV _, yV _, yV (.agg #[.bool y.w, .int .u8 y.v.k, .int .i64 y.v.n, .string ⟨y.v.t.toArray⟩, .int .i64 y.x.c1, .int .i64 y.x.r1, .int .i64 y.x.c2, .int .i64 y.x.r2, .slice Ay y.l.length cly]), ySlice fw.heap.size 1 (argsObj [(y, .slice Ay y.l.length cly)]), yV (aggV ((vCall16 11 [y]).1)), yV _, yV (.agg #[.int .i64 y.x.c1, .int .i64 y.x.r1, .int .i64 y.x.c2, .int .i64 a1, .slice A2 ((upC a1 (y.l.take i)).length) c2]), yV (.agg #[.bool true, .int .u8 0, .int .i64 0, .string ⟨[].toArray⟩, .int .i64 y.x.c1, .int .i64 y.x.r1, .int .i64 y.x.c2, .int .i64 a1, .slice A2 ((upC a1 (y.l.take i)).length) c2]), yV (.agg #[.int .i64 y.x.c1, .int .i64 (a1 + 1), .int .i64 y.x.c2, .int .i64 y.x.r2, .slice A3 ((downC a1 (y.l.take i)).length) c3]), yV (.agg #[.bool true, .int .u8 0, .int .i64 0, .string ⟨[].toArray⟩, .int .i64 y.x.c1, .int .i64 (a1 + 1), .int .i64 y.x.c2, .int .i64 y.x.r2, .slice A3 ((downC a1 (y.l.take i)).length) c3]), ySlice fw.heap.size 2 (argsObj [((⟨true, ⟨0, 0, []⟩, ⟨y.x.c1, y.x.r1, y.x.c2, a1⟩, (upC a1 (y.l.take i))⟩ : Ar), .slice A2 ((upC a1 (y.l.take i)).length) c2), ((⟨true, ⟨0, 0, []⟩, ⟨y.x.c1, a1 + 1, y.x.c2, y.x.r2⟩, (downC a1 (y.l.take i))⟩ : Ar), .slice A3 ((downC a1 (y.l.take i)).length) c3)]), yV (aggV ((vCall16 11 [(⟨true, ⟨0, 0, []⟩, ⟨y.x.c1, y.x.r1, y.x.c2, a1⟩, (upC a1 (y.l.take i))⟩ : Ar), (⟨true, ⟨0, 0, []⟩, ⟨y.x.c1, a1 + 1, y.x.c2, y.x.r2⟩, (downC a1 (y.l.take i))⟩ : Ar)]).1)), yV (.bool false)] 14 150 z q ow (
    mvS s15 rfl rfl rfl rfl <|
    mvS s5 rfl rfl rfl rfl <|
    aS (fun hk bs hd => xplaceK 9 Tryz.underlying22 (by kernel_rfl) rfl (i := 0) rfl (dp hd 1 rfl) rfl (by decide)) rfl <|
    aS (fun hk bs hd => xpartK (n := 9) 0 rfl (by kernel_rfl) (by kernel_rfl) (dp hd 2 rfl) rfl (own_elem (l := [(y, (.slice Ay y.l.length cly))]) (i := 0) argE_len rfl ((ow.keep hk).row 7 rfl) rfl)) rfl <|
    arm (fun aa ww hk bs hd => by
      have d3 : aa.eval (.tmp 137) = .agg #[.bool y.w, .int .u8 y.v.k, .int .i64 y.v.n, .string ⟨y.v.t.toArray⟩, .int .i64 y.x.c1, .int .i64 y.x.r1, .int .i64 y.x.c2, .int .i64 y.x.r2, .slice Ay y.l.length cly] := depX hd 3 rfl; exact stepX_new _ (want0 rfl) (xbuildSlice (us := #[(0, .agg #[.bool y.w, .int .u8 y.v.k, .int .i64 y.v.n, .string ⟨y.v.t.toArray⟩, .int .i64 y.x.c1, .int .i64 y.x.r1, .int .i64 y.x.c2, .int .i64 y.x.r2, .slice Ay y.l.length cly])]) (b := argsObj [(y, .slice Ay y.l.length cly)]) rfl (by simp only [List.map_toArray, List.map_cons, List.map_nil, d3]) (by kernel_rfl)) ⟨_, rfl, hk.size, Go.heap_alloc_new _ _⟩ ((Kept.refl _).alloc _) rfl (Nat.le_refl _)
      ) <|
    arm (fun aa ww hk bs hd => by
      have d0 := dp hd 0 rfl; have d4 := dL hd 4 rfl; obtain ⟨g4, e4, _, h4⟩ := d4; exact stepX_enter (want0 rfl) (xcall2 (u := .int .u8 11) (v := .slice (some ⟨g4, 0, none⟩) 1 1) rfl (d0) e4 (en_louvrelaw16_of _ _)) ((of16_any 11 (some ⟨g4, 0, none⟩) 1 [y] ww mx (HM.kept (ow.keep hk).kept) (argsObj_at (L := [(y, .slice Ay y.l.length cly)]) h4 (atCons (cellsAt_own (p := (y, (.slice Ay y.l.length cly))) ((ow.keep hk).thing 8 rfl)) atNil)) (fit_cons fy.1 fy.2 (Nat.le_of_ble_eq_true rfl) fit_nil) (Nat.le_of_ble_eq_true rfl)).mono fun _ _ ⟨he, hk2⟩ => ⟨_, he, rfl, hk2⟩) rfl
      ) <|
    mvS s15 rfl rfl rfl rfl <|
    aS (fun hk bs hd => xloadN 5 rfl (by kernel_rfl) (by kernel_rfl) (bg bs s11) ((ow.keep hk).box 3 rfl) (Nat.le_of_ble_eq_true rfl) rfl) rfl <|
    arm (fun aa ww hk bs hd => by
      have d7 : aa.eval (.tmp 141) = .agg #[.int .i64 y.x.c1, .int .i64 y.x.r1, .int .i64 y.x.c2, .int .i64 a1, .slice A2 ((upC a1 (y.l.take i)).length) c2] := depX hd 7 rfl; exact stepX_same (v := .agg #[.bool true, .int .u8 0, .int .i64 0, .string ⟨[].toArray⟩, .int .i64 y.x.c1, .int .i64 y.x.r1, .int .i64 y.x.c2, .int .i64 a1, .slice A2 ((upC a1 (y.l.take i)).length) c2]) (want0 rfl) (xbuild (us := #[(0, .bool true), (2, .agg #[.int .i64 y.x.c1, .int .i64 y.x.r1, .int .i64 y.x.c2, .int .i64 a1, .slice A2 ((upC a1 (y.l.take i)).length) c2])]) rfl (by simp only [List.map_toArray, List.map_cons, List.map_nil, d7]; rfl) (by kernel_rfl)) rfl rfl
      ) <|
    aS (fun hk bs hd => xloadN 5 rfl (by kernel_rfl) (by kernel_rfl) (bg bs s12) ((ow.keep hk).box 2 rfl) (Nat.le_of_ble_eq_true rfl) rfl) rfl <|
    arm (fun aa ww hk bs hd => by
      have d9 : aa.eval (.tmp 143) = .agg #[.int .i64 y.x.c1, .int .i64 (a1 + 1), .int .i64 y.x.c2, .int .i64 y.x.r2, .slice A3 ((downC a1 (y.l.take i)).length) c3] := depX hd 9 rfl; exact stepX_same (v := .agg #[.bool true, .int .u8 0, .int .i64 0, .string ⟨[].toArray⟩, .int .i64 y.x.c1, .int .i64 (a1 + 1), .int .i64 y.x.c2, .int .i64 y.x.r2, .slice A3 ((downC a1 (y.l.take i)).length) c3]) (want0 rfl) (xbuild (us := #[(0, .bool true), (2, .agg #[.int .i64 y.x.c1, .int .i64 (a1 + 1), .int .i64 y.x.c2, .int .i64 y.x.r2, .slice A3 ((downC a1 (y.l.take i)).length) c3])]) rfl (by simp only [List.map_toArray, List.map_cons, List.map_nil, d9]; rfl) (by kernel_rfl)) rfl rfl
      ) <|
    arm (fun aa ww hk bs hd => by
      have d8 : aa.eval (.tmp 142) = .agg #[.bool true, .int .u8 0, .int .i64 0, .string ⟨[].toArray⟩, .int .i64 y.x.c1, .int .i64 y.x.r1, .int .i64 y.x.c2, .int .i64 a1, .slice A2 ((upC a1 (y.l.take i)).length) c2] := depX hd 8 rfl; have d10 : aa.eval (.tmp 144) = .agg #[.bool true, .int .u8 0, .int .i64 0, .string ⟨[].toArray⟩, .int .i64 y.x.c1, .int .i64 (a1 + 1), .int .i64 y.x.c2, .int .i64 y.x.r2, .slice A3 ((downC a1 (y.l.take i)).length) c3] := depX hd 10 rfl; exact stepX_new _ (want0 rfl) (xbuildSlice (us := #[(0, .agg #[.bool true, .int .u8 0, .int .i64 0, .string ⟨[].toArray⟩, .int .i64 y.x.c1, .int .i64 y.x.r1, .int .i64 y.x.c2, .int .i64 a1, .slice A2 ((upC a1 (y.l.take i)).length) c2]), (1, .agg #[.bool true, .int .u8 0, .int .i64 0, .string ⟨[].toArray⟩, .int .i64 y.x.c1, .int .i64 (a1 + 1), .int .i64 y.x.c2, .int .i64 y.x.r2, .slice A3 ((downC a1 (y.l.take i)).length) c3])]) (b := argsObj [((⟨true, ⟨0, 0, []⟩, ⟨y.x.c1, y.x.r1, y.x.c2, a1⟩, (upC a1 (y.l.take i))⟩ : Ar), .slice A2 ((upC a1 (y.l.take i)).length) c2), ((⟨true, ⟨0, 0, []⟩, ⟨y.x.c1, a1 + 1, y.x.c2, y.x.r2⟩, (downC a1 (y.l.take i))⟩ : Ar), .slice A3 ((downC a1 (y.l.take i)).length) c3)]) rfl (by simp only [List.map_toArray, List.map_cons, List.map_nil, d8, d10]) (by kernel_rfl)) ⟨_, rfl, hk.size, Go.heap_alloc_new _ _⟩ ((Kept.refl _).alloc _) rfl (Nat.le_refl _)
      ) <|
    arm (fun aa ww hk bs hd => by
      have d6 := dp hd 6 rfl; have d11 := dL hd 11 rfl; obtain ⟨g11, e11, _, h11⟩ := d11; exact stepX_enter (want0 rfl) (xcall2 (u := .int .u8 11) (v := .slice (some ⟨g11, 0, none⟩) 2 2) rfl (d6) e11 (en_louvrelaw16_of _ _)) ((of16_any 11 (some ⟨g11, 0, none⟩) 2 [(⟨true, ⟨0, 0, []⟩, ⟨y.x.c1, y.x.r1, y.x.c2, a1⟩, (upC a1 (y.l.take i))⟩ : Ar), (⟨true, ⟨0, 0, []⟩, ⟨y.x.c1, a1 + 1, y.x.c2, y.x.r2⟩, (downC a1 (y.l.take i))⟩ : Ar)] ww mx (HM.kept (ow.keep hk).kept) (argsObj_at (L := [((⟨true, ⟨0, 0, []⟩, ⟨y.x.c1, y.x.r1, y.x.c2, a1⟩, (upC a1 (y.l.take i))⟩ : Ar), .slice A2 ((upC a1 (y.l.take i)).length) c2), ((⟨true, ⟨0, 0, []⟩, ⟨y.x.c1, a1 + 1, y.x.c2, y.x.r2⟩, (downC a1 (y.l.take i))⟩ : Ar), .slice A3 ((downC a1 (y.l.take i)).length) c3)]) h11 (atCons (cellsAt_row ((ow.keep hk).thing 0 rfl)) (atCons (cellsAt_row ((ow.keep hk).thing 1 rfl)) atNil))) (fit_cons fup.1 fup.2 (Nat.le_of_ble_eq_true rfl) (fit_cons fdn.1 fdn.2 (Nat.le_of_ble_eq_true rfl) fit_nil)) (Nat.le_of_ble_eq_true rfl)).mono fun _ _ ⟨he, hk2⟩ => ⟨_, he, rfl, hk2⟩) rfl
      ) <|
    aE (fun hk bs hd => xnev rfl (dp hd 5 rfl) (dp hd 12 rfl)) (congrArg Value.bool (by rw [hdv11, sameV_self]; rfl)) rfl <|
    arm0) fun fa fw bs hv ap z q ow => ?_
  obtain ⟨s4, s5, s11, s12, s130, s131⟩ := b6 bs s4 s5 s11 s12 s130 s131; have s147 := gv hv 13 rfl rfl; refine wt hK33 ?_; refine wp_cond_false (s147) ?_; refine wp_skip ?_; refine block_n ?_; refine tn hK31 ?_
  refine ro [yV (.int .i64 2)] 1 150 z q ow (
    aS (fun hk bs hd => xadd (Or.inl rfl) rfl (bg bs s131) rfl (by omega) (by omega)) rfl <|
    arm0) fun fa fw bs hv ap z q ow => ?_
  obtain ⟨s4, s5, s11, s12, s130, s131⟩ := b6 bs s4 s5 s11 s12 s130 s131; have s148 := gv hv 0 rfl rfl; refine wl_value (v := .int .i64 2) (want0 rfl) (xmove rfl s148) ?_; refine gp5 z q ow s4 s5 s11 s12 s130 fun fa fw z q ow s4 s5 s11 s12 s130 s131 => ?_; refine wl_end ?_; refine then_n ?_; refine rnd1 ?_; refine sq fun hK34 => ?_
  refine ro [yV (.bool true)] 1 150 z q ow (
    aE (fun hk bs hd => xlss rfl (bg bs s131) rfl) (congrArg Value.bool rfl) rfl <|
    arm0) fun fa fw bs hv ap z q ow => ?_
  obtain ⟨s4, s5, s11, s12, s130, s131⟩ := b6 bs s4 s5 s11 s12 s130 s131; have s132 := gv hv 0 rfl rfl; refine wt hK34 ?_; refine sq fun hK35 => ?_; refine wp_cond_true (s132) ?_; refine wp_skip ?_; refine tn hK35 ?_; refine sq fun hK36 => ?_; refine wp_block ?_; refine sq fun hK37 => ?_
  refine ro [yV (.int .u8 12), yV _] 2 150 z q ow (
    aS (fun hk bs hd => xindex rfl (bg bs s130) (bg bs s131) (by kernel_rfl)) rfl <|
    asD 0 rfl rfl rfl rfl rfl rfl <|
    arm0) fun fa fw bs hv ap z q ow => ?_
  obtain ⟨s4, s5, s11, s12, s130, s131⟩ := b6 bs s4 s5 s11 s12 s130 s131; have s15 := gv hv 1 rfl rfl; refine wt hK37 ?_; refine sq fun hK38 => ?_
  refine ro [yV _, yV _, yV _, yV (.agg #[.bool y.w, .int .u8 y.v.k, .int .i64 y.v.n, .string ⟨y.v.t.toArray⟩, .int .i64 y.x.c1, .int .i64 y.x.r1, .int .i64 y.x.c2, .int .i64 y.x.r2, .slice Ay y.l.length cly]), ySlice fw.heap.size 1 (argsObj [(y, .slice Ay y.l.length cly)]), yV (aggV ((vCall16 12 [y]).1)), yV _, yV (.agg #[.int .i64 y.x.c1, .int .i64 y.x.r1, .int .i64 y.x.c2, .int .i64 a1, .slice A2 ((upC a1 (y.l.take i)).length) c2]), yV (.agg #[.bool true, .int .u8 0, .int .i64 0, .string ⟨[].toArray⟩, .int .i64 y.x.c1, .int .i64 y.x.r1, .int .i64 y.x.c2, .int .i64 a1, .slice A2 ((upC a1 (y.l.take i)).length) c2]), yV (.agg #[.int .i64 y.x.c1, .int .i64 (a1 + 1), .int .i64 y.x.c2, .int .i64 y.x.r2, .slice A3 ((downC a1 (y.l.take i)).length) c3]), yV (.agg #[.bool true, .int .u8 0, .int .i64 0, .string ⟨[].toArray⟩, .int .i64 y.x.c1, .int .i64 (a1 + 1), .int .i64 y.x.c2, .int .i64 y.x.r2, .slice A3 ((downC a1 (y.l.take i)).length) c3]), ySlice fw.heap.size 2 (argsObj [((⟨true, ⟨0, 0, []⟩, ⟨y.x.c1, y.x.r1, y.x.c2, a1⟩, (upC a1 (y.l.take i))⟩ : Ar), .slice A2 ((upC a1 (y.l.take i)).length) c2), ((⟨true, ⟨0, 0, []⟩, ⟨y.x.c1, a1 + 1, y.x.c2, y.x.r2⟩, (downC a1 (y.l.take i))⟩ : Ar), .slice A3 ((downC a1 (y.l.take i)).length) c3)]), yV (aggV ((vCall16 12 [(⟨true, ⟨0, 0, []⟩, ⟨y.x.c1, y.x.r1, y.x.c2, a1⟩, (upC a1 (y.l.take i))⟩ : Ar), (⟨true, ⟨0, 0, []⟩, ⟨y.x.c1, a1 + 1, y.x.c2, y.x.r2⟩, (downC a1 (y.l.take i))⟩ : Ar)]).1)), yV (.bool false)] 14 150 z q ow (
    mvS s15 rfl rfl rfl rfl <|
    mvS s5 rfl rfl rfl rfl <|
    aS (fun hk bs hd => xplaceK 9 Tryz.underlying22 (by kernel_rfl) rfl (i := 0) rfl (dp hd 1 rfl) rfl (by decide)) rfl <|
    aS (fun hk bs hd => xpartK (n := 9) 0 rfl (by kernel_rfl) (by kernel_rfl) (dp hd 2 rfl) rfl (own_elem (l := [(y, (.slice Ay y.l.length cly))]) (i := 0) argE_len rfl ((ow.keep hk).row 7 rfl) rfl)) rfl <|
    arm (fun aa ww hk bs hd => by
      have d3 : aa.eval (.tmp 137) = .agg #[.bool y.w, .int .u8 y.v.k, .int .i64 y.v.n, .string ⟨y.v.t.toArray⟩, .int .i64 y.x.c1, .int .i64 y.x.r1, .int .i64 y.x.c2, .int .i64 y.x.r2, .slice Ay y.l.length cly] := depX hd 3 rfl; exact stepX_new _ (want0 rfl) (xbuildSlice (us := #[(0, .agg #[.bool y.w, .int .u8 y.v.k, .int .i64 y.v.n, .string ⟨y.v.t.toArray⟩, .int .i64 y.x.c1, .int .i64 y.x.r1, .int .i64 y.x.c2, .int .i64 y.x.r2, .slice Ay y.l.length cly])]) (b := argsObj [(y, .slice Ay y.l.length cly)]) rfl (by simp only [List.map_toArray, List.map_cons, List.map_nil, d3]) (by kernel_rfl)) ⟨_, rfl, hk.size, Go.heap_alloc_new _ _⟩ ((Kept.refl _).alloc _) rfl (Nat.le_refl _)
      ) <|
    arm (fun aa ww hk bs hd => by
      have d0 := dp hd 0 rfl; have d4 := dL hd 4 rfl; obtain ⟨g4, e4, _, h4⟩ := d4; exact stepX_enter (want0 rfl) (xcall2 (u := .int .u8 12) (v := .slice (some ⟨g4, 0, none⟩) 1 1) rfl (d0) e4 (en_louvrelaw16_of _ _)) ((of16_any 12 (some ⟨g4, 0, none⟩) 1 [y] ww mx (HM.kept (ow.keep hk).kept) (argsObj_at (L := [(y, .slice Ay y.l.length cly)]) h4 (atCons (cellsAt_own (p := (y, (.slice Ay y.l.length cly))) ((ow.keep hk).thing 8 rfl)) atNil)) (fit_cons fy.1 fy.2 (Nat.le_of_ble_eq_true rfl) fit_nil) (Nat.le_of_ble_eq_true rfl)).mono fun _ _ ⟨he, hk2⟩ => ⟨_, he, rfl, hk2⟩) rfl
      ) <|
    mvS s15 rfl rfl rfl rfl <|
    aS (fun hk bs hd => xloadN 5 rfl (by kernel_rfl) (by kernel_rfl) (bg bs s11) ((ow.keep hk).box 3 rfl) (Nat.le_of_ble_eq_true rfl) rfl) rfl <|
    arm (fun aa ww hk bs hd => by
      have d7 : aa.eval (.tmp 141) = .agg #[.int .i64 y.x.c1, .int .i64 y.x.r1, .int .i64 y.x.c2, .int .i64 a1, .slice A2 ((upC a1 (y.l.take i)).length) c2] := depX hd 7 rfl; exact stepX_same (v := .agg #[.bool true, .int .u8 0, .int .i64 0, .string ⟨[].toArray⟩, .int .i64 y.x.c1, .int .i64 y.x.r1, .int .i64 y.x.c2, .int .i64 a1, .slice A2 ((upC a1 (y.l.take i)).length) c2]) (want0 rfl) (xbuild (us := #[(0, .bool true), (2, .agg #[.int .i64 y.x.c1, .int .i64 y.x.r1, .int .i64 y.x.c2, .int .i64 a1, .slice A2 ((upC a1 (y.l.take i)).length) c2])]) rfl (by simp only [List.map_toArray, List.map_cons, List.map_nil, d7]; rfl) (by kernel_rfl)) rfl rfl
      ) <|
    aS (fun hk bs hd => xloadN 5 rfl (by kernel_rfl) (by kernel_rfl) (bg bs s12) ((ow.keep hk).box 2 rfl) (Nat.le_of_ble_eq_true rfl) rfl) rfl <|
    arm (fun aa ww hk bs hd => by
      have d9 : aa.eval (.tmp 143) = .agg #[.int .i64 y.x.c1, .int .i64 (a1 + 1), .int .i64 y.x.c2, .int .i64 y.x.r2, .slice A3 ((downC a1 (y.l.take i)).length) c3] := depX hd 9 rfl; exact stepX_same (v := .agg #[.bool true, .int .u8 0, .int .i64 0, .string ⟨[].toArray⟩, .int .i64 y.x.c1, .int .i64 (a1 + 1), .int .i64 y.x.c2, .int .i64 y.x.r2, .slice A3 ((downC a1 (y.l.take i)).length) c3]) (want0 rfl) (xbuild (us := #[(0, .bool true), (2, .agg #[.int .i64 y.x.c1, .int .i64 (a1 + 1), .int .i64 y.x.c2, .int .i64 y.x.r2, .slice A3 ((downC a1 (y.l.take i)).length) c3])]) rfl (by simp only [List.map_toArray, List.map_cons, List.map_nil, d9]; rfl) (by kernel_rfl)) rfl rfl
      ) <|
    arm (fun aa ww hk bs hd => by
      have d8 : aa.eval (.tmp 142) = .agg #[.bool true, .int .u8 0, .int .i64 0, .string ⟨[].toArray⟩, .int .i64 y.x.c1, .int .i64 y.x.r1, .int .i64 y.x.c2, .int .i64 a1, .slice A2 ((upC a1 (y.l.take i)).length) c2] := depX hd 8 rfl; have d10 : aa.eval (.tmp 144) = .agg #[.bool true, .int .u8 0, .int .i64 0, .string ⟨[].toArray⟩, .int .i64 y.x.c1, .int .i64 (a1 + 1), .int .i64 y.x.c2, .int .i64 y.x.r2, .slice A3 ((downC a1 (y.l.take i)).length) c3] := depX hd 10 rfl; exact stepX_new _ (want0 rfl) (xbuildSlice (us := #[(0, .agg #[.bool true, .int .u8 0, .int .i64 0, .string ⟨[].toArray⟩, .int .i64 y.x.c1, .int .i64 y.x.r1, .int .i64 y.x.c2, .int .i64 a1, .slice A2 ((upC a1 (y.l.take i)).length) c2]), (1, .agg #[.bool true, .int .u8 0, .int .i64 0, .string ⟨[].toArray⟩, .int .i64 y.x.c1, .int .i64 (a1 + 1), .int .i64 y.x.c2, .int .i64 y.x.r2, .slice A3 ((downC a1 (y.l.take i)).length) c3])]) (b := argsObj [((⟨true, ⟨0, 0, []⟩, ⟨y.x.c1, y.x.r1, y.x.c2, a1⟩, (upC a1 (y.l.take i))⟩ : Ar), .slice A2 ((upC a1 (y.l.take i)).length) c2), ((⟨true, ⟨0, 0, []⟩, ⟨y.x.c1, a1 + 1, y.x.c2, y.x.r2⟩, (downC a1 (y.l.take i))⟩ : Ar), .slice A3 ((downC a1 (y.l.take i)).length) c3)]) rfl (by simp only [List.map_toArray, List.map_cons, List.map_nil, d8, d10]) (by kernel_rfl)) ⟨_, rfl, hk.size, Go.heap_alloc_new _ _⟩ ((Kept.refl _).alloc _) rfl (Nat.le_refl _)
      ) <|
    arm (fun aa ww hk bs hd => by
      have d6 := dp hd 6 rfl; have d11 := dL hd 11 rfl; obtain ⟨g11, e11, _, h11⟩ := d11; exact stepX_enter (want0 rfl) (xcall2 (u := .int .u8 12) (v := .slice (some ⟨g11, 0, none⟩) 2 2) rfl (d6) e11 (en_louvrelaw16_of _ _)) ((of16_any 12 (some ⟨g11, 0, none⟩) 2 [(⟨true, ⟨0, 0, []⟩, ⟨y.x.c1, y.x.r1, y.x.c2, a1⟩, (upC a1 (y.l.take i))⟩ : Ar), (⟨true, ⟨0, 0, []⟩, ⟨y.x.c1, a1 + 1, y.x.c2, y.x.r2⟩, (downC a1 (y.l.take i))⟩ : Ar)] ww mx (HM.kept (ow.keep hk).kept) (argsObj_at (L := [((⟨true, ⟨0, 0, []⟩, ⟨y.x.c1, y.x.r1, y.x.c2, a1⟩, (upC a1 (y.l.take i))⟩ : Ar), .slice A2 ((upC a1 (y.l.take i)).length) c2), ((⟨true, ⟨0, 0, []⟩, ⟨y.x.c1, a1 + 1, y.x.c2, y.x.r2⟩, (downC a1 (y.l.take i))⟩ : Ar), .slice A3 ((downC a1 (y.l.take i)).length) c3)]) h11 (atCons (cellsAt_row ((ow.keep hk).thing 0 rfl)) (atCons (cellsAt_row ((ow.keep hk).thing 1 rfl)) atNil))) (fit_cons fup.1 fup.2 (Nat.le_of_ble_eq_true rfl) (fit_cons fdn.1 fdn.2 (Nat.le_of_ble_eq_true rfl) fit_nil)) (Nat.le_of_ble_eq_true rfl)).mono fun _ _ ⟨he, hk2⟩ => ⟨_, he, rfl, hk2⟩) rfl
      ) <|
    aE (fun hk bs hd => xnev rfl (dp hd 5 rfl) (dp hd 12 rfl)) (congrArg Value.bool (by rw [hdv12, sameV_self]; rfl)) rfl <|
    arm0) fun fa fw bs hv ap z q ow => ?_
  obtain ⟨s4, s5, s11, s12, s130, s131⟩ := b6 bs s4 s5 s11 s12 s130 s131; have s147 := gv hv 13 rfl rfl; refine wt hK38 ?_; refine wp_cond_false (s147) ?_; refine wp_skip ?_; refine block_n ?_; refine tn hK36 ?_
  refine ro [yV (.int .i64 3)] 1 150 z q ow (
    aS (fun hk bs hd => xadd (Or.inl rfl) rfl (bg bs s131) rfl (by omega) (by omega)) rfl <|
    arm0) fun fa fw bs hv ap z q ow => ?_
  obtain ⟨s4, s5, s11, s12, s130, s131⟩ := b6 bs s4 s5 s11 s12 s130 s131; have s148 := gv hv 0 rfl rfl; refine wl_value (v := .int .i64 3) (want0 rfl) (xmove rfl s148) ?_; refine gp5 z q ow s4 s5 s11 s12 s130 fun fa fw z q ow s4 s5 s11 s12 s130 s131 => ?_; refine wl_end ?_; refine then_n ?_; refine rnd1 ?_; refine sq fun hK39 => ?_
  refine ro [yV (.bool true)] 1 150 z q ow (
    aE (fun hk bs hd => xlss rfl (bg bs s131) rfl) (congrArg Value.bool rfl) rfl <|
    arm0) fun fa fw bs hv ap z q ow => ?_
  obtain ⟨s4, s5, s11, s12, s130, s131⟩ := b6 bs s4 s5 s11 s12 s130 s131; have s132 := gv hv 0 rfl rfl; refine wt hK39 ?_; refine sq fun hK40 => ?_; refine wp_cond_true (s132) ?_; refine wp_skip ?_; refine tn hK40 ?_; refine sq fun hK41 => ?_; refine wp_block ?_; refine sq fun hK42 => ?_
  refine ro [yV (.int .u8 15), yV _] 2 150 z q ow (
    aS (fun hk bs hd => xindex rfl (bg bs s130) (bg bs s131) (by kernel_rfl)) rfl <|
    asD 0 rfl rfl rfl rfl rfl rfl <|
    arm0) fun fa fw bs hv ap z q ow => ?_
  obtain ⟨s4, s5, s11, s12, s130, s131⟩ := b6 bs s4 s5 s11 s12 s130 s131; have s15 := gv hv 1 rfl rfl; refine wt hK42 ?_; refine sq fun hK43 => ?_
  refine ro [yV _, yV _, yV _, yV (.agg #[.bool y.w, .int .u8 y.v.k, .int .i64 y.v.n, .string ⟨y.v.t.toArray⟩, .int .i64 y.x.c1, .int .i64 y.x.r1, .int .i64 y.x.c2, .int .i64 y.x.r2, .slice Ay y.l.length cly]), ySlice fw.heap.size 1 (argsObj [(y, .slice Ay y.l.length cly)]), yV (aggV ((vCall16 15 [y]).1)), yV _, yV (.agg #[.int .i64 y.x.c1, .int .i64 y.x.r1, .int .i64 y.x.c2, .int .i64 a1, .slice A2 ((upC a1 (y.l.take i)).length) c2]), yV (.agg #[.bool true, .int .u8 0, .int .i64 0, .string ⟨[].toArray⟩, .int .i64 y.x.c1, .int .i64 y.x.r1, .int .i64 y.x.c2, .int .i64 a1, .slice A2 ((upC a1 (y.l.take i)).length) c2]), yV (.agg #[.int .i64 y.x.c1, .int .i64 (a1 + 1), .int .i64 y.x.c2, .int .i64 y.x.r2, .slice A3 ((downC a1 (y.l.take i)).length) c3]), yV (.agg #[.bool true, .int .u8 0, .int .i64 0, .string ⟨[].toArray⟩, .int .i64 y.x.c1, .int .i64 (a1 + 1), .int .i64 y.x.c2, .int .i64 y.x.r2, .slice A3 ((downC a1 (y.l.take i)).length) c3]), ySlice fw.heap.size 2 (argsObj [((⟨true, ⟨0, 0, []⟩, ⟨y.x.c1, y.x.r1, y.x.c2, a1⟩, (upC a1 (y.l.take i))⟩ : Ar), .slice A2 ((upC a1 (y.l.take i)).length) c2), ((⟨true, ⟨0, 0, []⟩, ⟨y.x.c1, a1 + 1, y.x.c2, y.x.r2⟩, (downC a1 (y.l.take i))⟩ : Ar), .slice A3 ((downC a1 (y.l.take i)).length) c3)]), yV (aggV ((vCall16 15 [(⟨true, ⟨0, 0, []⟩, ⟨y.x.c1, y.x.r1, y.x.c2, a1⟩, (upC a1 (y.l.take i))⟩ : Ar), (⟨true, ⟨0, 0, []⟩, ⟨y.x.c1, a1 + 1, y.x.c2, y.x.r2⟩, (downC a1 (y.l.take i))⟩ : Ar)]).1)), yV (.bool false)] 14 150 z q ow (
    mvS s15 rfl rfl rfl rfl <|
    mvS s5 rfl rfl rfl rfl <|
    aS (fun hk bs hd => xplaceK 9 Tryz.underlying22 (by kernel_rfl) rfl (i := 0) rfl (dp hd 1 rfl) rfl (by decide)) rfl <|
    aS (fun hk bs hd => xpartK (n := 9) 0 rfl (by kernel_rfl) (by kernel_rfl) (dp hd 2 rfl) rfl (own_elem (l := [(y, (.slice Ay y.l.length cly))]) (i := 0) argE_len rfl ((ow.keep hk).row 7 rfl) rfl)) rfl <|
    arm (fun aa ww hk bs hd => by
      have d3 : aa.eval (.tmp 137) = .agg #[.bool y.w, .int .u8 y.v.k, .int .i64 y.v.n, .string ⟨y.v.t.toArray⟩, .int .i64 y.x.c1, .int .i64 y.x.r1, .int .i64 y.x.c2, .int .i64 y.x.r2, .slice Ay y.l.length cly] := depX hd 3 rfl; exact stepX_new _ (want0 rfl) (xbuildSlice (us := #[(0, .agg #[.bool y.w, .int .u8 y.v.k, .int .i64 y.v.n, .string ⟨y.v.t.toArray⟩, .int .i64 y.x.c1, .int .i64 y.x.r1, .int .i64 y.x.c2, .int .i64 y.x.r2, .slice Ay y.l.length cly])]) (b := argsObj [(y, .slice Ay y.l.length cly)]) rfl (by simp only [List.map_toArray, List.map_cons, List.map_nil, d3]) (by kernel_rfl)) ⟨_, rfl, hk.size, Go.heap_alloc_new _ _⟩ ((Kept.refl _).alloc _) rfl (Nat.le_refl _)
      ) <|
    arm (fun aa ww hk bs hd => by
      have d0 := dp hd 0 rfl; have d4 := dL hd 4 rfl; obtain ⟨g4, e4, _, h4⟩ := d4; exact stepX_enter (want0 rfl) (xcall2 (u := .int .u8 15) (v := .slice (some ⟨g4, 0, none⟩) 1 1) rfl (d0) e4 (en_louvrelaw16_of _ _)) ((of16_any 15 (some ⟨g4, 0, none⟩) 1 [y] ww mx (HM.kept (ow.keep hk).kept) (argsObj_at (L := [(y, .slice Ay y.l.length cly)]) h4 (atCons (cellsAt_own (p := (y, (.slice Ay y.l.length cly))) ((ow.keep hk).thing 8 rfl)) atNil)) (fit_cons fy.1 fy.2 (Nat.le_of_ble_eq_true rfl) fit_nil) (Nat.le_of_ble_eq_true rfl)).mono fun _ _ ⟨he, hk2⟩ => ⟨_, he, rfl, hk2⟩) rfl
      ) <|
    mvS s15 rfl rfl rfl rfl <|
    aS (fun hk bs hd => xloadN 5 rfl (by kernel_rfl) (by kernel_rfl) (bg bs s11) ((ow.keep hk).box 3 rfl) (Nat.le_of_ble_eq_true rfl) rfl) rfl <|
    arm (fun aa ww hk bs hd => by
      have d7 : aa.eval (.tmp 141) = .agg #[.int .i64 y.x.c1, .int .i64 y.x.r1, .int .i64 y.x.c2, .int .i64 a1, .slice A2 ((upC a1 (y.l.take i)).length) c2] := depX hd 7 rfl; exact stepX_same (v := .agg #[.bool true, .int .u8 0, .int .i64 0, .string ⟨[].toArray⟩, .int .i64 y.x.c1, .int .i64 y.x.r1, .int .i64 y.x.c2, .int .i64 a1, .slice A2 ((upC a1 (y.l.take i)).length) c2]) (want0 rfl) (xbuild (us := #[(0, .bool true), (2, .agg #[.int .i64 y.x.c1, .int .i64 y.x.r1, .int .i64 y.x.c2, .int .i64 a1, .slice A2 ((upC a1 (y.l.take i)).length) c2])]) rfl (by simp only [List.map_toArray, List.map_cons, List.map_nil, d7]; rfl) (by kernel_rfl)) rfl rfl
      ) <|
    aS (fun hk bs hd => xloadN 5 rfl (by kernel_rfl) (by kernel_rfl) (bg bs s12) ((ow.keep hk).box 2 rfl) (Nat.le_of_ble_eq_true rfl) rfl) rfl <|
    arm (fun aa ww hk bs hd => by
      have d9 : aa.eval (.tmp 143) = .agg #[.int .i64 y.x.c1, .int .i64 (a1 + 1), .int .i64 y.x.c2, .int .i64 y.x.r2, .slice A3 ((downC a1 (y.l.take i)).length) c3] := depX hd 9 rfl; exact stepX_same (v := .agg #[.bool true, .int .u8 0, .int .i64 0, .string ⟨[].toArray⟩, .int .i64 y.x.c1, .int .i64 (a1 + 1), .int .i64 y.x.c2, .int .i64 y.x.r2, .slice A3 ((downC a1 (y.l.take i)).length) c3]) (want0 rfl) (xbuild (us := #[(0, .bool true), (2, .agg #[.int .i64 y.x.c1, .int .i64 (a1 + 1), .int .i64 y.x.c2, .int .i64 y.x.r2, .slice A3 ((downC a1 (y.l.take i)).length) c3])]) rfl (by simp only [List.map_toArray, List.map_cons, List.map_nil, d9]; rfl) (by kernel_rfl)) rfl rfl
      ) <|
    arm (fun aa ww hk bs hd => by
      have d8 : aa.eval (.tmp 142) = .agg #[.bool true, .int .u8 0, .int .i64 0, .string ⟨[].toArray⟩, .int .i64 y.x.c1, .int .i64 y.x.r1, .int .i64 y.x.c2, .int .i64 a1, .slice A2 ((upC a1 (y.l.take i)).length) c2] := depX hd 8 rfl; have d10 : aa.eval (.tmp 144) = .agg #[.bool true, .int .u8 0, .int .i64 0, .string ⟨[].toArray⟩, .int .i64 y.x.c1, .int .i64 (a1 + 1), .int .i64 y.x.c2, .int .i64 y.x.r2, .slice A3 ((downC a1 (y.l.take i)).length) c3] := depX hd 10 rfl; exact stepX_new _ (want0 rfl) (xbuildSlice (us := #[(0, .agg #[.bool true, .int .u8 0, .int .i64 0, .string ⟨[].toArray⟩, .int .i64 y.x.c1, .int .i64 y.x.r1, .int .i64 y.x.c2, .int .i64 a1, .slice A2 ((upC a1 (y.l.take i)).length) c2]), (1, .agg #[.bool true, .int .u8 0, .int .i64 0, .string ⟨[].toArray⟩, .int .i64 y.x.c1, .int .i64 (a1 + 1), .int .i64 y.x.c2, .int .i64 y.x.r2, .slice A3 ((downC a1 (y.l.take i)).length) c3])]) (b := argsObj [((⟨true, ⟨0, 0, []⟩, ⟨y.x.c1, y.x.r1, y.x.c2, a1⟩, (upC a1 (y.l.take i))⟩ : Ar), .slice A2 ((upC a1 (y.l.take i)).length) c2), ((⟨true, ⟨0, 0, []⟩, ⟨y.x.c1, a1 + 1, y.x.c2, y.x.r2⟩, (downC a1 (y.l.take i))⟩ : Ar), .slice A3 ((downC a1 (y.l.take i)).length) c3)]) rfl (by simp only [List.map_toArray, List.map_cons, List.map_nil, d8, d10]) (by kernel_rfl)) ⟨_, rfl, hk.size, Go.heap_alloc_new _ _⟩ ((Kept.refl _).alloc _) rfl (Nat.le_refl _)
      ) <|
    arm (fun aa ww hk bs hd => by
      have d6 := dp hd 6 rfl; have d11 := dL hd 11 rfl; obtain ⟨g11, e11, _, h11⟩ := d11; exact stepX_enter (want0 rfl) (xcall2 (u := .int .u8 15) (v := .slice (some ⟨g11, 0, none⟩) 2 2) rfl (d6) e11 (en_louvrelaw16_of _ _)) ((of16_any 15 (some ⟨g11, 0, none⟩) 2 [(⟨true, ⟨0, 0, []⟩, ⟨y.x.c1, y.x.r1, y.x.c2, a1⟩, (upC a1 (y.l.take i))⟩ : Ar), (⟨true, ⟨0, 0, []⟩, ⟨y.x.c1, a1 + 1, y.x.c2, y.x.r2⟩, (downC a1 (y.l.take i))⟩ : Ar)] ww mx (HM.kept (ow.keep hk).kept) (argsObj_at (L := [((⟨true, ⟨0, 0, []⟩, ⟨y.x.c1, y.x.r1, y.x.c2, a1⟩, (upC a1 (y.l.take i))⟩ : Ar), .slice A2 ((upC a1 (y.l.take i)).length) c2), ((⟨true, ⟨0, 0, []⟩, ⟨y.x.c1, a1 + 1, y.x.c2, y.x.r2⟩, (downC a1 (y.l.take i))⟩ : Ar), .slice A3 ((downC a1 (y.l.take i)).length) c3)]) h11 (atCons (cellsAt_row ((ow.keep hk).thing 0 rfl)) (atCons (cellsAt_row ((ow.keep hk).thing 1 rfl)) atNil))) (fit_cons fup.1 fup.2 (Nat.le_of_ble_eq_true rfl) (fit_cons fdn.1 fdn.2 (Nat.le_of_ble_eq_true rfl) fit_nil)) (Nat.le_of_ble_eq_true rfl)).mono fun _ _ ⟨he, hk2⟩ => ⟨_, he, rfl, hk2⟩) rfl
      ) <|
    aE (fun hk bs hd => xnev rfl (dp hd 5 rfl) (dp hd 12 rfl)) (congrArg Value.bool (by rw [hdv15, sameV_self]; rfl)) rfl <|
    arm0) fun fa fw bs hv ap z q ow => ?_
  obtain ⟨s4, s5, s11, s12, s130, s131⟩ := b6 bs s4 s5 s11 s12 s130 s131; have s147 := gv hv 13 rfl rfl; refine wt hK43 ?_; refine wp_cond_false (s147) ?_; refine wp_skip ?_; refine block_n ?_; refine tn hK41 ?_
  refine ro [yV (.int .i64 4)] 1 150 z q ow (
    aS (fun hk bs hd => xadd (Or.inl rfl) rfl (bg bs s131) rfl (by omega) (by omega)) rfl <|
    arm0) fun fa fw bs hv ap z q ow => ?_
  obtain ⟨s4, s5, s11, s12, s130, s131⟩ := b6 bs s4 s5 s11 s12 s130 s131; have s148 := gv hv 0 rfl rfl; refine wl_value (v := .int .i64 4) (want0 rfl) (xmove rfl s148) ?_; refine gp5 z q ow s4 s5 s11 s12 s130 fun fa fw z q ow s4 s5 s11 s12 s130 s131 => ?_; refine wl_end ?_; refine then_n ?_; refine rnd1 ?_; refine sq fun hK44 => ?_
  refine ro [yV (.bool true)] 1 150 z q ow (
    aE (fun hk bs hd => xlss rfl (bg bs s131) rfl) (congrArg Value.bool rfl) rfl <|
    arm0) fun fa fw bs hv ap z q ow => ?_
  obtain ⟨s4, s5, s11, s12, s130, s131⟩ := b6 bs s4 s5 s11 s12 s130 s131; have s132 := gv hv 0 rfl rfl; refine wt hK44 ?_; refine sq fun hK45 => ?_; refine wp_cond_true (s132) ?_; refine wp_skip ?_; refine tn hK45 ?_; refine sq fun hK46 => ?_; refine wp_block ?_; refine sq fun hK47 => ?_
  refine ro [yV (.int .u8 16), yV _] 2 150 z q ow (
    aS (fun hk bs hd => xindex rfl (bg bs s130) (bg bs s131) (by kernel_rfl)) rfl <|
    asD 0 rfl rfl rfl rfl rfl rfl <|
    arm0) fun fa fw bs hv ap z q ow => ?_
  obtain ⟨s4, s5, s11, s12, s130, s131⟩ := b6 bs s4 s5 s11 s12 s130 s131; have s15 := gv hv 1 rfl rfl; refine wt hK47 ?_; refine sq fun hK48 => ?_
  refine ro [yV _, yV _, yV _, yV (.agg #[.bool y.w, .int .u8 y.v.k, .int .i64 y.v.n, .string ⟨y.v.t.toArray⟩, .int .i64 y.x.c1, .int .i64 y.x.r1, .int .i64 y.x.c2, .int .i64 y.x.r2, .slice Ay y.l.length cly]), ySlice fw.heap.size 1 (argsObj [(y, .slice Ay y.l.length cly)]), yV (aggV ((vCall16 16 [y]).1)), yV _, yV (.agg #[.int .i64 y.x.c1, .int .i64 y.x.r1, .int .i64 y.x.c2, .int .i64 a1, .slice A2 ((upC a1 (y.l.take i)).length) c2]), yV (.agg #[.bool true, .int .u8 0, .int .i64 0, .string ⟨[].toArray⟩, .int .i64 y.x.c1, .int .i64 y.x.r1, .int .i64 y.x.c2, .int .i64 a1, .slice A2 ((upC a1 (y.l.take i)).length) c2]), yV (.agg #[.int .i64 y.x.c1, .int .i64 (a1 + 1), .int .i64 y.x.c2, .int .i64 y.x.r2, .slice A3 ((downC a1 (y.l.take i)).length) c3]), yV (.agg #[.bool true, .int .u8 0, .int .i64 0, .string ⟨[].toArray⟩, .int .i64 y.x.c1, .int .i64 (a1 + 1), .int .i64 y.x.c2, .int .i64 y.x.r2, .slice A3 ((downC a1 (y.l.take i)).length) c3]), ySlice fw.heap.size 2 (argsObj [((⟨true, ⟨0, 0, []⟩, ⟨y.x.c1, y.x.r1, y.x.c2, a1⟩, (upC a1 (y.l.take i))⟩ : Ar), .slice A2 ((upC a1 (y.l.take i)).length) c2), ((⟨true, ⟨0, 0, []⟩, ⟨y.x.c1, a1 + 1, y.x.c2, y.x.r2⟩, (downC a1 (y.l.take i))⟩ : Ar), .slice A3 ((downC a1 (y.l.take i)).length) c3)]), yV (aggV ((vCall16 16 [(⟨true, ⟨0, 0, []⟩, ⟨y.x.c1, y.x.r1, y.x.c2, a1⟩, (upC a1 (y.l.take i))⟩ : Ar), (⟨true, ⟨0, 0, []⟩, ⟨y.x.c1, a1 + 1, y.x.c2, y.x.r2⟩, (downC a1 (y.l.take i))⟩ : Ar)]).1)), yV (.bool false)] 14 150 z q ow (
    mvS s15 rfl rfl rfl rfl <|
    mvS s5 rfl rfl rfl rfl <|
    aS (fun hk bs hd => xplaceK 9 Tryz.underlying22 (by kernel_rfl) rfl (i := 0) rfl (dp hd 1 rfl) rfl (by decide)) rfl <|
    aS (fun hk bs hd => xpartK (n := 9) 0 rfl (by kernel_rfl) (by kernel_rfl) (dp hd 2 rfl) rfl (own_elem (l := [(y, (.slice Ay y.l.length cly))]) (i := 0) argE_len rfl ((ow.keep hk).row 7 rfl) rfl)) rfl <|
    arm (fun aa ww hk bs hd => by
      have d3 : aa.eval (.tmp 137) = .agg #[.bool y.w, .int .u8 y.v.k, .int .i64 y.v.n, .string ⟨y.v.t.toArray⟩, .int .i64 y.x.c1, .int .i64 y.x.r1, .int .i64 y.x.c2, .int .i64 y.x.r2, .slice Ay y.l.length cly] := depX hd 3 rfl; exact stepX_new _ (want0 rfl) (xbuildSlice (us := #[(0, .agg #[.bool y.w, .int .u8 y.v.k, .int .i64 y.v.n, .string ⟨y.v.t.toArray⟩, .int .i64 y.x.c1, .int .i64 y.x.r1, .int .i64 y.x.c2, .int .i64 y.x.r2, .slice Ay y.l.length cly])]) (b := argsObj [(y, .slice Ay y.l.length cly)]) rfl (by simp only [List.map_toArray, List.map_cons, List.map_nil, d3]) (by kernel_rfl)) ⟨_, rfl, hk.size, Go.heap_alloc_new _ _⟩ ((Kept.refl _).alloc _) rfl (Nat.le_refl _)
      ) <|
    arm (fun aa ww hk bs hd => by
      have d0 := dp hd 0 rfl; have d4 := dL hd 4 rfl; obtain ⟨g4, e4, _, h4⟩ := d4; exact stepX_enter (want0 rfl) (xcall2 (u := .int .u8 16) (v := .slice (some ⟨g4, 0, none⟩) 1 1) rfl (d0) e4 (en_louvrelaw16_of _ _)) ((of16_any 16 (some ⟨g4, 0, none⟩) 1 [y] ww mx (HM.kept (ow.keep hk).kept) (argsObj_at (L := [(y, .slice Ay y.l.length cly)]) h4 (atCons (cellsAt_own (p := (y, (.slice Ay y.l.length cly))) ((ow.keep hk).thing 8 rfl)) atNil)) (fit_cons fy.1 fy.2 (Nat.le_of_ble_eq_true rfl) fit_nil) (Nat.le_of_ble_eq_true rfl)).mono fun _ _ ⟨he, hk2⟩ => ⟨_, he, rfl, hk2⟩) rfl
      ) <|
    mvS s15 rfl rfl rfl rfl <|
    aS (fun hk bs hd => xloadN 5 rfl (by kernel_rfl) (by kernel_rfl) (bg bs s11) ((ow.keep hk).box 3 rfl) (Nat.le_of_ble_eq_true rfl) rfl) rfl <|
    arm (fun aa ww hk bs hd => by
      have d7 : aa.eval (.tmp 141) = .agg #[.int .i64 y.x.c1, .int .i64 y.x.r1, .int .i64 y.x.c2, .int .i64 a1, .slice A2 ((upC a1 (y.l.take i)).length) c2] := depX hd 7 rfl; exact stepX_same (v := .agg #[.bool true, .int .u8 0, .int .i64 0, .string ⟨[].toArray⟩, .int .i64 y.x.c1, .int .i64 y.x.r1, .int .i64 y.x.c2, .int .i64 a1, .slice A2 ((upC a1 (y.l.take i)).length) c2]) (want0 rfl) (xbuild (us := #[(0, .bool true), (2, .agg #[.int .i64 y.x.c1, .int .i64 y.x.r1, .int .i64 y.x.c2, .int .i64 a1, .slice A2 ((upC a1 (y.l.take i)).length) c2])]) rfl (by simp only [List.map_toArray, List.map_cons, List.map_nil, d7]; rfl) (by kernel_rfl)) rfl rfl
      ) <|
    aS (fun hk bs hd => xloadN 5 rfl (by kernel_rfl) (by kernel_rfl) (bg bs s12) ((ow.keep hk).box 2 rfl) (Nat.le_of_ble_eq_true rfl) rfl) rfl <|
    arm (fun aa ww hk bs hd => by
      have d9 : aa.eval (.tmp 143) = .agg #[.int .i64 y.x.c1, .int .i64 (a1 + 1), .int .i64 y.x.c2, .int .i64 y.x.r2, .slice A3 ((downC a1 (y.l.take i)).length) c3] := depX hd 9 rfl; exact stepX_same (v := .agg #[.bool true, .int .u8 0, .int .i64 0, .string ⟨[].toArray⟩, .int .i64 y.x.c1, .int .i64 (a1 + 1), .int .i64 y.x.c2, .int .i64 y.x.r2, .slice A3 ((downC a1 (y.l.take i)).length) c3]) (want0 rfl) (xbuild (us := #[(0, .bool true), (2, .agg #[.int .i64 y.x.c1, .int .i64 (a1 + 1), .int .i64 y.x.c2, .int .i64 y.x.r2, .slice A3 ((downC a1 (y.l.take i)).length) c3])]) rfl (by simp only [List.map_toArray, List.map_cons, List.map_nil, d9]; rfl) (by kernel_rfl)) rfl rfl
      ) <|
    arm (fun aa ww hk bs hd => by
      have d8 : aa.eval (.tmp 142) = .agg #[.bool true, .int .u8 0, .int .i64 0, .string ⟨[].toArray⟩, .int .i64 y.x.c1, .int .i64 y.x.r1, .int .i64 y.x.c2, .int .i64 a1, .slice A2 ((upC a1 (y.l.take i)).length) c2] := depX hd 8 rfl; have d10 : aa.eval (.tmp 144) = .agg #[.bool true, .int .u8 0, .int .i64 0, .string ⟨[].toArray⟩, .int .i64 y.x.c1, .int .i64 (a1 + 1), .int .i64 y.x.c2, .int .i64 y.x.r2, .slice A3 ((downC a1 (y.l.take i)).length) c3] := depX hd 10 rfl; exact stepX_new _ (want0 rfl) (xbuildSlice (us := #[(0, .agg #[.bool true, .int .u8 0, .int .i64 0, .string ⟨[].toArray⟩, .int .i64 y.x.c1, .int .i64 y.x.r1, .int .i64 y.x.c2, .int .i64 a1, .slice A2 ((upC a1 (y.l.take i)).length) c2]), (1, .agg #[.bool true, .int .u8 0, .int .i64 0, .string ⟨[].toArray⟩, .int .i64 y.x.c1, .int .i64 (a1 + 1), .int .i64 y.x.c2, .int .i64 y.x.r2, .slice A3 ((downC a1 (y.l.take i)).length) c3])]) (b := argsObj [((⟨true, ⟨0, 0, []⟩, ⟨y.x.c1, y.x.r1, y.x.c2, a1⟩, (upC a1 (y.l.take i))⟩ : Ar), .slice A2 ((upC a1 (y.l.take i)).length) c2), ((⟨true, ⟨0, 0, []⟩, ⟨y.x.c1, a1 + 1, y.x.c2, y.x.r2⟩, (downC a1 (y.l.take i))⟩ : Ar), .slice A3 ((downC a1 (y.l.take i)).length) c3)]) rfl (by simp only [List.map_toArray, List.map_cons, List.map_nil, d8, d10]) (by kernel_rfl)) ⟨_, rfl, hk.size, Go.heap_alloc_new _ _⟩ ((Kept.refl _).alloc _) rfl (Nat.le_refl _)
      ) <|
    arm (fun aa ww hk bs hd => by
      have d6 := dp hd 6 rfl; have d11 := dL hd 11 rfl; obtain ⟨g11, e11, _, h11⟩ := d11; exact stepX_enter (want0 rfl) (xcall2 (u := .int .u8 16) (v := .slice (some ⟨g11, 0, none⟩) 2 2) rfl (d6) e11 (en_louvrelaw16_of _ _)) ((of16_any 16 (some ⟨g11, 0, none⟩) 2 [(⟨true, ⟨0, 0, []⟩, ⟨y.x.c1, y.x.r1, y.x.c2, a1⟩, (upC a1 (y.l.take i))⟩ : Ar), (⟨true, ⟨0, 0, []⟩, ⟨y.x.c1, a1 + 1, y.x.c2, y.x.r2⟩, (downC a1 (y.l.take i))⟩ : Ar)] ww mx (HM.kept (ow.keep hk).kept) (argsObj_at (L := [((⟨true, ⟨0, 0, []⟩, ⟨y.x.c1, y.x.r1, y.x.c2, a1⟩, (upC a1 (y.l.take i))⟩ : Ar), .slice A2 ((upC a1 (y.l.take i)).length) c2), ((⟨true, ⟨0, 0, []⟩, ⟨y.x.c1, a1 + 1, y.x.c2, y.x.r2⟩, (downC a1 (y.l.take i))⟩ : Ar), .slice A3 ((downC a1 (y.l.take i)).length) c3)]) h11 (atCons (cellsAt_row ((ow.keep hk).thing 0 rfl)) (atCons (cellsAt_row ((ow.keep hk).thing 1 rfl)) atNil))) (fit_cons fup.1 fup.2 (Nat.le_of_ble_eq_true rfl) (fit_cons fdn.1 fdn.2 (Nat.le_of_ble_eq_true rfl) fit_nil)) (Nat.le_of_ble_eq_true rfl)).mono fun _ _ ⟨he, hk2⟩ => ⟨_, he, rfl, hk2⟩) rfl
      ) <|
    aE (fun hk bs hd => xnev rfl (dp hd 5 rfl) (dp hd 12 rfl)) (congrArg Value.bool (by rw [hdv16, sameV_self]; rfl)) rfl <|
    arm0) fun fa fw bs hv ap z q ow => ?_
  obtain ⟨s4, s5, s11, s12, s130, s131⟩ := b6 bs s4 s5 s11 s12 s130 s131; have s147 := gv hv 13 rfl rfl; refine wt hK48 ?_; refine wp_cond_false (s147) ?_; refine wp_skip ?_; refine block_n ?_; refine tn hK46 ?_
  refine ro [yV (.int .i64 5)] 1 150 z q ow (
    aS (fun hk bs hd => xadd (Or.inl rfl) rfl (bg bs s131) rfl (by omega) (by omega)) rfl <|
    arm0) fun fa fw bs hv ap z q ow => ?_
  obtain ⟨s4, s5, s11, s12, s130, s131⟩ := b6 bs s4 s5 s11 s12 s130 s131; have s148 := gv hv 0 rfl rfl; refine wl_value (v := .int .i64 5) (want0 rfl) (xmove rfl s148) ?_; refine gp5 z q ow s4 s5 s11 s12 s130 fun fa fw z q ow s4 s5 s11 s12 s130 s131 => ?_; refine wl_end ?_; refine then_n ?_; refine rnd1 ?_; refine sq fun hK49 => ?_
  refine ro [yV (.bool false)] 1 150 z q ow (
    aE (fun hk bs hd => xlss rfl (bg bs s131) rfl) (congrArg Value.bool rfl) rfl <|
    arm0) fun fa fw bs hv ap z q ow => ?_
  obtain ⟨s4, s5, s11, s12, s130, s131⟩ := b6 bs s4 s5 s11 s12 s130 s131; have s132 := gv hv 0 rfl rfl; refine wt hK49 ?_; refine sq fun hK50 => ?_; refine wp_cond_false (s132) ?_; refine wp_exit ?_; refine then_e ?_; refine then_e ?_; refine block_hit ?_; refine tn hK22 ?_; refine sq fun hK51 => ?_
  refine ro [yV (.bool true), yV _] 2 150 z q ow (
    aC (fun hk bs hd => xcall0 rfl (en_louvrelaw16_awake _ _)) (fun hk bs hd => awake16_any _ mx (HM.kept (ow.keep hk).kept)) rfl <|
    asD 0 rfl rfl rfl rfl rfl rfl <|
    arm0) fun fa fw bs hv ap z q ow => ?_
  have s4 := gv hv 1 rfl rfl; refine wt hK51 ?_; refine wp_ret ?_; refine results_one rfl (res_tmp s4) q ?_; exact ⟨rfl, ow.kept⟩
end Go.Proofs.YtbkjdcpfkepheaaGreatDoor
