/- Layer 14: the reference's convert and Call (printed by wip/mkref14b.py). -/
import Derived.Test.YtbpkfnoenkoabaaGreatDoorFhGRef14
import Derived.Test.YtbpkfnoenkoabaaGreatDoorFhGText4
import Derived.Test.YtbpkfnoenkoabaaGreatDoorFhMixAX
namespace Go.Proofs.YtbpkfnoenkoabaaGreatDoor
set_option linter.unusedVariables false
set_option linter.unusedSimpArgs false
open Go.RowKit Lv
set_option maxRecDepth 100000
def RConvOut (fn : Nat) (l : List Vl) (w : World) (e : Ending) (w' : World) : Prop := ∃ sv nv x ok, e = .returned (.tuple #[sv, nv, aggV x, .bool ok]) ∧ Kept w w' ∧ ((ok = false ∧ firstE (args14 fn 0 l) = some x) ∨ (ok = true ∧ firstE (args14 fn 0 l) = none ∧ Own w [Th.row w.heap.size 9 1 sv ((txts14 fn 0 l).map strV).length ((txts14 fn 0 l).map strV), Th.row w.heap.size 3 1 nv ((nums14 fn 0 l).map numV).length ((nums14 fn 0 l).map numV)] w'))
theorem nextNr {fn k : Nat} {l : List Vl} (hk : k < l.length) (h : txt14 fn k = false) : (nums14 fn 0 (l.take (k + 1))).map numV = (nums14 fn 0 (l.take k)).map numV ++ [numV (Int.tdiv (vNum (l.getD k blankV)).n 10000)] := by rw [nums14_next hk, if_neg (by rw [h]; decide), List.map_append]; rfl
theorem all_bad {l : List Vl} (h : l.all vOk = false) : ∃ k, k < l.length ∧ vOk (l.getD k blankV) = false := by
  rw [List.all_eq_false] at h; obtain ⟨x, hx, hn⟩ := h; obtain ⟨k, hk, e⟩ := List.getElem_of_mem hx; refine ⟨k, hk, ?_⟩; rw [show l.getD k blankV = l[k] by simp [List.getD, hk], e]
  simpa using hn
theorem head_at {s : List (List UInt8)} (h : 0 < s.length) : (s.map strV)[0]? = some (strV (s.headD [])) := by
  cases s with
  | nil => simp at h
  | cons x r => rfl
theorem txts_pos {fn : Nat} {l : List Vl} (h1 : 31 ≤ fn) (h2 : fn ≤ 42) (hlo : lo14 fn ≤ l.length ∧ l.length ≤ hi14 fn) : 0 < (txts14 fn 0 l).length := by
  cases l with
  | nil => have := lo_pos fn; simp at hlo; omega
  | cons v r =>
    have e : txt14 fn 0 = true := by unfold txt14; (repeat' split) <;> first | rfl | omega
    rw [txts14, if_pos e]; simp
set_option maxHeartbeats 2000000 in
theorem arity8b_any (fn : Nat) (h1 : 31 ≤ fn) (h2 : fn ≤ 42) (w : World) : Calls Tryz.prog 144 #[.int .u8 fn] w fun e w' => e = .returned (.tuple #[.int .i64 (lo14 fn : Nat), .int .i64 (hi14 fn : Nat)]) ∧ Kept w w' := by
  rcases (show fn = 31 ∨ fn = 32 ∨ fn = 33 ∨ fn = 34 ∨ fn = 35 ∨ fn = 36 ∨ fn = 37 ∨ fn = 38 ∨ fn = 39 ∨ fn = 40 ∨ fn = 41 ∨ fn = 42 by omega) with rfl | rfl | rfl | rfl | rfl | rfl | rfl | rfl | rfl | rfl | rfl | rfl
  all_goals
    go_enter Tryz.func144, Tryz.ntmps144; go_wp2_with fail; go_ret2; exact ⟨rfl, kpt⟩
theorem count14r_any (fn : Nat) (h1 : 31 ≤ fn) (h2 : fn ≤ 42) (n : Nat) (w : World) : Calls Tryz.prog 62 #[.int .u8 fn, .int .i64 n] w fun e w' => e = .returned (.bool (decide (lo14 fn ≤ n ∧ n ≤ hi14 fn))) ∧ Kept w w' := by
  have AR := Lib.hid (fun w => arity8b_any fn h1 h2 w); generalize lo14 fn = lo at *; generalize hi14 fn = hi at *; clear h1 h2
  by_cases c : lo ≤ n
  · by_cases d : n ≤ hi
    · have EF : Hid (decide (lo ≤ n ∧ n ≤ hi) = true) := decide_eq_true ⟨c, d⟩
      go_enter Tryz.func62, Tryz.ntmps62; go_wp2_with fail; refine (AR.out _).mono ?_; rintro e w' ⟨rfl, k1⟩; go_wp2_with fail; go_ret; exact ⟨ret_bool EF.out.symm, k1⟩
    · have EF : Hid (decide (lo ≤ n ∧ n ≤ hi) = false) := decide_eq_false (fun x => d x.2)
      have d' : hi < n := by omega
      go_enter Tryz.func62, Tryz.ntmps62; go_wp2_with fail; refine (AR.out _).mono ?_; rintro e w' ⟨rfl, k1⟩; go_wp2_with fail; go_ret; exact ⟨ret_bool EF.out.symm, k1⟩
  · have EF : Hid (decide (lo ≤ n ∧ n ≤ hi) = false) := decide_eq_false (fun x => c x.1)
    have d' : n < lo := by omega
    go_enter Tryz.func62, Tryz.ntmps62; go_wp2_with fail; refine (AR.out _).mono ?_; rintro e w' ⟨rfl, k1⟩; go_wp2_with fail; go_ret; exact ⟨ret_bool EF.out.symm, k1⟩
theorem en_louvreref05_ToText : En 146 := by intro args w; go_simp
theorem en_louvreref13_Count : En 62 := by intro args w; go_simp
theorem en_louvreref13_Valid : En 63 := by intro args w; go_simp
theorem en_louvreref14_convert : En 64 := by intro args w; go_simp
theorem en_louvreref14_piece : En 65 := by intro args w; go_simp
theorem en_louvreref14_value : En 66 := by intro args w; go_simp
theorem en_louvreref14_whole : En 145 := by intro args w; go_simp
set_option maxHeartbeats 4000000 in
theorem rconvert14_any (fn : Nat) (b0 off0 cap : Nat) (l : List Vl) (w : World) (hr : RowV w (some ⟨b0, off0, none⟩) l) (hs : ∀ v ∈ l, Small v) (hl : l.length ≤ 20) (h31 : 31 ≤ fn) (h42 : fn ≤ 42) :
    Calls Tryz.prog 64 #[.int .u8 fn, .slice (some ⟨b0, off0, none⟩) l.length cap] w fun e w' => RConvOut fn l w e w' := by
  go_enter Tryz.func64, Tryz.ntmps64; refine sq fun hK1 => ?_
  refine ro [yV _, yV _, yNew w.heap.size (.cells #[.int .u8 0, .int .i64 0, .string ⟨[].toArray⟩] 25 (0, 0)), yV _] 4 52 rfl rfl (Own.start w) (
    aS (fun hk bs hd => xassign rfl rfl) rfl <|
    aS (fun hk bs hd => xassign rfl rfl) rfl <|
    aP (fun hk bs hd => xalloc rfl (by kernel_rfl)) rfl <|
    aS (fun hk bs hd => xassign rfl rfl) rfl <|
    arm0) fun fa fw bs hv ap z q ov => ?_
  have s0 := bs.get 0 rfl rfl; have s1 := bs.get 1 rfl rfl; have s4 := gv hv 0 rfl rfl; have s5 := gv hv 1 rfl rfl; obtain ⟨gb1, s6, bgb1, hgb1⟩ := gotP hv 2 rfl rfl rfl; have ov := ov.cons hgb1 (Nat.le_trans (Own.start w).kept.size bgb1) ((Own.start w).below bgb1); have s7 := gv hv 3 rfl rfl; have ow := ov; refine wt hK1 ?_; refine sq fun hK2 => ?_; refine sq fun hK3 => ?_
  refine ro [yV _] 1 52 z q ow (
    aS (fun hk bs hd => xassign rfl rfl) rfl <|
    arm0) fun fa fw bs hv ap z q ow => ?_
  obtain ⟨s0, s1, s4, s5, s6, s7⟩ := b6 bs s0 s1 s4 s5 s6 s7; have s8 := gv hv 0 rfl rfl; refine wt hK3 ?_; refine wp_block ?_; refine wp_loop_g (fun (k : Nat) fr u => ∃ (va : Value), ∃ (vb : Value), (k ≤ l.length) ∧ (firstE (args14 fn 0 (l.take k)) = none) ∧ fr.tmps.size = 52 ∧ fr.defers = [] ∧ Own w [Th.row w.heap.size 9 1 va (((txts14 fn 0 (l.take k)).map strV).length) ((txts14 fn 0 (l.take k)).map strV), Th.row w.heap.size 3 1 vb (((nums14 fn 0 (l.take k)).map numV).length) ((nums14 fn 0 (l.take k)).map numV), Th.obj gb1 (.cells #[.int .u8 0, .int .i64 0, .string ⟨[].toArray⟩] 25 (0, 0))] u ∧ fr.eval (.tmp 0) = .int .u8 (fn : Int) ∧ fr.eval (.tmp 1) = .slice (some ⟨b0, off0, none⟩) l.length cap ∧ fr.eval (.tmp 4) = va ∧ fr.eval (.tmp 5) = vb ∧ fr.eval (.tmp 6) = .pointer (some ⟨gb1, 0, none⟩) ∧ fr.eval (.tmp 8) = .int .i64 (k : Int)) (fun k => l.length - k) 0 ⟨(.slice none 0 0), (.slice none 0 0), (Nat.zero_le _), rfl, z, q, ((ow.nil 3 1).nil 9 1), s0, s1, s4, s5, s6, s8⟩ (fun k b_ u_ hI => ?_)
  revert b_ u_; intro fa fw hI
  obtain ⟨va, vb, hk, hfe, z, q, ow, s0, s1, s4, s5, s6, s8⟩ := hI; refine sq fun hK4 => ?_; refine sq fun hK5 => ?_
  refine ro [yV _, yV _, yV _, yV _] 4 52 z q ow (
    mvS s8 rfl rfl rfl rfl <|
    mvS s1 rfl rfl rfl rfl <|
    aS (fun hk bs hd => xlen Tryz.underlying22 rfl (dp hd 1 rfl)) rfl <|
    aS (fun hk bs hd => xlss rfl (dp hd 0 rfl) (dp hd 2 rfl)) rfl <|
    arm0) fun fa fw bs hv ap z q ow => ?_
  obtain ⟨s0, s1, s4, s5, s6, s8⟩ := b6 bs s0 s1 s4 s5 s6 s8; have s14 := gv hv 3 rfl rfl; refine wt hK5 ?_
  by_cases hc1 : (k : Int) < ((l.length : Nat) : Int)
  · refine ct s14 ((decide_eq_true_iff).2 hc1) ?_
    refine wp_skip ?_; refine tn hK4 ?_; refine sq fun hK6 => ?_; refine wp_block ?_; refine sq fun hK7 => ?_; refine sq fun hK8 => ?_; have hlt : k < l.length := by omega
    have hsk : Small (l.getD k blankV) := hs _ (by rw [show l.getD k blankV = l[k] by simp [List.getD, hlt]]; exact List.getElem_mem hlt)
    refine ro [yV _, yV _, yV (.bool (!txt14 fn k))] 3 52 z q ow (
      mvS s0 rfl rfl rfl rfl <|
      mvS s8 rfl rfl rfl rfl <|
      aC (fun hk bs hd => xcall2 rfl (dp hd 0 rfl) (dp hd 1 rfl) (en_louvreref14_whole _ _)) (fun hk bs hd => rwhole14_any fn k _ (by omega) (by omega)) rfl <|
      arm0) fun fa fw bs hv ap z q ow => ?_
    obtain ⟨s0, s1, s4, s5, s6, s8⟩ := b6 bs s0 s1 s4 s5 s6 s8; have s19 := gv hv 2 rfl rfl; refine wt hK8 ?_
    by_cases hc2 : ¬ ((txt14 fn k) = true)
    · refine ct s19 ((bnot (Iff.rfl)).2 hc2) ?_
      have htx : txt14 fn k = false := by cases h : txt14 fn k <;> simp_all
      have harg : arg14 fn k (l.getD k blankV) = vNum (l.getD k blankV) := by unfold arg14; rw [if_neg (by rw [htx]; decide)]
      refine sq fun hK9 => ?_
      refine ro [yV _, yV _, yV _, yV (aggV (l.getD k blankV)), yV (aggV (vNum (l.getD k blankV))), yNew fw.heap.size (.cells #[.int .u8 0, .int .i64 0, .string ⟨[].toArray⟩] 25 (0, 0))] 6 52 z q ow (
        mvS s1 rfl rfl rfl rfl <|
        mvS s8 rfl rfl rfl rfl <|
        aS (fun hk bs hd => xplaceV rfl (k := k) (dp hd 0 rfl) (dp hd 1 rfl) hlt) rfl <|
        aS (fun hk bs hd => xatV rfl (l := l) (k := k) (dp hd 2 rfl) (hr.kept (ow.keep hk).kept) hlt) rfl <|
        aC (fun hk bs hd => xcall1 rfl (dp hd 3 rfl) (en_louvreref05_ToNumber _ _)) (fun hk bs hd => rtonum_any (l.getD k blankV) _ hsk.1 hsk.2) rfl <|
        aP (fun hk bs hd => xalloc rfl (by kernel_rfl)) rfl <|
        arm0) fun fa fw bs hv ap z q ov => ?_
      obtain ⟨s0, s1, s4, s5, s6, s8⟩ := b6 bs s0 s1 s4 s5 s6 s8; have s24 := gv hv 4 rfl rfl; obtain ⟨gb2, s9, bgb2, hgb2⟩ := gotP hv 5 rfl rfl rfl; have ov := ov.cons hgb2 (Nat.le_trans ow.kept.size bgb2) (ow.below bgb2); have ow := ov; refine ws ow 0 0 s9 s24 fun fw ow => ?_; refine wt hK9 ?_; refine sq fun hK10 => ?_; refine sq fun hK11 => ?_
      refine ro [yV (.pointer (some ⟨gb2, 0, none⟩)), yV _, yV _] 3 52 z q ow (
        aS (fun hk bs hd => xfieldAddr rfl (bg bs s9) (by kernel_rfl)) rfl <|
        aS (fun hk bs hd => xloadB rfl (by kernel_rfl) (dp hd 0 rfl) ((ow.keep hk).box 0 rfl) rfl) rfl <|
        aS (fun hk bs hd => xeqi rfl (dp hd 1 rfl) rfl) rfl <|
        arm0) fun fa fw bs hv ap z q ow => ?_
      obtain ⟨s0, s1, s4, s5, s6, s8, s9⟩ := b7 bs s0 s1 s4 s5 s6 s8 s9; have s27 := gv hv 2 rfl rfl; refine wt hK11 ?_
      by_cases hc3 : ((vNum (l.getD k blankV)).k : Int) = (4 : Int)
      · refine ct s27 ((decide_eq_true_iff).2 hc3) ?_
        have hye : isE (vNum (l.getD k blankV)) = true := isE_of hc3; refine sq fun hK12 => ?_
        refine ro [yV (aggV (vNum (l.getD k blankV))), yV _, yV _] 3 52 z q ow (
          aS (fun hk bs hd => xloadN 3 rfl (by kernel_rfl) (by kernel_rfl) (bg bs s9) ((ow.keep hk).box 0 rfl) (Nat.le_of_ble_eq_true rfl) rfl) rfl <|
          aS (fun hk bs hd => xassign rfl rfl) rfl <|
          aS (fun hk bs hd => xassign rfl rfl) rfl <|
          arm0) fun fa fw bs hv ap z q ow => ?_
        obtain ⟨s0, s1, s6, s8, s9⟩ := b5 bs s0 s1 s6 s8 s9; have s28 := gv hv 0 rfl rfl; have s4 := gv hv 1 rfl rfl; have s5 := gv hv 2 rfl rfl; refine ws ow 3 0 s6 s28 fun fw ow => ?_; refine wl_value (v := .bool false) (want0 rfl) (xassign rfl rfl) ?_; refine gp7 z q ow s0 s1 s6 s8 s9 s4 s5 fun fa fw z q ow s0 s1 s6 s8 s9 s4 s5 s7 => ?_; refine wt hK12 ?_; refine wp_ret ?_; refine then_r ?_; refine then_r ?_; refine block_r ?_; refine then_r ?_; refine then_r ?_; refine block_r ?_; refine then_r ?_; refine resultsL (v := .tuple #[.slice none 0 0, .slice none 0 0, aggV (vNum (l.getD k blankV)), .bool false]) rfl (.cons (res_tmp s4) (.cons (res_tmp s5) (.cons (res_cell (n := 3) _ s6 (by kernel_rfl) (by kernel_rfl) (ow.box 3 rfl) (Nat.le_of_ble_eq_true rfl) rfl) (.cons (res_tmp s7) .nil)))) rfl q ?_; exact ⟨_, _, vNum (l.getD k blankV), false, rfl, ow.kept, Or.inl ⟨rfl, firstE_more hlt hfe harg hye⟩⟩
      refine cf s27 (decide_eq_true_iff) hc3 ?_; have hne : isE (vNum (l.getD k blankV)) = false := isE_not hc3; refine wp_skip ?_; refine tn hK10 ?_; refine sq fun hK13 => ?_
      refine ro [yV _, yV (.pointer (some ⟨gb2, 1, none⟩)), yV _, yV _, ySlice fw.heap.size 1 (.cells #[.int .i64 (Int.tdiv ((vNum (l.getD k blankV)).n) 10000)] 3 (0, 0))] 5 52 z q ow (
        mvS s5 rfl rfl rfl rfl <|
        aS (fun hk bs hd => xfieldAddr rfl (bg bs s9) (by kernel_rfl)) rfl <|
        aS (fun hk bs hd => xloadB rfl (by kernel_rfl) (dp hd 1 rfl) ((ow.keep hk).box 0 rfl) rfl) rfl <|
        aS (fun hk bs hd => xquo (Or.inr rfl) rfl (dp hd 2 rfl) rfl (by decide) (num_i64 hsk.1).1 (num_i64 hsk.1).2) rfl <|
        arm (fun aa ww hk bs hd => by
          have d3 : aa.eval (.tmp 32) = .int .i64 (Int.tdiv ((vNum (l.getD k blankV)).n) 10000) := depX hd 3 rfl; exact stepX_new _ (want0 rfl) (xbuildSlice (us := #[(0, .int .i64 (Int.tdiv ((vNum (l.getD k blankV)).n) 10000))]) (b := .cells #[.int .i64 (Int.tdiv ((vNum (l.getD k blankV)).n) 10000)] 3 (0, 0)) rfl (by simp only [List.map_toArray, List.map_cons, List.map_nil, d3]) (by kernel_rfl)) ⟨_, rfl, hk.size, Go.heap_alloc_new _ _⟩ ((Kept.refl _).alloc _) rfl (Nat.le_refl _)
          ) <|
        arm0) fun fa fw bs hv ap z q ov => ?_
      obtain ⟨s0, s1, s4, s5, s6, s8⟩ := b6 bs s0 s1 s4 s5 s6 s8; have s29 := gv hv 0 rfl rfl; obtain ⟨gb3, s33, bgb3, hgb3⟩ := gotL hv 4 rfl rfl rfl; have ov := ov.cons hgb3 (Nat.le_trans ow.kept.size bgb3) (ow.below bgb3); have ow := ov; refine wl_appendC (by_ := 8) (want0 rfl) (l := (nums14 fn 0 (l.take k)).map numV) (u := (numV (Int.tdiv ((vNum (l.getD k blankV)).n) 10000))) rfl Tryz.underlying98 (info_one _ _ _ (by kernel_rfl) rfl) s29 s33 (ow.row 3 rfl) (ow.get 0 rfl) rfl (by rw [List.length_map]; have := shape14 fn (l.take k) 0; rw [List.length_take] at this; omega) (by decide) ow.kept.size (fun vr1 fw1 ho hg hb => ?_); have ow := ow.turn 3 rfl (t' := Th.row w.heap.size 3 1 vr1 (((nums14 fn 0 (l.take k)).map numV ++ [(numV (Int.tdiv ((vNum (l.getD k blankV)).n) 10000))]).length) ((nums14 fn 0 (l.take k)).map numV ++ [(numV (Int.tdiv ((vNum (l.getD k blankV)).n) 10000))])) ho hg (turn_new hb); clear ho hg hb; refine wl_value (v := vr1) (want0 rfl) (xassign rfl (put_in (t := 34) z rfl)) ?_; refine gt6 (put_size (put_size z)) (put_def (put_def q)) ow 0 (pb 5 (pb 34 s0 rfl) rfl) 1 (pb 5 (pb 34 s1 rfl) rfl) 4 (pb 5 (pb 34 s4 rfl) rfl) 6 (pb 5 (pb 34 s6 rfl) rfl) 8 (pb 5 (pb 34 s8 rfl) rfl) 5 (put_in (t := 5) (put_size z) rfl) fun fa fw z q ow s0 s1 s4 s6 s8 s5 => ?_; refine wt hK13 ?_; refine wp_exit ?_; refine then_e ?_; refine block_hit ?_; refine tn hK6 ?_
      refine ro [yV _, yV (.int .i64 ((k + 1 : Nat) : Int))] 2 52 z q ow (
        mvS s8 rfl rfl rfl rfl <|
        aS (fun hk bs hd => xadd (Or.inl rfl) rfl (dp hd 0 rfl) rfl (by omega) (by omega)) rfl <|
        arm0) fun fa fw bs hv ap z q ow => ?_
      obtain ⟨s0, s1, s4, s6, s8, s5⟩ := b6 bs s0 s1 s4 s6 s8 s5; have s16 := gv hv 1 rfl rfl; refine wl_value (v := .int .i64 ((k + 1 : Nat) : Int)) (want0 rfl) (xassign rfl s16) ?_; refine gp5 z q ow s0 s1 s4 s6 s5 fun fa fw z q ow s0 s1 s4 s6 s5 s8 => ?_; refine wl_end ?_; exact then_n ⟨(k + 1), ⟨va, vr1, hlt, (firstE_next hlt hfe (by rw [harg]; exact hne)), z, q, (by rw [nextNr hlt htx, nextNt hlt htx]; exact ow.tail.tail), s0, s1, s4, s5, s6, s8⟩, (show l.length - (k + 1) < l.length - k by omega)⟩
    refine cf s19 (bnot (Iff.rfl)) hc2 ?_; have htx : txt14 fn k = true := by cases h : txt14 fn k <;> simp_all
    have harg : arg14 fn k (l.getD k blankV) = vTxt (l.getD k blankV) := by unfold arg14; rw [if_pos htx]
    refine wp_skip ?_; refine tn hK7 ?_; refine sq fun hK14 => ?_
    refine ro [yV _, yV _, yV _, yV (aggV (l.getD k blankV)), yV (aggV (vTxt (l.getD k blankV))), yNew fw.heap.size (.cells #[.int .u8 0, .int .i64 0, .string ⟨[].toArray⟩] 25 (0, 0))] 6 52 z q ow (
      mvS s1 rfl rfl rfl rfl <|
      mvS s8 rfl rfl rfl rfl <|
      aS (fun hk bs hd => xplaceV rfl (k := k) (dp hd 0 rfl) (dp hd 1 rfl) hlt) rfl <|
      aS (fun hk bs hd => xatV rfl (l := l) (k := k) (dp hd 2 rfl) (hr.kept (ow.keep hk).kept) hlt) rfl <|
      aC (fun hk bs hd => xcall1 rfl (dp hd 3 rfl) (en_louvreref05_ToText _ _)) (fun hk bs hd => rtotxt_any (l.getD k blankV) _ hsk.1 hsk.2) rfl <|
      aP (fun hk bs hd => xalloc rfl (by kernel_rfl)) rfl <|
      arm0) fun fa fw bs hv ap z q ov => ?_
    obtain ⟨s0, s1, s4, s5, s6, s8⟩ := b6 bs s0 s1 s4 s5 s6 s8; have s39 := gv hv 4 rfl rfl; obtain ⟨gb4, s10, bgb4, hgb4⟩ := gotP hv 5 rfl rfl rfl; have ov := ov.cons hgb4 (Nat.le_trans ow.kept.size bgb4) (ow.below bgb4); have ow := ov; refine ws ow 0 0 s10 s39 fun fw ow => ?_; refine wt hK14 ?_; refine sq fun hK15 => ?_; refine sq fun hK16 => ?_
    refine ro [yV (.pointer (some ⟨gb4, 0, none⟩)), yV _, yV _] 3 52 z q ow (
      aS (fun hk bs hd => xfieldAddr rfl (bg bs s10) (by kernel_rfl)) rfl <|
      aS (fun hk bs hd => xloadB rfl (by kernel_rfl) (dp hd 0 rfl) ((ow.keep hk).box 0 rfl) rfl) rfl <|
      aS (fun hk bs hd => xeqi rfl (dp hd 1 rfl) rfl) rfl <|
      arm0) fun fa fw bs hv ap z q ow => ?_
    obtain ⟨s0, s1, s4, s5, s6, s8, s10⟩ := b7 bs s0 s1 s4 s5 s6 s8 s10; have s42 := gv hv 2 rfl rfl; refine wt hK16 ?_
    by_cases hc4 : ((vTxt (l.getD k blankV)).k : Int) = (4 : Int)
    · refine ct s42 ((decide_eq_true_iff).2 hc4) ?_
      have hye : isE (vTxt (l.getD k blankV)) = true := isE_of hc4; refine sq fun hK17 => ?_
      refine ro [yV (aggV (vTxt (l.getD k blankV))), yV _, yV _] 3 52 z q ow (
        aS (fun hk bs hd => xloadN 3 rfl (by kernel_rfl) (by kernel_rfl) (bg bs s10) ((ow.keep hk).box 0 rfl) (Nat.le_of_ble_eq_true rfl) rfl) rfl <|
        aS (fun hk bs hd => xassign rfl rfl) rfl <|
        aS (fun hk bs hd => xassign rfl rfl) rfl <|
        arm0) fun fa fw bs hv ap z q ow => ?_
      obtain ⟨s0, s1, s6, s8, s10⟩ := b5 bs s0 s1 s6 s8 s10; have s43 := gv hv 0 rfl rfl; have s4 := gv hv 1 rfl rfl; have s5 := gv hv 2 rfl rfl; refine ws ow 3 0 s6 s43 fun fw ow => ?_; refine wl_value (v := .bool false) (want0 rfl) (xassign rfl rfl) ?_; refine gp7 z q ow s0 s1 s6 s8 s10 s4 s5 fun fa fw z q ow s0 s1 s6 s8 s10 s4 s5 s7 => ?_; refine wt hK17 ?_; refine wp_ret ?_; refine then_r ?_; refine block_r ?_; refine then_r ?_; refine then_r ?_; refine block_r ?_; refine then_r ?_; refine resultsL (v := .tuple #[.slice none 0 0, .slice none 0 0, aggV (vTxt (l.getD k blankV)), .bool false]) rfl (.cons (res_tmp s4) (.cons (res_tmp s5) (.cons (res_cell (n := 3) _ s6 (by kernel_rfl) (by kernel_rfl) (ow.box 3 rfl) (Nat.le_of_ble_eq_true rfl) rfl) (.cons (res_tmp s7) .nil)))) rfl q ?_; exact ⟨_, _, vTxt (l.getD k blankV), false, rfl, ow.kept, Or.inl ⟨rfl, firstE_more hlt hfe harg hye⟩⟩
    refine cf s42 (decide_eq_true_iff) hc4 ?_; have hne : isE (vTxt (l.getD k blankV)) = false := isE_not hc4; refine wp_skip ?_; refine tn hK15 ?_
    refine ro [yV _, yV (.pointer (some ⟨gb4, 2, none⟩)), yV _, ySlice fw.heap.size 1 (.cells #[.string ⟨((vTxt (l.getD k blankV)).t).toArray⟩] 9 (0, 0))] 4 52 z q ow (
      mvS s4 rfl rfl rfl rfl <|
      aS (fun hk bs hd => xfieldAddr rfl (bg bs s10) (by kernel_rfl)) rfl <|
      aS (fun hk bs hd => xloadB rfl (by kernel_rfl) (dp hd 1 rfl) ((ow.keep hk).box 0 rfl) rfl) rfl <|
      arm (fun aa ww hk bs hd => by
        have d2 : aa.eval (.tmp 46) = .string ⟨((vTxt (l.getD k blankV)).t).toArray⟩ := depX hd 2 rfl; exact stepX_new _ (want0 rfl) (xbuildSlice (us := #[(0, .string ⟨((vTxt (l.getD k blankV)).t).toArray⟩)]) (b := .cells #[.string ⟨((vTxt (l.getD k blankV)).t).toArray⟩] 9 (0, 0)) rfl (by simp only [List.map_toArray, List.map_cons, List.map_nil, d2]) (by kernel_rfl)) ⟨_, rfl, hk.size, Go.heap_alloc_new _ _⟩ ((Kept.refl _).alloc _) rfl (Nat.le_refl _)
        ) <|
      arm0) fun fa fw bs hv ap z q ov => ?_
    obtain ⟨s0, s1, s4, s5, s6, s8⟩ := b6 bs s0 s1 s4 s5 s6 s8; have s44 := gv hv 0 rfl rfl; obtain ⟨gb5, s47, bgb5, hgb5⟩ := gotL hv 3 rfl rfl rfl; have ov := ov.cons hgb5 (Nat.le_trans ow.kept.size bgb5) (ow.below bgb5); have ow := ov; refine wl_appendC (by_ := 16) (want0 rfl) (l := (txts14 fn 0 (l.take k)).map strV) (u := (strV ((vTxt (l.getD k blankV)).t))) rfl Tryz.underlying88 (info_one _ _ _ (by kernel_rfl) rfl) s44 s47 (ow.row 2 rfl) (ow.get 0 rfl) rfl (by rw [List.length_map]; have := shape14 fn (l.take k) 0; rw [List.length_take] at this; omega) (by decide) ow.kept.size (fun vr2 fw2 ho hg hb => ?_); have ow := ow.turn 2 rfl (t' := Th.row w.heap.size 9 1 vr2 (((txts14 fn 0 (l.take k)).map strV ++ [(strV ((vTxt (l.getD k blankV)).t))]).length) ((txts14 fn 0 (l.take k)).map strV ++ [(strV ((vTxt (l.getD k blankV)).t))])) ho hg (turn_new hb); clear ho hg hb; refine wl_value (v := vr2) (want0 rfl) (xassign rfl (put_in (t := 48) z rfl)) ?_; refine gt6 (put_size (put_size z)) (put_def (put_def q)) ow 0 (pb 4 (pb 48 s0 rfl) rfl) 1 (pb 4 (pb 48 s1 rfl) rfl) 5 (pb 4 (pb 48 s5 rfl) rfl) 6 (pb 4 (pb 48 s6 rfl) rfl) 8 (pb 4 (pb 48 s8 rfl) rfl) 4 (put_in (t := 4) (put_size z) rfl) fun fa fw z q ow s0 s1 s5 s6 s8 s4 => ?_; refine wl_end ?_; refine block_n ?_; refine tn hK6 ?_
    refine ro [yV _, yV (.int .i64 ((k + 1 : Nat) : Int))] 2 52 z q ow (
      mvS s8 rfl rfl rfl rfl <|
      aS (fun hk bs hd => xadd (Or.inl rfl) rfl (dp hd 0 rfl) rfl (by omega) (by omega)) rfl <|
      arm0) fun fa fw bs hv ap z q ow => ?_
    obtain ⟨s0, s1, s5, s6, s8, s4⟩ := b6 bs s0 s1 s5 s6 s8 s4; have s16 := gv hv 1 rfl rfl; refine wl_value (v := .int .i64 ((k + 1 : Nat) : Int)) (want0 rfl) (xassign rfl s16) ?_; refine gp5 z q ow s0 s1 s5 s6 s4 fun fa fw z q ow s0 s1 s5 s6 s4 s8 => ?_; refine wl_end ?_; exact then_n ⟨(k + 1), ⟨vr2, vb, hlt, (firstE_next hlt hfe (by rw [harg]; exact hne)), z, q, (by rw [nextT hlt htx, nextTn hlt htx]; exact ow.tail.tail), s0, s1, s4, s5, s6, s8⟩, (show l.length - (k + 1) < l.length - k by omega)⟩
  refine cf s14 (decide_eq_true_iff) hc1 ?_; refine wp_exit ?_; refine then_e ?_; refine then_e ?_; refine block_hit ?_; refine tn hK2 ?_; refine sq fun hK18 => ?_
  refine ro [yV _, yV _, yV (aggV (⟨0, 0, []⟩ : Vl))] 3 52 z q ow (
    mvS s4 rfl rfl rfl rfl <|
    mvS s5 rfl rfl rfl rfl <|
    aS (fun hk bs hd => xbuild (us := #[]) rfl (by simp) (by kernel_rfl)) rfl <|
    arm0) fun fa fw bs hv ap z q ow => ?_
  obtain ⟨s4, s5, s6⟩ := b3 bs s4 s5 s6; have s49 := gv hv 0 rfl rfl; have s50 := gv hv 1 rfl rfl; have s51 := gv hv 2 rfl rfl; refine wl_value (v := va) (want0 rfl) (xassign rfl s49) ?_; refine wl_value (v := vb) (want0 rfl) (xassign rfl (pb 4 s50 rfl)) ?_; refine wl_store ow 2 0 (want0 rfl) rfl rfl (pb 5 (pb 4 s6 rfl) rfl) (pb 5 (pb 4 s51 rfl) rfl) (by kernel_rfl) rfl rfl rfl fun fw ow => ?_; refine wl_value (v := .bool true) (want0 rfl) (xassign rfl rfl) ?_; refine gt4 (put_size (put_size (put_size z))) (put_def (put_def (put_def q))) ow 6 (pb 7 (pb 5 (pb 4 s6 rfl) rfl) rfl) 4 (pb 7 (pb 5 (put_in (t := 4) z rfl) rfl) rfl) 5 (pb 7 (put_in (t := 5) (put_size z) rfl) rfl) 7 (put_in (t := 7) (put_size (put_size z)) rfl) fun fa fw z q ow s6 s4 s5 s7 => ?_; refine wt hK18 ?_; refine wp_ret ?_; refine resultsL (v := .tuple #[va, vb, aggV (⟨0, 0, []⟩ : Vl), .bool true]) rfl (.cons (res_tmp s4) (.cons (res_tmp s5) (.cons (res_cell (n := 3) _ s6 (by kernel_rfl) (by kernel_rfl) (ow.box 2 rfl) (Nat.le_of_ble_eq_true rfl) rfl) (.cons (res_tmp s7) .nil)))) rfl q ?_; have hkl : k = l.length := by omega
  subst hkl; rw [List.take_length] at hfe; have oo := Own.two ow; rw [List.take_length] at oo; exact ⟨_, _, (⟨0, 0, []⟩ : Vl), true, rfl, ow.kept, Or.inr ⟨rfl, hfe, oo⟩⟩
set_option maxHeartbeats 4000000 in
theorem rpiece14_any (fn : Nat) (l : List Vl) (B : Option Addr) (n2 : Nat) (w : World) (h1 : 32 ≤ fn) (h2 : fn ≤ 34) (hlo : lo14 fn ≤ l.length ∧ l.length ≤ hi14 fn) (hall : ∀ v ∈ l, vOk v = true) (hs : ∀ v ∈ l, Small v) {base2 : Nat} {e2 : TypeId}
    (rn : w.ownsRow base2 e2 1 (.slice B ((nums14 fn 0 l).map numV).length n2) ((nums14 fn 0 l).map numV).length ((nums14 fn 0 l).map numV)) :
    Calls Tryz.prog 65 #[.int .u8 fn, .string ⟨((txts14 fn 0 l).headD []).toArray⟩, .slice B ((nums14 fn 0 l).map numV).length n2] w fun e w' => e = .returned (aggV (val14 fn (txts14 fn 0 l) (nums14 fn 0 l))) ∧ Kept w w' := by
  obtain ⟨rb, _, _⟩ := RowC.of_own rn; clear rn; have tl : ∀ v ∈ l, (vTxt v).t.length ≤ 300 := fun v hv => Nat.le_trans (txt_short (hall v hv) (hs v hv).1) (by decide); have nl : ∀ v ∈ l, -922337203685478 ≤ Int.tdiv (vNum v).n 10000 ∧ Int.tdiv (vNum v).n 10000 ≤ 922337203685478 := fun v hv => num_small (hs v hv).1
  have two : l.length ≤ 3 := by
    have := hlo.2; unfold hi14 at this
    (repeat' split at this) <;> omega
  match l, two with
  | [], _ => have := lo_pos fn; simp at hlo; omega
  | [v], _ =>
    have tv := tl v (by simp)
    have g1 : fn = 32 ∨ fn = 33 := by
      have := hlo.1; unfold lo14 at this
      simp only [List.length_singleton] at this
      (repeat' split at this) <;> omega
    rcases g1 with rfl | rfl
    · exact rleft_none (vTxt v).t B n2 w tv
    · exact rright_none (vTxt v).t B n2 w tv
  | [v, u], _ =>
    have tv := tl v (by simp); have nu := nl u (by simp)
    have g1 : fn = 32 ∨ fn = 33 := by
      have a := hlo.1; have b := hlo.2; unfold lo14 at a; unfold hi14 at b
      simp only [List.length_cons, List.length_nil] at a b
      (repeat' split at a) <;> (repeat' split at b) <;> omega
    rcases g1 with rfl | rfl <;> obtain ⟨b2, off2, rfl⟩ := rb.some (Nat.zero_lt_one)
    · exact rleft_some (vTxt v).t _ b2 off2 n2 w rb tv nu
    · exact rright_some (vTxt v).t _ b2 off2 n2 w rb tv nu
  | [v, u, x], _ =>
    have tv := tl v (by simp); have nu := nl u (by simp); have nx := nl x (by simp)
    obtain rfl : fn = 34 := by
      have b := hlo.2; unfold hi14 at b
      simp only [List.length_cons, List.length_nil] at b
      (repeat' split at b) <;> omega
    obtain ⟨b2, off2, rfl⟩ := rb.some (Nat.zero_lt_succ _); exact rmid_any (vTxt v).t _ _ b2 off2 n2 w rb tv nu nx
set_option maxHeartbeats 4000000 in
theorem rvalue14_any (fn : Nat) (l : List Vl) (A : Option Addr) (n1 : Nat) (B : Option Addr) (n2 : Nat) (w : World) (h1 : fn = 31 ∨ 35 ≤ fn) (h2 : fn ≤ 42) (hlo : lo14 fn ≤ l.length ∧ l.length ≤ hi14 fn) (hall : ∀ v ∈ l, vOk v = true) (hs : ∀ v ∈ l, Small v) {base1 base2 : Nat} {e1 e2 : TypeId}
    (rs : w.ownsRow base1 e1 1 (.slice A ((txts14 fn 0 l).map strV).length n1) ((txts14 fn 0 l).map strV).length ((txts14 fn 0 l).map strV)) (rn : w.ownsRow base2 e2 1 (.slice B ((nums14 fn 0 l).map numV).length n2) ((nums14 fn 0 l).map numV).length ((nums14 fn 0 l).map numV)) :
    Calls Tryz.prog 66 #[.int .u8 fn, .slice A ((txts14 fn 0 l).map strV).length n1, .slice B ((nums14 fn 0 l).map numV).length n2] w fun e w' => e = .returned (aggV (val14 fn (txts14 fn 0 l) (nums14 fn 0 l))) ∧ Kept w w' := by
  obtain ⟨ra, ca, _⟩ := RowC.of_own rs; obtain ⟨rb, _, _⟩ := RowC.of_own rn; clear rs rn; have tl : ∀ v ∈ l, (vTxt v).t.length ≤ 300 := fun v hv => Nat.le_trans (txt_short (hall v hv) (hs v hv).1) (by decide); have nl : ∀ v ∈ l, -922337203685478 ≤ Int.tdiv (vNum v).n 10000 ∧ Int.tdiv (vNum v).n 10000 ≤ 922337203685478 := fun v hv => num_small (hs v hv).1
  by_cases h38 : fn = 38
  · subst h38
    rw [nums38, txts38] at *; obtain ⟨b, off, rfl⟩ := ra.some (by simp only [List.length_map]; exact hlo.1); have hm : ((l.map fun v => (vTxt v).t).map strV).length = (l.map fun v => (vTxt v).t).length := List.length_map _; rw [hm] at ca ⊢; have hh : hi14 38 = 16 := rfl
    exact rconcat14 (l.map fun v => (vTxt v).t) b off n1 B n2 w ra (by simp only [List.length_map]; omega) (fun t ht => by
      obtain ⟨v, hv, rfl⟩ := List.mem_map.1 ht; exact tl v hv)
  have two : l.length ≤ 3 := by
    have := hlo.2; unfold hi14 at this
    (repeat' split at this) <;> omega
  match l, two with
  | [], _ => have := lo_pos fn; simp at hlo; omega
  | [v], _ =>
    have tv := tl v (by simp)
    have g1 : fn = 31 ∨ fn = 35 ∨ fn = 36 ∨ fn = 37 ∨ fn = 42 := by
      have := hlo.1; unfold lo14 at this
      simp only [List.length_singleton] at this
      (repeat' split at this) <;> omega
    rcases g1 with rfl | rfl | rfl | rfl | rfl <;> obtain ⟨b, off, rfl⟩ := ra.some (Nat.zero_lt_one)
    · exact rlen14 (vTxt v).t b off n1 B n2 w ra tv
    · exact rupper14 (vTxt v).t b off n1 B n2 w ra tv
    · exact rlower14 (vTxt v).t b off n1 B n2 w ra tv
    · exact rtrim14 (vTxt v).t b off n1 B n2 w ra tv
    · exact rvalue14 (vTxt v).t b off n1 B n2 w ra tv
  | [v, u], _ =>
    have tv := tl v (by simp); have tu := tl u (by simp); have nu := nl u (by simp)
    have g1 : fn = 39 ∨ fn = 40 ∨ fn = 41 := by
      have a := hlo.1; have b := hlo.2; unfold lo14 at a; unfold hi14 at b
      simp only [List.length_cons, List.length_nil] at a b
      (repeat' split at a) <;> (repeat' split at b) <;> omega
    rcases g1 with rfl | rfl | rfl
    · obtain ⟨b, off, rfl⟩ := ra.some (Nat.zero_lt_one)
      obtain ⟨b2, off2, rfl⟩ := rb.some (Nat.zero_lt_one); exact rrept14 (vTxt v).t b off n1 _ b2 off2 n2 w ra rb tv nu
    · obtain ⟨b, off, rfl⟩ := ra.some (Nat.zero_lt_succ _)
      exact rexact14 (vTxt v).t (vTxt u).t b off n1 B n2 w ra tv tu
    · obtain ⟨b, off, rfl⟩ := ra.some (Nat.zero_lt_succ _)
      exact rfind14_none (vTxt v).t (vTxt u).t b off n1 B n2 w ra tv tu
  | [v, u, x], _ =>
    have tv := tl v (by simp); have tu := tl u (by simp); have nx := nl x (by simp)
    obtain rfl : fn = 41 := by
      have b := hlo.2; unfold hi14 at b
      simp only [List.length_cons, List.length_nil] at b
      (repeat' split at b) <;> omega
    obtain ⟨b, off, rfl⟩ := ra.some (Nat.zero_lt_succ _); obtain ⟨b2, off2, rfl⟩ := rb.some (Nat.zero_lt_one); exact rfind14_some (vTxt v).t (vTxt u).t b off n1 _ b2 off2 n2 w ra rb tv tu nx
set_option maxHeartbeats 8000000 in
theorem rcall14_any (fn : Nat) (A : Option Addr) (cap : Nat) (l : List Vl) (w : World) (hr : RowV w A l) (hs : ∀ v ∈ l, Small v) (hl : l.length ≤ 1000000) :
    Calls Tryz.prog 22 #[.int .u8 fn, .slice A l.length cap] w fun e w' => e = .returned (.tuple #[aggV (vCall14 fn l).1, .int .i64 (vCall14 fn l).2]) ∧ Kept w w' := by
  go_enter Tryz.func22, Tryz.ntmps22; refine sq fun hK1 => ?_
  refine ro [yNew w.heap.size (.cells #[.int .u8 0, .int .i64 0, .string ⟨[].toArray⟩] 25 (0, 0)), yV _] 2 54 rfl rfl (Own.start w) (
    aP (fun hk bs hd => xalloc rfl (by kernel_rfl)) rfl <|
    aS (fun hk bs hd => xassign rfl rfl) rfl <|
    arm0) fun fa fw bs hv ap z q ov => ?_
  have s0 := bs.get 0 rfl rfl; have s1 := bs.get 1 rfl rfl; obtain ⟨gb1, s4, bgb1, hgb1⟩ := gotP hv 0 rfl rfl rfl; have ov := ov.cons hgb1 (Nat.le_trans (Own.start w).kept.size bgb1) ((Own.start w).below bgb1); have s5 := gv hv 1 rfl rfl; have ow := ov; refine wt hK1 ?_; refine sq fun hK2 => ?_; refine sq fun hK3 => ?_
  refine ro [yV _, yV _, yV _, yIf (((decide ((fn : Int) < (31 : Int))) = false)) (yV (.int .u8 (fn : Int))), yIf (((decide ((fn : Int) < (31 : Int))) = false)) (yV (.bool (decide ((42 : Int) < (fn : Int))))), yV _] 6 54 z q ow (
    mvS s0 rfl rfl rfl rfl <|
    aS (fun hk bs hd => xlss rfl (dp hd 0 rfl) rfl) rfl <|
    mvD 1 rfl rfl rfl rfl rfl rfl <|
    arm (fun aa ww hk bs hd => by
      have d2 := dp hd 2 rfl
      by_cases hz : ((decide ((fn : Int) < (31 : Int))) = false)
      · exact stepX_same (v := .int .u8 (fn : Int)) (want1 (j := 2) (b := false) rfl (d2.trans (congrArg Value.bool hz))) (xmove rfl (bg bs s0)) ⟨fun _ => rfl, fun c => absurd hz c⟩ rfl
      · exact stepX_skip (wantN (j := 2) (b := false) (b' := true) rfl (d2.trans (congrArg Value.bool (by simpa using hz))) rfl) ⟨fun c => absurd c hz, fun _ => rfl⟩ rfl
      ) <|
    arm (fun aa ww hk bs hd => by
      have d2 := dp hd 2 rfl; have d3 := dI hd 3 rfl
      by_cases hz : ((decide ((fn : Int) < (31 : Int))) = false)
      · exact stepX_same (v := .bool (decide ((42 : Int) < (fn : Int)))) (want1 (j := 2) (b := false) rfl (d2.trans (congrArg Value.bool hz))) (xgtr rfl (d3.1 hz) rfl) ⟨fun _ => rfl, fun c => absurd hz c⟩ rfl
      · exact stepX_skip (wantN (j := 2) (b := false) (b' := true) rfl (d2.trans (congrArg Value.bool (by simpa using hz))) rfl) ⟨fun c => absurd c hz, fun _ => rfl⟩ rfl
      ) <|
    arm (fun aa ww hk bs hd => by
      have d2 := dp hd 2 rfl; have d4 := dI hd 4 rfl; exact stepX_same (v := .bool ((decide ((fn : Int) < (31 : Int))) || (decide ((42 : Int) < (fn : Int))))) (want0 rfl) (xor_ rfl (d2) rfl (fun hb => d4.1 hb)) rfl rfl
      ) <|
    arm0) fun fa fw bs hv ap z q ow => ?_
  obtain ⟨s0, s1, s4, s5⟩ := b4 bs s0 s1 s4 s5; have s15 := gv hv 5 rfl rfl; refine wt hK3 ?_
  by_cases hc1 : ((fn : Int) < (31 : Int)) ∨ ((42 : Int) < (fn : Int))
  · refine ct s15 ((bor (decide_eq_true_iff) (decide_eq_true_iff)).2 hc1) ?_
    refine sq fun hK4 => ?_
    refine ro [yV (aggV (⟨0, 0, []⟩ : Vl))] 1 54 z q ow (
      aS (fun hk bs hd => xbuild (us := #[]) rfl (by simp) (by kernel_rfl)) rfl <|
      arm0) fun fa fw bs hv ap z q ow => ?_
    obtain ⟨s0, s1, s4, s5⟩ := b4 bs s0 s1 s4 s5; have s16 := gv hv 0 rfl rfl; refine ws ow 0 0 s4 s16 fun fw ow => ?_; refine wl_value (v := .int .i64 10) (want0 rfl) (xassign rfl rfl) ?_; refine gp3 z q ow s0 s1 s4 fun fa fw z q ow s0 s1 s4 s5 => ?_; refine wt hK4 ?_; refine wp_ret ?_; refine then_r ?_; refine resultsL (v := .tuple #[aggV (⟨0, 0, []⟩ : Vl), .int .i64 10]) rfl (.cons (res_cell (n := 3) _ s4 (by kernel_rfl) (by kernel_rfl) (ow.box 0 rfl) (Nat.le_of_ble_eq_true rfl) rfl) (.cons (res_tmp s5) .nil)) rfl q ?_; exact ⟨ret_pair (v14_name (by omega)), ow.kept⟩
  refine cf s15 (bor (decide_eq_true_iff) (decide_eq_true_iff)) hc1 ?_; refine wp_skip ?_; refine tn hK2 ?_; refine sq fun hK5 => ?_; refine sq fun hK6 => ?_
  refine ro [yV _, yV _, yV _, yV (.bool (decide (lo14 fn ≤ l.length ∧ l.length ≤ hi14 fn))), yV _] 5 54 z q ow (
    mvS s0 rfl rfl rfl rfl <|
    mvS s1 rfl rfl rfl rfl <|
    aS (fun hk bs hd => xlen Tryz.underlying22 rfl (dp hd 1 rfl)) rfl <|
    aC (fun hk bs hd => xcall2 rfl (dp hd 0 rfl) (dp hd 2 rfl) (en_louvreref13_Count _ _)) (fun hk bs hd => count14r_any fn (by omega) (by omega) l.length _) rfl <|
    aS (fun hk bs hd => xnot rfl (dp hd 3 rfl)) rfl <|
    arm0) fun fa fw bs hv ap z q ow => ?_
  obtain ⟨s0, s1, s4, s5⟩ := b4 bs s0 s1 s4 s5; have s21 := gv hv 4 rfl rfl; refine wt hK6 ?_
  by_cases hc2 : ¬ (lo14 fn ≤ l.length ∧ l.length ≤ hi14 fn)
  · refine ct s21 ((bnot (decide_eq_true_iff)).2 hc2) ?_
    have hcnt : ¬ (lo14 fn ≤ l.length ∧ l.length ≤ hi14 fn) := by simpa using hc2
    refine sq fun hK7 => ?_
    refine ro [yV (aggV (⟨0, 0, []⟩ : Vl))] 1 54 z q ow (
      aS (fun hk bs hd => xbuild (us := #[]) rfl (by simp) (by kernel_rfl)) rfl <|
      arm0) fun fa fw bs hv ap z q ow => ?_
    obtain ⟨s0, s1, s4, s5⟩ := b4 bs s0 s1 s4 s5; have s22 := gv hv 0 rfl rfl; refine ws ow 0 0 s4 s22 fun fw ow => ?_; refine wl_value (v := .int .i64 11) (want0 rfl) (xassign rfl rfl) ?_; refine gp3 z q ow s0 s1 s4 fun fa fw z q ow s0 s1 s4 s5 => ?_; refine wt hK7 ?_; refine wp_ret ?_; refine then_r ?_; refine resultsL (v := .tuple #[aggV (⟨0, 0, []⟩ : Vl), .int .i64 11]) rfl (.cons (res_cell (n := 3) _ s4 (by kernel_rfl) (by kernel_rfl) (ow.box 0 rfl) (Nat.le_of_ble_eq_true rfl) rfl) (.cons (res_tmp s5) .nil)) rfl q ?_; exact ⟨ret_pair (v14_count (by omega) (by omega) (by omega)), ow.kept⟩
  refine cf s21 (bnot (decide_eq_true_iff)) hc2 ?_; have hlo : lo14 fn ≤ l.length ∧ l.length ≤ hi14 fn := by simpa using hc2
  have hl20 : l.length ≤ 20 := by have := hi_le fn; omega
  obtain ⟨b0, off0, rfl, _⟩ := hr 0 (by have := lo_pos fn; omega); refine wp_skip ?_; refine tn hK5 ?_; refine sq fun hK8 => ?_; refine sq fun hK9 => ?_
  refine ro [yV _, yV (.bool (l.all vOk)), yV _] 3 54 z q ow (
    mvS s1 rfl rfl rfl rfl <|
    aC (fun hk bs hd => xcall1 rfl (dp hd 0 rfl) (en_louvreref13_Valid _ _)) (fun hk bs hd => valid13_any (some ⟨b0, off0, none⟩) cap l _ (hr.kept (ow.keep hk).kept) hs hl) rfl <|
    aS (fun hk bs hd => xnot rfl (dp hd 1 rfl)) rfl <|
    arm0) fun fa fw bs hv ap z q ow => ?_
  obtain ⟨s0, s1, s4, s5⟩ := b4 bs s0 s1 s4 s5; have s25 := gv hv 2 rfl rfl; refine wt hK9 ?_
  by_cases hc3 : ¬ ((l.all vOk) = true)
  · refine ct s25 ((bnot (Iff.rfl)).2 hc3) ?_
    have hval : l.all vOk = false := by simpa using hc3
    obtain ⟨k, hk, hbad⟩ := all_bad hval; refine sq fun hK10 => ?_
    refine ro [yV (aggV (⟨0, 0, []⟩ : Vl))] 1 54 z q ow (
      aS (fun hk bs hd => xbuild (us := #[]) rfl (by simp) (by kernel_rfl)) rfl <|
      arm0) fun fa fw bs hv ap z q ow => ?_
    obtain ⟨s0, s1, s4, s5⟩ := b4 bs s0 s1 s4 s5; have s26 := gv hv 0 rfl rfl; refine ws ow 0 0 s4 s26 fun fw ow => ?_; refine wl_value (v := .int .i64 2) (want0 rfl) (xassign rfl rfl) ?_; refine gp3 z q ow s0 s1 s4 fun fa fw z q ow s0 s1 s4 s5 => ?_; refine wt hK10 ?_; refine wp_ret ?_; refine then_r ?_; refine resultsL (v := .tuple #[aggV (⟨0, 0, []⟩ : Vl), .int .i64 2]) rfl (.cons (res_cell (n := 3) _ s4 (by kernel_rfl) (by kernel_rfl) (ow.box 0 rfl) (Nat.le_of_ble_eq_true rfl) rfl) (.cons (res_tmp s5) .nil)) rfl q ?_; exact ⟨ret_pair (v14_arg (by omega) (by omega) hlo hk hbad), ow.kept⟩
  refine cf s25 (bnot (Iff.rfl)) hc3 ?_; have hval : l.all vOk = true := by simpa using hc3
  refine wp_skip ?_; refine tn hK8 ?_; refine sq fun hK11 => ?_; have hall : ∀ v ∈ l, vOk v = true := List.all_eq_true.1 hval
  refine ro [yV _, yV _] 2 54 z q ow (
    mvS s0 rfl rfl rfl rfl <|
    mvS s1 rfl rfl rfl rfl <|
    arm0) fun fa fw bs hv ap z q ow => ?_
  obtain ⟨s0, s4, s5⟩ := b3 bs s0 s4 s5; have s28 := gv hv 0 rfl rfl; have s29 := gv hv 1 rfl rfl; refine wl_enter (want0 rfl) (xcall2 (u := .int .u8 (fn : Int)) (v := .slice (some ⟨b0, off0, none⟩) l.length cap) rfl s28 s29 (en_louvreref14_convert _ _)) ((rconvert14_any fn b0 off0 cap l _ (hr.kept ow.kept) hs hl20 (by omega) (by omega)).mono ?_); rintro _ fw ⟨sv, nv, x, ok, rfl, hk, hcv⟩; refine ⟨_, rfl, ?_⟩; rcases hcv with ⟨rfl, hcv2⟩ | ⟨rfl, hcv2, hown⟩
  · skip
    have ow := ow.keep hk; clear hk; refine wl_value (v := .tuple #[sv, nv, aggV x, .bool false]) (want0 rfl) (xmove rfl (put_in (t := 30) z rfl)) ?_; refine wl_value (v := sv) (want0 rfl) (xextract rfl (put_in (t := 27) (put_size z) rfl) rfl) ?_; refine wl_value (v := nv) (want0 rfl) (xextract rfl (pb 31 (put_in (t := 27) (put_size z) rfl) rfl) rfl) ?_; refine wl_value (v := aggV x) (want0 rfl) (xextract rfl (pb 32 (pb 31 (put_in (t := 27) (put_size z) rfl) rfl) rfl) rfl) ?_; refine wl_value (v := .bool false) (want0 rfl) (xextract rfl (pb 33 (pb 32 (pb 31 (put_in (t := 27) (put_size z) rfl) rfl) rfl) rfl) rfl) ?_; refine gt7 (put_size (put_size (put_size (put_size (put_size (put_size z)))))) (put_def (put_def (put_def (put_def (put_def (put_def q)))))) ow 0 (pb 34 (pb 33 (pb 32 (pb 31 (pb 27 (pb 30 s0 rfl) rfl) rfl) rfl) rfl) rfl) 4 (pb 34 (pb 33 (pb 32 (pb 31 (pb 27 (pb 30 s4 rfl) rfl) rfl) rfl) rfl) rfl) 5 (pb 34 (pb 33 (pb 32 (pb 31 (pb 27 (pb 30 s5 rfl) rfl) rfl) rfl) rfl) rfl) 31 (pb 34 (pb 33 (pb 32 (put_in (t := 31) (put_size (put_size z)) rfl) rfl) rfl) rfl) 32 (pb 34 (pb 33 (put_in (t := 32) (put_size (put_size (put_size z))) rfl) rfl) rfl) 33 (pb 34 (put_in (t := 33) (put_size (put_size (put_size (put_size z)))) rfl) rfl) 34 (put_in (t := 34) (put_size (put_size (put_size (put_size (put_size z))))) rfl) fun fa fw z q ow s0 s4 s5 s31 s32 s33 s34 => ?_; refine wl_newP ow (want0 rfl) (xalloc (b := .cells #[.int .u8 0, .int .i64 0, .string ⟨[].toArray⟩] 25 (0, 0)) rfl (by kernel_rfl)) fun gb2 fw ow => ?_
    refine wl_value (v := sv) (want0 rfl) (xassign rfl (pb 8 s31 rfl)) ?_; refine wl_value (v := nv) (want0 rfl) (xassign rfl (pb 6 (pb 8 s32 rfl) rfl)) ?_; refine wl_store ow 0 0 (want0 rfl) rfl rfl (pb 7 (pb 6 (put_in (t := 8) z rfl) rfl) rfl) (pb 7 (pb 6 (pb 8 s33 rfl) rfl) rfl) (by kernel_rfl) rfl rfl rfl fun fw ow => ?_; refine wl_value (v := .bool false) (want0 rfl) (xassign rfl (pb 7 (pb 6 (pb 8 s34 rfl) rfl) rfl)) ?_; refine gt7 (put_size (put_size (put_size (put_size z)))) (put_def (put_def (put_def (put_def q)))) ow 0 (pb 9 (pb 7 (pb 6 (pb 8 s0 rfl) rfl) rfl) rfl) 4 (pb 9 (pb 7 (pb 6 (pb 8 s4 rfl) rfl) rfl) rfl) 5 (pb 9 (pb 7 (pb 6 (pb 8 s5 rfl) rfl) rfl) rfl) 8 (pb 9 (pb 7 (pb 6 (put_in (t := 8) z rfl) rfl) rfl) rfl) 6 (pb 9 (pb 7 (put_in (t := 6) (put_size z) rfl) rfl) rfl) 7 (pb 9 (put_in (t := 7) (put_size (put_size z)) rfl) rfl) 9 (put_in (t := 9) (put_size (put_size (put_size z))) rfl) fun fa fw z q ow s0 s4 s5 s8 s6 s7 s9 => ?_; refine wt hK11 ?_; refine sq fun hK12 => ?_; refine sq fun hK13 => ?_
    refine ro [yV _, yV _] 2 54 z q ow (
      mvS s9 rfl rfl rfl rfl <|
      aS (fun hk bs hd => xnot rfl (dp hd 0 rfl)) rfl <|
      arm0) fun fa fw bs hv ap z q ow => ?_
    obtain ⟨s0, s4, s5, s8, s6, s7⟩ := b6 bs s0 s4 s5 s8 s6 s7; have s36 := gv hv 1 rfl rfl; refine wt hK13 ?_; refine wp_cond_true (s36) ?_; refine sq fun hK14 => ?_
    refine ro [yV (aggV x)] 1 54 z q ow (
      aS (fun hk bs hd => xloadN 3 rfl (by kernel_rfl) (by kernel_rfl) (bg bs s8) ((ow.keep hk).box 0 rfl) (Nat.le_of_ble_eq_true rfl) rfl) rfl <|
      arm0) fun fa fw bs hv ap z q ow => ?_
    obtain ⟨s0, s4, s5, s6, s7⟩ := b5 bs s0 s4 s5 s6 s7; have s37 := gv hv 0 rfl rfl; refine ws ow 1 0 s4 s37 fun fw ow => ?_; refine wl_value (v := .int .i64 0) (want0 rfl) (xassign rfl rfl) ?_; refine gp4 z q ow s0 s4 s6 s7 fun fa fw z q ow s0 s4 s6 s7 s5 => ?_; refine wt hK14 ?_; refine wp_ret ?_; refine then_r ?_; refine resultsL (v := .tuple #[aggV x, .int .i64 0]) rfl (.cons (res_cell (n := 3) _ s4 (by kernel_rfl) (by kernel_rfl) (ow.box 1 rfl) (Nat.le_of_ble_eq_true rfl) rfl) (.cons (res_tmp s5) .nil)) rfl q ?_; exact ⟨ret_pair (v14_err (by omega) (by omega) hlo hall hcv2), ow.kept⟩
  have ow := ow.join hown; clear hk hown; obtain ⟨A, n1, rfl⟩ := row_slice (ow.row 0 rfl); obtain ⟨B, n2, rfl⟩ := row_slice (ow.row 1 rfl); obtain ⟨b1, off1, rfl⟩ : ∃ b off, A = some ⟨b, off, none⟩ := (RowC.of_own (ow.row 0 rfl)).1.some (by rw [List.length_map]; exact txts_pos (by omega) (by omega) hlo); refine wl_value (v := .tuple #[.slice (some ⟨b1, off1, none⟩) ((txts14 fn 0 l).map strV).length n1, .slice B ((nums14 fn 0 l).map numV).length n2, aggV x, .bool true]) (want0 rfl) (xmove rfl (put_in (t := 30) z rfl)) ?_; refine wl_value (v := .slice (some ⟨b1, off1, none⟩) ((txts14 fn 0 l).map strV).length n1) (want0 rfl) (xextract rfl (put_in (t := 27) (put_size z) rfl) rfl) ?_; refine wl_value (v := .slice B ((nums14 fn 0 l).map numV).length n2) (want0 rfl) (xextract rfl (pb 31 (put_in (t := 27) (put_size z) rfl) rfl) rfl) ?_; refine wl_value (v := aggV x) (want0 rfl) (xextract rfl (pb 32 (pb 31 (put_in (t := 27) (put_size z) rfl) rfl) rfl) rfl) ?_; refine wl_value (v := .bool true) (want0 rfl) (xextract rfl (pb 33 (pb 32 (pb 31 (put_in (t := 27) (put_size z) rfl) rfl) rfl) rfl) rfl) ?_; refine gt7 (put_size (put_size (put_size (put_size (put_size (put_size z)))))) (put_def (put_def (put_def (put_def (put_def (put_def q)))))) ow 0 (pb 34 (pb 33 (pb 32 (pb 31 (pb 27 (pb 30 s0 rfl) rfl) rfl) rfl) rfl) rfl) 4 (pb 34 (pb 33 (pb 32 (pb 31 (pb 27 (pb 30 s4 rfl) rfl) rfl) rfl) rfl) rfl) 5 (pb 34 (pb 33 (pb 32 (pb 31 (pb 27 (pb 30 s5 rfl) rfl) rfl) rfl) rfl) rfl) 31 (pb 34 (pb 33 (pb 32 (put_in (t := 31) (put_size (put_size z)) rfl) rfl) rfl) rfl) 32 (pb 34 (pb 33 (put_in (t := 32) (put_size (put_size (put_size z))) rfl) rfl) rfl) 33 (pb 34 (put_in (t := 33) (put_size (put_size (put_size (put_size z)))) rfl) rfl) 34 (put_in (t := 34) (put_size (put_size (put_size (put_size (put_size z))))) rfl) fun fa fw z q ow s0 s4 s5 s31 s32 s33 s34 => ?_
  refine wl_newP ow (want0 rfl) (xalloc (b := .cells #[.int .u8 0, .int .i64 0, .string ⟨[].toArray⟩] 25 (0, 0)) rfl (by kernel_rfl)) fun gb3 fw ow => ?_; refine wl_value (v := .slice (some ⟨b1, off1, none⟩) ((txts14 fn 0 l).map strV).length n1) (want0 rfl) (xassign rfl (pb 8 s31 rfl)) ?_; refine wl_value (v := .slice B ((nums14 fn 0 l).map numV).length n2) (want0 rfl) (xassign rfl (pb 6 (pb 8 s32 rfl) rfl)) ?_; refine wl_store ow 0 0 (want0 rfl) rfl rfl (pb 7 (pb 6 (put_in (t := 8) z rfl) rfl) rfl) (pb 7 (pb 6 (pb 8 s33 rfl) rfl) rfl) (by kernel_rfl) rfl rfl rfl fun fw ow => ?_; refine wl_value (v := .bool true) (want0 rfl) (xassign rfl (pb 7 (pb 6 (pb 8 s34 rfl) rfl) rfl)) ?_; refine gt7 (put_size (put_size (put_size (put_size z)))) (put_def (put_def (put_def (put_def q)))) ow 0 (pb 9 (pb 7 (pb 6 (pb 8 s0 rfl) rfl) rfl) rfl) 4 (pb 9 (pb 7 (pb 6 (pb 8 s4 rfl) rfl) rfl) rfl) 5 (pb 9 (pb 7 (pb 6 (pb 8 s5 rfl) rfl) rfl) rfl) 8 (pb 9 (pb 7 (pb 6 (put_in (t := 8) z rfl) rfl) rfl) rfl) 6 (pb 9 (pb 7 (put_in (t := 6) (put_size z) rfl) rfl) rfl) 7 (pb 9 (put_in (t := 7) (put_size (put_size z)) rfl) rfl) 9 (put_in (t := 9) (put_size (put_size (put_size z))) rfl) fun fa fw z q ow s0 s4 s5 s8 s6 s7 s9 => ?_; refine wt hK11 ?_; refine sq fun hK15 => ?_; refine sq fun hK16 => ?_
  refine ro [yV _, yV _] 2 54 z q ow (
    mvS s9 rfl rfl rfl rfl <|
    aS (fun hk bs hd => xnot rfl (dp hd 0 rfl)) rfl <|
    arm0) fun fa fw bs hv ap z q ow => ?_
  obtain ⟨s0, s4, s5, s8, s6, s7⟩ := b6 bs s0 s4 s5 s8 s6 s7; have s36 := gv hv 1 rfl rfl; refine wt hK16 ?_; refine wp_cond_false (s36) ?_; refine wp_skip ?_; refine tn hK15 ?_; refine sq fun hK17 => ?_; refine sq fun hK18 => ?_
  refine ro [yV _, yV _, yV _, yIf (((decide ((32 : Int) ≤ (fn : Int))) = true)) (yV (.int .u8 (fn : Int))), yIf (((decide ((32 : Int) ≤ (fn : Int))) = true)) (yV (.bool (decide ((fn : Int) ≤ (34 : Int))))), yV _] 6 54 z q ow (
    mvS s0 rfl rfl rfl rfl <|
    aS (fun hk bs hd => xgeq rfl (dp hd 0 rfl) rfl) rfl <|
    mvD 1 rfl rfl rfl rfl rfl rfl <|
    arm (fun aa ww hk bs hd => by
      have d2 := dp hd 2 rfl
      by_cases hz : ((decide ((32 : Int) ≤ (fn : Int))) = true)
      · exact stepX_same (v := .int .u8 (fn : Int)) (want1 (j := 2) (b := true) rfl (d2.trans (congrArg Value.bool hz))) (xmove rfl (bg bs s0)) ⟨fun _ => rfl, fun c => absurd hz c⟩ rfl
      · exact stepX_skip (wantN (j := 2) (b := true) (b' := false) rfl (d2.trans (congrArg Value.bool (Bool.eq_false_iff.2 hz))) rfl) ⟨fun c => absurd c hz, fun _ => rfl⟩ rfl
      ) <|
    arm (fun aa ww hk bs hd => by
      have d2 := dp hd 2 rfl; have d3 := dI hd 3 rfl
      by_cases hz : ((decide ((32 : Int) ≤ (fn : Int))) = true)
      · exact stepX_same (v := .bool (decide ((fn : Int) ≤ (34 : Int)))) (want1 (j := 2) (b := true) rfl (d2.trans (congrArg Value.bool hz))) (xleq rfl (d3.1 hz) rfl) ⟨fun _ => rfl, fun c => absurd hz c⟩ rfl
      · exact stepX_skip (wantN (j := 2) (b := true) (b' := false) rfl (d2.trans (congrArg Value.bool (Bool.eq_false_iff.2 hz))) rfl) ⟨fun c => absurd c hz, fun _ => rfl⟩ rfl
      ) <|
    arm (fun aa ww hk bs hd => by
      have d2 := dp hd 2 rfl; have d4 := dI hd 4 rfl; exact stepX_same (v := .bool ((decide ((32 : Int) ≤ (fn : Int))) && (decide ((fn : Int) ≤ (34 : Int))))) (want0 rfl) (xand rfl (d2) (fun hb => d4.1 hb) rfl) rfl rfl
      ) <|
    arm0) fun fa fw bs hv ap z q ow => ?_
  obtain ⟨s0, s4, s5, s6, s7⟩ := b5 bs s0 s4 s5 s6 s7; have s43 := gv hv 5 rfl rfl; refine wt hK18 ?_
  by_cases hc4 : ((32 : Int) ≤ (fn : Int)) ∧ ((fn : Int) ≤ (34 : Int))
  · refine ct s43 ((band (decide_eq_true_iff) (decide_eq_true_iff)).2 hc4) ?_
    refine sq fun hK19 => ?_
    refine ro [yV _, yV _, yV _, yV _, yV _, yV (aggV (val14 fn (txts14 fn 0 l) (nums14 fn 0 l)))] 6 54 z q ow (
      mvS s0 rfl rfl rfl rfl <|
      mvS s6 rfl rfl rfl rfl <|
      aS (fun hk bs hd => xindexAddr (u := .slice (some ⟨b1, off1, none⟩) ((txts14 fn 0 l).map strV).length n1) (z := .int .i64 ((0 : Nat) : Int)) rfl (dp hd 1 rfl) rfl (run_place1 Tryz.underlying88 (by kernel_rfl) (by rw [List.length_map]; exact txts_pos (by omega) (by omega) hlo))) rfl <|
      aS (fun hk bs hd => xloadC rfl (by kernel_rfl) (dp hd 2 rfl) (((RowC.of_own ((ow.keep hk).row 1 rfl)).1).at_ (k := 0) (head_at (txts_pos (by omega) (by omega) hlo)))) rfl <|
      mvS s7 rfl rfl rfl rfl <|
      aC (fun hk bs hd => xcall3 rfl (dp hd 0 rfl) (dp hd 3 rfl) (dp hd 4 rfl) (en_louvreref14_piece _ _)) (fun hk bs hd => rpiece14_any fn l B n2 _ (by omega) (by omega) hlo hall hs ((ow.keep hk).row 2 rfl)) rfl <|
      arm0) fun fa fw bs hv ap z q ow => ?_
    obtain ⟨s0, s4, s5, s6, s7⟩ := b5 bs s0 s4 s5 s6 s7; have s49 := gv hv 5 rfl rfl; refine ws ow 3 0 s4 s49 fun fw ow => ?_; refine wl_value (v := .int .i64 0) (want0 rfl) (xassign rfl rfl) ?_; refine gp4 z q ow s0 s4 s6 s7 fun fa fw z q ow s0 s4 s6 s7 s5 => ?_; refine wt hK19 ?_; refine wp_ret ?_; refine then_r ?_; refine resultsL (v := .tuple #[aggV (val14 fn (txts14 fn 0 l) (nums14 fn 0 l)), .int .i64 0]) rfl (.cons (res_cell (n := 3) _ s4 (by kernel_rfl) (by kernel_rfl) (ow.box 3 rfl) (Nat.le_of_ble_eq_true rfl) rfl) (.cons (res_tmp s5) .nil)) rfl q ?_; exact ⟨ret_pair (v14_val (by omega) (by omega) hlo hall hcv2), ow.kept⟩
  refine cf s43 (band (decide_eq_true_iff) (decide_eq_true_iff)) hc4 ?_; refine wp_skip ?_; refine tn hK17 ?_; refine sq fun hK20 => ?_
  refine ro [yV _, yV _, yV _, yV (aggV (val14 fn (txts14 fn 0 l) (nums14 fn 0 l)))] 4 54 z q ow (
    mvS s0 rfl rfl rfl rfl <|
    mvS s6 rfl rfl rfl rfl <|
    mvS s7 rfl rfl rfl rfl <|
    aC (fun hk bs hd => xcall3 rfl (dp hd 0 rfl) (dp hd 1 rfl) (dp hd 2 rfl) (en_louvreref14_value _ _)) (fun hk bs hd => rvalue14_any fn l (some ⟨b1, off1, none⟩) n1 B n2 _ (by omega) (by omega) hlo hall hs ((ow.keep hk).row 1 rfl) ((ow.keep hk).row 2 rfl)) rfl <|
    arm0) fun fa fw bs hv ap z q ow => ?_
  obtain ⟨s4, s5⟩ := b2 bs s4 s5; have s53 := gv hv 3 rfl rfl; refine ws ow 3 0 s4 s53 fun fw ow => ?_; refine wl_value (v := .int .i64 0) (want0 rfl) (xassign rfl rfl) ?_; refine gp1 z q ow s4 fun fa fw z q ow s4 s5 => ?_; refine wt hK20 ?_; refine wp_ret ?_; refine resultsL (v := .tuple #[aggV (val14 fn (txts14 fn 0 l) (nums14 fn 0 l)), .int .i64 0]) rfl (.cons (res_cell (n := 3) _ s4 (by kernel_rfl) (by kernel_rfl) (ow.box 3 rfl) (Nat.le_of_ble_eq_true rfl) rfl) (.cons (res_tmp s5) .nil)) rfl q ?_; exact ⟨ret_pair (v14_val (by omega) (by omega) hlo hall hcv2), ow.kept⟩
end Go.Proofs.YtbpkfnoenkoabaaGreatDoor
