/- Layer 16: median, LARGE and SMALL: the program's (printed by wip/mkagg7.py). -/
import Derived.Test.YtbkjdcpfkepheaaGreatDoorUMixAT
import Derived.Test.YtbkjdcpfkepheaaGreatDoorUGColl
namespace Go.Proofs.YtbkjdcpfkepheaaGreatDoor
set_option linter.unusedVariables false
set_option linter.unusedSimpArgs false
open Go.RowKit Lv
set_option maxRecDepth 100000
theorem two_64 {x y : Int} (hx : i64 x) (hy : i64 y) : All64 [x, y] := fun z hz => by
  simp only [List.mem_cons, List.not_mem_nil, or_false] at hz
  rcases hz with rfl | rfl
  · exact hx
  · exact hy
theorem num64 {v : Vl} (h : i64 v.n) : i64 (vNum v).n := by
  obtain ⟨h1, h2⟩ := h
  by_cases ok : vOk v = true
  · rcases ok_cases ok with rfl | ⟨n, hn, rfl⟩ | rfl | rfl | ⟨t, ht, rfl⟩ | ⟨c, c1, c2, rfl⟩
    · exact ⟨by decide, by decide⟩
    · unfold vNum; rw [ok]; exact ⟨h1, h2⟩
    · exact ⟨by decide, by decide⟩
    · exact ⟨by decide, by decide⟩
    · unfold vNum; rw [ok]; exact (small_read t).1
    · unfold vNum; rw [ok]; exact ⟨h1, h2⟩
  · unfold vNum; rw [if_pos (by simpa using ok)]; exact ⟨by decide, by decide⟩
theorem nums_64 {l : List Ar} (h : ∀ a ∈ l, SmallAr a) : All64 ((seq16 l).map Vl.n) := fun x hx => by
  obtain ⟨v, hv, rfl⟩ := List.mem_map.1 hx; obtain ⟨L, hL, hvL⟩ := List.mem_flatten.1 hv; obtain ⟨a, ha, rfl⟩ := List.mem_map.1 hL; unfold seq1 at hvL
  split at hvL
  · obtain ⟨c, hc, rfl⟩ := List.mem_map.1 (List.mem_filter.1 hvL).1
    exact ((h a ha).2 c hc).1
  · rw [List.mem_singleton.1 hvL]
    exact num64 (h a ha).1.1
theorem seq_one (a : Ar) : (seq16 [a]).length ≤ a.l.length + 1 := by
  rw [seq_cons, show seq16 [] = [] from rfl, List.append_nil]; unfold seq1
  split
  · have := List.length_filter_le (fun v : Vl => decide (v.k = 1 ∨ v.k = 4)) (a.l.map Cl.v)
    rw [List.length_map] at this
    omega
  · exact Nat.succ_le_succ (Nat.zero_le _)
theorem ArgsAt.take1 {w : World} {A : Option Addr} {a b : Ar} (h : ArgsAt w A [a, b]) : ArgsAt w A [a] := by
  obtain ⟨L, e, r, c⟩ := h; refine ⟨L.take 1, by rw [List.map_take, e]; rfl, r.take 1, fun p hp => c p (List.mem_of_mem_take hp)⟩
theorem xsliceArg {a : Act} {w : World} {o : Oper} {x : Operand} {A : Option Addr} {b off n cap : Nat} (ho : o.op = .slice 22 x none (some (.const (.int .i64 1))) none) (hA : A = some ⟨b, off, none⟩) (hx : a.eval x = .slice A n cap) (hc : 1 ≤ cap) : (execOp a.eval o).run Tryz.prog w = .ok (.value (.slice A 1 cap)) w := by
  subst hA; have hr := run_underlying (w := w) Tryz.underlying22; have hz : (sizeOf 39).run Tryz.prog w = .ok 9 w := by kernel_rfl
  have c1 : (1 : Int) ≤ (cap : Int) := by omega
  have c2 : ¬ cap = 0 := by omega
  unfold execOp; rw [ho]
  simp only [hx, Option.map_some, Option.map_none, show a.eval (.const (.int .i64 1)) = .int .i64 1 from rfl]
  go_simp
theorem rank_64 {L : List Int} {k : Nat} (h : All64 L) (hk : k < L.length) : i64 (L.getD k 0) := h _ (getD_mem hk)
theorem nums_some {l : List Ar} {x : Vl} (h : firstE (seq16 l) = some x) : nums16 l = ([], x, false) := by unfold nums16; rw [h]
theorem nums_none {l : List Ar} (h : firstE (seq16 l) = none) : nums16 l = ((seq16 l).map Vl.n, blankV, true) := by unfold nums16; rw [h]
theorem rank_bad {a : Ar} {k x : Vl} {d : Bool} (h : firstE (seq16 [a]) = some x) : rank16 a k d = x := by
  unfold rank16; rw [nums_some h, if_pos rfl]
theorem p16_no {k : Vl} (h : (p16 k).2.2 = false) : isE (vNum k) = true ∧ (p16 k).2.1 = vNum k := by
  unfold p16 at *
  split at h
  · rename_i e; rw [if_pos e]; exact ⟨e, rfl⟩
  · cases h
theorem p16_yes {k : Vl} (h : (p16 k).2.2 = true) : isE (vNum k) = false ∧ (p16 k).1 = pos16 k := by
  unfold p16 at *
  split at h
  · cases h
  · rename_i e; rw [if_neg e]; exact ⟨by simpa using e, rfl⟩
theorem rank_pos {a : Ar} {k : Vl} {d : Bool} (h : firstE (seq16 [a]) = none) (p : (p16 k).2.2 = false) : (p16 k).2.1 = rank16 a k d := by
  obtain ⟨h1, h2⟩ := p16_no p; unfold rank16; rw [nums_none h, if_neg (fun c => by cases c), if_pos h1, h2]
theorem rank_out {a : Ar} {k : Vl} {d : Bool} {L : List Int} (h : firstE (seq16 [a]) = none) (p : (p16 k).2.2 = true) (hL : L = (seq16 [a]).map Vl.n) (o : ((p16 k).1 : Int) < (1 : Int) ∨ ((L.length : Nat) : Int) < ((p16 k).1 : Int)) : vFail 3 = rank16 a k d := by
  obtain ⟨h1, h2⟩ := p16_yes p; unfold rank16; rw [nums_none h, if_neg (fun c => by cases c), if_neg (by rw [h1]; decide), ← hL, if_pos (by rw [← h2]; exact o)]
theorem rank_in {a : Ar} {k : Vl} {d e : Bool} {L : List Int} {m : Nat} (h : firstE (seq16 [a]) = none) (p : (p16 k).2.2 = true) (hL : L = (seq16 [a]).map Vl.n) (o : ¬ (((p16 k).1 : Int) < (1 : Int) ∨ ((L.length : Nat) : Int) < ((p16 k).1 : Int))) (hm : (p16 k).1 = (m : Int) + 1) (hd : d = e) : rank16 a k d = vMake ((if e then (sort16 L).reverse else sort16 L).getD m 0) := by
  obtain ⟨h1, h2⟩ := p16_yes p; subst hd; unfold rank16; rw [nums_none h, if_neg (fun c => by cases c), if_neg (by rw [h1]; decide), ← hL, if_neg (by rw [← h2]; exact o), ← h2, hm, show ((m : Int) + 1 - 1).toNat = m by omega]
theorem en_agg_collect : En 57 := by intro args w; go_simp
theorem en_agg_position : En 100 := by intro args w; go_simp
theorem en_slices_Reverse___int64_int64_ : En 102 := by intro args w; go_simp
theorem en_slices_Sort___int64_int64_ : En 101 := by intro args w; go_simp
set_option maxHeartbeats 4000000 in
theorem amedian_some (w0 w : World) (T : List Th) (b g cap : Nat) (l : List Int) (ow : Own w0 (Th.row b 2 1 (.slice (some ⟨g, 0, none⟩) l.length cap) l.length (l.map numV) :: T) w) (h0 : 0 < l.length) (h64 : All64 l) (hl : l.length ≤ 1000000) :
    Calls Tryz.prog 99 #[.slice (some ⟨g, 0, none⟩) l.length cap] w fun e w' => e = .returned (aggV (if l.length % 2 = 1 then vMake ((sort16 l).getD (l.length / 2) 0) else vRes (dMean [(sort16 l).getD (l.length / 2 - 1) 0, (sort16 l).getD (l.length / 2) 0]))) ∧ Own w0 T w' := by
  have hs64 := sort_64 h64; have hsl := sort_length l; go_enter Tryz.func99, Tryz.ntmps99; refine sq fun hK1 => ?_
  refine ro [yNew w.heap.size (.cells #[.int .u8 0, .int .i64 0, .string ⟨[].toArray⟩] 25 (0, 0))] 1 36 rfl rfl ow (
    aP (fun hk bs hd => xalloc rfl (by kernel_rfl)) rfl <|
    arm0) fun fa fw bs hv ap z q ov => ?_
  have s0 := bs.get 0 rfl rfl; obtain ⟨gb1, s2, bgb1, hgb1⟩ := gotP hv 0 rfl rfl rfl; have ov := ov.cons hgb1 (Nat.le_trans ow.kept.size bgb1) (ow.below bgb1); have ow := ov; refine wt hK1 ?_; refine sq fun hK2 => ?_; refine sq fun hK3 => ?_
  refine ro [yV _, yV _, yV (.bool false)] 3 36 z q ow (
    mvS s0 rfl rfl rfl rfl <|
    aS (fun hk bs hd => xlen Tryz.underlying54 rfl (dp hd 0 rfl)) rfl <|
    aE (fun hk bs hd => xeqi rfl (dp hd 1 rfl) rfl) (congrArg Value.bool (by rw [decide_eq_false_iff_not]; omega)) rfl <|
    arm0) fun fa fw bs hv ap z q ow => ?_
  obtain ⟨s0, s2⟩ := b2 bs s0 s2; have s6 := gv hv 2 rfl rfl; refine wt hK3 ?_; refine wp_cond_false (s6) ?_; refine wp_skip ?_; refine tn hK2 ?_; refine sq fun hK4 => ?_
  refine ro [yV _] 1 36 z q ow (
    mvS s0 rfl rfl rfl rfl <|
    arm0) fun fa fw bs hv ap z q ow => ?_
  obtain ⟨s0, s2⟩ := b2 bs s0 s2; have s8 := gv hv 0 rfl rfl; refine wl_enter (want0 rfl) (xcall1 (u := .slice (some ⟨g, 0, none⟩) l.length cap) rfl s8 (en_slices_Sort___int64_int64_ _ _)) ((ssort_own1 ow (by first | rfl | (simp only [sort_length, List.length_reverse])) (by first | assumption | (simp only [sort_length, List.length_reverse]; assumption))).mono ?_); rintro _ fw ⟨rfl, hO⟩; refine ⟨_, rfl, ?_⟩; rcases (rfl : (0 : Nat) = 0) with _
  have ow := hO; refine gt2 (put_size z) (put_def q) ow 0 (pb 9 s0 rfl) 2 (pb 9 s2 rfl) fun fa fw z q ow s0 s2 => ?_; refine wt hK4 ?_; refine sq fun hK5 => ?_
  refine ro [yV _, yV _, yV (.int .i64 ((l.length / 2 : Nat) : Int)), yV _] 4 36 z q ow (
    mvS s0 rfl rfl rfl rfl <|
    aS (fun hk bs hd => xlen Tryz.underlying54 rfl (dp hd 0 rfl)) rfl <|
    aE (fun hk bs hd => xquo (Or.inl rfl) rfl (dp hd 1 rfl) rfl (by omega) (by omega) (by omega)) (congrArg (Value.int .i64) (tdiv2 l.length)) rfl <|
    asD 2 rfl rfl rfl rfl rfl rfl <|
    arm0) fun fa fw bs hv ap z q ow => ?_
  obtain ⟨s0, s2⟩ := b2 bs s0 s2; have s3 := gv hv 3 rfl rfl; refine wt hK5 ?_; refine sq fun hK6 => ?_; refine sq fun hK7 => ?_
  refine ro [yV _, yV _, yV (.int .i64 (((l.length) % 2 : Nat) : Int)), yV _] 4 36 z q ow (
    mvS s0 rfl rfl rfl rfl <|
    aS (fun hk bs hd => xlen Tryz.underlying54 rfl (dp hd 0 rfl)) rfl <|
    aS (fun hk bs hd => xremN (Or.inl rfl) rfl (dp hd 1 rfl) rfl (by omega) (by omega)) rfl <|
    aS (fun hk bs hd => xeqi rfl (dp hd 2 rfl) rfl) rfl <|
    arm0) fun fa fw bs hv ap z q ow => ?_
  obtain ⟨s0, s2, s3⟩ := b3 bs s0 s2 s3; have s16 := gv hv 3 rfl rfl; refine wt hK7 ?_
  by_cases hc1 : (((l.length) % 2 : Nat) : Int) = (1 : Int)
  ·refine ct s16 ((decide_eq_true_iff).2 hc1) ?_
   refine sq fun hK8 => ?_
   refine ro [yV _, yV _, yV _, yV _, yV (aggV (vMake ((sort16 l).getD (l.length / 2) 0)))] 5 36 z q ow (
     mvS s0 rfl rfl rfl rfl <|
     mvS s3 rfl rfl rfl rfl <|
     aS (fun hk bs hd => xplaceI (k := (l.length / 2)) rfl rfl (dp hd 0 rfl) (dp hd 1 rfl) (by omega)) rfl <|
     aS (fun hk bs hd => xrowO rfl (by kernel_rfl) (dp hd 2 rfl) ((ow.keep hk).row 1 rfl) (by first | omega | (simp only [sort_length, List.length_reverse]; omega))) rfl <|
     aC (fun hk bs hd => xcall1 rfl (dp hd 3 rfl) (en_val_Make _ _)) (fun hk bs hd => vmake_any ((sort16 l).getD (l.length / 2) 0) _ (hs64 _ (getD_mem (by omega))).1 (hs64 _ (getD_mem (by omega))).2) rfl <|
     arm0) fun fa fw bs hv ap z q ow => ?_
   obtain ⟨s0, s2, s3⟩ := b3 bs s0 s2 s3; have s21 := gv hv 4 rfl rfl; refine ws ow 0 0 s2 s21 fun fw ow => ?_; refine wt hK8 ?_; refine wp_ret ?_; refine then_r ?_; refine rs3 s2 (ow.box 0 rfl) q ?_; exact ⟨congrArg (fun v => Ending.returned (aggV v)) (by rw [if_pos (by omega)]), ow.tail.tail⟩
  refine cf s16 (decide_eq_true_iff) hc1 ?_; refine wp_skip ?_; refine tn hK6 ?_; refine sq fun hK9 => ?_
  refine ro [yV _, yV _, yV (.int .i64 ((l.length / 2 - 1 : Nat) : Int)), yV _, yV _, yV _, yV _, yV _, yV _, ySlice fw.heap.size 2 (.cells #[.int .i64 ((sort16 l).getD (l.length / 2 - 1) 0), .int .i64 ((sort16 l).getD (l.length / 2) 0)] 2 (0, 0)), yV (.tuple #[.int .i64 ((dMean [(sort16 l).getD (l.length / 2 - 1) 0, (sort16 l).getD (l.length / 2) 0]).1), .bool ((dMean [(sort16 l).getD (l.length / 2 - 1) 0, (sort16 l).getD (l.length / 2) 0]).2)]), yV _, yV _, yV (aggV (vRes ((dMean [(sort16 l).getD (l.length / 2 - 1) 0, (sort16 l).getD (l.length / 2) 0]).1, (dMean [(sort16 l).getD (l.length / 2 - 1) 0, (sort16 l).getD (l.length / 2) 0]).2)))] 14 36 z q ow (
    mvS s0 rfl rfl rfl rfl <|
    mvS s3 rfl rfl rfl rfl <|
    aE (fun hk bs hd => xsub (Or.inl rfl) rfl (dp hd 1 rfl) rfl (by omega) (by omega)) (congrArg (Value.int .i64) (by omega)) rfl <|
    aS (fun hk bs hd => xplaceI (k := (l.length / 2 - 1)) rfl rfl (dp hd 0 rfl) (dp hd 2 rfl) (by omega)) rfl <|
    aS (fun hk bs hd => xrowO rfl (by kernel_rfl) (dp hd 3 rfl) ((ow.keep hk).row 1 rfl) (by first | omega | (simp only [sort_length, List.length_reverse]; omega))) rfl <|
    mvS s0 rfl rfl rfl rfl <|
    mvS s3 rfl rfl rfl rfl <|
    aS (fun hk bs hd => xplaceI (k := (l.length / 2)) rfl rfl (dp hd 5 rfl) (dp hd 6 rfl) (by omega)) rfl <|
    aS (fun hk bs hd => xrowO rfl (by kernel_rfl) (dp hd 7 rfl) ((ow.keep hk).row 1 rfl) (by first | omega | (simp only [sort_length, List.length_reverse]; omega))) rfl <|
    arm (fun aa ww hk bs hd => by
      have d4 : aa.eval (.tmp 26) = .int .i64 ((sort16 l).getD (l.length / 2 - 1) 0) := depX hd 4 rfl; have d8 : aa.eval (.tmp 30) = .int .i64 ((sort16 l).getD (l.length / 2) 0) := depX hd 8 rfl; exact stepX_new _ (want0 rfl) (xbuildSlice (us := #[(0, .int .i64 ((sort16 l).getD (l.length / 2 - 1) 0)), (1, .int .i64 ((sort16 l).getD (l.length / 2) 0))]) (b := .cells #[.int .i64 ((sort16 l).getD (l.length / 2 - 1) 0), .int .i64 ((sort16 l).getD (l.length / 2) 0)] 2 (0, 0)) rfl (by simp only [List.map_toArray, List.map_cons, List.map_nil, d4, d8]) (by kernel_rfl)) ⟨_, rfl, hk.size, Go.heap_alloc_new _ _⟩ ((Kept.refl _).alloc _) rfl (Nat.le_refl _)
      ) <|
    arm (fun aa ww hk bs hd => by
      have d9 := dL hd 9 rfl; obtain ⟨g9, e9, _, h9⟩ := d9; exact stepX_enter (want0 rfl) (xcall1 (u := .slice (some ⟨g9, 0, none⟩) 2 2) rfl e9 (en_dec_Mean _ _)) ((mean_any (some ⟨g9, 0, none⟩) 2 [(sort16 l).getD (l.length / 2 - 1) 0, (sort16 l).getD (l.length / 2) 0] ww (row_two h9) (two_64 (hs64 _ (getD_mem (by omega))) (hs64 _ (getD_mem (by omega)))) (Nat.le_of_ble_eq_true rfl)).mono fun _ _ ⟨he, hk2⟩ => ⟨_, he, rfl, hk2⟩) rfl
      ) <|
    aS (fun hk bs hd => xextract rfl (dp hd 10 rfl) rfl) rfl <|
    aS (fun hk bs hd => xextract rfl (dp hd 10 rfl) rfl) rfl <|
    aC (fun hk bs hd => xcall2 rfl (dp hd 11 rfl) (dp hd 12 rfl) (en_agg_result _ _)) (fun hk bs hd => aresult_any ((dMean [(sort16 l).getD (l.length / 2 - 1) 0, (sort16 l).getD (l.length / 2) 0]).1) ((dMean [(sort16 l).getD (l.length / 2 - 1) 0, (sort16 l).getD (l.length / 2) 0]).2) _ (fun _ => mean_i64 _)) rfl <|
    arm0) fun fa fw bs hv ap z q ow => ?_
  have s2 := bg bs s2; have s35 := gv hv 13 rfl rfl; refine ws ow 0 0 s2 s35 fun fw ow => ?_; refine wt hK9 ?_; refine wp_ret ?_; refine rs3 s2 (ow.box 0 rfl) q ?_; exact ⟨congrArg (fun v => Ending.returned (aggV v)) (by rw [if_neg (by omega)]), ow.tail.tail⟩
set_option maxHeartbeats 4000000 in
theorem aranked_any (A : Option Addr) (cap : Nat) (a b : Ar) (desc : Bool) (w : World) (mx : Int) (HM : Mx w mx) (hr : ArgsAt w A [a, b]) (ha : SmallAr a) (hb : SmallAr b) (hla : a.l.length ≤ 900000) (hc : 2 ≤ cap) :
    Calls Tryz.prog 64 #[.slice A 2 cap, .bool desc] w fun e w' => e = .returned (aggV (rank16 a b.v desc)) ∧ Kept w w' := by
  obtain ⟨b0, o0, S0, z0, hA0, e0, q0, y0⟩ := hr.elem (i := 0) rfl; obtain ⟨b1, o1, S1, z1, hA1, e1, q1, y1⟩ := hr.elem (i := 1) rfl; have hs1 : ∀ x ∈ [a], SmallAr x := fun x hx => by rw [List.mem_singleton.1 hx]; exact ha
  have hl1 : ∀ x ∈ [a], x.l.length ≤ 1000000 := fun x hx => by rw [List.mem_singleton.1 hx]; omega
  have hn1 : (seq16 [a]).length ≤ 1000000 := by have := seq_one a; omega
  go_enter Tryz.func64, Tryz.ntmps64; refine sq fun hK1 => ?_
  refine ro [yNew w.heap.size (.cells #[.int .u8 0, .int .i64 0, .string ⟨[].toArray⟩] 25 (0, 0))] 1 51 rfl rfl (Own.start w) (
    aP (fun hk bs hd => xalloc rfl (by kernel_rfl)) rfl <|
    arm0) fun fa fw bs hv ap z q ov => ?_
  have s0 := bs.get 0 rfl rfl; have s1 := bs.get 1 rfl rfl; obtain ⟨gb1, s4, bgb1, hgb1⟩ := gotP hv 0 rfl rfl rfl; have ov := ov.cons hgb1 (Nat.le_trans (Own.start w).kept.size bgb1) ((Own.start w).below bgb1); have ow := ov; refine wt hK1 ?_; refine sq fun hK2 => ?_
  refine ro [yV _, yV _] 2 51 z q ow (
    mvS s0 rfl rfl rfl rfl <|
    aS (fun hk bs hd => xsliceArg rfl hA0 (dp hd 0 rfl) (by omega)) rfl <|
    arm0) fun fa fw bs hv ap z q ow => ?_
  obtain ⟨s0, s1, s4⟩ := b3 bs s0 s1 s4; have s11 := gv hv 1 rfl rfl; refine wl_enter (want0 rfl) (xcall1 (u := .slice A 1 cap) rfl s11 (en_agg_collect _ _)) ((acollect_any A cap [a] _ mx (HM.kept ow.kept) (ArgsAt.take1 (hr.kept ow.kept)) hs1 (by simp) hl1 hn1).mono ?_); rintro _ fw ⟨v, x, b, rfl, hk, hcv⟩; refine ⟨_, rfl, ?_⟩; rcases hcv with ⟨rfl, rfl, hfst⟩ | ⟨rfl, rfl, hfst, hown⟩
  ·skip
   have ow := ow.keep hk; clear hk; refine wl_value (v := .tuple #[.slice none 0 0, aggV x, .bool false]) (want0 rfl) (xmove rfl (put_in (t := 12) z rfl)) ?_; refine wl_value (v := .slice none 0 0) (want0 rfl) (xextract rfl (put_in (t := 9) (put_size z) rfl) rfl) ?_; refine wl_value (v := aggV x) (want0 rfl) (xextract rfl (pb 13 (put_in (t := 9) (put_size z) rfl) rfl) rfl) ?_; refine wl_value (v := .bool false) (want0 rfl) (xextract rfl (pb 14 (pb 13 (put_in (t := 9) (put_size z) rfl) rfl) rfl) rfl) ?_; refine wl_newP ow (want0 rfl) (xalloc (b := .cells #[.int .u8 0, .int .i64 0, .string ⟨[].toArray⟩] 25 (0, 0)) rfl (by kernel_rfl)) fun gb2 fw ow => ?_; refine gt7 (put_size (put_size (put_size (put_size (put_size (put_size z)))))) (put_def (put_def (put_def (put_def (put_def (put_def q)))))) ow 0 (pb 6 (pb 15 (pb 14 (pb 13 (pb 9 (pb 12 s0 rfl) rfl) rfl) rfl) rfl) rfl) 1 (pb 6 (pb 15 (pb 14 (pb 13 (pb 9 (pb 12 s1 rfl) rfl) rfl) rfl) rfl) rfl) 4 (pb 6 (pb 15 (pb 14 (pb 13 (pb 9 (pb 12 s4 rfl) rfl) rfl) rfl) rfl) rfl) 13 (pb 6 (pb 15 (pb 14 (put_in (t := 13) (put_size (put_size z)) rfl) rfl) rfl) rfl) 14 (pb 6 (pb 15 (put_in (t := 14) (put_size (put_size (put_size z))) rfl) rfl) rfl) 15 (pb 6 (put_in (t := 15) (put_size (put_size (put_size (put_size z)))) rfl) rfl) 6 (put_in (t := 6) (put_size (put_size (put_size (put_size (put_size z))))) rfl) fun fa fw z q ow s0 s1 s4 s13 s14 s15 s6 => ?_; refine wl_value (v := .slice none 0 0) (want0 rfl) (xassign rfl s13) ?_; refine wl_store ow 0 0 (want0 rfl) rfl rfl (pb 5 s6 rfl) (pb 5 s14 rfl) (by kernel_rfl) rfl rfl rfl fun fw ow => ?_
   refine wl_value (v := .bool false) (want0 rfl) (xassign rfl (pb 5 s15 rfl)) ?_; refine gt6 (put_size (put_size z)) (put_def (put_def q)) ow 0 (pb 7 (pb 5 s0 rfl) rfl) 1 (pb 7 (pb 5 s1 rfl) rfl) 4 (pb 7 (pb 5 s4 rfl) rfl) 6 (pb 7 (pb 5 s6 rfl) rfl) 5 (pb 7 (put_in (t := 5) z rfl) rfl) 7 (put_in (t := 7) (put_size z) rfl) fun fa fw z q ow s0 s1 s4 s6 s5 s7 => ?_; refine wt hK2 ?_; refine sq fun hK3 => ?_; refine sq fun hK4 => ?_
   refine ro [yV _, yV _] 2 51 z q ow (
     mvS s7 rfl rfl rfl rfl <|
     aS (fun hk bs hd => xnot rfl (dp hd 0 rfl)) rfl <|
     arm0) fun fa fw bs hv ap z q ow => ?_
   obtain ⟨s0, s1, s4, s6, s5, s7⟩ := b6 bs s0 s1 s4 s6 s5 s7; have s17 := gv hv 1 rfl rfl; refine wt hK4 ?_; refine wp_cond_true (s17) ?_; refine sq fun hK5 => ?_
   refine ro [yV (aggV x)] 1 51 z q ow (
     aS (fun hk bs hd => xloadN 3 rfl (by kernel_rfl) (by kernel_rfl) (bg bs s6) ((ow.keep hk).box 0 rfl) (Nat.le_of_ble_eq_true rfl) rfl) rfl <|
     arm0) fun fa fw bs hv ap z q ow => ?_
   obtain ⟨s0, s1, s4, s6, s5, s7⟩ := b6 bs s0 s1 s4 s6 s5 s7; have s18 := gv hv 0 rfl rfl; refine ws ow 1 0 s4 s18 fun fw ow => ?_; refine wt hK5 ?_; refine wp_ret ?_; refine then_r ?_; refine rs3 s4 (ow.box 1 rfl) q ?_; exact ⟨congrArg (fun v => Ending.returned (aggV v)) ((rank_bad hfst).symm), ow.kept⟩
  obtain ⟨L, hL⟩ : ∃ L, L = (seq16 [a]).map Vl.n := ⟨_, rfl⟩; rw [← hL] at hown; have ow := ow.add (t := Th.row _ 2 1 v L.length (L.map numV)) hown hk (fun g e => (World.ownsRow.lt hown g e).1); clear hk hown; obtain ⟨LA, lc, rfl⟩ := row_slice (ow.row 0 rfl); have hL64 : All64 L := by rw [hL]; exact nums_64 hs1
  have hLn : L.length ≤ 1000000 := by rw [hL, List.length_map]; exact hn1
  refine wl_value (v := .tuple #[.slice LA L.length lc, aggV blankV, .bool true]) (want0 rfl) (xmove rfl (put_in (t := 12) z rfl)) ?_; refine wl_value (v := .slice LA L.length lc) (want0 rfl) (xextract rfl (put_in (t := 9) (put_size z) rfl) rfl) ?_; refine wl_value (v := aggV blankV) (want0 rfl) (xextract rfl (pb 13 (put_in (t := 9) (put_size z) rfl) rfl) rfl) ?_; refine wl_value (v := .bool true) (want0 rfl) (xextract rfl (pb 14 (pb 13 (put_in (t := 9) (put_size z) rfl) rfl) rfl) rfl) ?_; refine wl_newP ow (want0 rfl) (xalloc (b := .cells #[.int .u8 0, .int .i64 0, .string ⟨[].toArray⟩] 25 (0, 0)) rfl (by kernel_rfl)) fun gb3 fw ow => ?_; refine gt7 (put_size (put_size (put_size (put_size (put_size (put_size z)))))) (put_def (put_def (put_def (put_def (put_def (put_def q)))))) ow 0 (pb 6 (pb 15 (pb 14 (pb 13 (pb 9 (pb 12 s0 rfl) rfl) rfl) rfl) rfl) rfl) 1 (pb 6 (pb 15 (pb 14 (pb 13 (pb 9 (pb 12 s1 rfl) rfl) rfl) rfl) rfl) rfl) 4 (pb 6 (pb 15 (pb 14 (pb 13 (pb 9 (pb 12 s4 rfl) rfl) rfl) rfl) rfl) rfl) 13 (pb 6 (pb 15 (pb 14 (put_in (t := 13) (put_size (put_size z)) rfl) rfl) rfl) rfl) 14 (pb 6 (pb 15 (put_in (t := 14) (put_size (put_size (put_size z))) rfl) rfl) rfl) 15 (pb 6 (put_in (t := 15) (put_size (put_size (put_size (put_size z)))) rfl) rfl) 6 (put_in (t := 6) (put_size (put_size (put_size (put_size (put_size z))))) rfl) fun fa fw z q ow s0 s1 s4 s13 s14 s15 s6 => ?_; refine wl_value (v := .slice LA L.length lc) (want0 rfl) (xassign rfl s13) ?_; refine wl_store ow 0 0 (want0 rfl) rfl rfl (pb 5 s6 rfl) (pb 5 s14 rfl) (by kernel_rfl) rfl rfl rfl fun fw ow => ?_
  refine wl_value (v := .bool true) (want0 rfl) (xassign rfl (pb 5 s15 rfl)) ?_; refine gt6 (put_size (put_size z)) (put_def (put_def q)) ow 0 (pb 7 (pb 5 s0 rfl) rfl) 1 (pb 7 (pb 5 s1 rfl) rfl) 4 (pb 7 (pb 5 s4 rfl) rfl) 6 (pb 7 (pb 5 s6 rfl) rfl) 5 (pb 7 (put_in (t := 5) z rfl) rfl) 7 (put_in (t := 7) (put_size z) rfl) fun fa fw z q ow s0 s1 s4 s6 s5 s7 => ?_; refine wt hK2 ?_; refine sq fun hK6 => ?_; refine sq fun hK7 => ?_
  refine ro [yV _, yV _] 2 51 z q ow (
    mvS s7 rfl rfl rfl rfl <|
    aS (fun hk bs hd => xnot rfl (dp hd 0 rfl)) rfl <|
    arm0) fun fa fw bs hv ap z q ow => ?_
  obtain ⟨s0, s1, s4, s6, s5, s7⟩ := b6 bs s0 s1 s4 s6 s5 s7; have s17 := gv hv 1 rfl rfl; refine wt hK7 ?_; refine wp_cond_false (s17) ?_; refine wp_skip ?_; refine tn hK6 ?_; refine sq fun hK8 => ?_
  refine ro [yV _, yV _, yV (.pointer (some ⟨b1, o1 + 1 * 9 + 1, none⟩)), yV (aggV b.v), yV (.tuple #[.int .i64 ((p16 b.v).1), aggV ((p16 b.v).2.1), .bool ((p16 b.v).2.2)]), yV _, yV _, yV (aggV ((p16 b.v).2.1)), yV _, yV _] 10 51 z q ow (
    mvS s0 rfl rfl rfl rfl <|
    aS (fun hk bs hd => xplaceK 9 Tryz.underlying22 (by kernel_rfl) rfl hA1 (dp hd 0 rfl) rfl (Nat.le_of_ble_eq_true rfl)) rfl <|
    aS (fun hk bs hd => xfieldAddr rfl (dp hd 1 rfl) (by kernel_rfl)) rfl <|
    aS (fun hk bs hd => xpartK (n := 3) 1 rfl (by kernel_rfl) (by kernel_rfl) (dp hd 2 rfl) rfl (e1.kept (ow.keep hk).kept)) rfl <|
    aC (fun hk bs hd => xcall1 rfl (dp hd 3 rfl) (en_agg_position _ _)) (fun hk bs hd => aposition_any b.v _ mx (HM.kept (ow.keep hk).kept) hb.1) rfl <|
    mvD 4 rfl rfl rfl rfl rfl rfl <|
    aS (fun hk bs hd => xextract rfl (dp hd 5 rfl) rfl) rfl <|
    aS (fun hk bs hd => xextract rfl (dp hd 5 rfl) rfl) rfl <|
    aS (fun hk bs hd => xextract rfl (dp hd 5 rfl) rfl) rfl <|
    asD 6 rfl rfl rfl rfl rfl rfl <|
    arm0) fun fa fw bs hv ap z q ow => ?_
  obtain ⟨s1, s4, s6, s5, s7⟩ := b5 bs s1 s4 s6 s5 s7; have s26 := gv hv 7 rfl rfl; have s27 := gv hv 8 rfl rfl; have s8 := gv hv 9 rfl rfl; refine ws ow 0 0 s6 s26 fun fw ow => ?_; refine wl_value (v := .bool ((p16 b.v).2.2)) (want0 rfl) (xassign rfl s27) ?_; refine gp5 z q ow s1 s4 s6 s5 s8 fun fa fw z q ow s1 s4 s6 s5 s8 s7 => ?_; refine wt hK8 ?_; refine sq fun hK9 => ?_; refine sq fun hK10 => ?_
  refine ro [yV _, yV _] 2 51 z q ow (
    mvS s7 rfl rfl rfl rfl <|
    aS (fun hk bs hd => xnot rfl (dp hd 0 rfl)) rfl <|
    arm0) fun fa fw bs hv ap z q ow => ?_
  obtain ⟨s1, s4, s6, s5, s8⟩ := b5 bs s1 s4 s6 s5 s8; have s29 := gv hv 1 rfl rfl; refine wt hK10 ?_
  by_cases hc1 : ¬ (((p16 b.v).2.2) = true)
  ·refine ct s29 ((bnot (Iff.rfl)).2 hc1) ?_
   have hpb : (p16 b.v).2.2 = false := by simpa using hc1
   refine sq fun hK11 => ?_
   refine ro [yV (aggV ((p16 b.v).2.1))] 1 51 z q ow (
     aS (fun hk bs hd => xloadN 3 rfl (by kernel_rfl) (by kernel_rfl) (bg bs s6) ((ow.keep hk).box 0 rfl) (Nat.le_of_ble_eq_true rfl) rfl) rfl <|
     arm0) fun fa fw bs hv ap z q ow => ?_
   obtain ⟨s1, s4, s5, s8⟩ := b4 bs s1 s4 s5 s8; have s30 := gv hv 0 rfl rfl; refine ws ow 2 0 s4 s30 fun fw ow => ?_; refine wt hK11 ?_; refine wp_ret ?_; refine then_r ?_; refine rs3 s4 (ow.box 2 rfl) q ?_; exact ⟨congrArg (fun v => Ending.returned (aggV v)) (rank_pos hfst hpb), ow.kept⟩
  refine cf s29 (bnot (Iff.rfl)) hc1 ?_; have hpo : (p16 b.v).2.2 = true := by simpa using hc1
  refine wp_skip ?_; refine tn hK9 ?_; refine sq fun hK12 => ?_; refine sq fun hK13 => ?_
  refine ro [yV _, yV _, yV _, yIf _ (yV _), yIf _ (yV _), yIf _ (yV _), yIf _ (yV _), yV _] 8 51 z q ow (
    mvS s8 rfl rfl rfl rfl <|
    aS (fun hk bs hd => xlss rfl (dp hd 0 rfl) rfl) rfl <|
    mvD 1 rfl rfl rfl rfl rfl rfl <|
    ai (g1 2 rfl rfl) (fun hk bs hd hz => xmove rfl (bg bs s8)) rfl <|
    ai (g1 2 rfl rfl) (fun hk bs hd hz => xmove rfl (bg bs s5)) rfl <|
    ai (g1 2 rfl rfl) (fun hk bs hd hz => xlen Tryz.underlying54 rfl (di hd 4 rfl hz)) rfl <|
    ai (g1 2 rfl rfl) (fun hk bs hd hz => xgtr rfl (di hd 3 rfl hz) (di hd 5 rfl hz)) rfl <|
    aS (fun hk bs hd => xor_ rfl (dp hd 2 rfl) rfl (fun hb => di hd 6 rfl hb)) rfl <|
    arm0) fun fa fw bs hv ap z q ow => ?_
  obtain ⟨s1, s4, s5, s8⟩ := b4 bs s1 s4 s5 s8; have s38 := gv hv 7 rfl rfl; refine wt hK13 ?_
  by_cases hc2 : (((p16 b.v).1 : Int) < (1 : Int)) ∨ (((L.length : Nat) : Int) < ((p16 b.v).1 : Int))
  ·refine ct s38 ((bor (decide_eq_true_iff) (decide_eq_true_iff)).2 hc2) ?_
   have hout := hc2; refine sq fun hK14 => ?_
   refine ro [yV (aggV (vFail 3))] 1 51 z q ow (
     aC (fun hk bs hd => xcall1 rfl rfl (en_val_Fail _ _)) (fun hk bs hd => vfail_any 3 _) rfl <|
     arm0) fun fa fw bs hv ap z q ow => ?_
   obtain ⟨s1, s4, s5, s8⟩ := b4 bs s1 s4 s5 s8; have s39 := gv hv 0 rfl rfl; refine ws ow 2 0 s4 s39 fun fw ow => ?_; refine wt hK14 ?_; refine wp_ret ?_; refine then_r ?_; refine rs3 s4 (ow.box 2 rfl) q ?_; exact ⟨congrArg (fun v => Ending.returned (aggV v)) (rank_out hfst hpo hL hout), ow.kept⟩
  refine cf s38 (bor (decide_eq_true_iff) (decide_eq_true_iff)) hc2 ?_; have hin := hc2; obtain ⟨m, hm⟩ : ∃ m : Nat, (p16 b.v).1 = (m : Int) + 1 := ⟨((p16 b.v).1 - 1).toNat, by omega⟩; refine wp_skip ?_; refine tn hK12 ?_; refine sq fun hK15 => ?_; have ow := ow.perm (List.Perm.swap _ _ _); obtain ⟨g1, c1, hv9, ow⟩ := own_slice ow (by omega)
  cases hv9
  have hs64 := sort_64 hL64; have hsl := sort_length L
  refine ro [yV _] 1 51 z q ow (
    mvS s5 rfl rfl rfl rfl <|
    arm0) fun fa fw bs hv ap z q ow => ?_
  obtain ⟨s1, s4, s5, s8⟩ := b4 bs s1 s4 s5 s8; have s40 := gv hv 0 rfl rfl; refine wl_enter (want0 rfl) (xcall1 (u := .slice (some ⟨g1, 0, none⟩) L.length lc) rfl s40 (en_slices_Sort___int64_int64_ _ _)) ((ssort_own ow (by first | rfl | (simp only [sort_length, List.length_reverse])) (by first | assumption | (simp only [sort_length, List.length_reverse]; assumption))).mono ?_); rintro _ fw ⟨rfl, hO⟩; refine ⟨_, rfl, ?_⟩; rcases (rfl : (0 : Nat) = 0) with _
  have ow := hO; refine gt4 (put_size z) (put_def q) ow 1 (pb 41 s1 rfl) 4 (pb 41 s4 rfl) 5 (pb 41 s5 rfl) 8 (pb 41 s8 rfl) fun fa fw z q ow s1 s4 s5 s8 => ?_; refine wt hK15 ?_; refine sq fun hK16 => ?_; refine sq fun hK17 => ?_
  refine ro [yV _] 1 51 z q ow (
    mvS s1 rfl rfl rfl rfl <|
    arm0) fun fa fw bs hv ap z q ow => ?_
  obtain ⟨s4, s5, s8⟩ := b3 bs s4 s5 s8; have s42 := gv hv 0 rfl rfl; refine wt hK17 ?_
  by_cases hc3 : desc = true
  ·refine ct s42 ((Iff.rfl).2 hc3) ?_
   have hdt := hc3
   refine ro [yV _] 1 51 z q ow (
     mvS s5 rfl rfl rfl rfl <|
     arm0) fun fa fw bs hv ap z q ow => ?_
   obtain ⟨s4, s5, s8⟩ := b3 bs s4 s5 s8; have s43 := gv hv 0 rfl rfl; refine wl_enter (want0 rfl) (xcall1 (u := .slice (some ⟨g1, 0, none⟩) L.length lc) rfl s43 (en_slices_Reverse___int64_int64_ _ _)) ((sreverse_own ow (by first | rfl | (simp only [sort_length, List.length_reverse])) (by first | assumption | (simp only [sort_length, List.length_reverse]; assumption))).mono ?_); rintro _ fw ⟨rfl, hO⟩; refine ⟨_, rfl, ?_⟩; rcases (rfl : (0 : Nat) = 0) with _
   have ow := hO; refine gt3 (put_size z) (put_def q) ow 4 (pb 44 s4 rfl) 5 (pb 44 s5 rfl) 8 (pb 44 s8 rfl) fun fa fw z q ow s4 s5 s8 => ?_; refine wt hK16 ?_; refine sq fun hK18 => ?_
   refine ro [yV _, yV _, yV (.int .i64 ((m : Nat) : Int)), yV _, yV _, yV (aggV (vMake (((sort16 L).reverse).getD (m) 0)))] 6 51 z q ow (
     mvS s5 rfl rfl rfl rfl <|
     mvS s8 rfl rfl rfl rfl <|
     aE (fun hk bs hd => xsub (Or.inr rfl) rfl (dp hd 1 rfl) rfl (by omega) (by omega)) (congrArg (Value.int .i64) (by omega)) rfl <|
     aS (fun hk bs hd => xplaceI (k := (m)) rfl rfl (dp hd 0 rfl) (dp hd 2 rfl) (by omega)) rfl <|
     aS (fun hk bs hd => xrowO rfl (by kernel_rfl) (dp hd 3 rfl) ((ow.keep hk).row 0 rfl) (by first | omega | (simp only [sort_length, List.length_reverse]; omega))) rfl <|
     aC (fun hk bs hd => xcall1 rfl (dp hd 4 rfl) (en_val_Make _ _)) (fun hk bs hd => vmake_any (((sort16 L).reverse).getD (m) 0) _ (by first | exact (rank_64 hs64 (by simp only [sort_length, List.length_reverse]; omega)).1 | exact (rank_64 (rev_64 hs64) (by simp only [sort_length, List.length_reverse]; omega)).1) (by first | exact (rank_64 hs64 (by simp only [sort_length, List.length_reverse]; omega)).2 | exact (rank_64 (rev_64 hs64) (by simp only [sort_length, List.length_reverse]; omega)).2)) rfl <|
     arm0) fun fa fw bs hv ap z q ow => ?_
   have s4 := bg bs s4; have s50 := gv hv 5 rfl rfl; refine ws ow 2 0 s4 s50 fun fw ow => ?_; refine wt hK18 ?_; refine wp_ret ?_; refine rs3 s4 (ow.box 2 rfl) q ?_; exact ⟨congrArg (fun v => Ending.returned (aggV v)) ((rank_in hfst hpo hL hin hm hdt).symm), ow.kept⟩
  refine cf s42 (Iff.rfl) hc3 ?_; have hdf := Bool.eq_false_iff.2 hc3; refine wp_skip ?_; refine tn hK16 ?_; refine sq fun hK19 => ?_
  refine ro [yV _, yV _, yV (.int .i64 ((m : Nat) : Int)), yV _, yV _, yV (aggV (vMake ((sort16 L).getD (m) 0)))] 6 51 z q ow (
    mvS s5 rfl rfl rfl rfl <|
    mvS s8 rfl rfl rfl rfl <|
    aE (fun hk bs hd => xsub (Or.inr rfl) rfl (dp hd 1 rfl) rfl (by omega) (by omega)) (congrArg (Value.int .i64) (by omega)) rfl <|
    aS (fun hk bs hd => xplaceI (k := (m)) rfl rfl (dp hd 0 rfl) (dp hd 2 rfl) (by omega)) rfl <|
    aS (fun hk bs hd => xrowO rfl (by kernel_rfl) (dp hd 3 rfl) ((ow.keep hk).row 0 rfl) (by first | omega | (simp only [sort_length, List.length_reverse]; omega))) rfl <|
    aC (fun hk bs hd => xcall1 rfl (dp hd 4 rfl) (en_val_Make _ _)) (fun hk bs hd => vmake_any ((sort16 L).getD (m) 0) _ (by first | exact (rank_64 hs64 (by simp only [sort_length, List.length_reverse]; omega)).1 | exact (rank_64 (rev_64 hs64) (by simp only [sort_length, List.length_reverse]; omega)).1) (by first | exact (rank_64 hs64 (by simp only [sort_length, List.length_reverse]; omega)).2 | exact (rank_64 (rev_64 hs64) (by simp only [sort_length, List.length_reverse]; omega)).2)) rfl <|
    arm0) fun fa fw bs hv ap z q ow => ?_
  have s4 := bg bs s4; have s50 := gv hv 5 rfl rfl; refine ws ow 2 0 s4 s50 fun fw ow => ?_; refine wt hK19 ?_; refine wp_ret ?_; refine rs3 s4 (ow.box 2 rfl) q ?_; exact ⟨congrArg (fun v => Ending.returned (aggV v)) ((rank_in hfst hpo hL hin hm hdf).symm), ow.kept⟩
end Go.Proofs.YtbkjdcpfkepheaaGreatDoor
