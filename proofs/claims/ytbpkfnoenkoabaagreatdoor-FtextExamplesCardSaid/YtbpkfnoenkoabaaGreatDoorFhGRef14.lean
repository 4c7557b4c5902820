/- Layer 14: the reference's functions (printed by wip/mkref14.py). -/
import Derived.Test.YtbpkfnoenkoabaaGreatDoorFhGText3
import Derived.Test.YtbpkfnoenkoabaaGreatDoorFhMRef14
import Derived.Test.YtbpkfnoenkoabaaGreatDoorFhBunG
namespace Go.Proofs.YtbpkfnoenkoabaaGreatDoor
set_option linter.unusedVariables false
set_option linter.unusedSimpArgs false
open Go.RowKit Lv
set_option maxRecDepth 100000
theorem rwhole_a {fn i : Nat} (h : fn = 32 ∨ fn = 33 ∨ fn = 34 ∨ fn = 39) : decide ((0 : Int) < (i : Int)) = !txt14 fn i := by
  unfold txt14; rw [if_pos h, ← decide_not]; exact decide_eq_decide.2 (by omega)
theorem rwhole_b {fn i : Nat} (h : fn = 41) : decide ((1 : Int) < (i : Int)) = !txt14 fn i := by
  unfold txt14; rw [if_neg (by omega), if_pos h, ← decide_not]; exact decide_eq_decide.2 (by omega)
theorem rwhole_c {fn i : Nat} (h : ¬ (fn = 32 ∨ fn = 33 ∨ fn = 34 ∨ fn = 39)) (h2 : fn ≠ 41) : false = !txt14 fn i := by
  unfold txt14; rw [if_neg h, if_neg h2]; rfl
theorem strs_at {s : List (List UInt8)} {k : Nat} (h : k < s.length) : (s.map strV)[k]? = some (strV (s.getD k [])) := by
  rw [List.getElem?_map, List.getElem?_eq_getElem h]; simp [List.getD, h]
theorem getD_le {s : List (List UInt8)} {k : Nat} (hl : ∀ t ∈ s, t.length ≤ 300) (h : k < s.length) : (s.getD k []).length ≤ 300 := by
  rw [show s.getD k [] = s[k] by simp [List.getD, h]]; exact hl _ (List.getElem_mem h)
theorem flat_take (s : List (List UInt8)) (hl : ∀ t ∈ s, t.length ≤ 300) (k : Nat) : (s.take k).flatten.length ≤ k * 300 := by
  have h1 := flatten_le (s.take k) (fun t ht => hl t (List.mem_of_mem_take ht)); rw [List.length_take] at h1; exact Nat.le_trans h1 (Nat.mul_le_mul (Nat.min_le_left _ _) (Nat.le_refl _))
theorem flat_take_next {s : List (List UInt8)} {k : Nat} (h : k < s.length) : (s.take k).flatten ++ s.getD k [] = (s.take (k + 1)).flatten := by
  rw [List.take_succ_eq_append_getElem h, List.flatten_append, show s.getD k [] = s[k] by simp [List.getD, h]]; simp
theorem en_louvreref04_Lower : En 149 := by intro args w; go_simp
theorem en_louvreref04_Trim : En 150 := by intro args w; go_simp
theorem en_louvreref04_Upper : En 148 := by intro args w; go_simp
theorem en_louvreref05_Fail : En 86 := by intro args w; go_simp
theorem en_louvreref05_Make : En 96 := by intro args w; go_simp
theorem en_louvreref05_ToNumber : En 91 := by intro args w; go_simp
theorem en_louvreref05_Truth : En 95 := by intro args w; go_simp
theorem en_louvreref14_Text : En 147 := by intro args w; go_simp
theorem en_louvreref14_find : En 152 := by intro args w; go_simp
theorem en_louvreref14_repeat : En 151 := by intro args w; go_simp
set_option maxHeartbeats 2000000 in
theorem rtext14_any (s : List UInt8) (w : World) (hl : s.length ≤ 1000000) :
    Calls Tryz.prog 147 #[.string ⟨s.toArray⟩] w fun e w' => e = .returned (aggV (vText s)) ∧ Kept w w' := by
  go_enter Tryz.func147, Tryz.ntmps147; refine sq fun hK1 => ?_
  refine ro [yNew w.heap.size (.cells #[.int .u8 0, .int .i64 0, .string ⟨[].toArray⟩] 25 (0, 0))] 1 9 rfl rfl (Own.start w) (
    aP (fun hk bs hd => xalloc rfl (by kernel_rfl)) rfl <|
    arm0) fun fa fw bs hv ap z q ov => ?_
  have s0 := bs.get 0 rfl rfl; obtain ⟨gb1, s2, bgb1, hgb1⟩ := gotP hv 0 rfl rfl rfl; have ov := ov.cons hgb1 (Nat.le_trans (Own.start w).kept.size bgb1) ((Own.start w).below bgb1); have ow := ov; refine wt hK1 ?_; refine sq fun hK2 => ?_; refine sq fun hK3 => ?_
  refine ro [yV _, yV _, yV _] 3 9 z q ow (
    mvS s0 rfl rfl rfl rfl <|
    aS (fun hk bs hd => xlenS Tryz.underlying9 rfl (dp hd 0 rfl)) rfl <|
    aS (fun hk bs hd => xgtr rfl (dp hd 1 rfl) rfl) rfl <|
    arm0) fun fa fw bs hv ap z q ow => ?_
  obtain ⟨s0, s2⟩ := b2 bs s0 s2; have s5 := gv hv 2 rfl rfl; refine wt hK3 ?_
  by_cases hc1 : (256 : Int) < ((s.length : Nat) : Int)
  · refine ct s5 ((decide_eq_true_iff).2 hc1) ?_
    refine sq fun hK4 => ?_
    refine ro [yV (aggV (vFail 2))] 1 9 z q ow (
      aC (fun hk bs hd => xcall1 rfl rfl (en_louvreref05_Fail _ _)) (fun hk bs hd => rfail_any 2 _) rfl <|
      arm0) fun fa fw bs hv ap z q ow => ?_
    obtain ⟨s0, s2⟩ := b2 bs s0 s2; have s6 := gv hv 0 rfl rfl; refine ws ow 0 0 s2 s6 fun fw ow => ?_; refine wt hK4 ?_; refine wp_ret ?_; refine then_r ?_; refine rs3 s2 (ow.box 0 rfl) q ?_; exact ⟨congrArg (fun v => Ending.returned (aggV v)) (show _ = vText s by unfold vText; rw [if_pos (by omega)]), ow.kept⟩
  refine cf s5 (decide_eq_true_iff) hc1 ?_; refine wp_skip ?_; refine tn hK2 ?_; refine sq fun hK5 => ?_
  refine ro [yV _, yV (aggV (⟨3, 0, s⟩ : Vl))] 2 9 z q ow (
    mvS s0 rfl rfl rfl rfl <|
    arm (fun aa ww hk bs hd => by
      have d0 : aa.eval (.tmp 7) = .string ⟨s.toArray⟩ := depX hd 0 rfl; exact stepX_same (v := aggV (⟨3, 0, s⟩ : Vl)) (want0 rfl) (xbuild (us := #[(0, .int .u8 3), (2, .string ⟨s.toArray⟩)]) rfl (by simp only [List.map_toArray, List.map_cons, List.map_nil, d0]; rfl) (by kernel_rfl)) rfl rfl
      ) <|
    arm0) fun fa fw bs hv ap z q ow => ?_
  have s2 := bg bs s2; have s8 := gv hv 1 rfl rfl; refine ws ow 0 0 s2 s8 fun fw ow => ?_; refine wt hK5 ?_; refine wp_ret ?_; refine rs3 s2 (ow.box 0 rfl) q ?_; exact ⟨congrArg (fun v => Ending.returned (aggV v)) (show _ = vText s by unfold vText; rw [if_neg (by omega)]), ow.kept⟩
set_option maxHeartbeats 2000000 in
theorem rwhole14_any (fn i : Nat) (w : World) (h1 : 31 ≤ fn) (h2 : fn ≤ 42) :
    Calls Tryz.prog 145 #[.int .u8 fn, .int .i64 i] w fun e w' => e = .returned (.bool (!txt14 fn i)) ∧ Kept w w' := by
  go_enter Tryz.func145, Tryz.ntmps145; refine sq fun hK1 => ?_
  refine ro [yV _] 1 17 rfl rfl (Own.start w) (
    aS (fun hk bs hd => xassign rfl rfl) rfl <|
    arm0) fun fa fw bs hv ap z q ow => ?_
  have s0 := bs.get 0 rfl rfl; have s1 := bs.get 1 rfl rfl; have s4 := gv hv 0 rfl rfl; refine wt hK1 ?_; refine sq fun hK2 => ?_; refine sq fun hK3 => ?_
  refine ro [yV _] 1 17 z q ow (
    mvS s0 rfl rfl rfl rfl <|
    arm0) fun fa fw bs hv ap z q ow => ?_
  obtain ⟨s1, s4⟩ := b2 bs s1 s4; have s5 := gv hv 0 rfl rfl; refine wt hK3 ?_; refine wp_block ?_; refine sq fun hK4 => ?_; refine sq fun hK5 => ?_
  refine ro [yV _, yV _] 2 17 z q ow (
    aS (fun hk bs hd => xeqi rfl (bg bs s5) rfl) rfl <|
    asD 0 rfl rfl rfl rfl rfl rfl <|
    arm0) fun fa fw bs hv ap z q ow => ?_
  obtain ⟨s1, s4, s5⟩ := b3 bs s1 s4 s5; have s6 := gv hv 1 rfl rfl; refine wt hK5 ?_
  by_cases hc1 : (fn : Int) = (32 : Int)
  · refine ct s6 ((decide_eq_true_iff).2 hc1) ?_
    refine wp_skip ?_; refine tn hK4 ?_; refine ct s6 ((decide_eq_true_iff).2 hc1) ?_; refine sq fun hK6 => ?_
    refine ro [yV _, yV _, yV _] 3 17 z q ow (
      mvS s1 rfl rfl rfl rfl <|
      aS (fun hk bs hd => xgtr rfl (dp hd 0 rfl) rfl) rfl <|
      asD 1 rfl rfl rfl rfl rfl rfl <|
      arm0) fun fa fw bs hv ap z q ow => ?_
    have s4 := gv hv 2 rfl rfl; refine wt hK6 ?_; refine wp_ret ?_; refine block_r ?_; refine then_r ?_; refine results_one rfl (res_tmp s4) q ?_; exact ⟨congrArg (fun b => Ending.returned (.bool b)) (rwhole_a (by omega)), ow.kept⟩
  refine cf s6 (decide_eq_true_iff) hc1 ?_; refine sq fun hK7 => ?_
  refine ro [yV _, yV _] 2 17 z q ow (
    aS (fun hk bs hd => xeqi rfl (bg bs s5) rfl) rfl <|
    asD 0 rfl rfl rfl rfl rfl rfl <|
    arm0) fun fa fw bs hv ap z q ow => ?_
  obtain ⟨s1, s4, s5⟩ := b3 bs s1 s4 s5; have s6 := gv hv 1 rfl rfl; refine wt hK7 ?_
  by_cases hc2 : (fn : Int) = (33 : Int)
  · refine ct s6 ((decide_eq_true_iff).2 hc2) ?_
    refine wp_skip ?_; refine tn hK4 ?_; refine ct s6 ((decide_eq_true_iff).2 hc2) ?_; refine sq fun hK8 => ?_
    refine ro [yV _, yV _, yV _] 3 17 z q ow (
      mvS s1 rfl rfl rfl rfl <|
      aS (fun hk bs hd => xgtr rfl (dp hd 0 rfl) rfl) rfl <|
      asD 1 rfl rfl rfl rfl rfl rfl <|
      arm0) fun fa fw bs hv ap z q ow => ?_
    have s4 := gv hv 2 rfl rfl; refine wt hK8 ?_; refine wp_ret ?_; refine block_r ?_; refine then_r ?_; refine results_one rfl (res_tmp s4) q ?_; exact ⟨congrArg (fun b => Ending.returned (.bool b)) (rwhole_a (by omega)), ow.kept⟩
  refine cf s6 (decide_eq_true_iff) hc2 ?_; refine sq fun hK9 => ?_
  refine ro [yV _, yV _] 2 17 z q ow (
    aS (fun hk bs hd => xeqi rfl (bg bs s5) rfl) rfl <|
    asD 0 rfl rfl rfl rfl rfl rfl <|
    arm0) fun fa fw bs hv ap z q ow => ?_
  obtain ⟨s1, s4, s5⟩ := b3 bs s1 s4 s5; have s6 := gv hv 1 rfl rfl; refine wt hK9 ?_
  by_cases hc3 : (fn : Int) = (34 : Int)
  · refine ct s6 ((decide_eq_true_iff).2 hc3) ?_
    refine wp_skip ?_; refine tn hK4 ?_; refine ct s6 ((decide_eq_true_iff).2 hc3) ?_; refine sq fun hK10 => ?_
    refine ro [yV _, yV _, yV _] 3 17 z q ow (
      mvS s1 rfl rfl rfl rfl <|
      aS (fun hk bs hd => xgtr rfl (dp hd 0 rfl) rfl) rfl <|
      asD 1 rfl rfl rfl rfl rfl rfl <|
      arm0) fun fa fw bs hv ap z q ow => ?_
    have s4 := gv hv 2 rfl rfl; refine wt hK10 ?_; refine wp_ret ?_; refine block_r ?_; refine then_r ?_; refine results_one rfl (res_tmp s4) q ?_; exact ⟨congrArg (fun b => Ending.returned (.bool b)) (rwhole_a (by omega)), ow.kept⟩
  refine cf s6 (decide_eq_true_iff) hc3 ?_
  refine ro [yV _, yV _] 2 17 z q ow (
    aS (fun hk bs hd => xeqi rfl (bg bs s5) rfl) rfl <|
    asD 0 rfl rfl rfl rfl rfl rfl <|
    arm0) fun fa fw bs hv ap z q ow => ?_
  obtain ⟨s1, s4, s5⟩ := b3 bs s1 s4 s5; have s6 := gv hv 1 rfl rfl; refine wt hK4 ?_
  by_cases hc4 : (fn : Int) = (39 : Int)
  · refine ct s6 ((decide_eq_true_iff).2 hc4) ?_
    refine sq fun hK11 => ?_
    refine ro [yV _, yV _, yV _] 3 17 z q ow (
      mvS s1 rfl rfl rfl rfl <|
      aS (fun hk bs hd => xgtr rfl (dp hd 0 rfl) rfl) rfl <|
      asD 1 rfl rfl rfl rfl rfl rfl <|
      arm0) fun fa fw bs hv ap z q ow => ?_
    have s4 := gv hv 2 rfl rfl; refine wt hK11 ?_; refine wp_ret ?_; refine block_r ?_; refine then_r ?_; refine results_one rfl (res_tmp s4) q ?_; exact ⟨congrArg (fun b => Ending.returned (.bool b)) (rwhole_a (by omega)), ow.kept⟩
  refine cf s6 (decide_eq_true_iff) hc4 ?_; refine sq fun hK12 => ?_
  refine ro [yV _, yV _] 2 17 z q ow (
    aS (fun hk bs hd => xeqi rfl (bg bs s5) rfl) rfl <|
    asD 0 rfl rfl rfl rfl rfl rfl <|
    arm0) fun fa fw bs hv ap z q ow => ?_
  obtain ⟨s1, s4⟩ := b2 bs s1 s4; have s13 := gv hv 1 rfl rfl; refine wt hK12 ?_
  by_cases hc5 : (fn : Int) = (41 : Int)
  · refine ct s13 ((decide_eq_true_iff).2 hc5) ?_
    refine sq fun hK13 => ?_
    refine ro [yV _, yV _, yV _] 3 17 z q ow (
      mvS s1 rfl rfl rfl rfl <|
      aS (fun hk bs hd => xgtr rfl (dp hd 0 rfl) rfl) rfl <|
      asD 1 rfl rfl rfl rfl rfl rfl <|
      arm0) fun fa fw bs hv ap z q ow => ?_
    have s4 := gv hv 2 rfl rfl; refine wt hK13 ?_; refine wp_ret ?_; refine block_r ?_; refine then_r ?_; refine results_one rfl (res_tmp s4) q ?_; exact ⟨congrArg (fun b => Ending.returned (.bool b)) (rwhole_b (by omega)), ow.kept⟩
  refine cf s13 (decide_eq_true_iff) hc5 ?_; refine wp_skip ?_; refine block_n ?_; refine tn hK2 ?_; refine sq fun hK14 => ?_
  refine ro [yV _] 1 17 z q ow (
    aS (fun hk bs hd => xassign rfl rfl) rfl <|
    arm0) fun fa fw bs hv ap z q ow => ?_
  have s4 := gv hv 0 rfl rfl; refine wt hK14 ?_; refine wp_ret ?_; refine results_one rfl (res_tmp s4) q ?_; exact ⟨congrArg (fun b => Ending.returned (.bool b)) (rwhole_c (by omega) (by omega)), ow.kept⟩
set_option maxHeartbeats 2000000 in
theorem rrept14_any (s : List UInt8) (n : Int) (w : World) (hl : s.length ≤ 1000) (hn : n ≤ 922337203685477580) :
    Calls Tryz.prog 151 #[.string ⟨s.toArray⟩, .int .i64 n] w fun e w' => e = .returned (aggV (rept14 s n)) ∧ Kept w w' := by
  go_enter Tryz.func151, Tryz.ntmps151; refine sq fun hK1 => ?_
  refine ro [yNew w.heap.size (.cells #[.int .u8 0, .int .i64 0, .string ⟨[].toArray⟩] 25 (0, 0))] 1 27 rfl rfl (Own.start w) (
    aP (fun hk bs hd => xalloc rfl (by kernel_rfl)) rfl <|
    arm0) fun fa fw bs hv ap z q ov => ?_
  have s0 := bs.get 0 rfl rfl; have s1 := bs.get 1 rfl rfl; obtain ⟨gb1, s4, bgb1, hgb1⟩ := gotP hv 0 rfl rfl rfl; have ov := ov.cons hgb1 (Nat.le_trans (Own.start w).kept.size bgb1) ((Own.start w).below bgb1); have ow := ov; refine wt hK1 ?_; refine sq fun hK2 => ?_; refine sq fun hK3 => ?_
  refine ro [yV _, yV _] 2 27 z q ow (
    mvS s1 rfl rfl rfl rfl <|
    aS (fun hk bs hd => xlss rfl (dp hd 0 rfl) rfl) rfl <|
    arm0) fun fa fw bs hv ap z q ow => ?_
  obtain ⟨s0, s1, s4⟩ := b3 bs s0 s1 s4; have s8 := gv hv 1 rfl rfl; refine wt hK3 ?_
  by_cases hc1 : (n : Int) < (0 : Int)
  · refine ct s8 ((decide_eq_true_iff).2 hc1) ?_
    refine sq fun hK4 => ?_
    refine ro [yV (aggV (vFail 2))] 1 27 z q ow (
      aC (fun hk bs hd => xcall1 rfl rfl (en_louvreref05_Fail _ _)) (fun hk bs hd => rfail_any 2 _) rfl <|
      arm0) fun fa fw bs hv ap z q ow => ?_
    obtain ⟨s0, s1, s4⟩ := b3 bs s0 s1 s4; have s9 := gv hv 0 rfl rfl; refine ws ow 0 0 s4 s9 fun fw ow => ?_; refine wt hK4 ?_; refine wp_ret ?_; refine then_r ?_; refine rs3 s4 (ow.box 0 rfl) q ?_; exact ⟨congrArg (fun v => Ending.returned (aggV v)) (rept_no s n (Or.inl (by omega))), ow.kept⟩
  refine cf s8 (decide_eq_true_iff) hc1 ?_; refine wp_skip ?_; refine tn hK2 ?_; refine sq fun hK5 => ?_
  refine ro [yV _] 1 27 z q ow (
    aS (fun hk bs hd => xassign rfl rfl) rfl <|
    arm0) fun fa fw bs hv ap z q ow => ?_
  obtain ⟨s0, s1, s4⟩ := b3 bs s0 s1 s4; have s5 := gv hv 0 rfl rfl; refine wt hK5 ?_; refine sq fun hK6 => ?_; refine sq fun hK7 => ?_
  refine ro [yV _] 1 27 z q ow (
    aS (fun hk bs hd => xassign rfl rfl) rfl <|
    arm0) fun fa fw bs hv ap z q ow => ?_
  obtain ⟨s0, s1, s4, s5⟩ := b4 bs s0 s1 s4 s5; have s6 := gv hv 0 rfl rfl; refine wt hK7 ?_; refine wp_block ?_; refine wp_loop_g (fun (k : Nat) fr u => (k ≤ n.toNat) ∧ ((List.replicate k s).flatten.length ≤ 256) ∧ fr.tmps.size = 27 ∧ fr.defers = [] ∧ Own w [Th.obj gb1 (.cells #[.int .u8 0, .int .i64 0, .string ⟨[].toArray⟩] 25 (0, 0))] u ∧ fr.eval (.tmp 0) = .string ⟨s.toArray⟩ ∧ fr.eval (.tmp 1) = .int .i64 n ∧ fr.eval (.tmp 4) = .pointer (some ⟨gb1, 0, none⟩) ∧ fr.eval (.tmp 5) = .string ⟨((List.replicate k s).flatten).toArray⟩ ∧ fr.eval (.tmp 6) = .int .i64 (k : Int)) (fun k => n.toNat + 1 - k) 0 ⟨(Nat.zero_le _), (by simp), z, q, ow, s0, s1, s4, s5, s6⟩ (fun k b_ u_ hI => ?_)
  revert b_ u_; intro fa fw hI
  obtain ⟨hk, hf, z, q, ow, s0, s1, s4, s5, s6⟩ := hI; refine sq fun hK8 => ?_; refine sq fun hK9 => ?_
  refine ro [yV _, yV _, yV _, yV _, yIf (((decide ((k : Int) < (n : Int))) = true)) (yV (.string ⟨s.toArray⟩)), yIf (((decide ((k : Int) < (n : Int))) = true)) (yV (.bool (decide (s ≠ [])))), yV _] 7 27 z q ow (
    mvS s6 rfl rfl rfl rfl <|
    mvS s1 rfl rfl rfl rfl <|
    aS (fun hk bs hd => xlss rfl (dp hd 0 rfl) (dp hd 1 rfl)) rfl <|
    mvD 2 rfl rfl rfl rfl rfl rfl <|
    arm (fun aa ww hk bs hd => by
      have d3 := dp hd 3 rfl
      by_cases hz : ((decide ((k : Int) < (n : Int))) = true)
      · exact stepX_same (v := .string ⟨s.toArray⟩) (want1 (j := 3) (b := true) rfl (d3.trans (congrArg Value.bool hz))) (xmove rfl (bg bs s0)) ⟨fun _ => rfl, fun c => absurd hz c⟩ rfl
      · exact stepX_skip (wantN (j := 3) (b := true) (b' := false) rfl (d3.trans (congrArg Value.bool (Bool.eq_false_iff.2 hz))) rfl) ⟨fun c => absurd c hz, fun _ => rfl⟩ rfl
      ) <|
    arm (fun aa ww hk bs hd => by
      have d3 := dp hd 3 rfl; have d4 := dI hd 4 rfl
      by_cases hz : ((decide ((k : Int) < (n : Int))) = true)
      · exact stepX_same (v := .bool (decide (s ≠ []))) (want1 (j := 3) (b := true) rfl (d3.trans (congrArg Value.bool hz))) (xneS rfl (s := s) (t := []) (d4.1 hz) rfl) ⟨fun _ => rfl, fun c => absurd hz c⟩ rfl
      · exact stepX_skip (wantN (j := 3) (b := true) (b' := false) rfl (d3.trans (congrArg Value.bool (Bool.eq_false_iff.2 hz))) rfl) ⟨fun c => absurd c hz, fun _ => rfl⟩ rfl
      ) <|
    arm (fun aa ww hk bs hd => by
      have d3 := dp hd 3 rfl; have d5 := dI hd 5 rfl; exact stepX_same (v := .bool ((decide ((k : Int) < (n : Int))) && (decide (s ≠ [])))) (want0 rfl) (xand rfl (d3) (fun hb => d5.1 hb) rfl) rfl rfl
      ) <|
    arm0) fun fa fw bs hv ap z q ow => ?_
  obtain ⟨s0, s1, s4, s5, s6⟩ := b5 bs s0 s1 s4 s5 s6; have s16 := gv hv 6 rfl rfl; refine wt hK9 ?_
  by_cases hc2 : ((k : Int) < (n : Int)) ∧ (s ≠ [])
  · refine ct s16 ((band (decide_eq_true_iff) (decide_eq_true_iff)).2 hc2) ?_
    have hlt : (k : Int) < n := (hc2).1; refine wp_skip ?_; refine tn hK8 ?_; refine sq fun hK10 => ?_; refine wp_block ?_; refine sq fun hK11 => ?_
    refine ro [yV _, yV _, yV _] 3 27 z q ow (
      mvS s5 rfl rfl rfl rfl <|
      mvS s0 rfl rfl rfl rfl <|
      aS (fun hk bs hd => xcatS rfl (dp hd 0 rfl) (dp hd 1 rfl) (by omega)) rfl <|
      arm0) fun fa fw bs hv ap z q ow => ?_
    obtain ⟨s0, s1, s4, s5, s6⟩ := b5 bs s0 s1 s4 s5 s6; have s21 := gv hv 2 rfl rfl; refine wl_value (v := .string ⟨(((List.replicate k s).flatten) ++ s).toArray⟩) (want0 rfl) (xassign rfl s21) ?_; refine gp4 z q ow s0 s1 s4 s6 fun fa fw z q ow s0 s1 s4 s6 s5 => ?_; refine wt hK11 ?_; refine sq fun hK12 => ?_
    refine ro [yV _, yV _, yV _] 3 27 z q ow (
      mvS s5 rfl rfl rfl rfl <|
      aS (fun hk bs hd => xlenS Tryz.underlying9 rfl (dp hd 0 rfl)) rfl <|
      aS (fun hk bs hd => xgtr rfl (dp hd 1 rfl) rfl) rfl <|
      arm0) fun fa fw bs hv ap z q ow => ?_
    obtain ⟨s0, s1, s4, s6, s5⟩ := b5 bs s0 s1 s4 s6 s5; have s24 := gv hv 2 rfl rfl; refine wt hK12 ?_
    by_cases hc3 : (256 : Int) < (((((List.replicate k s).flatten) ++ s).length : Nat) : Int)
    · refine ct s24 ((decide_eq_true_iff).2 hc3) ?_
      have hbr := hc3; refine wp_exit ?_; refine block_miss rfl ?_; refine then_e ?_; refine then_e ?_; refine block_hit ?_; refine tn hK6 ?_; refine sq fun hK13 => ?_
      refine ro [yV _, yV (aggV (vText (((List.replicate k s).flatten) ++ s)))] 2 27 z q ow (
        mvS s5 rfl rfl rfl rfl <|
        aC (fun hk bs hd => xcall1 rfl (dp hd 0 rfl) (en_louvreref14_Text _ _)) (fun hk bs hd => rtext14_any (((List.replicate k s).flatten) ++ s) _ (by (try rw [List.length_append]); omega)) rfl <|
        arm0) fun fa fw bs hv ap z q ow => ?_
      have s4 := bg bs s4; have s26 := gv hv 1 rfl rfl; refine ws ow 0 0 s4 s26 fun fw ow => ?_; refine wt hK13 ?_; refine wp_ret ?_; refine rs3 s4 (ow.box 0 rfl) q ?_; exact ⟨congrArg (fun v => Ending.returned (aggV v)) (show _ = _ by rw [flat_next]; exact rrept_out (by omega) (by omega) (by rw [← flat_next]; have := hbr; rw [List.length_append] at this ⊢; omega)), ow.kept⟩
    refine cf s24 (decide_eq_true_iff) hc3 ?_; refine wp_skip ?_; refine block_n ?_; refine tn hK10 ?_
    refine ro [yV _, yV (.int .i64 ((k + 1 : Nat) : Int))] 2 27 z q ow (
      mvS s6 rfl rfl rfl rfl <|
      aS (fun hk bs hd => xadd (Or.inl rfl) rfl (dp hd 0 rfl) rfl (by omega) (by omega)) rfl <|
      arm0) fun fa fw bs hv ap z q ow => ?_
    obtain ⟨s0, s1, s4, s6, s5⟩ := b5 bs s0 s1 s4 s6 s5; have s18 := gv hv 1 rfl rfl; refine wl_value (v := .int .i64 ((k + 1 : Nat) : Int)) (want0 rfl) (xassign rfl s18) ?_; refine gp4 z q ow s0 s1 s4 s5 fun fa fw z q ow s0 s1 s4 s5 s6 => ?_; refine wl_end ?_; exact then_n ⟨(k + 1), ⟨(by omega), (by rw [← flat_next, List.length_append]; have := hc3; rw [List.length_append] at this; omega), z, q, ow, s0, s1, s4, (s5.trans (by rw [flat_next])), s6⟩, (show n.toNat + 1 - (k + 1) < n.toNat + 1 - k by omega)⟩
  refine cf s16 (band (decide_eq_true_iff) (decide_eq_true_iff)) hc2 ?_; have hbr := hc2; refine wp_exit ?_; refine then_e ?_; refine then_e ?_; refine block_hit ?_; refine tn hK6 ?_; refine sq fun hK14 => ?_
  refine ro [yV _, yV (aggV (vText ((List.replicate k s).flatten)))] 2 27 z q ow (
    mvS s5 rfl rfl rfl rfl <|
    aC (fun hk bs hd => xcall1 rfl (dp hd 0 rfl) (en_louvreref14_Text _ _)) (fun hk bs hd => rtext14_any ((List.replicate k s).flatten) _ (by (try rw [List.length_append]); omega)) rfl <|
    arm0) fun fa fw bs hv ap z q ow => ?_
  have s4 := bg bs s4; have s26 := gv hv 1 rfl rfl; refine ws ow 0 0 s4 s26 fun fw ow => ?_; refine wt hK14 ?_; refine wp_ret ?_; refine rs3 s4 (ow.box 0 rfl) q ?_; exact ⟨congrArg (fun v => Ending.returned (aggV v)) (rrept_end (by omega) hk (by have := hbr; by_cases c : s = []; exact Or.inr c; exact Or.inl (by have : ¬ ((k : Int) < n) := fun q => hbr ⟨q, c⟩; omega))), ow.kept⟩
set_option maxHeartbeats 2000000 in
theorem rfind14_any (s t : List UInt8) (m : Int) (w : World) (hs : s.length ≤ 1000000) (ht : t.length ≤ 1000000) :
    Calls Tryz.prog 152 #[.string ⟨s.toArray⟩, .string ⟨t.toArray⟩, .int .i64 m] w fun e w' => e = .returned (aggV (find14 s t m)) ∧ Kept w w' := by
  go_enter Tryz.func152, Tryz.ntmps152; refine sq fun hK1 => ?_
  refine ro [yNew w.heap.size (.cells #[.int .u8 0, .int .i64 0, .string ⟨[].toArray⟩] 25 (0, 0))] 1 37 rfl rfl (Own.start w) (
    aP (fun hk bs hd => xalloc rfl (by kernel_rfl)) rfl <|
    arm0) fun fa fw bs hv ap z q ov => ?_
  have s0 := bs.get 0 rfl rfl; have s1 := bs.get 1 rfl rfl; have s2 := bs.get 2 rfl rfl; obtain ⟨gb1, s6, bgb1, hgb1⟩ := gotP hv 0 rfl rfl rfl; have ov := ov.cons hgb1 (Nat.le_trans (Own.start w).kept.size bgb1) ((Own.start w).below bgb1); have ow := ov; refine wt hK1 ?_; refine sq fun hK2 => ?_; refine sq fun hK3 => ?_
  refine ro [yV _, yV _] 2 37 z q ow (
    mvS s2 rfl rfl rfl rfl <|
    aS (fun hk bs hd => xlss rfl (dp hd 0 rfl) rfl) rfl <|
    arm0) fun fa fw bs hv ap z q ow => ?_
  obtain ⟨s0, s1, s2, s6⟩ := b4 bs s0 s1 s2 s6; have s9 := gv hv 1 rfl rfl; refine wt hK3 ?_
  by_cases hc1 : (m : Int) < (1 : Int)
  · refine ct s9 ((decide_eq_true_iff).2 hc1) ?_
    refine sq fun hK4 => ?_
    refine ro [yV (aggV (vFail 2))] 1 37 z q ow (
      aC (fun hk bs hd => xcall1 rfl rfl (en_louvreref05_Fail _ _)) (fun hk bs hd => rfail_any 2 _) rfl <|
      arm0) fun fa fw bs hv ap z q ow => ?_
    obtain ⟨s0, s1, s2, s6⟩ := b4 bs s0 s1 s2 s6; have s10 := gv hv 0 rfl rfl; refine ws ow 0 0 s6 s10 fun fw ow => ?_; refine wt hK4 ?_; refine wp_ret ?_; refine then_r ?_; refine rs3 s6 (ow.box 0 rfl) q ?_; exact ⟨congrArg (fun v => Ending.returned (aggV v)) (find_out s t m (Or.inl (by omega))), ow.kept⟩
  refine cf s9 (decide_eq_true_iff) hc1 ?_; refine wp_skip ?_; refine tn hK2 ?_; refine sq fun hK5 => ?_; refine sq fun hK6 => ?_
  refine ro [yV _, yV _] 2 37 z q ow (
    mvS s2 rfl rfl rfl rfl <|
    asD 0 rfl rfl rfl rfl rfl rfl <|
    arm0) fun fa fw bs hv ap z q ow => ?_
  obtain ⟨s0, s1, s6⟩ := b3 bs s0 s1 s6; have s7 := gv hv 1 rfl rfl; refine wt hK6 ?_; refine wp_block ?_; refine wp_loop_g (fun (k : Nat) fr u => (m.toNat ≤ k) ∧ (NoHit s t (m.toNat - 1) (k - 1)) ∧ fr.tmps.size = 37 ∧ fr.defers = [] ∧ Own w [Th.obj gb1 (.cells #[.int .u8 0, .int .i64 0, .string ⟨[].toArray⟩] 25 (0, 0))] u ∧ fr.eval (.tmp 0) = .string ⟨s.toArray⟩ ∧ fr.eval (.tmp 1) = .string ⟨t.toArray⟩ ∧ fr.eval (.tmp 6) = .pointer (some ⟨gb1, 0, none⟩) ∧ fr.eval (.tmp 7) = .int .i64 (k : Int)) (fun k => t.length + 2 - k) m.toNat ⟨(Nat.le_refl _), (noHit_start _ _ _), z, q, ow, s0, s1, s6, (s7.trans (congrArg (Value.int .i64) (Int.toNat_of_nonneg (by omega)).symm))⟩ (fun k b_ u_ hI => ?_)
  revert b_ u_; intro fa fw hI
  obtain ⟨hk, hno, z, q, ow, s0, s1, s6, s7⟩ := hI; refine sq fun hK7 => ?_; refine sq fun hK8 => ?_
  refine ro [yV _, yV _, yV _, yV _, yV _, yV _, yV _, yV _] 8 37 z q ow (
    mvS s7 rfl rfl rfl rfl <|
    mvS s1 rfl rfl rfl rfl <|
    aS (fun hk bs hd => xlenS Tryz.underlying9 rfl (dp hd 1 rfl)) rfl <|
    mvS s0 rfl rfl rfl rfl <|
    aS (fun hk bs hd => xlenS Tryz.underlying9 rfl (dp hd 3 rfl)) rfl <|
    aS (fun hk bs hd => xsub (Or.inl rfl) rfl (dp hd 2 rfl) (dp hd 4 rfl) (by omega) (by omega)) rfl <|
    aS (fun hk bs hd => xadd (Or.inl rfl) rfl (dp hd 5 rfl) rfl (by omega) (by omega)) rfl <|
    aS (fun hk bs hd => xleq rfl (dp hd 0 rfl) (dp hd 6 rfl)) rfl <|
    arm0) fun fa fw bs hv ap z q ow => ?_
  obtain ⟨s0, s1, s6, s7⟩ := b4 bs s0 s1 s6 s7; have s19 := gv hv 7 rfl rfl; refine wt hK8 ?_
  by_cases hc2 : (k : Int) ≤ ((((t.length : Nat) : Int) - ((s.length : Nat) : Int)) + 1 : Int)
  · refine ct s19 ((decide_eq_true_iff).2 hc2) ?_
    refine wp_skip ?_; refine tn hK7 ?_; refine sq fun hK9 => ?_; refine wp_block ?_; refine sq fun hK10 => ?_
    refine ro [yV _, yV _, yV _, yV _, yV _, yV _, yV _, yV _, yV _, yV _, yV _] 11 37 z q ow (
      mvS s1 rfl rfl rfl rfl <|
      mvS s7 rfl rfl rfl rfl <|
      aS (fun hk bs hd => xsub (Or.inl rfl) rfl (dp hd 1 rfl) rfl (by omega) (by omega)) rfl <|
      mvS s7 rfl rfl rfl rfl <|
      aS (fun hk bs hd => xsub (Or.inl rfl) rfl (dp hd 3 rfl) rfl (by omega) (by omega)) rfl <|
      mvS s0 rfl rfl rfl rfl <|
      aS (fun hk bs hd => xlenS Tryz.underlying9 rfl (dp hd 5 rfl)) rfl <|
      aS (fun hk bs hd => xadd (Or.inl rfl) rfl (dp hd 4 rfl) (dp hd 6 rfl) (by omega) (by omega)) rfl <|
      aS (fun hk bs hd => xslice (u := .string ⟨t.toArray⟩) (l := some (.int .i64 ((k - 1) : Nat))) (h := some (.int .i64 ((k - 1 + s.length) : Nat))) (m := none) rfl (dp hd 0 rfl) (congrArg some ((dp hd 2 rfl).trans (congrArg (Value.int .i64) (by omega)))) (congrArg some ((dp hd 7 rfl).trans (congrArg (Value.int .i64) (by omega)))) rfl (run_sliceS Tryz.underlying9 t (k - 1) (k - 1 + s.length) (by omega) (by omega))) rfl <|
      mvS s0 rfl rfl rfl rfl <|
      aS (fun hk bs hd => xeqS rfl (dp hd 8 rfl) (dp hd 9 rfl)) rfl <|
      arm0) fun fa fw bs hv ap z q ow => ?_
    obtain ⟨s0, s1, s6, s7⟩ := b4 bs s0 s1 s6 s7; have s32 := gv hv 10 rfl rfl; refine wt hK10 ?_
    by_cases hc3 : ((t.take (k - 1 + s.length)).drop (k - 1)) = s
    · refine ct s32 ((decide_eq_true_iff).2 hc3) ?_
      have hbr := hc3; refine sq fun hK11 => ?_
      refine ro [yV _, yV _, yV (aggV (vMake ((k : Int) * 10000)))] 3 37 z q ow (
        mvS s7 rfl rfl rfl rfl <|
        aS (fun hk bs hd => xmul (Or.inr rfl) rfl (dp hd 0 rfl) rfl (by omega) (by omega)) rfl <|
        aC (fun hk bs hd => xcall1 rfl (dp hd 1 rfl) (en_louvreref05_Make _ _)) (fun hk bs hd => rmake_any ((k : Int) * 10000) _ (by omega) (by omega)) rfl <|
        arm0) fun fa fw bs hv ap z q ow => ?_
      obtain ⟨s0, s1, s6, s7⟩ := b4 bs s0 s1 s6 s7; have s35 := gv hv 2 rfl rfl; refine ws ow 0 0 s6 s35 fun fw ow => ?_; refine wt hK11 ?_; refine wp_ret ?_; refine block_r ?_; refine then_r ?_; refine then_r ?_; refine block_r ?_; refine then_r ?_; refine rs3 s6 (ow.box 0 rfl) q ?_; exact ⟨congrArg (fun v => Ending.returned (aggV v)) (rfind_hit (by omega) hk (by omega) hbr hno), ow.kept⟩
    refine cf s32 (decide_eq_true_iff) hc3 ?_; have hne := hc3; refine wp_skip ?_; refine block_n ?_; refine tn hK9 ?_
    refine ro [yV _, yV (.int .i64 ((k + 1 : Nat) : Int))] 2 37 z q ow (
      mvS s7 rfl rfl rfl rfl <|
      aS (fun hk bs hd => xadd (Or.inl rfl) rfl (dp hd 0 rfl) rfl (by omega) (by omega)) rfl <|
      arm0) fun fa fw bs hv ap z q ow => ?_
    obtain ⟨s0, s1, s6, s7⟩ := b4 bs s0 s1 s6 s7; have s21 := gv hv 1 rfl rfl; refine wl_value (v := .int .i64 ((k + 1 : Nat) : Int)) (want0 rfl) (xassign rfl s21) ?_; refine gp3 z q ow s0 s1 s6 fun fa fw z q ow s0 s1 s6 s7 => ?_; refine wl_end ?_; exact then_n ⟨(k + 1), ⟨(by omega), (rfind_next (by omega) (by omega) hne hno), z, q, ow, s0, s1, s6, s7⟩, (show t.length + 2 - (k + 1) < t.length + 2 - k by omega)⟩
  refine cf s19 (decide_eq_true_iff) hc2 ?_; refine wp_exit ?_; refine then_e ?_; refine then_e ?_; refine block_hit ?_; refine tn hK5 ?_; refine sq fun hK12 => ?_
  refine ro [yV (aggV (vFail 2))] 1 37 z q ow (
    aC (fun hk bs hd => xcall1 rfl rfl (en_louvreref05_Fail _ _)) (fun hk bs hd => rfail_any 2 _) rfl <|
    arm0) fun fa fw bs hv ap z q ow => ?_
  have s6 := bg bs s6; have s36 := gv hv 0 rfl rfl; refine ws ow 0 0 s6 s36 fun fw ow => ?_; refine wt hK12 ?_; refine wp_ret ?_; refine rs3 s6 (ow.box 0 rfl) q ?_; exact ⟨congrArg (fun v => Ending.returned (aggV v)) (rfind_end (by omega) hk (by omega) hno), ow.kept⟩
set_option maxHeartbeats 2000000 in
theorem rleft_none (s : List UInt8) (B : Option Addr) (cn : Nat) (w : World) (l_s : s.length ≤ 300) :
    Calls Tryz.prog 65 #[.int .u8 32, .string ⟨s.toArray⟩, .slice B 0 cn] w fun e w' => e = .returned (aggV (left14 s 1)) ∧ Kept w w' := by
  go_enter Tryz.func65, Tryz.ntmps65; refine sq fun hK1 => ?_
  refine ro [yNew w.heap.size (.cells #[.int .u8 0, .int .i64 0, .string ⟨[].toArray⟩] 25 (0, 0))] 1 62 rfl rfl (Own.start w) (
    aP (fun hk bs hd => xalloc rfl (by kernel_rfl)) rfl <|
    arm0) fun fa fw bs hv ap z q ov => ?_
  have s0 := bs.get 0 rfl rfl; have s1 := bs.get 1 rfl rfl; have s2 := bs.get 2 rfl rfl; obtain ⟨gb1, s6, bgb1, hgb1⟩ := gotP hv 0 rfl rfl rfl; have ov := ov.cons hgb1 (Nat.le_trans (Own.start w).kept.size bgb1) ((Own.start w).below bgb1); have ow := ov; refine wt hK1 ?_; refine sq fun hK2 => ?_
  refine ro [yV _, yV _] 2 62 z q ow (
    aS (fun hk bs hd => xassign rfl rfl) rfl <|
    aS (fun hk bs hd => xassign rfl rfl) rfl <|
    arm0) fun fa fw bs hv ap z q ow => ?_
  obtain ⟨s0, s1, s2, s6⟩ := b4 bs s0 s1 s2 s6; have s7 := gv hv 0 rfl rfl; have s8 := gv hv 1 rfl rfl; refine wt hK2 ?_; refine sq fun hK3 => ?_; refine sq fun hK4 => ?_
  refine ro [yV _, yV (.bool false)] 2 62 z q ow (
    mvS s0 rfl rfl rfl rfl <|
    aE (fun hk bs hd => xeqi rfl (dp hd 0 rfl) rfl) (congrArg Value.bool rfl) rfl <|
    arm0) fun fa fw bs hv ap z q ow => ?_
  obtain ⟨s0, s1, s2, s6, s7, s8⟩ := b6 bs s0 s1 s2 s6 s7 s8; have s10 := gv hv 1 rfl rfl; refine wt hK4 ?_; refine wp_cond_false (s10) ?_; refine sq fun hK5 => ?_
  refine ro [yV _, yV _, yV (.bool false)] 3 62 z q ow (
    mvS s2 rfl rfl rfl rfl <|
    aS (fun hk bs hd => xlen Tryz.underlying98 rfl (dp hd 0 rfl)) rfl <|
    aE (fun hk bs hd => xgtr rfl (dp hd 1 rfl) rfl) (congrArg Value.bool rfl) rfl <|
    arm0) fun fa fw bs hv ap z q ow => ?_
  obtain ⟨s0, s1, s2, s6, s7, s8⟩ := b6 bs s0 s1 s2 s6 s7 s8; have s19 := gv hv 2 rfl rfl; refine wt hK5 ?_; refine wp_cond_false (s19) ?_; refine wp_skip ?_; refine tn hK3 ?_; refine sq fun hK6 => ?_; refine sq fun hK7 => ?_
  refine ro [yV _, yV (.bool false), yV _, yV _, yV (.bool false), yV _] 6 62 z q ow (
    mvS s7 rfl rfl rfl rfl <|
    aE (fun hk bs hd => xlss rfl (dp hd 0 rfl) rfl) (congrArg Value.bool rfl) rfl <|
    mvD 1 rfl rfl rfl rfl rfl rfl <|
    armS (wg (j := 2) (b := false) rfl rfl rfl) (fun aa ww hk bs hd => xmove rfl (bg bs s8)) rfl <|
    armE (wg (j := 2) (b := false) rfl rfl rfl) (fun aa ww hk bs hd => xlss rfl (dp hd 3 rfl) rfl) (congrArg Value.bool rfl) rfl <|
    aS (fun hk bs hd => xpickF rfl (dp hd 2 rfl) (dp hd 4 rfl)) rfl <|
    arm0) fun fa fw bs hv ap z q ow => ?_
  obtain ⟨s0, s1, s6, s7, s8⟩ := b5 bs s0 s1 s6 s7 s8; have s28 := gv hv 5 rfl rfl; refine wt hK7 ?_; refine wp_cond_false (s28) ?_; refine wp_skip ?_; refine tn hK6 ?_; refine sq fun hK8 => ?_
  refine ro [yV _, yV _, yV _, yV _] 4 62 z q ow (
    mvS s8 rfl rfl rfl rfl <|
    mvS s1 rfl rfl rfl rfl <|
    aS (fun hk bs hd => xlenS Tryz.underlying9 rfl (dp hd 1 rfl)) rfl <|
    aS (fun hk bs hd => xminI rfl (Or.inl rfl) (dp hd 0 rfl) (dp hd 2 rfl)) rfl <|
    arm0) fun fa fw bs hv ap z q ow => ?_
  obtain ⟨s0, s1, s6, s7, s8⟩ := b5 bs s0 s1 s6 s7 s8; have s33 := gv hv 3 rfl rfl; refine wl_value (v := .int .i64 (min 1 ((s.length : Nat) : Int))) (want0 rfl) (xassign rfl s33) ?_; refine gp4 z q ow s0 s1 s6 s7 fun fa fw z q ow s0 s1 s6 s7 s8 => ?_; refine wt hK8 ?_; refine sq fun hK9 => ?_; refine sq fun hK10 => ?_
  refine ro [yV _, yV (.bool false)] 2 62 z q ow (
    mvS s0 rfl rfl rfl rfl <|
    aE (fun hk bs hd => xeqi rfl (dp hd 0 rfl) rfl) (congrArg Value.bool rfl) rfl <|
    arm0) fun fa fw bs hv ap z q ow => ?_
  obtain ⟨s1, s6, s7, s8⟩ := b4 bs s1 s6 s7 s8; have s35 := gv hv 1 rfl rfl; refine wt hK10 ?_; refine wp_cond_false (s35) ?_; refine wp_skip ?_; refine tn hK9 ?_; refine sq fun hK11 => ?_
  refine ro [yV _, yV _, yV _, yV (.int .i64 (((s.length) + 1 : Nat) : Int)), yV _] 5 62 z q ow (
    mvS s7 rfl rfl rfl rfl <|
    mvS s1 rfl rfl rfl rfl <|
    aS (fun hk bs hd => xlenS Tryz.underlying9 rfl (dp hd 1 rfl)) rfl <|
    aS (fun hk bs hd => xadd (Or.inl rfl) rfl (dp hd 2 rfl) rfl (by omega) (by omega)) rfl <|
    aS (fun hk bs hd => xminI rfl (Or.inl rfl) (dp hd 0 rfl) (dp hd 3 rfl)) rfl <|
    arm0) fun fa fw bs hv ap z q ow => ?_
  obtain ⟨s1, s6, s7, s8⟩ := b4 bs s1 s6 s7 s8; have s45 := gv hv 4 rfl rfl; refine wl_value (v := .int .i64 (min 1 (((s.length) + 1 : Nat) : Int))) (want0 rfl) (xassign rfl s45) ?_; refine gp3 z q ow s1 s6 s8 fun fa fw z q ow s1 s6 s8 s7 => ?_; refine wt hK11 ?_; refine sq fun hK12 => ?_
  refine ro [yV _, yV _, yV _, yV _, yV _, yV _, yV _] 7 62 z q ow (
    mvS s8 rfl rfl rfl rfl <|
    mvS s1 rfl rfl rfl rfl <|
    aS (fun hk bs hd => xlenS Tryz.underlying9 rfl (dp hd 1 rfl)) rfl <|
    mvS s7 rfl rfl rfl rfl <|
    aS (fun hk bs hd => xsub (Or.inl rfl) rfl (dp hd 2 rfl) (dp hd 3 rfl) (by omega) (by omega)) rfl <|
    aS (fun hk bs hd => xadd (Or.inl rfl) rfl (dp hd 4 rfl) rfl (by omega) (by omega)) rfl <|
    aS (fun hk bs hd => xminI rfl (Or.inl rfl) (dp hd 0 rfl) (dp hd 5 rfl)) rfl <|
    arm0) fun fa fw bs hv ap z q ow => ?_
  obtain ⟨s1, s6, s8, s7⟩ := b4 bs s1 s6 s8 s7; have s52 := gv hv 6 rfl rfl; refine wl_value (v := .int .i64 (min (min 1 ((s.length : Nat) : Int)) ((((s.length : Nat) : Int) - (min 1 (((s.length) + 1 : Nat) : Int))) + 1))) (want0 rfl) (xassign rfl s52) ?_; refine gp3 z q ow s1 s6 s7 fun fa fw z q ow s1 s6 s7 s8 => ?_; refine wt hK12 ?_; refine sq fun hK13 => ?_
  refine ro [yV _, yV _, yV _, yV _, yV _, yV _, yV _, yV _, yV (aggV (vText ((s.take (min 1 s.length)).drop 0)))] 9 62 z q ow (
    mvS s1 rfl rfl rfl rfl <|
    mvS s7 rfl rfl rfl rfl <|
    aS (fun hk bs hd => xsub (Or.inl rfl) rfl (dp hd 1 rfl) rfl (by omega) (by omega)) rfl <|
    mvS s7 rfl rfl rfl rfl <|
    aS (fun hk bs hd => xsub (Or.inl rfl) rfl (dp hd 3 rfl) rfl (by omega) (by omega)) rfl <|
    mvS s8 rfl rfl rfl rfl <|
    aS (fun hk bs hd => xadd (Or.inl rfl) rfl (dp hd 4 rfl) (dp hd 5 rfl) (by omega) (by omega)) rfl <|
    aS (fun hk bs hd => xslice (u := .string ⟨s.toArray⟩) (l := some (.int .i64 (0 : Nat))) (h := some (.int .i64 ((min 1 s.length) : Nat))) (m := none) rfl (dp hd 0 rfl) (congrArg some ((dp hd 2 rfl).trans (congrArg (Value.int .i64) (by omega)))) (congrArg some ((dp hd 6 rfl).trans (congrArg (Value.int .i64) (by omega)))) rfl (run_sliceS Tryz.underlying9 s 0 (min 1 s.length) (by omega) (by omega))) rfl <|
    aC (fun hk bs hd => xcall1 rfl (dp hd 7 rfl) (en_louvreref14_Text _ _)) (fun hk bs hd => rtext14_any ((s.take (min 1 s.length)).drop 0) _ (by rw [List.length_drop, List.length_take]; omega)) rfl <|
    arm0) fun fa fw bs hv ap z q ow => ?_
  have s6 := bg bs s6; have s61 := gv hv 8 rfl rfl; refine ws ow 0 0 s6 s61 fun fw ow => ?_; refine wt hK13 ?_; refine wp_ret ?_; refine rs3 s6 (ow.box 0 rfl) q ?_; exact ⟨congrArg (fun v => Ending.returned (aggV v)) (left_one s), ow.kept⟩
set_option maxHeartbeats 2000000 in
theorem rleft_some (s : List UInt8) (m : Int) (nb no cn : Nat) (w : World) (hn : RowC w (some ⟨nb, no, none⟩) [.int .i64 m]) (l_s : s.length ≤ 300) (r_m : -922337203685478 ≤ m ∧ m ≤ 922337203685478) :
    Calls Tryz.prog 65 #[.int .u8 32, .string ⟨s.toArray⟩, .slice (some ⟨nb, no, none⟩) 1 cn] w fun e w' => e = .returned (aggV (left14 s m)) ∧ Kept w w' := by
  go_enter Tryz.func65, Tryz.ntmps65; refine sq fun hK1 => ?_
  refine ro [yNew w.heap.size (.cells #[.int .u8 0, .int .i64 0, .string ⟨[].toArray⟩] 25 (0, 0))] 1 62 rfl rfl (Own.start w) (
    aP (fun hk bs hd => xalloc rfl (by kernel_rfl)) rfl <|
    arm0) fun fa fw bs hv ap z q ov => ?_
  have s0 := bs.get 0 rfl rfl; have s1 := bs.get 1 rfl rfl; have s2 := bs.get 2 rfl rfl; obtain ⟨gb1, s6, bgb1, hgb1⟩ := gotP hv 0 rfl rfl rfl; have ov := ov.cons hgb1 (Nat.le_trans (Own.start w).kept.size bgb1) ((Own.start w).below bgb1); have ow := ov; refine wt hK1 ?_; refine sq fun hK2 => ?_
  refine ro [yV _, yV _] 2 62 z q ow (
    aS (fun hk bs hd => xassign rfl rfl) rfl <|
    aS (fun hk bs hd => xassign rfl rfl) rfl <|
    arm0) fun fa fw bs hv ap z q ow => ?_
  obtain ⟨s0, s1, s2, s6⟩ := b4 bs s0 s1 s2 s6; have s7 := gv hv 0 rfl rfl; have s8 := gv hv 1 rfl rfl; refine wt hK2 ?_; refine sq fun hK3 => ?_; refine sq fun hK4 => ?_
  refine ro [yV _, yV (.bool false)] 2 62 z q ow (
    mvS s0 rfl rfl rfl rfl <|
    aE (fun hk bs hd => xeqi rfl (dp hd 0 rfl) rfl) (congrArg Value.bool rfl) rfl <|
    arm0) fun fa fw bs hv ap z q ow => ?_
  obtain ⟨s0, s1, s2, s6, s7, s8⟩ := b6 bs s0 s1 s2 s6 s7 s8; have s10 := gv hv 1 rfl rfl; refine wt hK4 ?_; refine wp_cond_false (s10) ?_; refine sq fun hK5 => ?_
  refine ro [yV _, yV _, yV (.bool true)] 3 62 z q ow (
    mvS s2 rfl rfl rfl rfl <|
    aS (fun hk bs hd => xlen Tryz.underlying98 rfl (dp hd 0 rfl)) rfl <|
    aE (fun hk bs hd => xgtr rfl (dp hd 1 rfl) rfl) (congrArg Value.bool rfl) rfl <|
    arm0) fun fa fw bs hv ap z q ow => ?_
  obtain ⟨s0, s1, s2, s6, s7, s8⟩ := b6 bs s0 s1 s2 s6 s7 s8; have s19 := gv hv 2 rfl rfl; refine wt hK5 ?_; refine wp_cond_true (s19) ?_
  refine ro [yV _, yV _, yV _, yV _] 4 62 z q ow (
    mvS s2 rfl rfl rfl rfl <|
    aS (fun hk bs hd => xindexAddr (u := .slice (some ⟨nb, no, none⟩) 1 cn) (z := .int .i64 ((0 : Nat) : Int)) rfl (dp hd 0 rfl) rfl (run_place1 Tryz.underlying98 (by kernel_rfl) (by omega))) rfl <|
    aS (fun hk bs hd => xloadC rfl (by kernel_rfl) (dp hd 1 rfl) ((hn.kept (ow.keep hk).kept).at_ (k := 0) rfl)) rfl <|
    asD 2 rfl rfl rfl rfl rfl rfl <|
    arm0) fun fa fw bs hv ap z q ow => ?_
  obtain ⟨s0, s1, s6, s7⟩ := b4 bs s0 s1 s6 s7; have s8 := gv hv 3 rfl rfl; refine wt hK3 ?_; refine sq fun hK6 => ?_; refine sq fun hK7 => ?_
  refine ro [yV _, yV (.bool false), yV _, yV _, yV _, yV _] 6 62 z q ow (
    mvS s7 rfl rfl rfl rfl <|
    aE (fun hk bs hd => xlss rfl (dp hd 0 rfl) rfl) (congrArg Value.bool rfl) rfl <|
    mvD 1 rfl rfl rfl rfl rfl rfl <|
    armS (wg (j := 2) (b := false) rfl rfl rfl) (fun aa ww hk bs hd => xmove rfl (bg bs s8)) rfl <|
    armS (wg (j := 2) (b := false) rfl rfl rfl) (fun aa ww hk bs hd => xlss rfl (dp hd 3 rfl) rfl) rfl <|
    aS (fun hk bs hd => xpickF rfl (dp hd 2 rfl) (dp hd 4 rfl)) rfl <|
    arm0) fun fa fw bs hv ap z q ow => ?_
  obtain ⟨s0, s1, s6, s7, s8⟩ := b5 bs s0 s1 s6 s7 s8; have s28 := gv hv 5 rfl rfl; refine wt hK7 ?_
  by_cases hc1 : (m : Int) < (0 : Int)
  · refine ct s28 ((decide_eq_true_iff).2 hc1) ?_
    refine sq fun hK8 => ?_
    refine ro [yV (aggV (vFail 2))] 1 62 z q ow (
      aC (fun hk bs hd => xcall1 rfl rfl (en_louvreref05_Fail _ _)) (fun hk bs hd => rfail_any 2 _) rfl <|
      arm0) fun fa fw bs hv ap z q ow => ?_
    obtain ⟨s0, s1, s6, s7, s8⟩ := b5 bs s0 s1 s6 s7 s8; have s29 := gv hv 0 rfl rfl; refine ws ow 0 0 s6 s29 fun fw ow => ?_; refine wt hK8 ?_; refine wp_ret ?_; refine then_r ?_; refine rs3 s6 (ow.box 0 rfl) q ?_; exact ⟨congrArg (fun v => Ending.returned (aggV v)) (left_neg s m (by omega)), ow.kept⟩
  refine cf s28 (decide_eq_true_iff) hc1 ?_; refine wp_skip ?_; refine tn hK6 ?_; refine sq fun hK9 => ?_
  refine ro [yV _, yV _, yV _, yV _] 4 62 z q ow (
    mvS s8 rfl rfl rfl rfl <|
    mvS s1 rfl rfl rfl rfl <|
    aS (fun hk bs hd => xlenS Tryz.underlying9 rfl (dp hd 1 rfl)) rfl <|
    aS (fun hk bs hd => xminI rfl (Or.inl rfl) (dp hd 0 rfl) (dp hd 2 rfl)) rfl <|
    arm0) fun fa fw bs hv ap z q ow => ?_
  obtain ⟨s0, s1, s6, s7, s8⟩ := b5 bs s0 s1 s6 s7 s8; have s33 := gv hv 3 rfl rfl; refine wl_value (v := .int .i64 (min m ((s.length : Nat) : Int))) (want0 rfl) (xassign rfl s33) ?_; refine gp4 z q ow s0 s1 s6 s7 fun fa fw z q ow s0 s1 s6 s7 s8 => ?_; refine wt hK9 ?_; refine sq fun hK10 => ?_; refine sq fun hK11 => ?_
  refine ro [yV _, yV (.bool false)] 2 62 z q ow (
    mvS s0 rfl rfl rfl rfl <|
    aE (fun hk bs hd => xeqi rfl (dp hd 0 rfl) rfl) (congrArg Value.bool rfl) rfl <|
    arm0) fun fa fw bs hv ap z q ow => ?_
  obtain ⟨s1, s6, s7, s8⟩ := b4 bs s1 s6 s7 s8; have s35 := gv hv 1 rfl rfl; refine wt hK11 ?_; refine wp_cond_false (s35) ?_; refine wp_skip ?_; refine tn hK10 ?_; refine sq fun hK12 => ?_
  refine ro [yV _, yV _, yV _, yV (.int .i64 (((s.length) + 1 : Nat) : Int)), yV _] 5 62 z q ow (
    mvS s7 rfl rfl rfl rfl <|
    mvS s1 rfl rfl rfl rfl <|
    aS (fun hk bs hd => xlenS Tryz.underlying9 rfl (dp hd 1 rfl)) rfl <|
    aS (fun hk bs hd => xadd (Or.inl rfl) rfl (dp hd 2 rfl) rfl (by omega) (by omega)) rfl <|
    aS (fun hk bs hd => xminI rfl (Or.inl rfl) (dp hd 0 rfl) (dp hd 3 rfl)) rfl <|
    arm0) fun fa fw bs hv ap z q ow => ?_
  obtain ⟨s1, s6, s7, s8⟩ := b4 bs s1 s6 s7 s8; have s45 := gv hv 4 rfl rfl; refine wl_value (v := .int .i64 (min 1 (((s.length) + 1 : Nat) : Int))) (want0 rfl) (xassign rfl s45) ?_; refine gp3 z q ow s1 s6 s8 fun fa fw z q ow s1 s6 s8 s7 => ?_; refine wt hK12 ?_; refine sq fun hK13 => ?_
  refine ro [yV _, yV _, yV _, yV _, yV _, yV _, yV _] 7 62 z q ow (
    mvS s8 rfl rfl rfl rfl <|
    mvS s1 rfl rfl rfl rfl <|
    aS (fun hk bs hd => xlenS Tryz.underlying9 rfl (dp hd 1 rfl)) rfl <|
    mvS s7 rfl rfl rfl rfl <|
    aS (fun hk bs hd => xsub (Or.inl rfl) rfl (dp hd 2 rfl) (dp hd 3 rfl) (by omega) (by omega)) rfl <|
    aS (fun hk bs hd => xadd (Or.inl rfl) rfl (dp hd 4 rfl) rfl (by omega) (by omega)) rfl <|
    aS (fun hk bs hd => xminI rfl (Or.inl rfl) (dp hd 0 rfl) (dp hd 5 rfl)) rfl <|
    arm0) fun fa fw bs hv ap z q ow => ?_
  obtain ⟨s1, s6, s8, s7⟩ := b4 bs s1 s6 s8 s7; have s52 := gv hv 6 rfl rfl; refine wl_value (v := .int .i64 (min (min m ((s.length : Nat) : Int)) ((((s.length : Nat) : Int) - (min 1 (((s.length) + 1 : Nat) : Int))) + 1))) (want0 rfl) (xassign rfl s52) ?_; refine gp3 z q ow s1 s6 s7 fun fa fw z q ow s1 s6 s7 s8 => ?_; refine wt hK13 ?_; refine sq fun hK14 => ?_
  refine ro [yV _, yV _, yV _, yV _, yV _, yV _, yV _, yV _, yV (aggV (vText ((s.take (min m.toNat s.length)).drop 0)))] 9 62 z q ow (
    mvS s1 rfl rfl rfl rfl <|
    mvS s7 rfl rfl rfl rfl <|
    aS (fun hk bs hd => xsub (Or.inl rfl) rfl (dp hd 1 rfl) rfl (by omega) (by omega)) rfl <|
    mvS s7 rfl rfl rfl rfl <|
    aS (fun hk bs hd => xsub (Or.inl rfl) rfl (dp hd 3 rfl) rfl (by omega) (by omega)) rfl <|
    mvS s8 rfl rfl rfl rfl <|
    aS (fun hk bs hd => xadd (Or.inl rfl) rfl (dp hd 4 rfl) (dp hd 5 rfl) (by omega) (by omega)) rfl <|
    aS (fun hk bs hd => xslice (u := .string ⟨s.toArray⟩) (l := some (.int .i64 (0 : Nat))) (h := some (.int .i64 ((min m.toNat s.length) : Nat))) (m := none) rfl (dp hd 0 rfl) (congrArg some ((dp hd 2 rfl).trans (congrArg (Value.int .i64) (by omega)))) (congrArg some ((dp hd 6 rfl).trans (congrArg (Value.int .i64) (by omega)))) rfl (run_sliceS Tryz.underlying9 s 0 (min m.toNat s.length) (by omega) (by omega))) rfl <|
    aC (fun hk bs hd => xcall1 rfl (dp hd 7 rfl) (en_louvreref14_Text _ _)) (fun hk bs hd => rtext14_any ((s.take (min m.toNat s.length)).drop 0) _ (by rw [List.length_drop, List.length_take]; omega)) rfl <|
    arm0) fun fa fw bs hv ap z q ow => ?_
  have s6 := bg bs s6; have s61 := gv hv 8 rfl rfl; refine ws ow 0 0 s6 s61 fun fw ow => ?_; refine wt hK14 ?_; refine wp_ret ?_; refine rs3 s6 (ow.box 0 rfl) q ?_; exact ⟨congrArg (fun v => Ending.returned (aggV v)) (left_take s m (by omega)), ow.kept⟩
set_option maxHeartbeats 2000000 in
theorem rright_none (s : List UInt8) (B : Option Addr) (cn : Nat) (w : World) (l_s : s.length ≤ 300) :
    Calls Tryz.prog 65 #[.int .u8 33, .string ⟨s.toArray⟩, .slice B 0 cn] w fun e w' => e = .returned (aggV (right14 s 1)) ∧ Kept w w' := by
  go_enter Tryz.func65, Tryz.ntmps65; refine sq fun hK1 => ?_
  refine ro [yNew w.heap.size (.cells #[.int .u8 0, .int .i64 0, .string ⟨[].toArray⟩] 25 (0, 0))] 1 62 rfl rfl (Own.start w) (
    aP (fun hk bs hd => xalloc rfl (by kernel_rfl)) rfl <|
    arm0) fun fa fw bs hv ap z q ov => ?_
  have s0 := bs.get 0 rfl rfl; have s1 := bs.get 1 rfl rfl; have s2 := bs.get 2 rfl rfl; obtain ⟨gb1, s6, bgb1, hgb1⟩ := gotP hv 0 rfl rfl rfl; have ov := ov.cons hgb1 (Nat.le_trans (Own.start w).kept.size bgb1) ((Own.start w).below bgb1); have ow := ov; refine wt hK1 ?_; refine sq fun hK2 => ?_
  refine ro [yV _, yV _] 2 62 z q ow (
    aS (fun hk bs hd => xassign rfl rfl) rfl <|
    aS (fun hk bs hd => xassign rfl rfl) rfl <|
    arm0) fun fa fw bs hv ap z q ow => ?_
  obtain ⟨s0, s1, s2, s6⟩ := b4 bs s0 s1 s2 s6; have s7 := gv hv 0 rfl rfl; have s8 := gv hv 1 rfl rfl; refine wt hK2 ?_; refine sq fun hK3 => ?_; refine sq fun hK4 => ?_
  refine ro [yV _, yV (.bool false)] 2 62 z q ow (
    mvS s0 rfl rfl rfl rfl <|
    aE (fun hk bs hd => xeqi rfl (dp hd 0 rfl) rfl) (congrArg Value.bool rfl) rfl <|
    arm0) fun fa fw bs hv ap z q ow => ?_
  obtain ⟨s0, s1, s2, s6, s7, s8⟩ := b6 bs s0 s1 s2 s6 s7 s8; have s10 := gv hv 1 rfl rfl; refine wt hK4 ?_; refine wp_cond_false (s10) ?_; refine sq fun hK5 => ?_
  refine ro [yV _, yV _, yV (.bool false)] 3 62 z q ow (
    mvS s2 rfl rfl rfl rfl <|
    aS (fun hk bs hd => xlen Tryz.underlying98 rfl (dp hd 0 rfl)) rfl <|
    aE (fun hk bs hd => xgtr rfl (dp hd 1 rfl) rfl) (congrArg Value.bool rfl) rfl <|
    arm0) fun fa fw bs hv ap z q ow => ?_
  obtain ⟨s0, s1, s2, s6, s7, s8⟩ := b6 bs s0 s1 s2 s6 s7 s8; have s19 := gv hv 2 rfl rfl; refine wt hK5 ?_; refine wp_cond_false (s19) ?_; refine wp_skip ?_; refine tn hK3 ?_; refine sq fun hK6 => ?_; refine sq fun hK7 => ?_
  refine ro [yV _, yV (.bool false), yV _, yV _, yV (.bool false), yV _] 6 62 z q ow (
    mvS s7 rfl rfl rfl rfl <|
    aE (fun hk bs hd => xlss rfl (dp hd 0 rfl) rfl) (congrArg Value.bool rfl) rfl <|
    mvD 1 rfl rfl rfl rfl rfl rfl <|
    armS (wg (j := 2) (b := false) rfl rfl rfl) (fun aa ww hk bs hd => xmove rfl (bg bs s8)) rfl <|
    armE (wg (j := 2) (b := false) rfl rfl rfl) (fun aa ww hk bs hd => xlss rfl (dp hd 3 rfl) rfl) (congrArg Value.bool rfl) rfl <|
    aS (fun hk bs hd => xpickF rfl (dp hd 2 rfl) (dp hd 4 rfl)) rfl <|
    arm0) fun fa fw bs hv ap z q ow => ?_
  obtain ⟨s0, s1, s6, s7, s8⟩ := b5 bs s0 s1 s6 s7 s8; have s28 := gv hv 5 rfl rfl; refine wt hK7 ?_; refine wp_cond_false (s28) ?_; refine wp_skip ?_; refine tn hK6 ?_; refine sq fun hK8 => ?_
  refine ro [yV _, yV _, yV _, yV _] 4 62 z q ow (
    mvS s8 rfl rfl rfl rfl <|
    mvS s1 rfl rfl rfl rfl <|
    aS (fun hk bs hd => xlenS Tryz.underlying9 rfl (dp hd 1 rfl)) rfl <|
    aS (fun hk bs hd => xminI rfl (Or.inl rfl) (dp hd 0 rfl) (dp hd 2 rfl)) rfl <|
    arm0) fun fa fw bs hv ap z q ow => ?_
  obtain ⟨s0, s1, s6, s7, s8⟩ := b5 bs s0 s1 s6 s7 s8; have s33 := gv hv 3 rfl rfl; refine wl_value (v := .int .i64 (min 1 ((s.length : Nat) : Int))) (want0 rfl) (xassign rfl s33) ?_; refine gp4 z q ow s0 s1 s6 s7 fun fa fw z q ow s0 s1 s6 s7 s8 => ?_; refine wt hK8 ?_; refine sq fun hK9 => ?_; refine sq fun hK10 => ?_
  refine ro [yV _, yV (.bool true)] 2 62 z q ow (
    mvS s0 rfl rfl rfl rfl <|
    aE (fun hk bs hd => xeqi rfl (dp hd 0 rfl) rfl) (congrArg Value.bool rfl) rfl <|
    arm0) fun fa fw bs hv ap z q ow => ?_
  obtain ⟨s1, s6, s7, s8⟩ := b4 bs s1 s6 s7 s8; have s35 := gv hv 1 rfl rfl; refine wt hK10 ?_; refine wp_cond_true (s35) ?_
  refine ro [yV _, yV _, yV _, yV _, yV _, yV _] 6 62 z q ow (
    mvS s1 rfl rfl rfl rfl <|
    aS (fun hk bs hd => xlenS Tryz.underlying9 rfl (dp hd 0 rfl)) rfl <|
    mvS s8 rfl rfl rfl rfl <|
    aS (fun hk bs hd => xsub (Or.inl rfl) rfl (dp hd 1 rfl) (dp hd 2 rfl) (by omega) (by omega)) rfl <|
    aS (fun hk bs hd => xadd (Or.inl rfl) rfl (dp hd 3 rfl) rfl (by omega) (by omega)) rfl <|
    asD 4 rfl rfl rfl rfl rfl rfl <|
    arm0) fun fa fw bs hv ap z q ow => ?_
  obtain ⟨s1, s6, s8⟩ := b3 bs s1 s6 s8; have s7 := gv hv 5 rfl rfl; refine wt hK9 ?_; refine sq fun hK11 => ?_
  refine ro [yV _, yV _, yV _, yV (.int .i64 (((s.length) + 1 : Nat) : Int)), yV _] 5 62 z q ow (
    mvS s7 rfl rfl rfl rfl <|
    mvS s1 rfl rfl rfl rfl <|
    aS (fun hk bs hd => xlenS Tryz.underlying9 rfl (dp hd 1 rfl)) rfl <|
    aS (fun hk bs hd => xadd (Or.inl rfl) rfl (dp hd 2 rfl) rfl (by omega) (by omega)) rfl <|
    aS (fun hk bs hd => xminI rfl (Or.inl rfl) (dp hd 0 rfl) (dp hd 3 rfl)) rfl <|
    arm0) fun fa fw bs hv ap z q ow => ?_
  obtain ⟨s1, s6, s8, s7⟩ := b4 bs s1 s6 s8 s7; have s45 := gv hv 4 rfl rfl; refine wl_value (v := .int .i64 (min ((((s.length : Nat) : Int) - (min 1 ((s.length : Nat) : Int))) + 1) (((s.length) + 1 : Nat) : Int))) (want0 rfl) (xassign rfl s45) ?_; refine gp3 z q ow s1 s6 s8 fun fa fw z q ow s1 s6 s8 s7 => ?_; refine wt hK11 ?_; refine sq fun hK12 => ?_
  refine ro [yV _, yV _, yV _, yV _, yV _, yV _, yV _] 7 62 z q ow (
    mvS s8 rfl rfl rfl rfl <|
    mvS s1 rfl rfl rfl rfl <|
    aS (fun hk bs hd => xlenS Tryz.underlying9 rfl (dp hd 1 rfl)) rfl <|
    mvS s7 rfl rfl rfl rfl <|
    aS (fun hk bs hd => xsub (Or.inl rfl) rfl (dp hd 2 rfl) (dp hd 3 rfl) (by omega) (by omega)) rfl <|
    aS (fun hk bs hd => xadd (Or.inl rfl) rfl (dp hd 4 rfl) rfl (by omega) (by omega)) rfl <|
    aS (fun hk bs hd => xminI rfl (Or.inl rfl) (dp hd 0 rfl) (dp hd 5 rfl)) rfl <|
    arm0) fun fa fw bs hv ap z q ow => ?_
  obtain ⟨s1, s6, s8, s7⟩ := b4 bs s1 s6 s8 s7; have s52 := gv hv 6 rfl rfl; refine wl_value (v := .int .i64 (min (min 1 ((s.length : Nat) : Int)) ((((s.length : Nat) : Int) - (min ((((s.length : Nat) : Int) - (min 1 ((s.length : Nat) : Int))) + 1) (((s.length) + 1 : Nat) : Int))) + 1))) (want0 rfl) (xassign rfl s52) ?_; refine gp3 z q ow s1 s6 s7 fun fa fw z q ow s1 s6 s7 s8 => ?_; refine wt hK12 ?_; refine sq fun hK13 => ?_
  refine ro [yV _, yV _, yV _, yV _, yV _, yV _, yV _, yV _, yV (aggV (vText ((s.take s.length).drop (s.length - min 1 s.length))))] 9 62 z q ow (
    mvS s1 rfl rfl rfl rfl <|
    mvS s7 rfl rfl rfl rfl <|
    aS (fun hk bs hd => xsub (Or.inl rfl) rfl (dp hd 1 rfl) rfl (by omega) (by omega)) rfl <|
    mvS s7 rfl rfl rfl rfl <|
    aS (fun hk bs hd => xsub (Or.inl rfl) rfl (dp hd 3 rfl) rfl (by omega) (by omega)) rfl <|
    mvS s8 rfl rfl rfl rfl <|
    aS (fun hk bs hd => xadd (Or.inl rfl) rfl (dp hd 4 rfl) (dp hd 5 rfl) (by omega) (by omega)) rfl <|
    aS (fun hk bs hd => xslice (u := .string ⟨s.toArray⟩) (l := some (.int .i64 ((s.length - min 1 s.length) : Nat))) (h := some (.int .i64 (s.length : Nat))) (m := none) rfl (dp hd 0 rfl) (congrArg some ((dp hd 2 rfl).trans (congrArg (Value.int .i64) (by omega)))) (congrArg some ((dp hd 6 rfl).trans (congrArg (Value.int .i64) (by omega)))) rfl (run_sliceS Tryz.underlying9 s (s.length - min 1 s.length) s.length (by omega) (by omega))) rfl <|
    aC (fun hk bs hd => xcall1 rfl (dp hd 7 rfl) (en_louvreref14_Text _ _)) (fun hk bs hd => rtext14_any ((s.take s.length).drop (s.length - min 1 s.length)) _ (by rw [List.length_drop, List.length_take]; omega)) rfl <|
    arm0) fun fa fw bs hv ap z q ow => ?_
  have s6 := bg bs s6; have s61 := gv hv 8 rfl rfl; refine ws ow 0 0 s6 s61 fun fw ow => ?_; refine wt hK13 ?_; refine wp_ret ?_; refine rs3 s6 (ow.box 0 rfl) q ?_; exact ⟨congrArg (fun v => Ending.returned (aggV v)) (by rw [List.take_length]; exact right_one s), ow.kept⟩
set_option maxHeartbeats 2000000 in
theorem rright_some (s : List UInt8) (m : Int) (nb no cn : Nat) (w : World) (hn : RowC w (some ⟨nb, no, none⟩) [.int .i64 m]) (l_s : s.length ≤ 300) (r_m : -922337203685478 ≤ m ∧ m ≤ 922337203685478) :
    Calls Tryz.prog 65 #[.int .u8 33, .string ⟨s.toArray⟩, .slice (some ⟨nb, no, none⟩) 1 cn] w fun e w' => e = .returned (aggV (right14 s m)) ∧ Kept w w' := by
  go_enter Tryz.func65, Tryz.ntmps65; refine sq fun hK1 => ?_
  refine ro [yNew w.heap.size (.cells #[.int .u8 0, .int .i64 0, .string ⟨[].toArray⟩] 25 (0, 0))] 1 62 rfl rfl (Own.start w) (
    aP (fun hk bs hd => xalloc rfl (by kernel_rfl)) rfl <|
    arm0) fun fa fw bs hv ap z q ov => ?_
  have s0 := bs.get 0 rfl rfl; have s1 := bs.get 1 rfl rfl; have s2 := bs.get 2 rfl rfl; obtain ⟨gb1, s6, bgb1, hgb1⟩ := gotP hv 0 rfl rfl rfl; have ov := ov.cons hgb1 (Nat.le_trans (Own.start w).kept.size bgb1) ((Own.start w).below bgb1); have ow := ov; refine wt hK1 ?_; refine sq fun hK2 => ?_
  refine ro [yV _, yV _] 2 62 z q ow (
    aS (fun hk bs hd => xassign rfl rfl) rfl <|
    aS (fun hk bs hd => xassign rfl rfl) rfl <|
    arm0) fun fa fw bs hv ap z q ow => ?_
  obtain ⟨s0, s1, s2, s6⟩ := b4 bs s0 s1 s2 s6; have s7 := gv hv 0 rfl rfl; have s8 := gv hv 1 rfl rfl; refine wt hK2 ?_; refine sq fun hK3 => ?_; refine sq fun hK4 => ?_
  refine ro [yV _, yV (.bool false)] 2 62 z q ow (
    mvS s0 rfl rfl rfl rfl <|
    aE (fun hk bs hd => xeqi rfl (dp hd 0 rfl) rfl) (congrArg Value.bool rfl) rfl <|
    arm0) fun fa fw bs hv ap z q ow => ?_
  obtain ⟨s0, s1, s2, s6, s7, s8⟩ := b6 bs s0 s1 s2 s6 s7 s8; have s10 := gv hv 1 rfl rfl; refine wt hK4 ?_; refine wp_cond_false (s10) ?_; refine sq fun hK5 => ?_
  refine ro [yV _, yV _, yV (.bool true)] 3 62 z q ow (
    mvS s2 rfl rfl rfl rfl <|
    aS (fun hk bs hd => xlen Tryz.underlying98 rfl (dp hd 0 rfl)) rfl <|
    aE (fun hk bs hd => xgtr rfl (dp hd 1 rfl) rfl) (congrArg Value.bool rfl) rfl <|
    arm0) fun fa fw bs hv ap z q ow => ?_
  obtain ⟨s0, s1, s2, s6, s7, s8⟩ := b6 bs s0 s1 s2 s6 s7 s8; have s19 := gv hv 2 rfl rfl; refine wt hK5 ?_; refine wp_cond_true (s19) ?_
  refine ro [yV _, yV _, yV _, yV _] 4 62 z q ow (
    mvS s2 rfl rfl rfl rfl <|
    aS (fun hk bs hd => xindexAddr (u := .slice (some ⟨nb, no, none⟩) 1 cn) (z := .int .i64 ((0 : Nat) : Int)) rfl (dp hd 0 rfl) rfl (run_place1 Tryz.underlying98 (by kernel_rfl) (by omega))) rfl <|
    aS (fun hk bs hd => xloadC rfl (by kernel_rfl) (dp hd 1 rfl) ((hn.kept (ow.keep hk).kept).at_ (k := 0) rfl)) rfl <|
    asD 2 rfl rfl rfl rfl rfl rfl <|
    arm0) fun fa fw bs hv ap z q ow => ?_
  obtain ⟨s0, s1, s6, s7⟩ := b4 bs s0 s1 s6 s7; have s8 := gv hv 3 rfl rfl; refine wt hK3 ?_; refine sq fun hK6 => ?_; refine sq fun hK7 => ?_
  refine ro [yV _, yV (.bool false), yV _, yV _, yV _, yV _] 6 62 z q ow (
    mvS s7 rfl rfl rfl rfl <|
    aE (fun hk bs hd => xlss rfl (dp hd 0 rfl) rfl) (congrArg Value.bool rfl) rfl <|
    mvD 1 rfl rfl rfl rfl rfl rfl <|
    armS (wg (j := 2) (b := false) rfl rfl rfl) (fun aa ww hk bs hd => xmove rfl (bg bs s8)) rfl <|
    armS (wg (j := 2) (b := false) rfl rfl rfl) (fun aa ww hk bs hd => xlss rfl (dp hd 3 rfl) rfl) rfl <|
    aS (fun hk bs hd => xpickF rfl (dp hd 2 rfl) (dp hd 4 rfl)) rfl <|
    arm0) fun fa fw bs hv ap z q ow => ?_
  obtain ⟨s0, s1, s6, s7, s8⟩ := b5 bs s0 s1 s6 s7 s8; have s28 := gv hv 5 rfl rfl; refine wt hK7 ?_
  by_cases hc1 : (m : Int) < (0 : Int)
  · refine ct s28 ((decide_eq_true_iff).2 hc1) ?_
    refine sq fun hK8 => ?_
    refine ro [yV (aggV (vFail 2))] 1 62 z q ow (
      aC (fun hk bs hd => xcall1 rfl rfl (en_louvreref05_Fail _ _)) (fun hk bs hd => rfail_any 2 _) rfl <|
      arm0) fun fa fw bs hv ap z q ow => ?_
    obtain ⟨s0, s1, s6, s7, s8⟩ := b5 bs s0 s1 s6 s7 s8; have s29 := gv hv 0 rfl rfl; refine ws ow 0 0 s6 s29 fun fw ow => ?_; refine wt hK8 ?_; refine wp_ret ?_; refine then_r ?_; refine rs3 s6 (ow.box 0 rfl) q ?_; exact ⟨congrArg (fun v => Ending.returned (aggV v)) (right_neg s m (by omega)), ow.kept⟩
  refine cf s28 (decide_eq_true_iff) hc1 ?_; refine wp_skip ?_; refine tn hK6 ?_; refine sq fun hK9 => ?_
  refine ro [yV _, yV _, yV _, yV _] 4 62 z q ow (
    mvS s8 rfl rfl rfl rfl <|
    mvS s1 rfl rfl rfl rfl <|
    aS (fun hk bs hd => xlenS Tryz.underlying9 rfl (dp hd 1 rfl)) rfl <|
    aS (fun hk bs hd => xminI rfl (Or.inl rfl) (dp hd 0 rfl) (dp hd 2 rfl)) rfl <|
    arm0) fun fa fw bs hv ap z q ow => ?_
  obtain ⟨s0, s1, s6, s7, s8⟩ := b5 bs s0 s1 s6 s7 s8; have s33 := gv hv 3 rfl rfl; refine wl_value (v := .int .i64 (min m ((s.length : Nat) : Int))) (want0 rfl) (xassign rfl s33) ?_; refine gp4 z q ow s0 s1 s6 s7 fun fa fw z q ow s0 s1 s6 s7 s8 => ?_; refine wt hK9 ?_; refine sq fun hK10 => ?_; refine sq fun hK11 => ?_
  refine ro [yV _, yV (.bool true)] 2 62 z q ow (
    mvS s0 rfl rfl rfl rfl <|
    aE (fun hk bs hd => xeqi rfl (dp hd 0 rfl) rfl) (congrArg Value.bool rfl) rfl <|
    arm0) fun fa fw bs hv ap z q ow => ?_
  obtain ⟨s1, s6, s7, s8⟩ := b4 bs s1 s6 s7 s8; have s35 := gv hv 1 rfl rfl; refine wt hK11 ?_; refine wp_cond_true (s35) ?_
  refine ro [yV _, yV _, yV _, yV _, yV _, yV _] 6 62 z q ow (
    mvS s1 rfl rfl rfl rfl <|
    aS (fun hk bs hd => xlenS Tryz.underlying9 rfl (dp hd 0 rfl)) rfl <|
    mvS s8 rfl rfl rfl rfl <|
    aS (fun hk bs hd => xsub (Or.inl rfl) rfl (dp hd 1 rfl) (dp hd 2 rfl) (by omega) (by omega)) rfl <|
    aS (fun hk bs hd => xadd (Or.inl rfl) rfl (dp hd 3 rfl) rfl (by omega) (by omega)) rfl <|
    asD 4 rfl rfl rfl rfl rfl rfl <|
    arm0) fun fa fw bs hv ap z q ow => ?_
  obtain ⟨s1, s6, s8⟩ := b3 bs s1 s6 s8; have s7 := gv hv 5 rfl rfl; refine wt hK10 ?_; refine sq fun hK12 => ?_
  refine ro [yV _, yV _, yV _, yV (.int .i64 (((s.length) + 1 : Nat) : Int)), yV _] 5 62 z q ow (
    mvS s7 rfl rfl rfl rfl <|
    mvS s1 rfl rfl rfl rfl <|
    aS (fun hk bs hd => xlenS Tryz.underlying9 rfl (dp hd 1 rfl)) rfl <|
    aS (fun hk bs hd => xadd (Or.inl rfl) rfl (dp hd 2 rfl) rfl (by omega) (by omega)) rfl <|
    aS (fun hk bs hd => xminI rfl (Or.inl rfl) (dp hd 0 rfl) (dp hd 3 rfl)) rfl <|
    arm0) fun fa fw bs hv ap z q ow => ?_
  obtain ⟨s1, s6, s8, s7⟩ := b4 bs s1 s6 s8 s7; have s45 := gv hv 4 rfl rfl; refine wl_value (v := .int .i64 (min ((((s.length : Nat) : Int) - (min m ((s.length : Nat) : Int))) + 1) (((s.length) + 1 : Nat) : Int))) (want0 rfl) (xassign rfl s45) ?_; refine gp3 z q ow s1 s6 s8 fun fa fw z q ow s1 s6 s8 s7 => ?_; refine wt hK12 ?_; refine sq fun hK13 => ?_
  refine ro [yV _, yV _, yV _, yV _, yV _, yV _, yV _] 7 62 z q ow (
    mvS s8 rfl rfl rfl rfl <|
    mvS s1 rfl rfl rfl rfl <|
    aS (fun hk bs hd => xlenS Tryz.underlying9 rfl (dp hd 1 rfl)) rfl <|
    mvS s7 rfl rfl rfl rfl <|
    aS (fun hk bs hd => xsub (Or.inl rfl) rfl (dp hd 2 rfl) (dp hd 3 rfl) (by omega) (by omega)) rfl <|
    aS (fun hk bs hd => xadd (Or.inl rfl) rfl (dp hd 4 rfl) rfl (by omega) (by omega)) rfl <|
    aS (fun hk bs hd => xminI rfl (Or.inl rfl) (dp hd 0 rfl) (dp hd 5 rfl)) rfl <|
    arm0) fun fa fw bs hv ap z q ow => ?_
  obtain ⟨s1, s6, s8, s7⟩ := b4 bs s1 s6 s8 s7; have s52 := gv hv 6 rfl rfl; refine wl_value (v := .int .i64 (min (min m ((s.length : Nat) : Int)) ((((s.length : Nat) : Int) - (min ((((s.length : Nat) : Int) - (min m ((s.length : Nat) : Int))) + 1) (((s.length) + 1 : Nat) : Int))) + 1))) (want0 rfl) (xassign rfl s52) ?_; refine gp3 z q ow s1 s6 s7 fun fa fw z q ow s1 s6 s7 s8 => ?_; refine wt hK13 ?_; refine sq fun hK14 => ?_
  refine ro [yV _, yV _, yV _, yV _, yV _, yV _, yV _, yV _, yV (aggV (vText ((s.take s.length).drop (s.length - min m.toNat s.length))))] 9 62 z q ow (
    mvS s1 rfl rfl rfl rfl <|
    mvS s7 rfl rfl rfl rfl <|
    aS (fun hk bs hd => xsub (Or.inl rfl) rfl (dp hd 1 rfl) rfl (by omega) (by omega)) rfl <|
    mvS s7 rfl rfl rfl rfl <|
    aS (fun hk bs hd => xsub (Or.inl rfl) rfl (dp hd 3 rfl) rfl (by omega) (by omega)) rfl <|
    mvS s8 rfl rfl rfl rfl <|
    aS (fun hk bs hd => xadd (Or.inl rfl) rfl (dp hd 4 rfl) (dp hd 5 rfl) (by omega) (by omega)) rfl <|
    aS (fun hk bs hd => xslice (u := .string ⟨s.toArray⟩) (l := some (.int .i64 ((s.length - min m.toNat s.length) : Nat))) (h := some (.int .i64 (s.length : Nat))) (m := none) rfl (dp hd 0 rfl) (congrArg some ((dp hd 2 rfl).trans (congrArg (Value.int .i64) (by omega)))) (congrArg some ((dp hd 6 rfl).trans (congrArg (Value.int .i64) (by omega)))) rfl (run_sliceS Tryz.underlying9 s (s.length - min m.toNat s.length) s.length (by omega) (by omega))) rfl <|
    aC (fun hk bs hd => xcall1 rfl (dp hd 7 rfl) (en_louvreref14_Text _ _)) (fun hk bs hd => rtext14_any ((s.take s.length).drop (s.length - min m.toNat s.length)) _ (by rw [List.length_drop, List.length_take]; omega)) rfl <|
    arm0) fun fa fw bs hv ap z q ow => ?_
  have s6 := bg bs s6; have s61 := gv hv 8 rfl rfl; refine ws ow 0 0 s6 s61 fun fw ow => ?_; refine wt hK14 ?_; refine wp_ret ?_; refine rs3 s6 (ow.box 0 rfl) q ?_; exact ⟨congrArg (fun v => Ending.returned (aggV v)) (by rw [List.take_length]; exact right_drop s m (by omega)), ow.kept⟩
set_option maxHeartbeats 2000000 in
theorem rmid_any (s : List UInt8) (m k : Int) (nb no cn : Nat) (w : World) (hn : RowC w (some ⟨nb, no, none⟩) [.int .i64 m, .int .i64 k]) (l_s : s.length ≤ 300) (r_m : -922337203685478 ≤ m ∧ m ≤ 922337203685478) (r_k : -922337203685478 ≤ k ∧ k ≤ 922337203685478) :
    Calls Tryz.prog 65 #[.int .u8 34, .string ⟨s.toArray⟩, .slice (some ⟨nb, no, none⟩) 2 cn] w fun e w' => e = .returned (aggV (mid14 s m k)) ∧ Kept w w' := by
  go_enter Tryz.func65, Tryz.ntmps65; refine sq fun hK1 => ?_
  refine ro [yNew w.heap.size (.cells #[.int .u8 0, .int .i64 0, .string ⟨[].toArray⟩] 25 (0, 0))] 1 62 rfl rfl (Own.start w) (
    aP (fun hk bs hd => xalloc rfl (by kernel_rfl)) rfl <|
    arm0) fun fa fw bs hv ap z q ov => ?_
  have s0 := bs.get 0 rfl rfl; have s1 := bs.get 1 rfl rfl; have s2 := bs.get 2 rfl rfl; obtain ⟨gb1, s6, bgb1, hgb1⟩ := gotP hv 0 rfl rfl rfl; have ov := ov.cons hgb1 (Nat.le_trans (Own.start w).kept.size bgb1) ((Own.start w).below bgb1); have ow := ov; refine wt hK1 ?_; refine sq fun hK2 => ?_
  refine ro [yV _, yV _] 2 62 z q ow (
    aS (fun hk bs hd => xassign rfl rfl) rfl <|
    aS (fun hk bs hd => xassign rfl rfl) rfl <|
    arm0) fun fa fw bs hv ap z q ow => ?_
  obtain ⟨s0, s1, s2, s6⟩ := b4 bs s0 s1 s2 s6; have s7 := gv hv 0 rfl rfl; have s8 := gv hv 1 rfl rfl; refine wt hK2 ?_; refine sq fun hK3 => ?_; refine sq fun hK4 => ?_
  refine ro [yV _, yV (.bool true)] 2 62 z q ow (
    mvS s0 rfl rfl rfl rfl <|
    aE (fun hk bs hd => xeqi rfl (dp hd 0 rfl) rfl) (congrArg Value.bool rfl) rfl <|
    arm0) fun fa fw bs hv ap z q ow => ?_
  obtain ⟨s0, s1, s2, s6, s7, s8⟩ := b6 bs s0 s1 s2 s6 s7 s8; have s10 := gv hv 1 rfl rfl; refine wt hK4 ?_; refine wp_cond_true (s10) ?_
  refine ro [yV _, yV _, yV _, yV _, yV _, yV _, yV _, yV _] 8 62 z q ow (
    mvS s2 rfl rfl rfl rfl <|
    aS (fun hk bs hd => xindexAddr (u := .slice (some ⟨nb, no, none⟩) 2 cn) (z := .int .i64 ((0 : Nat) : Int)) rfl (dp hd 0 rfl) rfl (run_place1 Tryz.underlying98 (by kernel_rfl) (by omega))) rfl <|
    aS (fun hk bs hd => xloadC rfl (by kernel_rfl) (dp hd 1 rfl) ((hn.kept (ow.keep hk).kept).at_ (k := 0) rfl)) rfl <|
    mvS s2 rfl rfl rfl rfl <|
    aS (fun hk bs hd => xindexAddr (u := .slice (some ⟨nb, no, none⟩) 2 cn) (z := .int .i64 ((1 : Nat) : Int)) rfl (dp hd 3 rfl) rfl (run_place1 Tryz.underlying98 (by kernel_rfl) (by omega))) rfl <|
    aS (fun hk bs hd => xloadC rfl (by kernel_rfl) (dp hd 4 rfl) ((hn.kept (ow.keep hk).kept).at_ (k := 1) rfl)) rfl <|
    asD 2 rfl rfl rfl rfl rfl rfl <|
    asD 5 rfl rfl rfl rfl rfl rfl <|
    arm0) fun fa fw bs hv ap z q ow => ?_
  obtain ⟨s0, s1, s6⟩ := b3 bs s0 s1 s6; have s7 := gv hv 6 rfl rfl; have s8 := gv hv 7 rfl rfl; refine wt hK3 ?_; refine sq fun hK5 => ?_; refine sq fun hK6 => ?_
  refine ro [yV _, yV _, yV _, yIf (((decide ((m : Int) < (1 : Int))) = false)) (yV (.int .i64 k)), yIf (((decide ((m : Int) < (1 : Int))) = false)) (yV (.bool (decide ((k : Int) < (0 : Int))))), yV _] 6 62 z q ow (
    mvS s7 rfl rfl rfl rfl <|
    aS (fun hk bs hd => xlss rfl (dp hd 0 rfl) rfl) rfl <|
    mvD 1 rfl rfl rfl rfl rfl rfl <|
    arm (fun aa ww hk bs hd => by
      have d2 := dp hd 2 rfl
      by_cases hz : ((decide ((m : Int) < (1 : Int))) = false)
      · exact stepX_same (v := .int .i64 k) (want1 (j := 2) (b := false) rfl (d2.trans (congrArg Value.bool hz))) (xmove rfl (bg bs s8)) ⟨fun _ => rfl, fun c => absurd hz c⟩ rfl
      · exact stepX_skip (wantN (j := 2) (b := false) (b' := true) rfl (d2.trans (congrArg Value.bool (by simpa using hz))) rfl) ⟨fun c => absurd c hz, fun _ => rfl⟩ rfl
      ) <|
    arm (fun aa ww hk bs hd => by
      have d2 := dp hd 2 rfl; have d3 := dI hd 3 rfl
      by_cases hz : ((decide ((m : Int) < (1 : Int))) = false)
      · exact stepX_same (v := .bool (decide ((k : Int) < (0 : Int)))) (want1 (j := 2) (b := false) rfl (d2.trans (congrArg Value.bool hz))) (xlss rfl (d3.1 hz) rfl) ⟨fun _ => rfl, fun c => absurd hz c⟩ rfl
      · exact stepX_skip (wantN (j := 2) (b := false) (b' := true) rfl (d2.trans (congrArg Value.bool (by simpa using hz))) rfl) ⟨fun c => absurd c hz, fun _ => rfl⟩ rfl
      ) <|
    arm (fun aa ww hk bs hd => by
      have d2 := dp hd 2 rfl; have d4 := dI hd 4 rfl; exact stepX_same (v := .bool ((decide ((m : Int) < (1 : Int))) || (decide ((k : Int) < (0 : Int))))) (want0 rfl) (xor_ rfl (d2) rfl (fun hb => d4.1 hb)) rfl rfl
      ) <|
    arm0) fun fa fw bs hv ap z q ow => ?_
  obtain ⟨s0, s1, s6, s7, s8⟩ := b5 bs s0 s1 s6 s7 s8; have s28 := gv hv 5 rfl rfl; refine wt hK6 ?_
  by_cases hc1 : ((m : Int) < (1 : Int)) ∨ ((k : Int) < (0 : Int))
  · refine ct s28 ((bor (decide_eq_true_iff) (decide_eq_true_iff)).2 hc1) ?_
    refine sq fun hK7 => ?_
    refine ro [yV (aggV (vFail 2))] 1 62 z q ow (
      aC (fun hk bs hd => xcall1 rfl rfl (en_louvreref05_Fail _ _)) (fun hk bs hd => rfail_any 2 _) rfl <|
      arm0) fun fa fw bs hv ap z q ow => ?_
    obtain ⟨s0, s1, s6, s7, s8⟩ := b5 bs s0 s1 s6 s7 s8; have s29 := gv hv 0 rfl rfl; refine ws ow 0 0 s6 s29 fun fw ow => ?_; refine wt hK7 ?_; refine wp_ret ?_; refine then_r ?_; refine rs3 s6 (ow.box 0 rfl) q ?_; exact ⟨congrArg (fun v => Ending.returned (aggV v)) (mid_no s m k (by omega)), ow.kept⟩
  refine cf s28 (bor (decide_eq_true_iff) (decide_eq_true_iff)) hc1 ?_; refine wp_skip ?_; refine tn hK5 ?_; refine sq fun hK8 => ?_
  refine ro [yV _, yV _, yV _, yV _] 4 62 z q ow (
    mvS s8 rfl rfl rfl rfl <|
    mvS s1 rfl rfl rfl rfl <|
    aS (fun hk bs hd => xlenS Tryz.underlying9 rfl (dp hd 1 rfl)) rfl <|
    aS (fun hk bs hd => xminI rfl (Or.inl rfl) (dp hd 0 rfl) (dp hd 2 rfl)) rfl <|
    arm0) fun fa fw bs hv ap z q ow => ?_
  obtain ⟨s0, s1, s6, s7, s8⟩ := b5 bs s0 s1 s6 s7 s8; have s33 := gv hv 3 rfl rfl; refine wl_value (v := .int .i64 (min k ((s.length : Nat) : Int))) (want0 rfl) (xassign rfl s33) ?_; refine gp4 z q ow s0 s1 s6 s7 fun fa fw z q ow s0 s1 s6 s7 s8 => ?_; refine wt hK8 ?_; refine sq fun hK9 => ?_; refine sq fun hK10 => ?_
  refine ro [yV _, yV (.bool false)] 2 62 z q ow (
    mvS s0 rfl rfl rfl rfl <|
    aE (fun hk bs hd => xeqi rfl (dp hd 0 rfl) rfl) (congrArg Value.bool rfl) rfl <|
    arm0) fun fa fw bs hv ap z q ow => ?_
  obtain ⟨s1, s6, s7, s8⟩ := b4 bs s1 s6 s7 s8; have s35 := gv hv 1 rfl rfl; refine wt hK10 ?_; refine wp_cond_false (s35) ?_; refine wp_skip ?_; refine tn hK9 ?_; refine sq fun hK11 => ?_
  refine ro [yV _, yV _, yV _, yV (.int .i64 (((s.length) + 1 : Nat) : Int)), yV _] 5 62 z q ow (
    mvS s7 rfl rfl rfl rfl <|
    mvS s1 rfl rfl rfl rfl <|
    aS (fun hk bs hd => xlenS Tryz.underlying9 rfl (dp hd 1 rfl)) rfl <|
    aS (fun hk bs hd => xadd (Or.inl rfl) rfl (dp hd 2 rfl) rfl (by omega) (by omega)) rfl <|
    aS (fun hk bs hd => xminI rfl (Or.inl rfl) (dp hd 0 rfl) (dp hd 3 rfl)) rfl <|
    arm0) fun fa fw bs hv ap z q ow => ?_
  obtain ⟨s1, s6, s7, s8⟩ := b4 bs s1 s6 s7 s8; have s45 := gv hv 4 rfl rfl; refine wl_value (v := .int .i64 (min m (((s.length) + 1 : Nat) : Int))) (want0 rfl) (xassign rfl s45) ?_; refine gp3 z q ow s1 s6 s8 fun fa fw z q ow s1 s6 s8 s7 => ?_; refine wt hK11 ?_; refine sq fun hK12 => ?_
  refine ro [yV _, yV _, yV _, yV _, yV _, yV _, yV _] 7 62 z q ow (
    mvS s8 rfl rfl rfl rfl <|
    mvS s1 rfl rfl rfl rfl <|
    aS (fun hk bs hd => xlenS Tryz.underlying9 rfl (dp hd 1 rfl)) rfl <|
    mvS s7 rfl rfl rfl rfl <|
    aS (fun hk bs hd => xsub (Or.inl rfl) rfl (dp hd 2 rfl) (dp hd 3 rfl) (by omega) (by omega)) rfl <|
    aS (fun hk bs hd => xadd (Or.inl rfl) rfl (dp hd 4 rfl) rfl (by omega) (by omega)) rfl <|
    aS (fun hk bs hd => xminI rfl (Or.inl rfl) (dp hd 0 rfl) (dp hd 5 rfl)) rfl <|
    arm0) fun fa fw bs hv ap z q ow => ?_
  obtain ⟨s1, s6, s8, s7⟩ := b4 bs s1 s6 s8 s7; have s52 := gv hv 6 rfl rfl; refine wl_value (v := .int .i64 (min (min k ((s.length : Nat) : Int)) ((((s.length : Nat) : Int) - (min m (((s.length) + 1 : Nat) : Int))) + 1))) (want0 rfl) (xassign rfl s52) ?_; refine gp3 z q ow s1 s6 s7 fun fa fw z q ow s1 s6 s7 s8 => ?_; refine wt hK12 ?_; refine sq fun hK13 => ?_
  refine ro [yV _, yV _, yV _, yV _, yV _, yV _, yV _, yV _, yV (aggV (vText ((s.take (min (m - 1).toNat s.length + min k.toNat (s.length - min (m - 1).toNat s.length))).drop (min (m - 1).toNat s.length))))] 9 62 z q ow (
    mvS s1 rfl rfl rfl rfl <|
    mvS s7 rfl rfl rfl rfl <|
    aS (fun hk bs hd => xsub (Or.inl rfl) rfl (dp hd 1 rfl) rfl (by omega) (by omega)) rfl <|
    mvS s7 rfl rfl rfl rfl <|
    aS (fun hk bs hd => xsub (Or.inl rfl) rfl (dp hd 3 rfl) rfl (by omega) (by omega)) rfl <|
    mvS s8 rfl rfl rfl rfl <|
    aS (fun hk bs hd => xadd (Or.inl rfl) rfl (dp hd 4 rfl) (dp hd 5 rfl) (by omega) (by omega)) rfl <|
    aS (fun hk bs hd => xslice (u := .string ⟨s.toArray⟩) (l := some (.int .i64 ((min (m - 1).toNat s.length) : Nat))) (h := some (.int .i64 ((min (m - 1).toNat s.length + min k.toNat (s.length - min (m - 1).toNat s.length)) : Nat))) (m := none) rfl (dp hd 0 rfl) (congrArg some ((dp hd 2 rfl).trans (congrArg (Value.int .i64) (by omega)))) (congrArg some ((dp hd 6 rfl).trans (congrArg (Value.int .i64) (by omega)))) rfl (run_sliceS Tryz.underlying9 s (min (m - 1).toNat s.length) (min (m - 1).toNat s.length + min k.toNat (s.length - min (m - 1).toNat s.length)) (by omega) (by omega))) rfl <|
    aC (fun hk bs hd => xcall1 rfl (dp hd 7 rfl) (en_louvreref14_Text _ _)) (fun hk bs hd => rtext14_any ((s.take (min (m - 1).toNat s.length + min k.toNat (s.length - min (m - 1).toNat s.length))).drop (min (m - 1).toNat s.length)) _ (by rw [List.length_drop, List.length_take]; omega)) rfl <|
    arm0) fun fa fw bs hv ap z q ow => ?_
  have s6 := bg bs s6; have s61 := gv hv 8 rfl rfl; refine ws ow 0 0 s6 s61 fun fw ow => ?_; refine wt hK13 ?_; refine wp_ret ?_; refine rs3 s6 (ow.box 0 rfl) q ?_; exact ⟨congrArg (fun v => Ending.returned (aggV v)) (mid_yes s m k (by omega) (by omega)), ow.kept⟩
set_option maxHeartbeats 2000000 in
theorem rlen14 (s : List UInt8) (b off cs : Nat) (B : Option Addr) (cn : Nat) (w : World) (hs : RowC w (some ⟨b, off, none⟩) [.string ⟨s.toArray⟩]) (l_s : s.length ≤ 300) :
    Calls Tryz.prog 66 #[.int .u8 31, .slice (some ⟨b, off, none⟩) 1 cs, .slice B 0 cn] w fun e w' => e = .returned (aggV (vMake (s.length * 10000))) ∧ Kept w w' := by
  go_enter Tryz.func66, Tryz.ntmps66; refine sq fun hK1 => ?_
  refine ro [yNew w.heap.size (.cells #[.int .u8 0, .int .i64 0, .string ⟨[].toArray⟩] 25 (0, 0))] 1 96 rfl rfl (Own.start w) (
    aP (fun hk bs hd => xalloc rfl (by kernel_rfl)) rfl <|
    arm0) fun fa fw bs hv ap z q ov => ?_
  have s0 := bs.get 0 rfl rfl; have s1 := bs.get 1 rfl rfl; have s2 := bs.get 2 rfl rfl; obtain ⟨gb1, s6, bgb1, hgb1⟩ := gotP hv 0 rfl rfl rfl; have ov := ov.cons hgb1 (Nat.le_trans (Own.start w).kept.size bgb1) ((Own.start w).below bgb1); have ow := ov; refine wt hK1 ?_; refine sq fun hK2 => ?_; refine sq fun hK3 => ?_
  refine ro [yV _] 1 96 z q ow (
    mvS s0 rfl rfl rfl rfl <|
    arm0) fun fa fw bs hv ap z q ow => ?_
  obtain ⟨s1, s2, s6⟩ := b3 bs s1 s2 s6; have s10 := gv hv 0 rfl rfl; refine wt hK3 ?_; refine wp_block ?_; refine sq fun hK4 => ?_
  refine ro [yV (.bool true), yV _] 2 96 z q ow (
    aE (fun hk bs hd => xeqi rfl (bg bs s10) rfl) (congrArg Value.bool rfl) rfl <|
    asD 0 rfl rfl rfl rfl rfl rfl <|
    arm0) fun fa fw bs hv ap z q ow => ?_
  obtain ⟨s1, s2, s6, s10⟩ := b4 bs s1 s2 s6 s10; have s11 := gv hv 1 rfl rfl; refine wt hK4 ?_; refine wp_cond_true (s11) ?_; refine sq fun hK5 => ?_
  refine ro [yV _, yV _, yV _, yV _, yV _, yV (aggV (vMake (((s.length : Nat) : Int) * 10000)))] 6 96 z q ow (
    mvS s1 rfl rfl rfl rfl <|
    aS (fun hk bs hd => xindexAddr (u := .slice (some ⟨b, off, none⟩) 1 cs) (z := .int .i64 ((0 : Nat) : Int)) rfl (dp hd 0 rfl) rfl (run_place1 Tryz.underlying88 (by kernel_rfl) (by omega))) rfl <|
    aS (fun hk bs hd => xloadC rfl (by kernel_rfl) (dp hd 1 rfl) ((hs.kept (ow.keep hk).kept).at_ (k := 0) rfl)) rfl <|
    aS (fun hk bs hd => xlenS Tryz.underlying9 rfl (dp hd 2 rfl)) rfl <|
    aS (fun hk bs hd => xmul (Or.inr rfl) rfl (dp hd 3 rfl) rfl (by omega) (by omega)) rfl <|
    aC (fun hk bs hd => xcall1 rfl (dp hd 4 rfl) (en_louvreref05_Make _ _)) (fun hk bs hd => rmake_any (((s.length : Nat) : Int) * 10000) _ (by omega) (by omega)) rfl <|
    arm0) fun fa fw bs hv ap z q ow => ?_
  obtain ⟨s1, s6⟩ := b2 bs s1 s6; have s18 := gv hv 5 rfl rfl; refine ws ow 0 0 s6 s18 fun fw ow => ?_; refine wt hK5 ?_; refine wp_ret ?_; refine block_r ?_; refine then_r ?_; refine rs3 s6 (ow.box 0 rfl) q ?_; exact ⟨rfl, ow.kept⟩
set_option maxHeartbeats 2000000 in
theorem rupper14 (s : List UInt8) (b off cs : Nat) (B : Option Addr) (cn : Nat) (w : World) (hs : RowC w (some ⟨b, off, none⟩) [.string ⟨s.toArray⟩]) (l_s : s.length ≤ 300) :
    Calls Tryz.prog 66 #[.int .u8 35, .slice (some ⟨b, off, none⟩) 1 cs, .slice B 0 cn] w fun e w' => e = .returned (aggV (vText (upper s))) ∧ Kept w w' := by
  go_enter Tryz.func66, Tryz.ntmps66; refine sq fun hK1 => ?_
  refine ro [yNew w.heap.size (.cells #[.int .u8 0, .int .i64 0, .string ⟨[].toArray⟩] 25 (0, 0))] 1 96 rfl rfl (Own.start w) (
    aP (fun hk bs hd => xalloc rfl (by kernel_rfl)) rfl <|
    arm0) fun fa fw bs hv ap z q ov => ?_
  have s0 := bs.get 0 rfl rfl; have s1 := bs.get 1 rfl rfl; have s2 := bs.get 2 rfl rfl; obtain ⟨gb1, s6, bgb1, hgb1⟩ := gotP hv 0 rfl rfl rfl; have ov := ov.cons hgb1 (Nat.le_trans (Own.start w).kept.size bgb1) ((Own.start w).below bgb1); have ow := ov; refine wt hK1 ?_; refine sq fun hK2 => ?_; refine sq fun hK3 => ?_
  refine ro [yV _] 1 96 z q ow (
    mvS s0 rfl rfl rfl rfl <|
    arm0) fun fa fw bs hv ap z q ow => ?_
  obtain ⟨s1, s2, s6⟩ := b3 bs s1 s2 s6; have s10 := gv hv 0 rfl rfl; refine wt hK3 ?_; refine wp_block ?_; refine sq fun hK4 => ?_
  refine ro [yV (.bool false), yV _] 2 96 z q ow (
    aE (fun hk bs hd => xeqi rfl (bg bs s10) rfl) (congrArg Value.bool rfl) rfl <|
    asD 0 rfl rfl rfl rfl rfl rfl <|
    arm0) fun fa fw bs hv ap z q ow => ?_
  obtain ⟨s1, s2, s6, s10⟩ := b4 bs s1 s2 s6 s10; have s11 := gv hv 1 rfl rfl; refine wt hK4 ?_; refine wp_cond_false (s11) ?_; refine sq fun hK5 => ?_
  refine ro [yV (.bool true), yV _] 2 96 z q ow (
    aE (fun hk bs hd => xeqi rfl (bg bs s10) rfl) (congrArg Value.bool rfl) rfl <|
    asD 0 rfl rfl rfl rfl rfl rfl <|
    arm0) fun fa fw bs hv ap z q ow => ?_
  obtain ⟨s1, s2, s6, s10⟩ := b4 bs s1 s2 s6 s10; have s19 := gv hv 1 rfl rfl; refine wt hK5 ?_; refine wp_cond_true (s19) ?_; refine sq fun hK6 => ?_
  refine ro [yV _, yV _, yV _, yV (.string ⟨(upper s).toArray⟩), yV (aggV (vText (upper s)))] 5 96 z q ow (
    mvS s1 rfl rfl rfl rfl <|
    aS (fun hk bs hd => xindexAddr (u := .slice (some ⟨b, off, none⟩) 1 cs) (z := .int .i64 ((0 : Nat) : Int)) rfl (dp hd 0 rfl) rfl (run_place1 Tryz.underlying88 (by kernel_rfl) (by omega))) rfl <|
    aS (fun hk bs hd => xloadC rfl (by kernel_rfl) (dp hd 1 rfl) ((hs.kept (ow.keep hk).kept).at_ (k := 0) rfl)) rfl <|
    aC (fun hk bs hd => xcall1 rfl (dp hd 2 rfl) (en_louvreref04_Upper _ _)) (fun hk bs hd => rupper_any s _ (by omega)) rfl <|
    aC (fun hk bs hd => xcall1 rfl (dp hd 3 rfl) (en_louvreref14_Text _ _)) (fun hk bs hd => rtext14_any (upper s) _ (by rw [upper_length]; omega)) rfl <|
    arm0) fun fa fw bs hv ap z q ow => ?_
  obtain ⟨s1, s6⟩ := b2 bs s1 s6; have s25 := gv hv 4 rfl rfl; refine ws ow 0 0 s6 s25 fun fw ow => ?_; refine wt hK6 ?_; refine wp_ret ?_; refine block_r ?_; refine then_r ?_; refine rs3 s6 (ow.box 0 rfl) q ?_; exact ⟨rfl, ow.kept⟩
set_option maxHeartbeats 2000000 in
theorem rlower14 (s : List UInt8) (b off cs : Nat) (B : Option Addr) (cn : Nat) (w : World) (hs : RowC w (some ⟨b, off, none⟩) [.string ⟨s.toArray⟩]) (l_s : s.length ≤ 300) :
    Calls Tryz.prog 66 #[.int .u8 36, .slice (some ⟨b, off, none⟩) 1 cs, .slice B 0 cn] w fun e w' => e = .returned (aggV (vText (lower s))) ∧ Kept w w' := by
  go_enter Tryz.func66, Tryz.ntmps66; refine sq fun hK1 => ?_
  refine ro [yNew w.heap.size (.cells #[.int .u8 0, .int .i64 0, .string ⟨[].toArray⟩] 25 (0, 0))] 1 96 rfl rfl (Own.start w) (
    aP (fun hk bs hd => xalloc rfl (by kernel_rfl)) rfl <|
    arm0) fun fa fw bs hv ap z q ov => ?_
  have s0 := bs.get 0 rfl rfl; have s1 := bs.get 1 rfl rfl; have s2 := bs.get 2 rfl rfl; obtain ⟨gb1, s6, bgb1, hgb1⟩ := gotP hv 0 rfl rfl rfl; have ov := ov.cons hgb1 (Nat.le_trans (Own.start w).kept.size bgb1) ((Own.start w).below bgb1); have ow := ov; refine wt hK1 ?_; refine sq fun hK2 => ?_; refine sq fun hK3 => ?_
  refine ro [yV _] 1 96 z q ow (
    mvS s0 rfl rfl rfl rfl <|
    arm0) fun fa fw bs hv ap z q ow => ?_
  obtain ⟨s1, s2, s6⟩ := b3 bs s1 s2 s6; have s10 := gv hv 0 rfl rfl; refine wt hK3 ?_; refine wp_block ?_; refine sq fun hK4 => ?_
  refine ro [yV (.bool false), yV _] 2 96 z q ow (
    aE (fun hk bs hd => xeqi rfl (bg bs s10) rfl) (congrArg Value.bool rfl) rfl <|
    asD 0 rfl rfl rfl rfl rfl rfl <|
    arm0) fun fa fw bs hv ap z q ow => ?_
  obtain ⟨s1, s2, s6, s10⟩ := b4 bs s1 s2 s6 s10; have s11 := gv hv 1 rfl rfl; refine wt hK4 ?_; refine wp_cond_false (s11) ?_; refine sq fun hK5 => ?_
  refine ro [yV (.bool false), yV _] 2 96 z q ow (
    aE (fun hk bs hd => xeqi rfl (bg bs s10) rfl) (congrArg Value.bool rfl) rfl <|
    asD 0 rfl rfl rfl rfl rfl rfl <|
    arm0) fun fa fw bs hv ap z q ow => ?_
  obtain ⟨s1, s2, s6, s10⟩ := b4 bs s1 s2 s6 s10; have s19 := gv hv 1 rfl rfl; refine wt hK5 ?_; refine wp_cond_false (s19) ?_; refine sq fun hK6 => ?_
  refine ro [yV (.bool true), yV _] 2 96 z q ow (
    aE (fun hk bs hd => xeqi rfl (bg bs s10) rfl) (congrArg Value.bool rfl) rfl <|
    asD 0 rfl rfl rfl rfl rfl rfl <|
    arm0) fun fa fw bs hv ap z q ow => ?_
  obtain ⟨s1, s2, s6, s10⟩ := b4 bs s1 s2 s6 s10; have s26 := gv hv 1 rfl rfl; refine wt hK6 ?_; refine wp_cond_true (s26) ?_; refine sq fun hK7 => ?_
  refine ro [yV _, yV _, yV _, yV (.string ⟨(lower s).toArray⟩), yV (aggV (vText (lower s)))] 5 96 z q ow (
    mvS s1 rfl rfl rfl rfl <|
    aS (fun hk bs hd => xindexAddr (u := .slice (some ⟨b, off, none⟩) 1 cs) (z := .int .i64 ((0 : Nat) : Int)) rfl (dp hd 0 rfl) rfl (run_place1 Tryz.underlying88 (by kernel_rfl) (by omega))) rfl <|
    aS (fun hk bs hd => xloadC rfl (by kernel_rfl) (dp hd 1 rfl) ((hs.kept (ow.keep hk).kept).at_ (k := 0) rfl)) rfl <|
    aC (fun hk bs hd => xcall1 rfl (dp hd 2 rfl) (en_louvreref04_Lower _ _)) (fun hk bs hd => rlower_any s _ (by omega)) rfl <|
    aC (fun hk bs hd => xcall1 rfl (dp hd 3 rfl) (en_louvreref14_Text _ _)) (fun hk bs hd => rtext14_any (lower s) _ (by rw [lower_length]; omega)) rfl <|
    arm0) fun fa fw bs hv ap z q ow => ?_
  obtain ⟨s1, s6⟩ := b2 bs s1 s6; have s32 := gv hv 4 rfl rfl; refine ws ow 0 0 s6 s32 fun fw ow => ?_; refine wt hK7 ?_; refine wp_ret ?_; refine block_r ?_; refine then_r ?_; refine rs3 s6 (ow.box 0 rfl) q ?_; exact ⟨rfl, ow.kept⟩
set_option maxHeartbeats 2000000 in
theorem rtrim14 (s : List UInt8) (b off cs : Nat) (B : Option Addr) (cn : Nat) (w : World) (hs : RowC w (some ⟨b, off, none⟩) [.string ⟨s.toArray⟩]) (l_s : s.length ≤ 300) :
    Calls Tryz.prog 66 #[.int .u8 37, .slice (some ⟨b, off, none⟩) 1 cs, .slice B 0 cn] w fun e w' => e = .returned (aggV (vText (trim s))) ∧ Kept w w' := by
  go_enter Tryz.func66, Tryz.ntmps66; refine sq fun hK1 => ?_
  refine ro [yNew w.heap.size (.cells #[.int .u8 0, .int .i64 0, .string ⟨[].toArray⟩] 25 (0, 0))] 1 96 rfl rfl (Own.start w) (
    aP (fun hk bs hd => xalloc rfl (by kernel_rfl)) rfl <|
    arm0) fun fa fw bs hv ap z q ov => ?_
  have s0 := bs.get 0 rfl rfl; have s1 := bs.get 1 rfl rfl; have s2 := bs.get 2 rfl rfl; obtain ⟨gb1, s6, bgb1, hgb1⟩ := gotP hv 0 rfl rfl rfl; have ov := ov.cons hgb1 (Nat.le_trans (Own.start w).kept.size bgb1) ((Own.start w).below bgb1); have ow := ov; refine wt hK1 ?_; refine sq fun hK2 => ?_; refine sq fun hK3 => ?_
  refine ro [yV _] 1 96 z q ow (
    mvS s0 rfl rfl rfl rfl <|
    arm0) fun fa fw bs hv ap z q ow => ?_
  obtain ⟨s1, s2, s6⟩ := b3 bs s1 s2 s6; have s10 := gv hv 0 rfl rfl; refine wt hK3 ?_; refine wp_block ?_; refine sq fun hK4 => ?_
  refine ro [yV (.bool false), yV _] 2 96 z q ow (
    aE (fun hk bs hd => xeqi rfl (bg bs s10) rfl) (congrArg Value.bool rfl) rfl <|
    asD 0 rfl rfl rfl rfl rfl rfl <|
    arm0) fun fa fw bs hv ap z q ow => ?_
  obtain ⟨s1, s2, s6, s10⟩ := b4 bs s1 s2 s6 s10; have s11 := gv hv 1 rfl rfl; refine wt hK4 ?_; refine wp_cond_false (s11) ?_; refine sq fun hK5 => ?_
  refine ro [yV (.bool false), yV _] 2 96 z q ow (
    aE (fun hk bs hd => xeqi rfl (bg bs s10) rfl) (congrArg Value.bool rfl) rfl <|
    asD 0 rfl rfl rfl rfl rfl rfl <|
    arm0) fun fa fw bs hv ap z q ow => ?_
  obtain ⟨s1, s2, s6, s10⟩ := b4 bs s1 s2 s6 s10; have s19 := gv hv 1 rfl rfl; refine wt hK5 ?_; refine wp_cond_false (s19) ?_; refine sq fun hK6 => ?_
  refine ro [yV (.bool false), yV _] 2 96 z q ow (
    aE (fun hk bs hd => xeqi rfl (bg bs s10) rfl) (congrArg Value.bool rfl) rfl <|
    asD 0 rfl rfl rfl rfl rfl rfl <|
    arm0) fun fa fw bs hv ap z q ow => ?_
  obtain ⟨s1, s2, s6, s10⟩ := b4 bs s1 s2 s6 s10; have s26 := gv hv 1 rfl rfl; refine wt hK6 ?_; refine wp_cond_false (s26) ?_; refine sq fun hK7 => ?_
  refine ro [yV (.bool true), yV _] 2 96 z q ow (
    aE (fun hk bs hd => xeqi rfl (bg bs s10) rfl) (congrArg Value.bool rfl) rfl <|
    asD 0 rfl rfl rfl rfl rfl rfl <|
    arm0) fun fa fw bs hv ap z q ow => ?_
  obtain ⟨s1, s2, s6, s10⟩ := b4 bs s1 s2 s6 s10; have s33 := gv hv 1 rfl rfl; refine wt hK7 ?_; refine wp_cond_true (s33) ?_; refine sq fun hK8 => ?_
  refine ro [yV _, yV _, yV _, yV (.string ⟨(trim s).toArray⟩), yV (aggV (vText (trim s)))] 5 96 z q ow (
    mvS s1 rfl rfl rfl rfl <|
    aS (fun hk bs hd => xindexAddr (u := .slice (some ⟨b, off, none⟩) 1 cs) (z := .int .i64 ((0 : Nat) : Int)) rfl (dp hd 0 rfl) rfl (run_place1 Tryz.underlying88 (by kernel_rfl) (by omega))) rfl <|
    aS (fun hk bs hd => xloadC rfl (by kernel_rfl) (dp hd 1 rfl) ((hs.kept (ow.keep hk).kept).at_ (k := 0) rfl)) rfl <|
    aC (fun hk bs hd => xcall1 rfl (dp hd 2 rfl) (en_louvreref04_Trim _ _)) (fun hk bs hd => rtrim_any s _ (by omega)) rfl <|
    aC (fun hk bs hd => xcall1 rfl (dp hd 3 rfl) (en_louvreref14_Text _ _)) (fun hk bs hd => rtext14_any (trim s) _ (by have := trim_len s; omega)) rfl <|
    arm0) fun fa fw bs hv ap z q ow => ?_
  obtain ⟨s1, s6⟩ := b2 bs s1 s6; have s39 := gv hv 4 rfl rfl; refine ws ow 0 0 s6 s39 fun fw ow => ?_; refine wt hK8 ?_; refine wp_ret ?_; refine block_r ?_; refine then_r ?_; refine rs3 s6 (ow.box 0 rfl) q ?_; exact ⟨rfl, ow.kept⟩
set_option maxHeartbeats 2000000 in
theorem rrept14 (s : List UInt8) (b off cs : Nat) (m : Int) (nb no cn : Nat) (w : World) (hs : RowC w (some ⟨b, off, none⟩) [.string ⟨s.toArray⟩]) (hn : RowC w (some ⟨nb, no, none⟩) [.int .i64 m]) (l_s : s.length ≤ 300) (r_m : -922337203685478 ≤ m ∧ m ≤ 922337203685478) :
    Calls Tryz.prog 66 #[.int .u8 39, .slice (some ⟨b, off, none⟩) 1 cs, .slice (some ⟨nb, no, none⟩) 1 cn] w fun e w' => e = .returned (aggV (rept14 s m)) ∧ Kept w w' := by
  go_enter Tryz.func66, Tryz.ntmps66; refine sq fun hK1 => ?_
  refine ro [yNew w.heap.size (.cells #[.int .u8 0, .int .i64 0, .string ⟨[].toArray⟩] 25 (0, 0))] 1 96 rfl rfl (Own.start w) (
    aP (fun hk bs hd => xalloc rfl (by kernel_rfl)) rfl <|
    arm0) fun fa fw bs hv ap z q ov => ?_
  have s0 := bs.get 0 rfl rfl; have s1 := bs.get 1 rfl rfl; have s2 := bs.get 2 rfl rfl; obtain ⟨gb1, s6, bgb1, hgb1⟩ := gotP hv 0 rfl rfl rfl; have ov := ov.cons hgb1 (Nat.le_trans (Own.start w).kept.size bgb1) ((Own.start w).below bgb1); have ow := ov; refine wt hK1 ?_; refine sq fun hK2 => ?_; refine sq fun hK3 => ?_
  refine ro [yV _] 1 96 z q ow (
    mvS s0 rfl rfl rfl rfl <|
    arm0) fun fa fw bs hv ap z q ow => ?_
  obtain ⟨s1, s2, s6⟩ := b3 bs s1 s2 s6; have s10 := gv hv 0 rfl rfl; refine wt hK3 ?_; refine wp_block ?_; refine sq fun hK4 => ?_
  refine ro [yV (.bool false), yV _] 2 96 z q ow (
    aE (fun hk bs hd => xeqi rfl (bg bs s10) rfl) (congrArg Value.bool rfl) rfl <|
    asD 0 rfl rfl rfl rfl rfl rfl <|
    arm0) fun fa fw bs hv ap z q ow => ?_
  obtain ⟨s1, s2, s6, s10⟩ := b4 bs s1 s2 s6 s10; have s11 := gv hv 1 rfl rfl; refine wt hK4 ?_; refine wp_cond_false (s11) ?_; refine sq fun hK5 => ?_
  refine ro [yV (.bool false), yV _] 2 96 z q ow (
    aE (fun hk bs hd => xeqi rfl (bg bs s10) rfl) (congrArg Value.bool rfl) rfl <|
    asD 0 rfl rfl rfl rfl rfl rfl <|
    arm0) fun fa fw bs hv ap z q ow => ?_
  obtain ⟨s1, s2, s6, s10⟩ := b4 bs s1 s2 s6 s10; have s19 := gv hv 1 rfl rfl; refine wt hK5 ?_; refine wp_cond_false (s19) ?_; refine sq fun hK6 => ?_
  refine ro [yV (.bool false), yV _] 2 96 z q ow (
    aE (fun hk bs hd => xeqi rfl (bg bs s10) rfl) (congrArg Value.bool rfl) rfl <|
    asD 0 rfl rfl rfl rfl rfl rfl <|
    arm0) fun fa fw bs hv ap z q ow => ?_
  obtain ⟨s1, s2, s6, s10⟩ := b4 bs s1 s2 s6 s10; have s26 := gv hv 1 rfl rfl; refine wt hK6 ?_; refine wp_cond_false (s26) ?_; refine sq fun hK7 => ?_
  refine ro [yV (.bool false), yV _] 2 96 z q ow (
    aE (fun hk bs hd => xeqi rfl (bg bs s10) rfl) (congrArg Value.bool rfl) rfl <|
    asD 0 rfl rfl rfl rfl rfl rfl <|
    arm0) fun fa fw bs hv ap z q ow => ?_
  obtain ⟨s1, s2, s6, s10⟩ := b4 bs s1 s2 s6 s10; have s33 := gv hv 1 rfl rfl; refine wt hK7 ?_; refine wp_cond_false (s33) ?_; refine sq fun hK8 => ?_
  refine ro [yV (.bool false), yV _] 2 96 z q ow (
    aE (fun hk bs hd => xeqi rfl (bg bs s10) rfl) (congrArg Value.bool rfl) rfl <|
    asD 0 rfl rfl rfl rfl rfl rfl <|
    arm0) fun fa fw bs hv ap z q ow => ?_
  obtain ⟨s1, s2, s6, s10⟩ := b4 bs s1 s2 s6 s10; have s40 := gv hv 1 rfl rfl; refine wt hK8 ?_; refine wp_cond_false (s40) ?_; refine sq fun hK9 => ?_
  refine ro [yV (.bool true), yV _] 2 96 z q ow (
    aE (fun hk bs hd => xeqi rfl (bg bs s10) rfl) (congrArg Value.bool rfl) rfl <|
    asD 0 rfl rfl rfl rfl rfl rfl <|
    arm0) fun fa fw bs hv ap z q ow => ?_
  obtain ⟨s1, s2, s6, s10⟩ := b4 bs s1 s2 s6 s10; have s56 := gv hv 1 rfl rfl; refine wt hK9 ?_; refine wp_cond_true (s56) ?_; refine sq fun hK10 => ?_
  refine ro [yV _, yV _, yV _, yV _, yV _, yV _, yV (aggV (rept14 s m))] 7 96 z q ow (
    mvS s1 rfl rfl rfl rfl <|
    aS (fun hk bs hd => xindexAddr (u := .slice (some ⟨b, off, none⟩) 1 cs) (z := .int .i64 ((0 : Nat) : Int)) rfl (dp hd 0 rfl) rfl (run_place1 Tryz.underlying88 (by kernel_rfl) (by omega))) rfl <|
    aS (fun hk bs hd => xloadC rfl (by kernel_rfl) (dp hd 1 rfl) ((hs.kept (ow.keep hk).kept).at_ (k := 0) rfl)) rfl <|
    mvS s2 rfl rfl rfl rfl <|
    aS (fun hk bs hd => xindexAddr (u := .slice (some ⟨nb, no, none⟩) 1 cn) (z := .int .i64 ((0 : Nat) : Int)) rfl (dp hd 3 rfl) rfl (run_place1 Tryz.underlying98 (by kernel_rfl) (by omega))) rfl <|
    aS (fun hk bs hd => xloadC rfl (by kernel_rfl) (dp hd 4 rfl) ((hn.kept (ow.keep hk).kept).at_ (k := 0) rfl)) rfl <|
    aC (fun hk bs hd => xcall2 rfl (dp hd 2 rfl) (dp hd 5 rfl) (en_louvreref14_repeat _ _)) (fun hk bs hd => rrept14_any s m _ (by omega) (by omega)) rfl <|
    arm0) fun fa fw bs hv ap z q ow => ?_
  obtain ⟨s1, s6⟩ := b2 bs s1 s6; have s64 := gv hv 6 rfl rfl; refine ws ow 0 0 s6 s64 fun fw ow => ?_; refine wt hK10 ?_; refine wp_ret ?_; refine block_r ?_; refine then_r ?_; refine rs3 s6 (ow.box 0 rfl) q ?_; exact ⟨rfl, ow.kept⟩
set_option maxHeartbeats 2000000 in
theorem rexact14 (s t : List UInt8) (b off cs : Nat) (B : Option Addr) (cn : Nat) (w : World) (hs : RowC w (some ⟨b, off, none⟩) [.string ⟨s.toArray⟩, .string ⟨t.toArray⟩]) (l_s : s.length ≤ 300) (l_t : t.length ≤ 300) :
    Calls Tryz.prog 66 #[.int .u8 40, .slice (some ⟨b, off, none⟩) 2 cs, .slice B 0 cn] w fun e w' => e = .returned (aggV (vTruth (decide (s = t)))) ∧ Kept w w' := by
  go_enter Tryz.func66, Tryz.ntmps66; refine sq fun hK1 => ?_
  refine ro [yNew w.heap.size (.cells #[.int .u8 0, .int .i64 0, .string ⟨[].toArray⟩] 25 (0, 0))] 1 96 rfl rfl (Own.start w) (
    aP (fun hk bs hd => xalloc rfl (by kernel_rfl)) rfl <|
    arm0) fun fa fw bs hv ap z q ov => ?_
  have s0 := bs.get 0 rfl rfl; have s1 := bs.get 1 rfl rfl; have s2 := bs.get 2 rfl rfl; obtain ⟨gb1, s6, bgb1, hgb1⟩ := gotP hv 0 rfl rfl rfl; have ov := ov.cons hgb1 (Nat.le_trans (Own.start w).kept.size bgb1) ((Own.start w).below bgb1); have ow := ov; refine wt hK1 ?_; refine sq fun hK2 => ?_; refine sq fun hK3 => ?_
  refine ro [yV _] 1 96 z q ow (
    mvS s0 rfl rfl rfl rfl <|
    arm0) fun fa fw bs hv ap z q ow => ?_
  obtain ⟨s1, s2, s6⟩ := b3 bs s1 s2 s6; have s10 := gv hv 0 rfl rfl; refine wt hK3 ?_; refine wp_block ?_; refine sq fun hK4 => ?_
  refine ro [yV (.bool false), yV _] 2 96 z q ow (
    aE (fun hk bs hd => xeqi rfl (bg bs s10) rfl) (congrArg Value.bool rfl) rfl <|
    asD 0 rfl rfl rfl rfl rfl rfl <|
    arm0) fun fa fw bs hv ap z q ow => ?_
  obtain ⟨s1, s2, s6, s10⟩ := b4 bs s1 s2 s6 s10; have s11 := gv hv 1 rfl rfl; refine wt hK4 ?_; refine wp_cond_false (s11) ?_; refine sq fun hK5 => ?_
  refine ro [yV (.bool false), yV _] 2 96 z q ow (
    aE (fun hk bs hd => xeqi rfl (bg bs s10) rfl) (congrArg Value.bool rfl) rfl <|
    asD 0 rfl rfl rfl rfl rfl rfl <|
    arm0) fun fa fw bs hv ap z q ow => ?_
  obtain ⟨s1, s2, s6, s10⟩ := b4 bs s1 s2 s6 s10; have s19 := gv hv 1 rfl rfl; refine wt hK5 ?_; refine wp_cond_false (s19) ?_; refine sq fun hK6 => ?_
  refine ro [yV (.bool false), yV _] 2 96 z q ow (
    aE (fun hk bs hd => xeqi rfl (bg bs s10) rfl) (congrArg Value.bool rfl) rfl <|
    asD 0 rfl rfl rfl rfl rfl rfl <|
    arm0) fun fa fw bs hv ap z q ow => ?_
  obtain ⟨s1, s2, s6, s10⟩ := b4 bs s1 s2 s6 s10; have s26 := gv hv 1 rfl rfl; refine wt hK6 ?_; refine wp_cond_false (s26) ?_; refine sq fun hK7 => ?_
  refine ro [yV (.bool false), yV _] 2 96 z q ow (
    aE (fun hk bs hd => xeqi rfl (bg bs s10) rfl) (congrArg Value.bool rfl) rfl <|
    asD 0 rfl rfl rfl rfl rfl rfl <|
    arm0) fun fa fw bs hv ap z q ow => ?_
  obtain ⟨s1, s2, s6, s10⟩ := b4 bs s1 s2 s6 s10; have s33 := gv hv 1 rfl rfl; refine wt hK7 ?_; refine wp_cond_false (s33) ?_; refine sq fun hK8 => ?_
  refine ro [yV (.bool false), yV _] 2 96 z q ow (
    aE (fun hk bs hd => xeqi rfl (bg bs s10) rfl) (congrArg Value.bool rfl) rfl <|
    asD 0 rfl rfl rfl rfl rfl rfl <|
    arm0) fun fa fw bs hv ap z q ow => ?_
  obtain ⟨s1, s2, s6, s10⟩ := b4 bs s1 s2 s6 s10; have s40 := gv hv 1 rfl rfl; refine wt hK8 ?_; refine wp_cond_false (s40) ?_; refine sq fun hK9 => ?_
  refine ro [yV (.bool false), yV _] 2 96 z q ow (
    aE (fun hk bs hd => xeqi rfl (bg bs s10) rfl) (congrArg Value.bool rfl) rfl <|
    asD 0 rfl rfl rfl rfl rfl rfl <|
    arm0) fun fa fw bs hv ap z q ow => ?_
  obtain ⟨s1, s2, s6, s10⟩ := b4 bs s1 s2 s6 s10; have s56 := gv hv 1 rfl rfl; refine wt hK9 ?_; refine wp_cond_false (s56) ?_; refine sq fun hK10 => ?_
  refine ro [yV (.bool true), yV _] 2 96 z q ow (
    aE (fun hk bs hd => xeqi rfl (bg bs s10) rfl) (congrArg Value.bool rfl) rfl <|
    asD 0 rfl rfl rfl rfl rfl rfl <|
    arm0) fun fa fw bs hv ap z q ow => ?_
  obtain ⟨s1, s2, s6, s10⟩ := b4 bs s1 s2 s6 s10; have s65 := gv hv 1 rfl rfl; refine wt hK10 ?_; refine wp_cond_true (s65) ?_; refine sq fun hK11 => ?_
  refine ro [yV _, yV _, yV _, yV _, yV _, yV _, yV _, yV (aggV (vTruth (decide (s = t))))] 8 96 z q ow (
    mvS s1 rfl rfl rfl rfl <|
    aS (fun hk bs hd => xindexAddr (u := .slice (some ⟨b, off, none⟩) 2 cs) (z := .int .i64 ((0 : Nat) : Int)) rfl (dp hd 0 rfl) rfl (run_place1 Tryz.underlying88 (by kernel_rfl) (by omega))) rfl <|
    aS (fun hk bs hd => xloadC rfl (by kernel_rfl) (dp hd 1 rfl) ((hs.kept (ow.keep hk).kept).at_ (k := 0) rfl)) rfl <|
    mvS s1 rfl rfl rfl rfl <|
    aS (fun hk bs hd => xindexAddr (u := .slice (some ⟨b, off, none⟩) 2 cs) (z := .int .i64 ((1 : Nat) : Int)) rfl (dp hd 3 rfl) rfl (run_place1 Tryz.underlying88 (by kernel_rfl) (by omega))) rfl <|
    aS (fun hk bs hd => xloadC rfl (by kernel_rfl) (dp hd 4 rfl) ((hs.kept (ow.keep hk).kept).at_ (k := 1) rfl)) rfl <|
    aS (fun hk bs hd => xeqS rfl (dp hd 2 rfl) (dp hd 5 rfl)) rfl <|
    aC (fun hk bs hd => xcall1 rfl (dp hd 6 rfl) (en_louvreref05_Truth _ _)) (fun hk bs hd => rtruth_any (decide (s = t)) _) rfl <|
    arm0) fun fa fw bs hv ap z q ow => ?_
  obtain ⟨s1, s6⟩ := b2 bs s1 s6; have s74 := gv hv 7 rfl rfl; refine ws ow 0 0 s6 s74 fun fw ow => ?_; refine wt hK11 ?_; refine wp_ret ?_; refine block_r ?_; refine then_r ?_; refine rs3 s6 (ow.box 0 rfl) q ?_; exact ⟨rfl, ow.kept⟩
set_option maxHeartbeats 2000000 in
theorem rfind14_none (s t : List UInt8) (b off cs : Nat) (B : Option Addr) (cn : Nat) (w : World) (hs : RowC w (some ⟨b, off, none⟩) [.string ⟨s.toArray⟩, .string ⟨t.toArray⟩]) (l_s : s.length ≤ 300) (l_t : t.length ≤ 300) :
    Calls Tryz.prog 66 #[.int .u8 41, .slice (some ⟨b, off, none⟩) 2 cs, .slice B 0 cn] w fun e w' => e = .returned (aggV (find14 s t 1)) ∧ Kept w w' := by
  go_enter Tryz.func66, Tryz.ntmps66; refine sq fun hK1 => ?_
  refine ro [yNew w.heap.size (.cells #[.int .u8 0, .int .i64 0, .string ⟨[].toArray⟩] 25 (0, 0))] 1 96 rfl rfl (Own.start w) (
    aP (fun hk bs hd => xalloc rfl (by kernel_rfl)) rfl <|
    arm0) fun fa fw bs hv ap z q ov => ?_
  have s0 := bs.get 0 rfl rfl; have s1 := bs.get 1 rfl rfl; have s2 := bs.get 2 rfl rfl; obtain ⟨gb1, s6, bgb1, hgb1⟩ := gotP hv 0 rfl rfl rfl; have ov := ov.cons hgb1 (Nat.le_trans (Own.start w).kept.size bgb1) ((Own.start w).below bgb1); have ow := ov; refine wt hK1 ?_; refine sq fun hK2 => ?_; refine sq fun hK3 => ?_
  refine ro [yV _] 1 96 z q ow (
    mvS s0 rfl rfl rfl rfl <|
    arm0) fun fa fw bs hv ap z q ow => ?_
  obtain ⟨s1, s2, s6⟩ := b3 bs s1 s2 s6; have s10 := gv hv 0 rfl rfl; refine wt hK3 ?_; refine wp_block ?_; refine sq fun hK4 => ?_
  refine ro [yV (.bool false), yV _] 2 96 z q ow (
    aE (fun hk bs hd => xeqi rfl (bg bs s10) rfl) (congrArg Value.bool rfl) rfl <|
    asD 0 rfl rfl rfl rfl rfl rfl <|
    arm0) fun fa fw bs hv ap z q ow => ?_
  obtain ⟨s1, s2, s6, s10⟩ := b4 bs s1 s2 s6 s10; have s11 := gv hv 1 rfl rfl; refine wt hK4 ?_; refine wp_cond_false (s11) ?_; refine sq fun hK5 => ?_
  refine ro [yV (.bool false), yV _] 2 96 z q ow (
    aE (fun hk bs hd => xeqi rfl (bg bs s10) rfl) (congrArg Value.bool rfl) rfl <|
    asD 0 rfl rfl rfl rfl rfl rfl <|
    arm0) fun fa fw bs hv ap z q ow => ?_
  obtain ⟨s1, s2, s6, s10⟩ := b4 bs s1 s2 s6 s10; have s19 := gv hv 1 rfl rfl; refine wt hK5 ?_; refine wp_cond_false (s19) ?_; refine sq fun hK6 => ?_
  refine ro [yV (.bool false), yV _] 2 96 z q ow (
    aE (fun hk bs hd => xeqi rfl (bg bs s10) rfl) (congrArg Value.bool rfl) rfl <|
    asD 0 rfl rfl rfl rfl rfl rfl <|
    arm0) fun fa fw bs hv ap z q ow => ?_
  obtain ⟨s1, s2, s6, s10⟩ := b4 bs s1 s2 s6 s10; have s26 := gv hv 1 rfl rfl; refine wt hK6 ?_; refine wp_cond_false (s26) ?_; refine sq fun hK7 => ?_
  refine ro [yV (.bool false), yV _] 2 96 z q ow (
    aE (fun hk bs hd => xeqi rfl (bg bs s10) rfl) (congrArg Value.bool rfl) rfl <|
    asD 0 rfl rfl rfl rfl rfl rfl <|
    arm0) fun fa fw bs hv ap z q ow => ?_
  obtain ⟨s1, s2, s6, s10⟩ := b4 bs s1 s2 s6 s10; have s33 := gv hv 1 rfl rfl; refine wt hK7 ?_; refine wp_cond_false (s33) ?_; refine sq fun hK8 => ?_
  refine ro [yV (.bool false), yV _] 2 96 z q ow (
    aE (fun hk bs hd => xeqi rfl (bg bs s10) rfl) (congrArg Value.bool rfl) rfl <|
    asD 0 rfl rfl rfl rfl rfl rfl <|
    arm0) fun fa fw bs hv ap z q ow => ?_
  obtain ⟨s1, s2, s6, s10⟩ := b4 bs s1 s2 s6 s10; have s40 := gv hv 1 rfl rfl; refine wt hK8 ?_; refine wp_cond_false (s40) ?_; refine sq fun hK9 => ?_
  refine ro [yV (.bool false), yV _] 2 96 z q ow (
    aE (fun hk bs hd => xeqi rfl (bg bs s10) rfl) (congrArg Value.bool rfl) rfl <|
    asD 0 rfl rfl rfl rfl rfl rfl <|
    arm0) fun fa fw bs hv ap z q ow => ?_
  obtain ⟨s1, s2, s6, s10⟩ := b4 bs s1 s2 s6 s10; have s56 := gv hv 1 rfl rfl; refine wt hK9 ?_; refine wp_cond_false (s56) ?_; refine sq fun hK10 => ?_
  refine ro [yV (.bool false), yV _] 2 96 z q ow (
    aE (fun hk bs hd => xeqi rfl (bg bs s10) rfl) (congrArg Value.bool rfl) rfl <|
    asD 0 rfl rfl rfl rfl rfl rfl <|
    arm0) fun fa fw bs hv ap z q ow => ?_
  obtain ⟨s1, s2, s6, s10⟩ := b4 bs s1 s2 s6 s10; have s65 := gv hv 1 rfl rfl; refine wt hK10 ?_; refine wp_cond_false (s65) ?_; refine sq fun hK11 => ?_
  refine ro [yV (.bool true), yV _] 2 96 z q ow (
    aE (fun hk bs hd => xeqi rfl (bg bs s10) rfl) (congrArg Value.bool rfl) rfl <|
    asD 0 rfl rfl rfl rfl rfl rfl <|
    arm0) fun fa fw bs hv ap z q ow => ?_
  obtain ⟨s1, s2, s6⟩ := b3 bs s1 s2 s6; have s75 := gv hv 1 rfl rfl; refine wt hK11 ?_; refine wp_cond_true (s75) ?_; refine sq fun hK12 => ?_
  refine ro [yV _] 1 96 z q ow (
    aS (fun hk bs hd => xassign rfl rfl) rfl <|
    arm0) fun fa fw bs hv ap z q ow => ?_
  obtain ⟨s1, s2, s6⟩ := b3 bs s1 s2 s6; have s9 := gv hv 0 rfl rfl; refine wt hK12 ?_; refine sq fun hK13 => ?_; refine sq fun hK14 => ?_
  refine ro [yV _, yV _, yV (.bool false)] 3 96 z q ow (
    mvS s2 rfl rfl rfl rfl <|
    aS (fun hk bs hd => xlen Tryz.underlying98 rfl (dp hd 0 rfl)) rfl <|
    aE (fun hk bs hd => xgtr rfl (dp hd 1 rfl) rfl) (congrArg Value.bool rfl) rfl <|
    arm0) fun fa fw bs hv ap z q ow => ?_
  obtain ⟨s1, s2, s6, s9⟩ := b4 bs s1 s2 s6 s9; have s79 := gv hv 2 rfl rfl; refine wt hK14 ?_; refine wp_cond_false (s79) ?_; refine wp_skip ?_; refine tn hK13 ?_; refine sq fun hK15 => ?_
  refine ro [yV _, yV _, yV _, yV _, yV _, yV _, yV _, yV (aggV (find14 s t 1))] 8 96 z q ow (
    mvS s1 rfl rfl rfl rfl <|
    aS (fun hk bs hd => xindexAddr (u := .slice (some ⟨b, off, none⟩) 2 cs) (z := .int .i64 ((0 : Nat) : Int)) rfl (dp hd 0 rfl) rfl (run_place1 Tryz.underlying88 (by kernel_rfl) (by omega))) rfl <|
    aS (fun hk bs hd => xloadC rfl (by kernel_rfl) (dp hd 1 rfl) ((hs.kept (ow.keep hk).kept).at_ (k := 0) rfl)) rfl <|
    mvS s1 rfl rfl rfl rfl <|
    aS (fun hk bs hd => xindexAddr (u := .slice (some ⟨b, off, none⟩) 2 cs) (z := .int .i64 ((1 : Nat) : Int)) rfl (dp hd 3 rfl) rfl (run_place1 Tryz.underlying88 (by kernel_rfl) (by omega))) rfl <|
    aS (fun hk bs hd => xloadC rfl (by kernel_rfl) (dp hd 4 rfl) ((hs.kept (ow.keep hk).kept).at_ (k := 1) rfl)) rfl <|
    mvS s9 rfl rfl rfl rfl <|
    aC (fun hk bs hd => xcall3 rfl (dp hd 2 rfl) (dp hd 5 rfl) (dp hd 6 rfl) (en_louvreref14_find _ _)) (fun hk bs hd => rfind14_any s t 1 _ (by omega) (by omega)) rfl <|
    arm0) fun fa fw bs hv ap z q ow => ?_
  obtain ⟨s1, s6⟩ := b2 bs s1 s6; have s90 := gv hv 7 rfl rfl; refine ws ow 0 0 s6 s90 fun fw ow => ?_; refine wt hK15 ?_; refine wp_ret ?_; refine block_r ?_; refine then_r ?_; refine rs3 s6 (ow.box 0 rfl) q ?_; exact ⟨rfl, ow.kept⟩
set_option maxHeartbeats 2000000 in
theorem rfind14_some (s t : List UInt8) (b off cs : Nat) (m : Int) (nb no cn : Nat) (w : World) (hs : RowC w (some ⟨b, off, none⟩) [.string ⟨s.toArray⟩, .string ⟨t.toArray⟩]) (hn : RowC w (some ⟨nb, no, none⟩) [.int .i64 m]) (l_s : s.length ≤ 300) (l_t : t.length ≤ 300) (r_m : -922337203685478 ≤ m ∧ m ≤ 922337203685478) :
    Calls Tryz.prog 66 #[.int .u8 41, .slice (some ⟨b, off, none⟩) 2 cs, .slice (some ⟨nb, no, none⟩) 1 cn] w fun e w' => e = .returned (aggV (find14 s t m)) ∧ Kept w w' := by
  go_enter Tryz.func66, Tryz.ntmps66; refine sq fun hK1 => ?_
  refine ro [yNew w.heap.size (.cells #[.int .u8 0, .int .i64 0, .string ⟨[].toArray⟩] 25 (0, 0))] 1 96 rfl rfl (Own.start w) (
    aP (fun hk bs hd => xalloc rfl (by kernel_rfl)) rfl <|
    arm0) fun fa fw bs hv ap z q ov => ?_
  have s0 := bs.get 0 rfl rfl; have s1 := bs.get 1 rfl rfl; have s2 := bs.get 2 rfl rfl; obtain ⟨gb1, s6, bgb1, hgb1⟩ := gotP hv 0 rfl rfl rfl; have ov := ov.cons hgb1 (Nat.le_trans (Own.start w).kept.size bgb1) ((Own.start w).below bgb1); have ow := ov; refine wt hK1 ?_; refine sq fun hK2 => ?_; refine sq fun hK3 => ?_
  refine ro [yV _] 1 96 z q ow (
    mvS s0 rfl rfl rfl rfl <|
    arm0) fun fa fw bs hv ap z q ow => ?_
  obtain ⟨s1, s2, s6⟩ := b3 bs s1 s2 s6; have s10 := gv hv 0 rfl rfl; refine wt hK3 ?_; refine wp_block ?_; refine sq fun hK4 => ?_
  refine ro [yV (.bool false), yV _] 2 96 z q ow (
    aE (fun hk bs hd => xeqi rfl (bg bs s10) rfl) (congrArg Value.bool rfl) rfl <|
    asD 0 rfl rfl rfl rfl rfl rfl <|
    arm0) fun fa fw bs hv ap z q ow => ?_
  obtain ⟨s1, s2, s6, s10⟩ := b4 bs s1 s2 s6 s10; have s11 := gv hv 1 rfl rfl; refine wt hK4 ?_; refine wp_cond_false (s11) ?_; refine sq fun hK5 => ?_
  refine ro [yV (.bool false), yV _] 2 96 z q ow (
    aE (fun hk bs hd => xeqi rfl (bg bs s10) rfl) (congrArg Value.bool rfl) rfl <|
    asD 0 rfl rfl rfl rfl rfl rfl <|
    arm0) fun fa fw bs hv ap z q ow => ?_
  obtain ⟨s1, s2, s6, s10⟩ := b4 bs s1 s2 s6 s10; have s19 := gv hv 1 rfl rfl; refine wt hK5 ?_; refine wp_cond_false (s19) ?_; refine sq fun hK6 => ?_
  refine ro [yV (.bool false), yV _] 2 96 z q ow (
    aE (fun hk bs hd => xeqi rfl (bg bs s10) rfl) (congrArg Value.bool rfl) rfl <|
    asD 0 rfl rfl rfl rfl rfl rfl <|
    arm0) fun fa fw bs hv ap z q ow => ?_
  obtain ⟨s1, s2, s6, s10⟩ := b4 bs s1 s2 s6 s10; have s26 := gv hv 1 rfl rfl; refine wt hK6 ?_; refine wp_cond_false (s26) ?_; refine sq fun hK7 => ?_
  refine ro [yV (.bool false), yV _] 2 96 z q ow (
    aE (fun hk bs hd => xeqi rfl (bg bs s10) rfl) (congrArg Value.bool rfl) rfl <|
    asD 0 rfl rfl rfl rfl rfl rfl <|
    arm0) fun fa fw bs hv ap z q ow => ?_
  obtain ⟨s1, s2, s6, s10⟩ := b4 bs s1 s2 s6 s10; have s33 := gv hv 1 rfl rfl; refine wt hK7 ?_; refine wp_cond_false (s33) ?_; refine sq fun hK8 => ?_
  refine ro [yV (.bool false), yV _] 2 96 z q ow (
    aE (fun hk bs hd => xeqi rfl (bg bs s10) rfl) (congrArg Value.bool rfl) rfl <|
    asD 0 rfl rfl rfl rfl rfl rfl <|
    arm0) fun fa fw bs hv ap z q ow => ?_
  obtain ⟨s1, s2, s6, s10⟩ := b4 bs s1 s2 s6 s10; have s40 := gv hv 1 rfl rfl; refine wt hK8 ?_; refine wp_cond_false (s40) ?_; refine sq fun hK9 => ?_
  refine ro [yV (.bool false), yV _] 2 96 z q ow (
    aE (fun hk bs hd => xeqi rfl (bg bs s10) rfl) (congrArg Value.bool rfl) rfl <|
    asD 0 rfl rfl rfl rfl rfl rfl <|
    arm0) fun fa fw bs hv ap z q ow => ?_
  obtain ⟨s1, s2, s6, s10⟩ := b4 bs s1 s2 s6 s10; have s56 := gv hv 1 rfl rfl; refine wt hK9 ?_; refine wp_cond_false (s56) ?_; refine sq fun hK10 => ?_
  refine ro [yV (.bool false), yV _] 2 96 z q ow (
    aE (fun hk bs hd => xeqi rfl (bg bs s10) rfl) (congrArg Value.bool rfl) rfl <|
    asD 0 rfl rfl rfl rfl rfl rfl <|
    arm0) fun fa fw bs hv ap z q ow => ?_
  obtain ⟨s1, s2, s6, s10⟩ := b4 bs s1 s2 s6 s10; have s65 := gv hv 1 rfl rfl; refine wt hK10 ?_; refine wp_cond_false (s65) ?_; refine sq fun hK11 => ?_
  refine ro [yV (.bool true), yV _] 2 96 z q ow (
    aE (fun hk bs hd => xeqi rfl (bg bs s10) rfl) (congrArg Value.bool rfl) rfl <|
    asD 0 rfl rfl rfl rfl rfl rfl <|
    arm0) fun fa fw bs hv ap z q ow => ?_
  obtain ⟨s1, s2, s6⟩ := b3 bs s1 s2 s6; have s75 := gv hv 1 rfl rfl; refine wt hK11 ?_; refine wp_cond_true (s75) ?_; refine sq fun hK12 => ?_
  refine ro [yV _] 1 96 z q ow (
    aS (fun hk bs hd => xassign rfl rfl) rfl <|
    arm0) fun fa fw bs hv ap z q ow => ?_
  obtain ⟨s1, s2, s6⟩ := b3 bs s1 s2 s6; have s9 := gv hv 0 rfl rfl; refine wt hK12 ?_; refine sq fun hK13 => ?_; refine sq fun hK14 => ?_
  refine ro [yV _, yV _, yV (.bool true)] 3 96 z q ow (
    mvS s2 rfl rfl rfl rfl <|
    aS (fun hk bs hd => xlen Tryz.underlying98 rfl (dp hd 0 rfl)) rfl <|
    aE (fun hk bs hd => xgtr rfl (dp hd 1 rfl) rfl) (congrArg Value.bool rfl) rfl <|
    arm0) fun fa fw bs hv ap z q ow => ?_
  obtain ⟨s1, s2, s6, s9⟩ := b4 bs s1 s2 s6 s9; have s79 := gv hv 2 rfl rfl; refine wt hK14 ?_; refine wp_cond_true (s79) ?_
  refine ro [yV _, yV _, yV _, yV _] 4 96 z q ow (
    mvS s2 rfl rfl rfl rfl <|
    aS (fun hk bs hd => xindexAddr (u := .slice (some ⟨nb, no, none⟩) 1 cn) (z := .int .i64 ((0 : Nat) : Int)) rfl (dp hd 0 rfl) rfl (run_place1 Tryz.underlying98 (by kernel_rfl) (by omega))) rfl <|
    aS (fun hk bs hd => xloadC rfl (by kernel_rfl) (dp hd 1 rfl) ((hn.kept (ow.keep hk).kept).at_ (k := 0) rfl)) rfl <|
    asD 2 rfl rfl rfl rfl rfl rfl <|
    arm0) fun fa fw bs hv ap z q ow => ?_
  obtain ⟨s1, s6⟩ := b2 bs s1 s6; have s9 := gv hv 3 rfl rfl; refine wt hK13 ?_; refine sq fun hK15 => ?_
  refine ro [yV _, yV _, yV _, yV _, yV _, yV _, yV _, yV (aggV (find14 s t m))] 8 96 z q ow (
    mvS s1 rfl rfl rfl rfl <|
    aS (fun hk bs hd => xindexAddr (u := .slice (some ⟨b, off, none⟩) 2 cs) (z := .int .i64 ((0 : Nat) : Int)) rfl (dp hd 0 rfl) rfl (run_place1 Tryz.underlying88 (by kernel_rfl) (by omega))) rfl <|
    aS (fun hk bs hd => xloadC rfl (by kernel_rfl) (dp hd 1 rfl) ((hs.kept (ow.keep hk).kept).at_ (k := 0) rfl)) rfl <|
    mvS s1 rfl rfl rfl rfl <|
    aS (fun hk bs hd => xindexAddr (u := .slice (some ⟨b, off, none⟩) 2 cs) (z := .int .i64 ((1 : Nat) : Int)) rfl (dp hd 3 rfl) rfl (run_place1 Tryz.underlying88 (by kernel_rfl) (by omega))) rfl <|
    aS (fun hk bs hd => xloadC rfl (by kernel_rfl) (dp hd 4 rfl) ((hs.kept (ow.keep hk).kept).at_ (k := 1) rfl)) rfl <|
    mvS s9 rfl rfl rfl rfl <|
    aC (fun hk bs hd => xcall3 rfl (dp hd 2 rfl) (dp hd 5 rfl) (dp hd 6 rfl) (en_louvreref14_find _ _)) (fun hk bs hd => rfind14_any s t m _ (by omega) (by omega)) rfl <|
    arm0) fun fa fw bs hv ap z q ow => ?_
  obtain ⟨s1, s6⟩ := b2 bs s1 s6; have s90 := gv hv 7 rfl rfl; refine ws ow 0 0 s6 s90 fun fw ow => ?_; refine wt hK15 ?_; refine wp_ret ?_; refine block_r ?_; refine then_r ?_; refine rs3 s6 (ow.box 0 rfl) q ?_; exact ⟨rfl, ow.kept⟩
set_option maxHeartbeats 2000000 in
theorem rvalue14 (s : List UInt8) (b off cs : Nat) (B : Option Addr) (cn : Nat) (w : World) (hs : RowC w (some ⟨b, off, none⟩) [.string ⟨s.toArray⟩]) (l_s : s.length ≤ 300) :
    Calls Tryz.prog 66 #[.int .u8 42, .slice (some ⟨b, off, none⟩) 1 cs, .slice B 0 cn] w fun e w' => e = .returned (aggV (vNum ⟨3, 0, s⟩)) ∧ Kept w w' := by
  go_enter Tryz.func66, Tryz.ntmps66; refine sq fun hK1 => ?_
  refine ro [yNew w.heap.size (.cells #[.int .u8 0, .int .i64 0, .string ⟨[].toArray⟩] 25 (0, 0))] 1 96 rfl rfl (Own.start w) (
    aP (fun hk bs hd => xalloc rfl (by kernel_rfl)) rfl <|
    arm0) fun fa fw bs hv ap z q ov => ?_
  have s0 := bs.get 0 rfl rfl; have s1 := bs.get 1 rfl rfl; have s2 := bs.get 2 rfl rfl; obtain ⟨gb1, s6, bgb1, hgb1⟩ := gotP hv 0 rfl rfl rfl; have ov := ov.cons hgb1 (Nat.le_trans (Own.start w).kept.size bgb1) ((Own.start w).below bgb1); have ow := ov; refine wt hK1 ?_; refine sq fun hK2 => ?_; refine sq fun hK3 => ?_
  refine ro [yV _] 1 96 z q ow (
    mvS s0 rfl rfl rfl rfl <|
    arm0) fun fa fw bs hv ap z q ow => ?_
  obtain ⟨s1, s2, s6⟩ := b3 bs s1 s2 s6; have s10 := gv hv 0 rfl rfl; refine wt hK3 ?_; refine wp_block ?_; refine sq fun hK4 => ?_
  refine ro [yV (.bool false), yV _] 2 96 z q ow (
    aE (fun hk bs hd => xeqi rfl (bg bs s10) rfl) (congrArg Value.bool rfl) rfl <|
    asD 0 rfl rfl rfl rfl rfl rfl <|
    arm0) fun fa fw bs hv ap z q ow => ?_
  obtain ⟨s1, s2, s6, s10⟩ := b4 bs s1 s2 s6 s10; have s11 := gv hv 1 rfl rfl; refine wt hK4 ?_; refine wp_cond_false (s11) ?_; refine sq fun hK5 => ?_
  refine ro [yV (.bool false), yV _] 2 96 z q ow (
    aE (fun hk bs hd => xeqi rfl (bg bs s10) rfl) (congrArg Value.bool rfl) rfl <|
    asD 0 rfl rfl rfl rfl rfl rfl <|
    arm0) fun fa fw bs hv ap z q ow => ?_
  obtain ⟨s1, s2, s6, s10⟩ := b4 bs s1 s2 s6 s10; have s19 := gv hv 1 rfl rfl; refine wt hK5 ?_; refine wp_cond_false (s19) ?_; refine sq fun hK6 => ?_
  refine ro [yV (.bool false), yV _] 2 96 z q ow (
    aE (fun hk bs hd => xeqi rfl (bg bs s10) rfl) (congrArg Value.bool rfl) rfl <|
    asD 0 rfl rfl rfl rfl rfl rfl <|
    arm0) fun fa fw bs hv ap z q ow => ?_
  obtain ⟨s1, s2, s6, s10⟩ := b4 bs s1 s2 s6 s10; have s26 := gv hv 1 rfl rfl; refine wt hK6 ?_; refine wp_cond_false (s26) ?_; refine sq fun hK7 => ?_
  refine ro [yV (.bool false), yV _] 2 96 z q ow (
    aE (fun hk bs hd => xeqi rfl (bg bs s10) rfl) (congrArg Value.bool rfl) rfl <|
    asD 0 rfl rfl rfl rfl rfl rfl <|
    arm0) fun fa fw bs hv ap z q ow => ?_
  obtain ⟨s1, s2, s6, s10⟩ := b4 bs s1 s2 s6 s10; have s33 := gv hv 1 rfl rfl; refine wt hK7 ?_; refine wp_cond_false (s33) ?_; refine sq fun hK8 => ?_
  refine ro [yV (.bool false), yV _] 2 96 z q ow (
    aE (fun hk bs hd => xeqi rfl (bg bs s10) rfl) (congrArg Value.bool rfl) rfl <|
    asD 0 rfl rfl rfl rfl rfl rfl <|
    arm0) fun fa fw bs hv ap z q ow => ?_
  obtain ⟨s1, s2, s6, s10⟩ := b4 bs s1 s2 s6 s10; have s40 := gv hv 1 rfl rfl; refine wt hK8 ?_; refine wp_cond_false (s40) ?_; refine sq fun hK9 => ?_
  refine ro [yV (.bool false), yV _] 2 96 z q ow (
    aE (fun hk bs hd => xeqi rfl (bg bs s10) rfl) (congrArg Value.bool rfl) rfl <|
    asD 0 rfl rfl rfl rfl rfl rfl <|
    arm0) fun fa fw bs hv ap z q ow => ?_
  obtain ⟨s1, s2, s6, s10⟩ := b4 bs s1 s2 s6 s10; have s56 := gv hv 1 rfl rfl; refine wt hK9 ?_; refine wp_cond_false (s56) ?_; refine sq fun hK10 => ?_
  refine ro [yV (.bool false), yV _] 2 96 z q ow (
    aE (fun hk bs hd => xeqi rfl (bg bs s10) rfl) (congrArg Value.bool rfl) rfl <|
    asD 0 rfl rfl rfl rfl rfl rfl <|
    arm0) fun fa fw bs hv ap z q ow => ?_
  obtain ⟨s1, s2, s6, s10⟩ := b4 bs s1 s2 s6 s10; have s65 := gv hv 1 rfl rfl; refine wt hK10 ?_; refine wp_cond_false (s65) ?_; refine sq fun hK11 => ?_
  refine ro [yV (.bool false), yV _] 2 96 z q ow (
    aE (fun hk bs hd => xeqi rfl (bg bs s10) rfl) (congrArg Value.bool rfl) rfl <|
    asD 0 rfl rfl rfl rfl rfl rfl <|
    arm0) fun fa fw bs hv ap z q ow => ?_
  obtain ⟨s1, s2, s6⟩ := b3 bs s1 s2 s6; have s75 := gv hv 1 rfl rfl; refine wt hK11 ?_; refine wp_cond_false (s75) ?_; refine wp_skip ?_; refine block_n ?_; refine tn hK2 ?_; refine sq fun hK12 => ?_
  refine ro [yV _, yV _, yV _, yV (aggV (⟨3, 0, s⟩ : Vl)), yV (aggV (vNum (⟨3, 0, s⟩ : Vl)))] 5 96 z q ow (
    mvS s1 rfl rfl rfl rfl <|
    aS (fun hk bs hd => xindexAddr (u := .slice (some ⟨b, off, none⟩) 1 cs) (z := .int .i64 ((0 : Nat) : Int)) rfl (dp hd 0 rfl) rfl (run_place1 Tryz.underlying88 (by kernel_rfl) (by omega))) rfl <|
    aS (fun hk bs hd => xloadC rfl (by kernel_rfl) (dp hd 1 rfl) ((hs.kept (ow.keep hk).kept).at_ (k := 0) rfl)) rfl <|
    arm (fun aa ww hk bs hd => by
      have d2 : aa.eval (.tmp 93) = .string ⟨s.toArray⟩ := depX hd 2 rfl; exact stepX_same (v := aggV (⟨3, 0, s⟩ : Vl)) (want0 rfl) (xbuild (us := #[(0, .int .u8 3), (2, .string ⟨s.toArray⟩)]) rfl (by simp only [List.map_toArray, List.map_cons, List.map_nil, d2]; rfl) (by kernel_rfl)) rfl rfl
      ) <|
    aC (fun hk bs hd => xcall1 rfl (dp hd 3 rfl) (en_louvreref05_ToNumber _ _)) (fun hk bs hd => rtonum_any (⟨3, 0, s⟩ : Vl) _ ⟨by simp only; omega, by simp only; omega⟩ (by simp only; omega)) rfl <|
    arm0) fun fa fw bs hv ap z q ow => ?_
  have s6 := bg bs s6; have s95 := gv hv 4 rfl rfl; refine ws ow 0 0 s6 s95 fun fw ow => ?_; refine wt hK12 ?_; refine wp_ret ?_; refine rs3 s6 (ow.box 0 rfl) q ?_; exact ⟨rfl, ow.kept⟩
set_option maxHeartbeats 4000000 in
theorem rconcat14 (s : List (List UInt8)) (b off cs : Nat) (B : Option Addr) (cn : Nat) (w : World) (hs : RowC w (some ⟨b, off, none⟩) (s.map strV)) (hsz : s.length ≤ 100) (hl : ∀ t ∈ s, t.length ≤ 300) :
    Calls Tryz.prog 66 #[.int .u8 38, .slice (some ⟨b, off, none⟩) s.length cs, .slice B 0 cn] w fun e w' => e = .returned (aggV (vText s.flatten)) ∧ Kept w w' := by
  go_enter Tryz.func66, Tryz.ntmps66; refine sq fun hK1 => ?_
  refine ro [yNew w.heap.size (.cells #[.int .u8 0, .int .i64 0, .string ⟨[].toArray⟩] 25 (0, 0))] 1 96 rfl rfl (Own.start w) (
    aP (fun hk bs hd => xalloc rfl (by kernel_rfl)) rfl <|
    arm0) fun fa fw bs hv ap z q ov => ?_
  have s0 := bs.get 0 rfl rfl; have s1 := bs.get 1 rfl rfl; have s2 := bs.get 2 rfl rfl; obtain ⟨gb1, s6, bgb1, hgb1⟩ := gotP hv 0 rfl rfl rfl; have ov := ov.cons hgb1 (Nat.le_trans (Own.start w).kept.size bgb1) ((Own.start w).below bgb1); have ow := ov; refine wt hK1 ?_; refine sq fun hK2 => ?_; refine sq fun hK3 => ?_
  refine ro [yV _] 1 96 z q ow (
    mvS s0 rfl rfl rfl rfl <|
    arm0) fun fa fw bs hv ap z q ow => ?_
  obtain ⟨s1, s2, s6⟩ := b3 bs s1 s2 s6; have s10 := gv hv 0 rfl rfl; refine wt hK3 ?_; refine wp_block ?_; refine sq fun hK4 => ?_
  refine ro [yV (.bool false), yV _] 2 96 z q ow (
    aE (fun hk bs hd => xeqi rfl (bg bs s10) rfl) (congrArg Value.bool rfl) rfl <|
    asD 0 rfl rfl rfl rfl rfl rfl <|
    arm0) fun fa fw bs hv ap z q ow => ?_
  obtain ⟨s1, s2, s6, s10⟩ := b4 bs s1 s2 s6 s10; have s11 := gv hv 1 rfl rfl; refine wt hK4 ?_; refine wp_cond_false (s11) ?_; refine sq fun hK5 => ?_
  refine ro [yV (.bool false), yV _] 2 96 z q ow (
    aE (fun hk bs hd => xeqi rfl (bg bs s10) rfl) (congrArg Value.bool rfl) rfl <|
    asD 0 rfl rfl rfl rfl rfl rfl <|
    arm0) fun fa fw bs hv ap z q ow => ?_
  obtain ⟨s1, s2, s6, s10⟩ := b4 bs s1 s2 s6 s10; have s19 := gv hv 1 rfl rfl; refine wt hK5 ?_; refine wp_cond_false (s19) ?_; refine sq fun hK6 => ?_
  refine ro [yV (.bool false), yV _] 2 96 z q ow (
    aE (fun hk bs hd => xeqi rfl (bg bs s10) rfl) (congrArg Value.bool rfl) rfl <|
    asD 0 rfl rfl rfl rfl rfl rfl <|
    arm0) fun fa fw bs hv ap z q ow => ?_
  obtain ⟨s1, s2, s6, s10⟩ := b4 bs s1 s2 s6 s10; have s26 := gv hv 1 rfl rfl; refine wt hK6 ?_; refine wp_cond_false (s26) ?_; refine sq fun hK7 => ?_
  refine ro [yV (.bool false), yV _] 2 96 z q ow (
    aE (fun hk bs hd => xeqi rfl (bg bs s10) rfl) (congrArg Value.bool rfl) rfl <|
    asD 0 rfl rfl rfl rfl rfl rfl <|
    arm0) fun fa fw bs hv ap z q ow => ?_
  obtain ⟨s1, s2, s6, s10⟩ := b4 bs s1 s2 s6 s10; have s33 := gv hv 1 rfl rfl; refine wt hK7 ?_; refine wp_cond_false (s33) ?_; refine sq fun hK8 => ?_
  refine ro [yV (.bool true), yV _] 2 96 z q ow (
    aE (fun hk bs hd => xeqi rfl (bg bs s10) rfl) (congrArg Value.bool rfl) rfl <|
    asD 0 rfl rfl rfl rfl rfl rfl <|
    arm0) fun fa fw bs hv ap z q ow => ?_
  obtain ⟨s1, s2, s6, s10⟩ := b4 bs s1 s2 s6 s10; have s40 := gv hv 1 rfl rfl; refine wt hK8 ?_; refine wp_cond_true (s40) ?_; refine sq fun hK9 => ?_
  refine ro [yV _] 1 96 z q ow (
    aS (fun hk bs hd => xassign rfl rfl) rfl <|
    arm0) fun fa fw bs hv ap z q ow => ?_
  obtain ⟨s1, s6⟩ := b2 bs s1 s6; have s7 := gv hv 0 rfl rfl; refine wt hK9 ?_; refine sq fun hK10 => ?_; refine sq fun hK11 => ?_
  refine ro [yV _] 1 96 z q ow (
    aS (fun hk bs hd => xassign rfl rfl) rfl <|
    arm0) fun fa fw bs hv ap z q ow => ?_
  obtain ⟨s1, s6, s7⟩ := b3 bs s1 s6 s7; have s8 := gv hv 0 rfl rfl; refine wt hK11 ?_; refine wp_block ?_; refine wp_loop_g (fun (k : Nat) fr u => (k ≤ s.length) ∧ fr.tmps.size = 96 ∧ fr.defers = [] ∧ Own w [Th.obj gb1 (.cells #[.int .u8 0, .int .i64 0, .string ⟨[].toArray⟩] 25 (0, 0))] u ∧ fr.eval (.tmp 1) = .slice (some ⟨b, off, none⟩) s.length cs ∧ fr.eval (.tmp 6) = .pointer (some ⟨gb1, 0, none⟩) ∧ fr.eval (.tmp 7) = .string ⟨((s.take k).flatten).toArray⟩ ∧ fr.eval (.tmp 8) = .int .i64 (k : Int)) (fun k => s.length - k) 0 ⟨(Nat.zero_le _), z, q, ow, s1, s6, s7, s8⟩ (fun k b_ u_ hI => ?_)
  revert b_ u_; intro fa fw hI
  obtain ⟨hks, z, q, ow, s1, s6, s7, s8⟩ := hI; refine sq fun hK12 => ?_; refine sq fun hK13 => ?_
  refine ro [yV _, yV _, yV _, yV _] 4 96 z q ow (
    mvS s8 rfl rfl rfl rfl <|
    mvS s1 rfl rfl rfl rfl <|
    aS (fun hk bs hd => xlen Tryz.underlying88 rfl (dp hd 1 rfl)) rfl <|
    aS (fun hk bs hd => xlss rfl (dp hd 0 rfl) (dp hd 2 rfl)) rfl <|
    arm0) fun fa fw bs hv ap z q ow => ?_
  obtain ⟨s1, s6, s7, s8⟩ := b4 bs s1 s6 s7 s8; have s45 := gv hv 3 rfl rfl; refine wt hK13 ?_
  by_cases hc1 : (k : Int) < ((s.length : Nat) : Int)
  · refine ct s45 ((decide_eq_true_iff).2 hc1) ?_
    refine wp_skip ?_; refine tn hK12 ?_; refine sq fun hK14 => ?_; refine wp_block ?_; have hlt : k < s.length := by omega
    have hfl := flat_take s hl k
    refine ro [yV _, yV _, yV _, yV _, yV _, yV _] 6 96 z q ow (
      mvS s7 rfl rfl rfl rfl <|
      mvS s1 rfl rfl rfl rfl <|
      mvS s8 rfl rfl rfl rfl <|
      aS (fun hk bs hd => xindexAddr (u := .slice (some ⟨b, off, none⟩) s.length cs) (z := .int .i64 ((k : Nat) : Int)) rfl (dp hd 1 rfl) (dp hd 2 rfl) (run_place1 Tryz.underlying88 (by kernel_rfl) hlt)) rfl <|
      aS (fun hk bs hd => xloadC rfl (by kernel_rfl) (dp hd 3 rfl) ((hs.kept (ow.keep hk).kept).at_ (k := k) (strs_at hlt))) rfl <|
      aS (fun hk bs hd => xcatS rfl (dp hd 0 rfl) (dp hd 4 rfl) (by have h1 := getD_le hl hlt; have h2 := Nat.mul_le_mul hsz (Nat.le_refl 300); have h3 := Nat.mul_le_mul (Nat.le_of_lt hlt) (Nat.le_refl 300); omega)) rfl <|
      arm0) fun fa fw bs hv ap z q ow => ?_
    obtain ⟨s1, s6, s7, s8⟩ := b4 bs s1 s6 s7 s8; have s53 := gv hv 5 rfl rfl; refine wl_value (v := .string ⟨(((s.take k).flatten) ++ (s.getD k [])).toArray⟩) (want0 rfl) (xassign rfl s53) ?_; refine gp3 z q ow s1 s6 s8 fun fa fw z q ow s1 s6 s8 s7 => ?_; refine wl_end ?_; refine block_n ?_; refine tn hK14 ?_
    refine ro [yV _, yV (.int .i64 ((k + 1 : Nat) : Int))] 2 96 z q ow (
      mvS s8 rfl rfl rfl rfl <|
      aS (fun hk bs hd => xadd (Or.inl rfl) rfl (dp hd 0 rfl) rfl (by omega) (by omega)) rfl <|
      arm0) fun fa fw bs hv ap z q ow => ?_
    obtain ⟨s1, s6, s8, s7⟩ := b4 bs s1 s6 s8 s7; have s47 := gv hv 1 rfl rfl; refine wl_value (v := .int .i64 ((k + 1 : Nat) : Int)) (want0 rfl) (xassign rfl s47) ?_; refine gp3 z q ow s1 s6 s7 fun fa fw z q ow s1 s6 s7 s8 => ?_; refine wl_end ?_; exact then_n ⟨(k + 1), ⟨hlt, z, q, ow, s1, s6, (s7.trans (by rw [flat_take_next hlt])), s8⟩, (show s.length - (k + 1) < s.length - k by omega)⟩
  refine cf s45 (decide_eq_true_iff) hc1 ?_; refine wp_exit ?_; refine then_e ?_; refine then_e ?_; refine block_hit ?_; refine tn hK10 ?_; refine sq fun hK15 => ?_
  refine ro [yV _, yV (aggV (vText ((s.take k).flatten)))] 2 96 z q ow (
    mvS s7 rfl rfl rfl rfl <|
    aC (fun hk bs hd => xcall1 rfl (dp hd 0 rfl) (en_louvreref14_Text _ _)) (fun hk bs hd => rtext14_any ((s.take k).flatten) _ (by have h1 := flat_take s hl k; have h2 := Nat.mul_le_mul hsz (Nat.le_refl 300); have h3 := Nat.mul_le_mul hks (Nat.le_refl 300); omega)) rfl <|
    arm0) fun fa fw bs hv ap z q ow => ?_
  obtain ⟨s1, s6⟩ := b2 bs s1 s6; have s55 := gv hv 1 rfl rfl; refine ws ow 0 0 s6 s55 fun fw ow => ?_; refine wt hK15 ?_; refine wp_ret ?_; refine block_r ?_; refine then_r ?_; refine rs3 s6 (ow.box 0 rfl) q ?_; exact ⟨congrArg (fun v => Ending.returned (aggV v)) (show vText (s.take k).flatten = vText s.flatten by rw [show k = s.length by omega, List.take_length]), ow.kept⟩
end Go.Proofs.YtbpkfnoenkoabaaGreatDoor
