/- Layer 16: an argument as an area; is it valid? (printed by wip/mkagg3.py) -/
import Derived.Test.YtbkjdcpfkepheaaGreatDoorUGAgg2
namespace Go.Proofs.YtbkjdcpfkepheaaGreatDoor
set_option linter.unusedVariables false
set_option linter.unusedSimpArgs false
open Go.RowKit Lv
set_option maxRecDepth 100000
theorem Own.only {w0 w : World} {H : List Th} (h : Own w0 H w) (k : Nat) {t : Th} (e : H[k]? = some t) : Own w0 [t] w := by
  have hm := List.mem_of_getElem? e; exact ⟨h.kept, fun s hs => by rw [List.mem_singleton.1 hs]; exact h.has t hm, fun s hs => by rw [List.mem_singleton.1 hs]; exact h.old t hm, List.pairwise_singleton _ _⟩
theorem Own.both {w0 w w' : World} {H T : List Th} (h : Own w0 H w) (t : Own w T w') : Own w0 (H ++ T) w' := by
  have h' := h.keep t.kept; refine ⟨h'.kept, fun s hs => (List.mem_append.1 hs).elim (h'.has s) (t.has s), fun s hs => (List.mem_append.1 hs).elim (h'.old s) (fun c g e => Nat.le_trans h.kept.size (t.old s c g e)), List.pairwise_append.2 ⟨h'.apart, t.apart, fun s hs u hu g e c => ?_⟩⟩; have h1 := s.ins w (h.has s hs) g e; have h2 := t.old u hu g c
  omega
def AreaOut (a : Ar) (A0 : Option Addr) (w : World) (e : Ending) (w' : World) : Prop := ∃ T A1 c1, e = .returned (.agg #[.int .i64 (area16 a).1.c1, .int .i64 (area16 a).1.r1, .int .i64 (area16 a).1.c2, .int .i64 (area16 a).1.r2, .slice A1 (area16 a).2.length c1]) ∧ Own w T w' ∧ (area16 a).2.length ≤ c1 ∧ ∀ base z, RowK 5 clV z A0 a.l → Own base T z → RowK 5 clV z A1 (area16 a).2
theorem area_wide {a : Ar} {A1 : Option Addr} {c1 : Nat} {w w' : World} {H : List Th} {e : Ending} (o : Own w H w') (he : e = .returned (.agg #[.int .i64 a.x.c1, .int .i64 a.x.r1, .int .i64 a.x.c2, .int .i64 a.x.r2, .slice A1 a.l.length c1])) (h : a.w = true) (hc : a.l.length ≤ c1) : AreaOut a A1 w e w' := by
  have e16 : area16 a = (a.x, a.l) := by unfold area16; rw [if_pos h]
  unfold AreaOut; rw [e16]; exact ⟨[], A1, c1, he, o.drop, hc, fun _ _ r _ => r⟩
theorem area_none {a : Ar} {A1 : Option Addr} {w w' : World} {H : List Th} {e : Ending} (o : Own w H w') (he : e = .returned (.agg #[.int .i64 1, .int .i64 1, .int .i64 1, .int .i64 1, .slice none 0 0])) (h : a.w = false) (hk : ¬ ((a.v.k : Int) ≠ (0 : Int))) : AreaOut a A1 w e w' := by
  have e16 : area16 a = (⟨1, 1, 1, 1⟩, []) := by unfold area16; rw [if_neg (by rw [h]; decide), if_pos (by omega)]
  unfold AreaOut; rw [e16]; exact ⟨[], none, 0, he, o.drop, Nat.le_refl _, fun _ _ _ _ => RowK.nil⟩
theorem area_one {a : Ar} {A1 : Option Addr} {g : Nat} {w w' : World} {H : List Th} {e : Ending} (o : Own w H w') (he : e = .returned (.agg #[.int .i64 1, .int .i64 1, .int .i64 1, .int .i64 1, .slice (some ⟨g, 0, none⟩) 1 1])) (h : a.w = false) (hk : (a.v.k : Int) ≠ (0 : Int)) (t : Own w [Th.obj g (.cells #[.int .i64 1, .int .i64 1, .int .u8 a.v.k, .int .i64 a.v.n, .string ⟨a.v.t.toArray⟩] 46 (0, 0))] w') : AreaOut a A1 w e w' := by
  have e16 : area16 a = (⟨1, 1, 1, 1⟩, [⟨1, 1, a.v⟩]) := by unfold area16; rw [if_neg (by rw [h]; decide), if_neg (by omega)]
  unfold AreaOut; rw [e16]; exact ⟨_, _, 1, he, t, Nat.le_refl _, fun _ _ _ q => RowK.box (q.box 0 rfl) clV_len rfl⟩
theorem chk_no16 {v : Vl} (h : (vChk v : Int) ≠ (0 : Int)) : vOk v = false := by
  unfold vChk at h
  cases e : vOk v with
  | false => rfl
  | true => rw [e] at h; exact absurd rfl h
theorem chk_ok16 {v : Vl} (h : ¬ ((vChk v : Int) ≠ (0 : Int))) : vOk v = true := by
  unfold vChk at h
  cases e : vOk v with
  | true => rfl
  | false => rw [e] at h; exact absurd (by decide) h
theorem vChk_iff {v : Vl} : decide ((vChk v : Int) = (0 : Int)) = vOk v := by
  unfold vChk
  cases vOk v <;> rfl
theorem valid_val {a : Ar} (h : a.w = false) : ((decide ((vChk a.v : Int) = (0 : Int)) && decide (a.x = (⟨0, 0, 0, 0⟩ : Rc))) && decide (((a.l.length : Nat) : Int) = (0 : Int))) = okArg a := by
  unfold okArg; rw [if_neg (by rw [h]; decide), vChk_iff, show decide (((a.l.length : Nat) : Int) = (0 : Int)) = decide (a.l.length = 0) from decide_eq_decide.2 (by omega)]
  rfl
theorem blank_iff {v : Vl} : sameV v (⟨0, 0, []⟩ : Vl) = true ↔ (v.k = 0 ∧ v.n = 0 ∧ v.t = []) := by
  unfold sameV
  simp [and_assoc]
theorem valid_no {a : Ar} (h : a.w = true) (b : (¬ (sameV a.v (⟨0, 0, []⟩ : Vl) = true)) ∨ ((chkR a.x : Int) ≠ (0 : Int))) : okArg a = false := by
  unfold okArg; rw [if_pos h]; rcases b with b | b
  · rw [blank_iff] at b
    rw [decide_eq_false b]; rfl
  · rw [chkR_bad b, Bool.and_false, Bool.false_and]
theorem valid_ok {a : Ar} (b : ¬ ((¬ (sameV a.v (⟨0, 0, []⟩ : Vl) = true)) ∨ ((chkR a.x : Int) ≠ (0 : Int)))) : (a.v.k = 0 ∧ a.v.n = 0 ∧ a.v.t = []) ∧ okR a.x = true := by
  rw [not_or, Classical.not_not, blank_iff] at b; exact ⟨b.1, chkR_yes b.2⟩
theorem valid_cell {a : Ar} {b : Bool} (h : a.w = true) (o : (a.v.k = 0 ∧ a.v.n = 0 ∧ a.v.t = []) ∧ okR a.x = true) (e : okCells a.x (-1) a.l = b) : okArg a = b := by
  unfold okArg; rw [if_pos h, decide_eq_true o.1, o.2, e]; rfl
theorem has_of {h b c : Bool} (e : ((!h || b) || c) = false) : h = true := by revert e; cases h <;> cases b <;> cases c <;> decide
theorem cell_has {x : Rc} {n : Int} {c : Cl} (h : ¬ ((((¬ (hasR x c.c c.r = true)) ∨ ((c.v.k : Int) = (0 : Int))) ∨ ((vChk c.v : Int) ≠ (0 : Int))) ∨ ((idx16 x c.c c.r : Int) ≤ (n : Int)))) : hasR x c.c c.r = true := by
  simp only [not_or, Classical.not_not] at h
  exact h.1.1.1
theorem cells_bad {x : Rc} {n : Int} {l : List Cl} {k : Nat} {c : Cl} (e : l[k]? = some c) (h : (((¬ (hasR x c.c c.r = true)) ∨ ((c.v.k : Int) = (0 : Int))) ∨ ((vChk c.v : Int) ≠ (0 : Int))) ∨ ((idx16 x c.c c.r : Int) ≤ (n : Int))) : okCells x n (l.drop k) = false := by
  rw [drop_at e, okCells]
  have : okCell x n c = false := by
    unfold okCell; rcases h with ((h | h) | h) | h
    · rw [Bool.eq_false_iff.2 h]; rfl
    · rw [decide_eq_false (p := c.v.k ≠ 0) (by omega), Bool.and_false]; rfl
    · rw [chk_no16 h, Bool.and_false]; rfl
    · rw [decide_eq_false (p := n < idx16 x c.c c.r) (by omega), Bool.and_false]
  rw [this]; rfl
theorem cells_on {x : Rc} {n : Int} {l : List Cl} {k : Nat} {c : Cl} (e : l[k]? = some c) (h : ¬ ((((¬ (hasR x c.c c.r = true)) ∨ ((c.v.k : Int) = (0 : Int))) ∨ ((vChk c.v : Int) ≠ (0 : Int))) ∨ ((idx16 x c.c c.r : Int) ≤ (n : Int)))) : okCells x n (l.drop k) = okCells x (idx16 x c.c c.r) (l.drop (k + 1)) := by
  rw [drop_at e, okCells]
  simp only [not_or] at h
  have : okCell x n c = true := by
    unfold okCell; rw [Classical.not_not.1 h.1.1.1, decide_eq_true (p := c.v.k ≠ 0) (by have := h.1.1.2; omega), chk_ok16 h.1.2, decide_eq_true (p := n < idx16 x c.c c.r) (by have := h.2; omega)]; rfl
  rw [this, Bool.true_and]
theorem cells_done {x : Rc} {n : Int} {l : List Cl} {k : Nat} (h : l.length ≤ k) : okCells x n (l.drop k) = true := by
  rw [List.drop_eq_nil_of_le h]; rfl
theorem en_rect_Has : En 61 := by intro args w; go_simp
theorem en_val_Check : En 27 := by intro args w; go_simp
set_option maxHeartbeats 4000000 in
theorem aarea_any (a : Ar) (A1 : Option Addr) (c1 : Nat) (w : World) (hc : a.l.length ≤ c1) :
    Calls Tryz.prog 66 #[.agg #[.bool a.w, .int .u8 a.v.k, .int .i64 a.v.n, .string ⟨a.v.t.toArray⟩, .int .i64 a.x.c1, .int .i64 a.x.r1, .int .i64 a.x.c2, .int .i64 a.x.r2, .slice A1 a.l.length c1]] w fun e w' => AreaOut a A1 w e w' := by
  go_enter Tryz.func66, Tryz.ntmps66; refine sq fun hK1 => ?_
  refine ro [yNew w.heap.size (.cells #[.bool a.w, .int .u8 a.v.k, .int .i64 a.v.n, .string ⟨a.v.t.toArray⟩, .int .i64 a.x.c1, .int .i64 a.x.r1, .int .i64 a.x.c2, .int .i64 a.x.r2, .slice A1 a.l.length c1] 39 (0, 0)), yNew w.heap.size (.cells #[.int .i64 0, .int .i64 0, .int .i64 0, .int .i64 0, .slice none 0 0] 37 (0, 0))] 2 21 rfl rfl (Own.start w) (
    aP (fun hk bs hd => xbox rfl (bs.get 0 rfl rfl) (by kernel_rfl)) rfl <|
    aP (fun hk bs hd => xalloc rfl (by kernel_rfl)) rfl <|
    arm0) fun fa fw bs hv ap z q ov => ?_
  obtain ⟨gb1, s1, bgb1, hgb1⟩ := gotP hv 0 rfl rfl rfl; have ov := ov.cons hgb1 (Nat.le_trans (Own.start w).kept.size bgb1) ((Own.start w).below bgb1); obtain ⟨gb2, s2, bgb2, hgb2⟩ := gotP hv 1 rfl rfl rfl; have ov := ov.cons hgb2 (Nat.le_trans (Own.start w).kept.size bgb2) (ne_cons (apartP ap 0 1 rfl rfl rfl s1 rfl s2 rfl) ((Own.start w).below bgb2)); have ow := ov; refine wt hK1 ?_; refine sq fun hK2 => ?_; refine sq fun hK3 => ?_
  refine ro [yV (.pointer (some ⟨gb1, 0, none⟩)), yV _] 2 21 z q ow (
    aS (fun hk bs hd => xfieldAddr rfl (bg bs s1) (by kernel_rfl)) rfl <|
    aS (fun hk bs hd => xloadB rfl (by kernel_rfl) (dp hd 0 rfl) ((ow.keep hk).box 1 rfl) rfl) rfl <|
    arm0) fun fa fw bs hv ap z q ow => ?_
  obtain ⟨s1, s2⟩ := b2 bs s1 s2; have s5 := gv hv 1 rfl rfl; refine wt hK3 ?_
  by_cases hc1 : a.w = true
  ·refine ct s5 ((Iff.rfl).2 hc1) ?_
   have hw := hc1; refine sq fun hK4 => ?_
   refine ro [yV (.pointer (some ⟨gb1, 4, none⟩)), yV (.agg #[.int .i64 a.x.c1, .int .i64 a.x.r1, .int .i64 a.x.c2, .int .i64 a.x.r2, .slice A1 a.l.length c1])] 2 21 z q ow (
     aS (fun hk bs hd => xfieldAddr rfl (bg bs s1) (by kernel_rfl)) rfl <|
     aS (fun hk bs hd => xloadN 5 rfl (by kernel_rfl) (by kernel_rfl) (dp hd 0 rfl) ((ow.keep hk).box 1 rfl) (Nat.le_of_ble_eq_true rfl) rfl) rfl <|
     arm0) fun fa fw bs hv ap z q ow => ?_
   obtain ⟨s1, s2⟩ := b2 bs s1 s2; have s7 := gv hv 1 rfl rfl; refine ws ow 0 0 s2 s7 fun fw ow => ?_; refine wt hK4 ?_; refine wp_ret ?_; refine then_r ?_; refine results_one rfl (res_cell (n := 5) _ s2 (by kernel_rfl) (by kernel_rfl) (ow.box 0 rfl) (Nat.le_of_ble_eq_true rfl) rfl) q ?_; exact area_wide ow rfl hw hc
  refine cf s5 (Iff.rfl) hc1 ?_; have hw := Bool.eq_false_iff.2 hc1; refine wp_skip ?_; refine tn hK2 ?_; refine sq fun hK5 => ?_
  refine ro [yV (.agg #[.int .i64 1, .int .i64 1, .int .i64 1, .int .i64 1]), yV (.agg #[.int .i64 1, .int .i64 1, .int .i64 1, .int .i64 1, .slice none 0 0]), yNew fw.heap.size (.cells #[.int .i64 0, .int .i64 0, .int .i64 0, .int .i64 0, .slice none 0 0] 37 (0, 0))] 3 21 z q ow (
    aS (fun hk bs hd => xbuild (us := #[(0, .int .i64 1), (1, .int .i64 1), (2, .int .i64 1), (3, .int .i64 1)]) rfl (by simp only [List.map_toArray, List.map_cons, List.map_nil]; rfl) (by kernel_rfl)) rfl <|
    arm (fun aa ww hk bs hd => by
      have d0 : aa.eval (.tmp 8) = .agg #[.int .i64 1, .int .i64 1, .int .i64 1, .int .i64 1] := depX hd 0 rfl; exact stepX_same (v := .agg #[.int .i64 1, .int .i64 1, .int .i64 1, .int .i64 1, .slice none 0 0]) (want0 rfl) (xbuild (us := #[(0, .agg #[.int .i64 1, .int .i64 1, .int .i64 1, .int .i64 1])]) rfl (by simp only [List.map_toArray, List.map_cons, List.map_nil, d0]) (by kernel_rfl)) rfl rfl
      ) <|
    aP (fun hk bs hd => xalloc rfl (by kernel_rfl)) rfl <|
    arm0) fun fa fw bs hv ap z q ov => ?_
  obtain ⟨s1, s2⟩ := b2 bs s1 s2; have s9 := gv hv 1 rfl rfl; obtain ⟨gb3, s3, bgb3, hgb3⟩ := gotP hv 2 rfl rfl rfl; have ov := ov.cons hgb3 (Nat.le_trans ow.kept.size bgb3) (ow.below bgb3); have ow := ov; refine ws ow 0 0 s3 s9 fun fw ow => ?_; refine wt hK5 ?_; refine sq fun hK6 => ?_; refine sq fun hK7 => ?_
  refine ro [yV (.pointer (some ⟨gb1, 1, none⟩)), yV (.pointer (some ⟨gb1, 1, none⟩)), yV _, yV _] 4 21 z q ow (
    aS (fun hk bs hd => xfieldAddr rfl (bg bs s1) (by kernel_rfl)) rfl <|
    aS (fun hk bs hd => xfieldAddr rfl (dp hd 0 rfl) (by kernel_rfl)) rfl <|
    aS (fun hk bs hd => xloadB rfl (by kernel_rfl) (dp hd 1 rfl) ((ow.keep hk).box 2 rfl) rfl) rfl <|
    aS (fun hk bs hd => xnei rfl (dp hd 2 rfl) rfl) rfl <|
    arm0) fun fa fw bs hv ap z q ow => ?_
  obtain ⟨s1, s2, s3⟩ := b3 bs s1 s2 s3; have s13 := gv hv 3 rfl rfl; refine wt hK7 ?_
  by_cases hc2 : (a.v.k : Int) ≠ (0 : Int)
  ·refine ct s13 ((decide_eq_true_iff).2 hc2) ?_
   have hk0 := hc2
   refine ro [yV (.agg #[.int .i64 1, .int .i64 1]), yV (.pointer (some ⟨gb1, 1, none⟩)), yV (aggV a.v), yV (.agg #[.int .i64 1, .int .i64 1, .int .u8 a.v.k, .int .i64 a.v.n, .string ⟨a.v.t.toArray⟩]), ySlice fw.heap.size 1 (.cells #[.int .i64 1, .int .i64 1, .int .u8 a.v.k, .int .i64 a.v.n, .string ⟨a.v.t.toArray⟩] 46 (0, 0)), yV (.pointer (some ⟨gb3, 4, none⟩))] 6 21 z q ow (
     aS (fun hk bs hd => xbuild (us := #[(0, .int .i64 1), (1, .int .i64 1)]) rfl (by simp only [List.map_toArray, List.map_cons, List.map_nil]; rfl) (by kernel_rfl)) rfl <|
     aS (fun hk bs hd => xfieldAddr rfl (bg bs s1) (by kernel_rfl)) rfl <|
     aS (fun hk bs hd => xloadN 3 rfl (by kernel_rfl) (by kernel_rfl) (dp hd 1 rfl) ((ow.keep hk).box 2 rfl) (Nat.le_of_ble_eq_true rfl) rfl) rfl <|
     arm (fun aa ww hk bs hd => by
       have d0 : aa.eval (.tmp 14) = .agg #[.int .i64 1, .int .i64 1] := depX hd 0 rfl; have d2 : aa.eval (.tmp 16) = aggV a.v := depX hd 2 rfl; exact stepX_same (v := .agg #[.int .i64 1, .int .i64 1, .int .u8 a.v.k, .int .i64 a.v.n, .string ⟨a.v.t.toArray⟩]) (want0 rfl) (xbuild (us := #[(0, .agg #[.int .i64 1, .int .i64 1]), (1, aggV a.v)]) rfl (by simp only [List.map_toArray, List.map_cons, List.map_nil, d0, d2]) (by kernel_rfl)) rfl rfl
       ) <|
     arm (fun aa ww hk bs hd => by
       have d3 : aa.eval (.tmp 17) = .agg #[.int .i64 1, .int .i64 1, .int .u8 a.v.k, .int .i64 a.v.n, .string ⟨a.v.t.toArray⟩] := depX hd 3 rfl; exact stepX_new _ (want0 rfl) (xbuildSlice (us := #[(0, .agg #[.int .i64 1, .int .i64 1, .int .u8 a.v.k, .int .i64 a.v.n, .string ⟨a.v.t.toArray⟩])]) (b := .cells #[.int .i64 1, .int .i64 1, .int .u8 a.v.k, .int .i64 a.v.n, .string ⟨a.v.t.toArray⟩] 46 (0, 0)) rfl (by simp only [List.map_toArray, List.map_cons, List.map_nil, d3]) (by kernel_rfl)) ⟨_, rfl, hk.size, Go.heap_alloc_new _ _⟩ ((Kept.refl _).alloc _) rfl (Nat.le_refl _)
       ) <|
     aS (fun hk bs hd => xfieldAddr rfl (bg bs s3) (by kernel_rfl)) rfl <|
     arm0) fun fa fw bs hv ap z q ov => ?_
   obtain ⟨s2, s3⟩ := b2 bs s2 s3; obtain ⟨gb4, s18, bgb4, hgb4⟩ := gotL hv 4 rfl rfl rfl; have ov := ov.cons hgb4 (Nat.le_trans ow.kept.size bgb4) (ow.below bgb4); have s19 := gv hv 5 rfl rfl; have ow := ov; refine ws ow 1 4 s19 s18 fun fw ow => ?_; refine wt hK6 ?_; refine sq fun hK8 => ?_
   refine ro [yV (.agg #[.int .i64 1, .int .i64 1, .int .i64 1, .int .i64 1, .slice (some ⟨gb4, 0, none⟩) 1 1])] 1 21 z q ow (
     aS (fun hk bs hd => xloadN 5 rfl (by kernel_rfl) (by kernel_rfl) (bg bs s3) ((ow.keep hk).box 1 rfl) (Nat.le_of_ble_eq_true rfl) rfl) rfl <|
     arm0) fun fa fw bs hv ap z q ow => ?_
   have s2 := bg bs s2; have s20 := gv hv 0 rfl rfl; refine ws ow 2 0 s2 s20 fun fw ow => ?_; refine wt hK8 ?_; refine wp_ret ?_; refine results_one rfl (res_cell (n := 5) _ s2 (by kernel_rfl) (by kernel_rfl) (ow.box 2 rfl) (Nat.le_of_ble_eq_true rfl) rfl) q ?_; exact area_one ow rfl hw hk0 (ow.only 0 rfl)
  refine cf s13 (decide_eq_true_iff) hc2 ?_; have hk0 := hc2; refine wp_skip ?_; refine tn hK6 ?_; refine sq fun hK9 => ?_
  refine ro [yV (.agg #[.int .i64 1, .int .i64 1, .int .i64 1, .int .i64 1, .slice none 0 0])] 1 21 z q ow (
    aS (fun hk bs hd => xloadN 5 rfl (by kernel_rfl) (by kernel_rfl) (bg bs s3) ((ow.keep hk).box 0 rfl) (Nat.le_of_ble_eq_true rfl) rfl) rfl <|
    arm0) fun fa fw bs hv ap z q ow => ?_
  have s2 := bg bs s2; have s20 := gv hv 0 rfl rfl; refine ws ow 1 0 s2 s20 fun fw ow => ?_; refine wt hK9 ?_; refine wp_ret ?_; refine results_one rfl (res_cell (n := 5) _ s2 (by kernel_rfl) (by kernel_rfl) (ow.box 1 rfl) (Nat.le_of_ble_eq_true rfl) rfl) q ?_; exact area_none ow rfl hw hk0
set_option maxHeartbeats 4000000 in
theorem avalid16_any (a : Ar) (A1 : Option Addr) (c1 : Nat) (w : World) (hr : RowK 5 clV w A1 a.l) (hl : a.l.length ≤ 1000000) (hsv : Small a.v) (hs : ∀ c ∈ a.l, Small c.v) :
    Calls Tryz.prog 32 #[.agg #[.bool a.w, .int .u8 a.v.k, .int .i64 a.v.n, .string ⟨a.v.t.toArray⟩, .int .i64 a.x.c1, .int .i64 a.x.r1, .int .i64 a.x.c2, .int .i64 a.x.r2, .slice A1 a.l.length c1]] w fun e w' => e = .returned (.bool (okArg a)) ∧ Kept w w' := by
  go_enter Tryz.func32, Tryz.ntmps32; refine sq fun hK1 => ?_
  refine ro [yNew w.heap.size (.cells #[.bool a.w, .int .u8 a.v.k, .int .i64 a.v.n, .string ⟨a.v.t.toArray⟩, .int .i64 a.x.c1, .int .i64 a.x.r1, .int .i64 a.x.c2, .int .i64 a.x.r2, .slice A1 a.l.length c1] 39 (0, 0)), yV _] 2 80 rfl rfl (Own.start w) (
    aP (fun hk bs hd => xbox rfl (bs.get 0 rfl rfl) (by kernel_rfl)) rfl <|
    aS (fun hk bs hd => xassign rfl rfl) rfl <|
    arm0) fun fa fw bs hv ap z q ov => ?_
  obtain ⟨gb1, s1, bgb1, hgb1⟩ := gotP hv 0 rfl rfl rfl; have ov := ov.cons hgb1 (Nat.le_trans (Own.start w).kept.size bgb1) ((Own.start w).below bgb1); have s2 := gv hv 1 rfl rfl; have ow := ov; refine wt hK1 ?_; refine sq fun hK2 => ?_; refine sq fun hK3 => ?_
  refine ro [yV (.pointer (some ⟨gb1, 0, none⟩)), yV _, yV _] 3 80 z q ow (
    aS (fun hk bs hd => xfieldAddr rfl (bg bs s1) (by kernel_rfl)) rfl <|
    aS (fun hk bs hd => xloadB rfl (by kernel_rfl) (dp hd 0 rfl) ((ow.keep hk).box 0 rfl) rfl) rfl <|
    aS (fun hk bs hd => xnot rfl (dp hd 1 rfl)) rfl <|
    arm0) fun fa fw bs hv ap z q ow => ?_
  obtain ⟨s1, s2⟩ := b2 bs s1 s2; have s8 := gv hv 2 rfl rfl; refine wt hK3 ?_
  by_cases hc1 : ¬ (a.w = true)
  ·refine ct s8 ((bnot (Iff.rfl)).2 hc1) ?_
   have hw : a.w = false := by simpa using hc1
   refine sq fun hK4 => ?_
   refine ro [yV (.pointer (some ⟨gb1, 1, none⟩)), yV (aggV a.v), yV (.int .i64 (vChk a.v)), yV _, yV _, yIf _ (yV (.pointer (some ⟨gb1, 4, none⟩))), yIf _ (yV (.pointer (some ⟨gb1, 4, none⟩))), yIf _ (yV (.agg #[.int .i64 a.x.c1, .int .i64 a.x.r1, .int .i64 a.x.c2, .int .i64 a.x.r2])), yIf _ (yV (.agg #[.int .i64 0, .int .i64 0, .int .i64 0, .int .i64 0])), yIf _ (yV _), yV _, yV _, yIf _ (yV (.pointer (some ⟨gb1, 4, none⟩))), yIf _ (yV (.pointer (some ⟨gb1, 8, none⟩))), yIf _ (yV _), yIf _ (yV _), yIf _ (yV _), yV _, yV _] 19 80 z q ow (
     aS (fun hk bs hd => xfieldAddr rfl (bg bs s1) (by kernel_rfl)) rfl <|
     aS (fun hk bs hd => xloadN 3 rfl (by kernel_rfl) (by kernel_rfl) (dp hd 0 rfl) ((ow.keep hk).box 0 rfl) (Nat.le_of_ble_eq_true rfl) rfl) rfl <|
     aC (fun hk bs hd => xcall1 rfl (dp hd 1 rfl) (en_val_Check _ _)) (fun hk bs hd => vcheck5_any a.v _ (by first | exact hsv.1 | exact hsc.1) (by first | exact Nat.le_trans hsv.2 (by decide) | exact Nat.le_trans hsc.2 (by decide))) rfl <|
     aS (fun hk bs hd => xeqi rfl (dp hd 2 rfl) rfl) rfl <|
     mvD 3 rfl rfl rfl rfl rfl rfl <|
     ai (g1 4 rfl rfl) (fun hk bs hd hz => xfieldAddr rfl (bg bs s1) (by kernel_rfl)) rfl <|
     ai (g1 4 rfl rfl) (fun hk bs hd hz => xfieldAddr rfl (di hd 5 rfl hz) (by kernel_rfl)) rfl <|
     ai (g1 4 rfl rfl) (fun hk bs hd hz => xloadN 4 rfl (by kernel_rfl) (by kernel_rfl) (di hd 6 rfl hz) ((ow.keep hk).box 0 rfl) (Nat.le_of_ble_eq_true rfl) rfl) rfl <|
     ai (g1 4 rfl rfl) (fun hk bs hd hz => xbuild (us := #[]) rfl (by simp) (by kernel_rfl)) rfl <|
     ai (g1 4 rfl rfl) (fun hk bs hd hz => xeqRc (u := a.x) (v := (⟨0, 0, 0, 0⟩ : Rc)) rfl (di hd 7 rfl hz) (di hd 8 rfl hz)) rfl <|
     aS (fun hk bs hd => xand rfl (dp hd 4 rfl) (fun hb => di hd 9 rfl hb) rfl) rfl <|
     mvD 10 rfl rfl rfl rfl rfl rfl <|
     ai (g1 11 rfl rfl) (fun hk bs hd hz => xfieldAddr rfl (bg bs s1) (by kernel_rfl)) rfl <|
     ai (g1 11 rfl rfl) (fun hk bs hd hz => xfieldAddr rfl (di hd 12 rfl hz) (by kernel_rfl)) rfl <|
     ai (g1 11 rfl rfl) (fun hk bs hd hz => xloadB rfl (by kernel_rfl) (di hd 13 rfl hz) ((ow.keep hk).box 0 rfl) rfl) rfl <|
     ai (g1 11 rfl rfl) (fun hk bs hd hz => xlen Tryz.underlying35 rfl (di hd 14 rfl hz)) rfl <|
     ai (g1 11 rfl rfl) (fun hk bs hd hz => xeqi rfl (di hd 15 rfl hz) rfl) rfl <|
     aS (fun hk bs hd => xand rfl (dp hd 11 rfl) (fun hb => di hd 16 rfl hb) rfl) rfl <|
     asD 17 rfl rfl rfl rfl rfl rfl <|
     arm0) fun fa fw bs hv ap z q ow => ?_
   have s1 := bg bs s1; have s2 := gv hv 18 rfl rfl; refine wt hK4 ?_; refine wp_ret ?_; refine then_r ?_; refine results_one rfl (res_tmp s2) q ?_; exact ⟨(congrArg (fun b => Ending.returned (.bool b)) (show _ = okArg a by exact valid_val hw)), ow.kept⟩
  refine cf s8 (bnot (Iff.rfl)) hc1 ?_; have hw : a.w = true := by simpa using hc1
  refine wp_skip ?_; refine tn hK2 ?_; refine sq fun hK5 => ?_; refine sq fun hK6 => ?_
  refine ro [yV (.pointer (some ⟨gb1, 1, none⟩)), yV (aggV a.v), yV (aggV (⟨0, 0, []⟩ : Vl)), yV _, yV _, yIf _ (yV (.pointer (some ⟨gb1, 4, none⟩))), yIf _ (yV (.pointer (some ⟨gb1, 4, none⟩))), yIf _ (yV (.agg #[.int .i64 a.x.c1, .int .i64 a.x.r1, .int .i64 a.x.c2, .int .i64 a.x.r2])), yIf _ (yV (.int .i64 (chkR a.x))), yIf _ (yV _), yV _] 11 80 z q ow (
    aS (fun hk bs hd => xfieldAddr rfl (bg bs s1) (by kernel_rfl)) rfl <|
    aS (fun hk bs hd => xloadN 3 rfl (by kernel_rfl) (by kernel_rfl) (dp hd 0 rfl) ((ow.keep hk).box 0 rfl) (Nat.le_of_ble_eq_true rfl) rfl) rfl <|
    aS (fun hk bs hd => xbuild (us := #[]) rfl (by simp) (by kernel_rfl)) rfl <|
    aS (fun hk bs hd => xnev rfl (dp hd 1 rfl) (dp hd 2 rfl)) rfl <|
    mvD 3 rfl rfl rfl rfl rfl rfl <|
    ai (g1 4 rfl rfl) (fun hk bs hd hz => xfieldAddr rfl (bg bs s1) (by kernel_rfl)) rfl <|
    ai (g1 4 rfl rfl) (fun hk bs hd hz => xfieldAddr rfl (di hd 5 rfl hz) (by kernel_rfl)) rfl <|
    ai (g1 4 rfl rfl) (fun hk bs hd hz => xloadN 4 rfl (by kernel_rfl) (by kernel_rfl) (di hd 6 rfl hz) ((ow.keep hk).box 0 rfl) (Nat.le_of_ble_eq_true rfl) rfl) rfl <|
    aiC (g1 4 rfl rfl) (fun hk bs hd hz => xcall1 rfl (di hd 7 rfl hz) (en_rect_Check _ _)) (fun hk bs hd hz => acheck_any a.x _) rfl <|
    ai (g1 4 rfl rfl) (fun hk bs hd hz => xnei rfl (di hd 8 rfl hz) rfl) rfl <|
    aS (fun hk bs hd => xor_ rfl (dp hd 4 rfl) rfl (fun hb => di hd 9 rfl hb)) rfl <|
    arm0) fun fa fw bs hv ap z q ow => ?_
  obtain ⟨s1, s2⟩ := b2 bs s1 s2; have s37 := gv hv 10 rfl rfl; refine wt hK6 ?_
  by_cases hc2 : (¬ ((sameV a.v (⟨0, 0, []⟩ : Vl)) = true)) ∨ ((chkR a.x : Int) ≠ (0 : Int))
  ·refine ct s37 ((bor (bnot (Iff.rfl)) (decide_eq_true_iff)).2 hc2) ?_
   have hbad := hc2; refine sq fun hK7 => ?_
   refine ro [yV _] 1 80 z q ow (
     aS (fun hk bs hd => xassign rfl rfl) rfl <|
     arm0) fun fa fw bs hv ap z q ow => ?_
   have s1 := bg bs s1; have s2 := gv hv 0 rfl rfl; refine wt hK7 ?_; refine wp_ret ?_; refine then_r ?_; refine results_one rfl (res_tmp s2) q ?_; exact ⟨(congrArg (fun b => Ending.returned (.bool b)) (show _ = okArg a by exact (valid_no hw hbad).symm)), ow.kept⟩
  refine cf s37 (bor (bnot (Iff.rfl)) (decide_eq_true_iff)) hc2 ?_; have hok := valid_ok hc2; refine wp_skip ?_; refine tn hK5 ?_; refine sq fun hK8 => ?_
  refine ro [yV _] 1 80 z q ow (
    aS (fun hk bs hd => xassign rfl rfl) rfl <|
    arm0) fun fa fw bs hv ap z q ow => ?_
  obtain ⟨s1, s2⟩ := b2 bs s1 s2; have s3 := gv hv 0 rfl rfl; refine wt hK8 ?_; refine sq fun hK9 => ?_; refine sq fun hK10 => ?_
  refine ro [yV (.pointer (some ⟨gb1, 4, none⟩)), yV (.pointer (some ⟨gb1, 8, none⟩)), yV _, yV _, yV _] 5 80 z q ow (
    aS (fun hk bs hd => xfieldAddr rfl (bg bs s1) (by kernel_rfl)) rfl <|
    aS (fun hk bs hd => xfieldAddr rfl (dp hd 0 rfl) (by kernel_rfl)) rfl <|
    aS (fun hk bs hd => xloadB rfl (by kernel_rfl) (dp hd 1 rfl) ((ow.keep hk).box 0 rfl) rfl) rfl <|
    aS (fun hk bs hd => xlen Tryz.underlying35 rfl (dp hd 2 rfl)) rfl <|
    aS (fun hk bs hd => xmove rfl rfl) rfl <|
    arm0) fun fa fw bs hv ap z q ow => ?_
  obtain ⟨s1, s2, s3⟩ := b3 bs s1 s2 s3; have s40 := gv hv 2 rfl rfl; have s41 := gv hv 3 rfl rfl; have s42 := gv hv 4 rfl rfl; refine wt hK10 ?_; refine wp_block ?_; refine wp_loop_g (fun (k : Nat) fr u => ∃ (n : Int), (k ≤ a.l.length) ∧ (okCells a.x (-1) a.l = okCells a.x n (a.l.drop k)) ∧ (-1 ≤ n ∧ n ≤ 1048576) ∧ fr.tmps.size = 80 ∧ fr.defers = [] ∧ Own w [Th.obj gb1 (.cells #[.bool a.w, .int .u8 a.v.k, .int .i64 a.v.n, .string ⟨a.v.t.toArray⟩, .int .i64 a.x.c1, .int .i64 a.x.r1, .int .i64 a.x.c2, .int .i64 a.x.r2, .slice A1 a.l.length c1] 39 (0, 0))] u ∧ fr.eval (.tmp 1) = .pointer (some ⟨gb1, 0, none⟩) ∧ fr.eval (.tmp 2) = .bool false ∧ fr.eval (.tmp 3) = .int .i64 n ∧ fr.eval (.tmp 40) = .slice A1 a.l.length c1 ∧ fr.eval (.tmp 41) = .int .i64 ((a.l.length : Nat) : Int) ∧ fr.eval (.tmp 42) = .int .i64 (k : Int)) (fun k => a.l.length - k) 0 ⟨(-1), (Nat.zero_le _), rfl, ⟨by decide, by decide⟩, z, q, ow, s1, s2, s3, s40, s41, s42⟩ (fun k b_ u_ hI => ?_)
  revert b_ u_; intro fa fw hI
  obtain ⟨n, hk0, hoc, hnb, z, q, ow, s1, s2, s3, s40, s41, s42⟩ := hI; refine sq fun hK11 => ?_
  refine ro [yV _] 1 80 z q ow (
    aS (fun hk bs hd => xlss rfl (bg bs s42) (bg bs s41)) rfl <|
    arm0) fun fa fw bs hv ap z q ow => ?_
  obtain ⟨s1, s2, s3, s40, s41, s42⟩ := b6 bs s1 s2 s3 s40 s41 s42; have s43 := gv hv 0 rfl rfl; refine wt hK11 ?_; refine sq fun hK12 => ?_
  by_cases hc3 : (k : Int) < ((a.l.length : Nat) : Int)
  ·refine ct s43 ((decide_eq_true_iff).2 hc3) ?_
   refine wp_skip ?_; refine tn hK12 ?_; refine sq fun hK13 => ?_; refine wp_block ?_; refine sq fun hK14 => ?_; have hltk : k < a.l.length := by omega
   obtain ⟨cl, hcl⟩ := at_some hltk; obtain ⟨bcl, ocl, Acl, ecl⟩ := hr.elem hcl; have hsc := hs cl (List.mem_of_getElem? hcl)
   refine ro [yV _, yV (.agg #[.int .i64 cl.c, .int .i64 cl.r, .int .u8 cl.v.k, .int .i64 cl.v.n, .string ⟨cl.v.t.toArray⟩]), yNew fw.heap.size (.cells #[.int .i64 0, .int .i64 0, .int .u8 0, .int .i64 0, .string ⟨[].toArray⟩] 46 (0, 0))] 3 80 z q ow (
     aS (fun hk bs hd => xplaceK 5 Tryz.underlying35 (by kernel_rfl) rfl Acl (bg bs s40) (bg bs s42) hltk) rfl <|
     aS (fun hk bs hd => xpartK (n := 5) 0 rfl (by kernel_rfl) (by kernel_rfl) (dp hd 0 rfl) rfl (ecl.kept (ow.keep hk).kept)) rfl <|
     aP (fun hk bs hd => xalloc rfl (by kernel_rfl)) rfl <|
     arm0) fun fa fw bs hv ap z q ov => ?_
   obtain ⟨s1, s2, s3, s40, s41, s42⟩ := b6 bs s1 s2 s3 s40 s41 s42; have s45 := gv hv 1 rfl rfl; obtain ⟨gb2, s5, bgb2, hgb2⟩ := gotP hv 2 rfl rfl rfl; have ov := ov.cons hgb2 (Nat.le_trans ow.kept.size bgb2) (ow.below bgb2); have ow := ov; refine ws ow 0 0 s5 s45 fun fw ow => ?_; refine wt hK14 ?_; refine sq fun hK15 => ?_; refine sq fun hK16 => ?_
   refine ro [yV (.pointer (some ⟨gb1, 4, none⟩)), yV (.pointer (some ⟨gb1, 4, none⟩)), yV (.agg #[.int .i64 a.x.c1, .int .i64 a.x.r1, .int .i64 a.x.c2, .int .i64 a.x.r2]), yV (.pointer (some ⟨gb2, 0, none⟩)), yV (.agg #[.int .i64 cl.c, .int .i64 cl.r]), yV (.bool (hasR a.x cl.c cl.r)), yV _, yV _, yIf _ (yV (.pointer (some ⟨gb2, 2, none⟩))), yIf _ (yV (.pointer (some ⟨gb2, 2, none⟩))), yIf _ (yV _), yIf _ (yV _), yV _, yV _, yIf _ (yV (.pointer (some ⟨gb2, 2, none⟩))), yIf _ (yV (aggV cl.v)), yIf _ (yV (.int .i64 (vChk cl.v))), yIf _ (yV _), yV _, yV _, yIf _ (yV (.pointer (some ⟨gb1, 4, none⟩))), yIf _ (yV (.agg #[.int .i64 a.x.c1, .int .i64 a.x.r1, .int .i64 a.x.c2, .int .i64 a.x.r2, .slice A1 a.l.length c1])), yIf _ (yV (.pointer (some ⟨gb2, 0, none⟩))), yIf _ (yV (.agg #[.int .i64 cl.c, .int .i64 cl.r])), yIf _ (yV (.int .i64 (idx16 a.x cl.c cl.r))), yIf _ (yV _), yIf _ (yV _), yV _] 28 80 z q ow (
     aS (fun hk bs hd => xfieldAddr rfl (bg bs s1) (by kernel_rfl)) rfl <|
     aS (fun hk bs hd => xfieldAddr rfl (dp hd 0 rfl) (by kernel_rfl)) rfl <|
     aS (fun hk bs hd => xloadN 4 rfl (by kernel_rfl) (by kernel_rfl) (dp hd 1 rfl) ((ow.keep hk).box 1 rfl) (Nat.le_of_ble_eq_true rfl) rfl) rfl <|
     aS (fun hk bs hd => xfieldAddr rfl (bg bs s5) (by kernel_rfl)) rfl <|
     aS (fun hk bs hd => xloadN 2 rfl (by kernel_rfl) (by kernel_rfl) (dp hd 3 rfl) ((ow.keep hk).box 0 rfl) (Nat.le_of_ble_eq_true rfl) rfl) rfl <|
     aC (fun hk bs hd => xcall2 rfl (dp hd 2 rfl) (dp hd 4 rfl) (en_rect_Has _ _)) (fun hk bs hd => rhas_any a.x cl.c cl.r _) rfl <|
     aS (fun hk bs hd => xnot rfl (dp hd 5 rfl)) rfl <|
     mvD 6 rfl rfl rfl rfl rfl rfl <|
     ai (g1 7 rfl rfl) (fun hk bs hd hz => xfieldAddr rfl (bg bs s5) (by kernel_rfl)) rfl <|
     ai (g1 7 rfl rfl) (fun hk bs hd hz => xfieldAddr rfl (di hd 8 rfl hz) (by kernel_rfl)) rfl <|
     ai (g1 7 rfl rfl) (fun hk bs hd hz => xloadB rfl (by kernel_rfl) (di hd 9 rfl hz) ((ow.keep hk).box 0 rfl) rfl) rfl <|
     ai (g1 7 rfl rfl) (fun hk bs hd hz => xeqi rfl (di hd 10 rfl hz) rfl) rfl <|
     aS (fun hk bs hd => xor_ rfl (dp hd 7 rfl) rfl (fun hb => di hd 11 rfl hb)) rfl <|
     mvD 12 rfl rfl rfl rfl rfl rfl <|
     ai (g1 13 rfl rfl) (fun hk bs hd hz => xfieldAddr rfl (bg bs s5) (by kernel_rfl)) rfl <|
     ai (g1 13 rfl rfl) (fun hk bs hd hz => xloadN 3 rfl (by kernel_rfl) (by kernel_rfl) (di hd 14 rfl hz) ((ow.keep hk).box 0 rfl) (Nat.le_of_ble_eq_true rfl) rfl) rfl <|
     aiC (g1 13 rfl rfl) (fun hk bs hd hz => xcall1 rfl (di hd 15 rfl hz) (en_val_Check _ _)) (fun hk bs hd hz => vcheck5_any cl.v _ (by first | exact hsv.1 | exact hsc.1) (by first | exact Nat.le_trans hsv.2 (by decide) | exact Nat.le_trans hsc.2 (by decide))) rfl <|
     ai (g1 13 rfl rfl) (fun hk bs hd hz => xnei rfl (di hd 16 rfl hz) rfl) rfl <|
     aS (fun hk bs hd => xor_ rfl (dp hd 13 rfl) rfl (fun hb => di hd 17 rfl hb)) rfl <|
     mvD 18 rfl rfl rfl rfl rfl rfl <|
     ai (g1 19 rfl rfl) (fun hk bs hd hz => xfieldAddr rfl (bg bs s1) (by kernel_rfl)) rfl <|
     ai (g1 19 rfl rfl) (fun hk bs hd hz => xloadN 5 rfl (by kernel_rfl) (by kernel_rfl) (di hd 20 rfl hz) ((ow.keep hk).box 1 rfl) (Nat.le_of_ble_eq_true rfl) rfl) rfl <|
     ai (g1 19 rfl rfl) (fun hk bs hd hz => xfieldAddr rfl (bg bs s5) (by kernel_rfl)) rfl <|
     ai (g1 19 rfl rfl) (fun hk bs hd hz => xloadN 2 rfl (by kernel_rfl) (by kernel_rfl) (di hd 22 rfl hz) ((ow.keep hk).box 0 rfl) (Nat.le_of_ble_eq_true rfl) rfl) rfl <|
     aiC (g1 19 rfl rfl) (fun hk bs hd hz => xcall2 rfl (di hd 21 rfl hz) (di hd 23 rfl hz) (en_agg_index _ _)) (fun hk bs hd hz => aindex_any a.x _ _ _ cl.c cl.r _ hok.2 (by first | exact hfc | exact has_of hz)) rfl <|
     ai (g1 19 rfl rfl) (fun hk bs hd hz => xmove rfl (bg bs s3)) rfl <|
     ai (g1 19 rfl rfl) (fun hk bs hd hz => xleq rfl (di hd 24 rfl hz) (di hd 25 rfl hz)) rfl <|
     aS (fun hk bs hd => xor_ rfl (dp hd 19 rfl) rfl (fun hb => di hd 26 rfl hb)) rfl <|
     arm0) fun fa fw bs hv ap z q ow => ?_
   obtain ⟨s1, s2, s3, s40, s41, s42, s5⟩ := b7 bs s1 s2 s3 s40 s41 s42 s5; have s73 := gv hv 27 rfl rfl; refine wt hK16 ?_
   by_cases hc4 : (((¬ ((hasR a.x cl.c cl.r) = true)) ∨ ((cl.v.k : Int) = (0 : Int))) ∨ ((vChk cl.v : Int) ≠ (0 : Int))) ∨ ((idx16 a.x cl.c cl.r : Int) ≤ (n : Int))
   ·refine ct s73 ((bor (bor (bor (bnot (Iff.rfl)) (decide_eq_true_iff)) (decide_eq_true_iff)) (decide_eq_true_iff)).2 hc4) ?_
    have hcb := hc4; refine sq fun hK17 => ?_
    refine ro [yV _] 1 80 z q ow (
      aS (fun hk bs hd => xassign rfl rfl) rfl <|
      arm0) fun fa fw bs hv ap z q ow => ?_
    obtain ⟨s1, s3, s40, s41, s42, s5⟩ := b6 bs s1 s3 s40 s41 s42 s5; have s2 := gv hv 0 rfl rfl; refine wt hK17 ?_; refine wp_ret ?_; refine then_r ?_; refine block_r ?_; refine then_r ?_; refine then_r ?_; refine block_r ?_; refine then_r ?_; refine results_one rfl (res_tmp s2) q ?_; exact ⟨(congrArg (fun b => Ending.returned (.bool b)) (show _ = okArg a by exact (valid_cell hw hok (hoc.trans (cells_bad hcl hcb))).symm)), ow.kept⟩
   refine cf s73 (bor (bor (bor (bnot (Iff.rfl)) (decide_eq_true_iff)) (decide_eq_true_iff)) (decide_eq_true_iff)) hc4 ?_; have hcg := hc4; have hfc := cell_has hcg; have hix := idx_box hok.2 hfc; refine wp_skip ?_; refine tn hK15 ?_
   refine ro [yV (.pointer (some ⟨gb1, 4, none⟩)), yV (.agg #[.int .i64 a.x.c1, .int .i64 a.x.r1, .int .i64 a.x.c2, .int .i64 a.x.r2, .slice A1 a.l.length c1]), yV (.pointer (some ⟨gb2, 0, none⟩)), yV (.agg #[.int .i64 cl.c, .int .i64 cl.r]), yV (.int .i64 (idx16 a.x cl.c cl.r)), yV _] 6 80 z q ow (
     aS (fun hk bs hd => xfieldAddr rfl (bg bs s1) (by kernel_rfl)) rfl <|
     aS (fun hk bs hd => xloadN 5 rfl (by kernel_rfl) (by kernel_rfl) (dp hd 0 rfl) ((ow.keep hk).box 1 rfl) (Nat.le_of_ble_eq_true rfl) rfl) rfl <|
     aS (fun hk bs hd => xfieldAddr rfl (bg bs s5) (by kernel_rfl)) rfl <|
     aS (fun hk bs hd => xloadN 2 rfl (by kernel_rfl) (by kernel_rfl) (dp hd 2 rfl) ((ow.keep hk).box 0 rfl) (Nat.le_of_ble_eq_true rfl) rfl) rfl <|
     aC (fun hk bs hd => xcall2 rfl (dp hd 1 rfl) (dp hd 3 rfl) (en_agg_index _ _)) (fun hk bs hd => aindex_any a.x _ _ _ cl.c cl.r _ hok.2 (by first | exact hfc | exact has_of hz)) rfl <|
     asD 4 rfl rfl rfl rfl rfl rfl <|
     arm0) fun fa fw bs hv ap z q ow => ?_
   obtain ⟨s1, s2, s40, s41, s42⟩ := b5 bs s1 s2 s40 s41 s42; have s3 := gv hv 5 rfl rfl; refine wl_end ?_; refine block_n ?_; refine tn hK13 ?_
   refine ro [yV (.int .i64 ((k + 1 : Nat) : Int))] 1 80 z q ow (
     aS (fun hk bs hd => xadd (Or.inl rfl) rfl (bg bs s42) rfl (by omega) (by omega)) rfl <|
     arm0) fun fa fw bs hv ap z q ow => ?_
   obtain ⟨s1, s2, s40, s41, s42, s3⟩ := b6 bs s1 s2 s40 s41 s42 s3; have s79 := gv hv 0 rfl rfl; refine wl_value (v := .int .i64 ((k + 1 : Nat) : Int)) (want0 rfl) (xmove rfl s79) ?_; refine gp5 z q ow s1 s2 s40 s41 s3 fun fa fw z q ow s1 s2 s40 s41 s3 s42 => ?_; refine wl_end ?_; exact then_n ⟨(k + 1), ⟨(idx16 a.x cl.c cl.r), hltk, (hoc.trans (cells_on hcl hcg)), (by omega), z, q, ow.tail, s1, s2, s3, s40, s41, s42⟩, (show a.l.length - (k + 1) < a.l.length - k by omega)⟩
  refine cf s43 (decide_eq_true_iff) hc3 ?_; refine wp_exit ?_; refine then_e ?_; refine then_e ?_; refine block_hit ?_; refine tn hK9 ?_; refine sq fun hK18 => ?_
  refine ro [yV _] 1 80 z q ow (
    aS (fun hk bs hd => xassign rfl rfl) rfl <|
    arm0) fun fa fw bs hv ap z q ow => ?_
  have s2 := gv hv 0 rfl rfl; refine wt hK18 ?_; refine wp_ret ?_; refine results_one rfl (res_tmp s2) q ?_; exact ⟨(congrArg (fun b => Ending.returned (.bool b)) (show _ = okArg a by exact (valid_cell hw hok (hoc.trans (cells_done (by omega)))).symm)), ow.kept⟩
end Go.Proofs.YtbkjdcpfkepheaaGreatDoor
