/- Layer 16: functions of numbers: the program's (printed by wip/mkagg6.py). -/
import Derived.Test.YtbkjdcpfkepheaaGreatDoorUMixAR
namespace Go.Proofs.YtbkjdcpfkepheaaGreatDoor
set_option linter.unusedVariables false
set_option linter.unusedSimpArgs false
open Go.RowKit Lv
set_option maxRecDepth 100000
def p16 (v : Vl) : Int × Vl × Bool := if isE (vNum v) then (0, vNum v, false) else (pos16 v, blankV, true)
theorem p16_e {v : Vl} (h : isE (vNum v) = true) : p16 v = (0, vNum v, false) := by unfold p16; rw [if_pos h]
theorem p16_v {v : Vl} (h : isE (vNum v) = false) : p16 v = (pos16 v, blankV, true) := by unfold p16; rw [if_neg (by rw [h]; decide)]
theorem Row.kept16 {w w' : World} {A : Option Addr} {zs : List Int} (h : Row w A zs) (k : Kept w w') : Row w' A zs := fun i hi => by
  obtain ⟨b, off, e, hb, hc⟩ := h i hi; exact ⟨b, off, e, Nat.lt_of_lt_of_le hb k.size, (k.cell (p := ⟨b, _, none⟩) hb).trans hc⟩
theorem mean_i64 (l : List Int) : i64 (dMean l).1 := by
  unfold dMean
  split
  · exact ⟨by decide, by decide⟩
  · exact fit_i64 _
theorem least16_i64 {l : List Int} (h64 : All64 l) (h : l ≠ []) : i64 (least16 l) := h64 _ (least_spec h).1
theorem great16_i64 {l : List Int} (h64 : All64 l) (h : l ≠ []) : i64 (great16 l) := h64 _ (great_spec h).1
theorem minOf_16 (l : List Int) (h : l ≠ []) : Lib.minOf l = least16 l := by
  cases l with
  | nil => exact absurd rfl h
  | cons a l =>
    show (a :: l).foldl min a = l.foldl min a; rw [List.foldl_cons, show min a a = a by omega]
theorem maxOf_16 (l : List Int) (h : l ≠ []) : Lib.maxOf l = great16 l := by
  cases l with
  | nil => exact absurd rfl h
  | cons a l =>
    show (a :: l).foldl max a = l.foldl max a; rw [List.foldl_cons, show max a a = a by omega]
theorem smin_any (A : Option Addr) (cap : Nat) (l : List Int) (w : World) (hr : Row w A l) (h0 : 0 < l.length) (hl : l.length ≤ 1000000) :
    Calls Tryz.prog 135 #[.slice A l.length cap] w fun e w' => e = .returned (.int .i64 (least16 l)) ∧ Kept w w' := by
  obtain ⟨b, off, rfl, hb, _⟩ := hr 0 h0; refine (Tryz.slices_Min_int b off l.length cap l w h0 (Nat.le_refl _) (by omega) (fun j hj => ?_)).mono ?_
  · obtain ⟨b', off', e, _, hc⟩ := hr j hj
    cases e
    exact hc
  · rintro e w' ⟨rfl, rfl⟩
    exact ⟨by rw [List.take_length, minOf_16 l (List.length_pos_iff.1 h0)], Kept.refl _⟩
theorem smax_any (A : Option Addr) (cap : Nat) (l : List Int) (w : World) (hr : Row w A l) (h0 : 0 < l.length) (hl : l.length ≤ 1000000) :
    Calls Tryz.prog 136 #[.slice A l.length cap] w fun e w' => e = .returned (.int .i64 (great16 l)) ∧ Kept w w' := by
  obtain ⟨b, off, rfl, hb, _⟩ := hr 0 h0; refine (Tryz.slices_Max_int b off l.length cap l w h0 (Nat.le_refl _) (by omega) (fun j hj => ?_)).mono ?_
  · obtain ⟨b', off', e, _, hc⟩ := hr j hj
    cases e
    exact hc
  · rintro e w' ⟨rfl, rfl⟩
    exact ⟨by rw [List.take_length, maxOf_16 l (List.length_pos_iff.1 h0)], Kept.refl _⟩
theorem getD_mem {l : List Int} {k : Nat} (h : k < l.length) : l.getD k 0 ∈ l := by
  rw [show l.getD k 0 = l[k] by simp [List.getD, h]]; exact List.getElem_mem h
theorem headD_getD (l : List Int) : l.headD 0 = l.getD 0 0 := by cases l <;> rfl
theorem tail_drop {l : List Int} {k : Nat} (h : k + 1 < l.length) : l.tail.drop k = l.getD (k + 1) 0 :: l.tail.drop (k + 1) := by
  cases l with
  | nil => simp at h
  | cons a l =>
    have hk : k < l.length := by simpa using h
    show l.drop k = l.getD k 0 :: l.drop (k + 1); rw [List.drop_eq_getElem_cons hk, show l.getD k 0 = l[k] by simp [List.getD, hk]]
theorem prod_on {l : List Int} {k : Nat} {x : Int} (h : k + 1 < l.length) (ok : (dMul x (l.getD (k + 1) 0)).2 = true) : prod16 x (l.tail.drop k) = prod16 (dMul x (l.getD (k + 1) 0)).1 (l.tail.drop (k + 1)) := by
  rw [tail_drop h, prod16, if_pos ok]
theorem prod_no {l : List Int} {k : Nat} {x : Int} (h : k + 1 < l.length) (ok : (dMul x (l.getD (k + 1) 0)).2 = false) : vRes (prod16 x (l.tail.drop k)) = vFail 3 := by
  rw [tail_drop h, prod16, if_neg (by rw [ok]; decide)]
  rfl
theorem prod_end {l : List Int} {k : Nat} {x : Int} (h : l.length - 1 ≤ k) : vRes (prod16 x (l.tail.drop k)) = vMake x := by
  rw [List.drop_eq_nil_of_le (by rw [List.length_tail]; exact h)]
  rfl
section
variable {a : Act} {w : World} {o : Oper}
theorem xplaceI {x y : Operand} {A : Option Addr} {b0 o0 n c k : Nat} (ho : o.op = .indexAddr 54 x y) (hA : A = some ⟨b0, o0, none⟩) (hx : a.eval x = .slice A n c) (hy : a.eval y = .int .i64 (k : Nat)) (hk : k < n) : (execOp a.eval o).run Tryz.prog w = .ok (.value (.pointer (some ⟨b0, o0 + k, none⟩))) w := by
  subst hA; exact xindexAddr ho hx hy (run_place1 Tryz.underlying54 (by kernel_rfl) hk)
theorem xrowI {T : TypeId} {x : Operand} {A : Option Addr} {l : List Int} {b0 o0 k : Nat} (ho : o.op = .load T x) (ha : (isAgg T).run Tryz.prog w = .ok false w) (hx : a.eval x = .pointer (some ⟨b0, o0 + k, none⟩)) (hr : Row w A l) (hA : A = some ⟨b0, o0, none⟩) (hk : k < l.length) : (execOp a.eval o).run Tryz.prog w = .ok (.value (.int .i64 (l.getD k 0))) w := by
  obtain ⟨b, off, e, _, hc⟩ := hr k hk; rw [hA] at e
  cases e
  exact xloadC ho ha hx hc
theorem at_plus {x : Operand} {b0 o0 o1 k : Nat} (h : o1 = o0 + 1) (hx : a.eval x = .pointer (some ⟨b0, o1 + k, none⟩)) : a.eval x = .pointer (some ⟨b0, o0 + (k + 1), none⟩) := by
  rw [hx, h, Nat.add_assoc, Nat.add_comm 1 k]
theorem xtailI {x : Operand} {A : Option Addr} {b0 o0 o1 n cap : Nat} (ho : o.op = .slice 54 x (some (.const (.int .i64 1))) none none) (hA : A = some ⟨b0, o0, none⟩) (h1 : o1 = if cap = 1 then o0 else o0 + 1) (hx : a.eval x = .slice A n cap) (hn : 1 ≤ n) (hc : n ≤ cap) : (execOp a.eval o).run Tryz.prog w = .ok (.value (.slice (some ⟨b0, o1, none⟩) (n - 1) (cap - 1))) w := by
  subst hA; have hr := run_underlying (w := w) Tryz.underlying54; have hz : (sizeOf 2).run Tryz.prog w = .ok 1 w := by kernel_rfl
  have c1 : (1 : Int) ≤ (n : Int) := by omega
  have c2 : (n : Int) ≤ (cap : Int) := by omega
  unfold execOp; rw [ho]
  simp only [hx, Option.map_some, Option.map_none, show a.eval (.const (.int .i64 1)) = .int .i64 1 from rfl]
  go_simp
  by_cases c : cap = 1
  · subst c
    rw [if_pos rfl] at h1; subst h1
    simp
  · rw [if_neg c] at h1
    subst h1; have c3 : ¬ cap - 1 = 0 := by omega
    have c4 : ¬ cap ≤ 1 := by omega
    rw [if_neg c, if_neg c]
end
def ar16 (fn : Nat) : Int × Int × Int := if fn = 13 ∨ (46 ≤ fn ∧ fn ≤ 50) then (1, 1, 0) else if fn = 18 ∨ fn = 19 ∨ fn = 45 then (2, 2, 0) else if fn = 43 then (2, 3, 0) else if fn = 44 then (2, 2, 1) else (1, 16, -1)
theorem en_agg_result : En 131 := by intro args w; go_simp
theorem en_dec_Mean : En 134 := by intro args w; go_simp
theorem en_dec_Mul : En 133 := by intro args w; go_simp
theorem en_dec_Sum : En 132 := by intro args w; go_simp
theorem en_slices_Max___int64_int64_ : En 136 := by intro args w; go_simp
theorem en_slices_Min___int64_int64_ : En 135 := by intro args w; go_simp
theorem en_val_ToNumber : En 122 := by intro args w; go_simp
set_option maxHeartbeats 4000000 in
theorem aposition_any (v : Vl) (w : World) (mx : Int) (HM : Mx w mx) (hs : Small v) :
    Calls Tryz.prog 100 #[aggV v] w fun e w' => e = .returned (.tuple #[.int .i64 (p16 v).1, aggV (p16 v).2.1, .bool (p16 v).2.2]) ∧ Kept w w' := by
  go_enter Tryz.func100, Tryz.ntmps100; refine sq fun hK1 => ?_
  refine ro [yNew w.heap.size (.cells #[.int .u8 v.k, .int .i64 v.n, .string ⟨v.t.toArray⟩] 25 (0, 0)), yV _, yNew w.heap.size (.cells #[.int .u8 0, .int .i64 0, .string ⟨[].toArray⟩] 25 (0, 0)), yV _] 4 16 rfl rfl (Own.start w) (
    aP (fun hk bs hd => xbox rfl (bs.get 0 rfl rfl) (by kernel_rfl)) rfl <|
    aS (fun hk bs hd => xassign rfl rfl) rfl <|
    aP (fun hk bs hd => xalloc rfl (by kernel_rfl)) rfl <|
    aS (fun hk bs hd => xassign rfl rfl) rfl <|
    arm0) fun fa fw bs hv ap z q ov => ?_
  obtain ⟨gb1, s1, bgb1, hgb1⟩ := gotP hv 0 rfl rfl rfl; have ov := ov.cons hgb1 (Nat.le_trans (Own.start w).kept.size bgb1) ((Own.start w).below bgb1); have s2 := gv hv 1 rfl rfl; obtain ⟨gb2, s3, bgb2, hgb2⟩ := gotP hv 2 rfl rfl rfl; have ov := ov.cons hgb2 (Nat.le_trans (Own.start w).kept.size bgb2) (ne_cons (apartP ap 0 2 rfl rfl rfl s1 rfl s3 rfl) ((Own.start w).below bgb2)); have s4 := gv hv 3 rfl rfl; have ow := ov; refine wt hK1 ?_; refine sq fun hK2 => ?_
  refine ro [yV (aggV v), yV (aggV (vNum v)), yNew fw.heap.size (.cells #[.int .u8 0, .int .i64 0, .string ⟨[].toArray⟩] 25 (0, 0))] 3 16 z q ow (
    aS (fun hk bs hd => xloadN 3 rfl (by kernel_rfl) (by kernel_rfl) (bg bs s1) ((ow.keep hk).box 1 rfl) (Nat.le_of_ble_eq_true rfl) rfl) rfl <|
    aC (fun hk bs hd => xcall1 rfl (dp hd 0 rfl) (en_val_ToNumber _ _)) (fun hk bs hd => tonum_any v _ mx (HM.kept (ow.keep hk).kept) hs.1 hs.2) rfl <|
    aP (fun hk bs hd => xalloc rfl (by kernel_rfl)) rfl <|
    arm0) fun fa fw bs hv ap z q ov => ?_
  obtain ⟨s2, s3, s4⟩ := b3 bs s2 s3 s4; have s7 := gv hv 1 rfl rfl; obtain ⟨gb3, s5, bgb3, hgb3⟩ := gotP hv 2 rfl rfl rfl; have ov := ov.cons hgb3 (Nat.le_trans ow.kept.size bgb3) (ow.below bgb3); have ow := ov; refine ws ow 0 0 s5 s7 fun fw ow => ?_; refine wt hK2 ?_; refine sq fun hK3 => ?_; refine sq fun hK4 => ?_
  refine ro [yV (.pointer (some ⟨gb3, 0, none⟩)), yV _, yV _] 3 16 z q ow (
    aS (fun hk bs hd => xfieldAddr rfl (bg bs s5) (by kernel_rfl)) rfl <|
    aS (fun hk bs hd => xloadB rfl (by kernel_rfl) (dp hd 0 rfl) ((ow.keep hk).box 0 rfl) rfl) rfl <|
    aS (fun hk bs hd => xeqi rfl (dp hd 1 rfl) rfl) rfl <|
    arm0) fun fa fw bs hv ap z q ow => ?_
  obtain ⟨s2, s3, s4, s5⟩ := b4 bs s2 s3 s4 s5; have s10 := gv hv 2 rfl rfl; refine wt hK4 ?_
  by_cases hc1 : ((vNum v).k : Int) = (4 : Int)
  ·refine ct s10 ((decide_eq_true_iff).2 hc1) ?_
   have hie := ise_of hc1; refine sq fun hK5 => ?_
   refine ro [yV (aggV (vNum v)), yV _] 2 16 z q ow (
     aS (fun hk bs hd => xloadN 3 rfl (by kernel_rfl) (by kernel_rfl) (bg bs s5) ((ow.keep hk).box 0 rfl) (Nat.le_of_ble_eq_true rfl) rfl) rfl <|
     aS (fun hk bs hd => xassign rfl rfl) rfl <|
     arm0) fun fa fw bs hv ap z q ow => ?_
   obtain ⟨s3, s4, s5⟩ := b3 bs s3 s4 s5; have s11 := gv hv 0 rfl rfl; have s2 := gv hv 1 rfl rfl; refine ws ow 1 0 s3 s11 fun fw ow => ?_; refine wl_value (v := .bool false) (want0 rfl) (xassign rfl rfl) ?_; refine gp3 z q ow s3 s5 s2 fun fa fw z q ow s3 s5 s2 s4 => ?_; refine wt hK5 ?_; refine wp_ret ?_; refine then_r ?_; refine resultsL (v := .tuple #[.int .i64 0, aggV (vNum v), .bool false]) rfl (.cons (res_tmp s2) (.cons (res_cell (n := 3) _ s3 (by kernel_rfl) (by kernel_rfl) (ow.box 1 rfl) (Nat.le_of_ble_eq_true rfl) rfl) (.cons (res_tmp s4) .nil))) rfl q ?_; exact ⟨(by rw [p16_e hie]), ow.kept⟩
  refine cf s10 (decide_eq_true_iff) hc1 ?_; have hie := ise_not hc1; have hr0 := num_range hie hs.1; have hq := tdiv_in (y := (vNum v).n) ⟨by omega, by omega⟩; have hq1 := hq.1; have hq2 := hq.2; refine wp_skip ?_; refine tn hK3 ?_; refine sq fun hK6 => ?_
  refine ro [yV (.pointer (some ⟨gb3, 1, none⟩)), yV _, yV _, yV (aggV (⟨0, 0, []⟩ : Vl)), yV _] 5 16 z q ow (
    aS (fun hk bs hd => xfieldAddr rfl (bg bs s5) (by kernel_rfl)) rfl <|
    aS (fun hk bs hd => xloadB rfl (by kernel_rfl) (dp hd 0 rfl) ((ow.keep hk).box 0 rfl) rfl) rfl <|
    aS (fun hk bs hd => xquo (Or.inr rfl) rfl (dp hd 1 rfl) rfl (by decide) (by omega) (by omega)) rfl <|
    aS (fun hk bs hd => xbuild (us := #[]) rfl (by simp) (by kernel_rfl)) rfl <|
    asD 2 rfl rfl rfl rfl rfl rfl <|
    arm0) fun fa fw bs hv ap z q ow => ?_
  obtain ⟨s3, s4⟩ := b2 bs s3 s4; have s15 := gv hv 3 rfl rfl; have s2 := gv hv 4 rfl rfl; refine ws ow 1 0 s3 s15 fun fw ow => ?_; refine wl_value (v := .bool true) (want0 rfl) (xassign rfl rfl) ?_; refine gp2 z q ow s3 s2 fun fa fw z q ow s3 s2 s4 => ?_; refine wt hK6 ?_; refine wp_ret ?_; refine resultsL (v := .tuple #[.int .i64 (Int.tdiv ((vNum v).n) 10000), aggV (⟨0, 0, []⟩ : Vl), .bool true]) rfl (.cons (res_tmp s2) (.cons (res_cell (n := 3) _ s3 (by kernel_rfl) (by kernel_rfl) (ow.box 1 rfl) (Nat.le_of_ble_eq_true rfl) rfl) (.cons (res_tmp s4) .nil))) rfl q ?_; exact ⟨(by rw [p16_v hie]; rfl), ow.kept⟩
set_option maxHeartbeats 4000000 in
theorem asum_any (A : Option Addr) (cap : Nat) (l : List Int) (w : World) (hr : Row w A l) (h64 : All64 l) (hl : l.length ≤ 1000000) :
    Calls Tryz.prog 94 #[.slice A l.length cap] w fun e w' => e = .returned (aggV (vRes (dSum l))) ∧ Kept w w' := by
  go_enter Tryz.func94, Tryz.ntmps94; refine sq fun hK1 => ?_
  refine ro [yNew w.heap.size (.cells #[.int .u8 0, .int .i64 0, .string ⟨[].toArray⟩] 25 (0, 0))] 1 8 rfl rfl (Own.start w) (
    aP (fun hk bs hd => xalloc rfl (by kernel_rfl)) rfl <|
    arm0) fun fa fw bs hv ap z q ov => ?_
  have s0 := bs.get 0 rfl rfl; obtain ⟨gb1, s2, bgb1, hgb1⟩ := gotP hv 0 rfl rfl rfl; have ov := ov.cons hgb1 (Nat.le_trans (Own.start w).kept.size bgb1) ((Own.start w).below bgb1); have ow := ov; refine wt hK1 ?_; refine sq fun hK2 => ?_
  refine ro [yV _, yV (.tuple #[.int .i64 ((dSum l).1), .bool ((dSum l).2)]), yV _, yV _, yV (aggV (vRes ((dSum l).1, (dSum l).2)))] 5 8 z q ow (
    mvS s0 rfl rfl rfl rfl <|
    aC (fun hk bs hd => xcall1 rfl (dp hd 0 rfl) (en_dec_Sum _ _)) (fun hk bs hd => sum_any A cap l _ (Row.kept16 hr (ow.keep hk).kept) h64 (by omega)) rfl <|
    aS (fun hk bs hd => xextract rfl (dp hd 1 rfl) rfl) rfl <|
    aS (fun hk bs hd => xextract rfl (dp hd 1 rfl) rfl) rfl <|
    aC (fun hk bs hd => xcall2 rfl (dp hd 2 rfl) (dp hd 3 rfl) (en_agg_result _ _)) (fun hk bs hd => aresult_any ((dSum l).1) ((dSum l).2) _ (fun _ => fit_i64 _)) rfl <|
    arm0) fun fa fw bs hv ap z q ow => ?_
  have s2 := bg bs s2; have s7 := gv hv 4 rfl rfl; refine ws ow 0 0 s2 s7 fun fw ow => ?_; refine wt hK2 ?_; refine wp_ret ?_; refine rs3 s2 (ow.box 0 rfl) q ?_; exact ⟨rfl, ow.kept⟩
set_option maxHeartbeats 4000000 in
theorem aaverage_any (A : Option Addr) (cap : Nat) (l : List Int) (w : World) (hr : Row w A l) (h64 : All64 l) (hl : l.length ≤ 1000000) :
    Calls Tryz.prog 96 #[.slice A l.length cap] w fun e w' => e = .returned (aggV (if l = [] then vFail 1 else vRes (dMean l))) ∧ Kept w w' := by
  go_enter Tryz.func96, Tryz.ntmps96; refine sq fun hK1 => ?_
  refine ro [yNew w.heap.size (.cells #[.int .u8 0, .int .i64 0, .string ⟨[].toArray⟩] 25 (0, 0))] 1 12 rfl rfl (Own.start w) (
    aP (fun hk bs hd => xalloc rfl (by kernel_rfl)) rfl <|
    arm0) fun fa fw bs hv ap z q ov => ?_
  have s0 := bs.get 0 rfl rfl; obtain ⟨gb1, s2, bgb1, hgb1⟩ := gotP hv 0 rfl rfl rfl; have ov := ov.cons hgb1 (Nat.le_trans (Own.start w).kept.size bgb1) ((Own.start w).below bgb1); have ow := ov; refine wt hK1 ?_; refine sq fun hK2 => ?_; refine sq fun hK3 => ?_
  refine ro [yV _, yV _, yV _] 3 12 z q ow (
    mvS s0 rfl rfl rfl rfl <|
    aS (fun hk bs hd => xlen Tryz.underlying54 rfl (dp hd 0 rfl)) rfl <|
    aS (fun hk bs hd => xeqi rfl (dp hd 1 rfl) rfl) rfl <|
    arm0) fun fa fw bs hv ap z q ow => ?_
  obtain ⟨s0, s2⟩ := b2 bs s0 s2; have s5 := gv hv 2 rfl rfl; refine wt hK3 ?_
  by_cases hc1 : ((l.length : Nat) : Int) = (0 : Int)
  ·refine ct s5 ((decide_eq_true_iff).2 hc1) ?_
   refine sq fun hK4 => ?_
   refine ro [yV (aggV (vFail 1))] 1 12 z q ow (
     aC (fun hk bs hd => xcall1 rfl rfl (en_val_Fail _ _)) (fun hk bs hd => vfail_any 1 _) rfl <|
     arm0) fun fa fw bs hv ap z q ow => ?_
   obtain ⟨s0, s2⟩ := b2 bs s0 s2; have s6 := gv hv 0 rfl rfl; refine ws ow 0 0 s2 s6 fun fw ow => ?_; refine wt hK4 ?_; refine wp_ret ?_; refine then_r ?_; refine rs3 s2 (ow.box 0 rfl) q ?_; exact ⟨congrArg (fun v => Ending.returned (aggV v)) (by rw [if_pos (show l = [] from List.eq_nil_of_length_eq_zero (by omega))]), ow.kept⟩
  refine cf s5 (decide_eq_true_iff) hc1 ?_; have hne := hc1; refine wp_skip ?_; refine tn hK2 ?_; refine sq fun hK5 => ?_
  refine ro [yV _, yV (.tuple #[.int .i64 ((dMean l).1), .bool ((dMean l).2)]), yV _, yV _, yV (aggV (vRes ((dMean l).1, (dMean l).2)))] 5 12 z q ow (
    mvS s0 rfl rfl rfl rfl <|
    aC (fun hk bs hd => xcall1 rfl (dp hd 0 rfl) (en_dec_Mean _ _)) (fun hk bs hd => mean_any A cap l _ (Row.kept16 hr (ow.keep hk).kept) h64 (by omega)) rfl <|
    aS (fun hk bs hd => xextract rfl (dp hd 1 rfl) rfl) rfl <|
    aS (fun hk bs hd => xextract rfl (dp hd 1 rfl) rfl) rfl <|
    aC (fun hk bs hd => xcall2 rfl (dp hd 2 rfl) (dp hd 3 rfl) (en_agg_result _ _)) (fun hk bs hd => aresult_any ((dMean l).1) ((dMean l).2) _ (fun _ => mean_i64 l)) rfl <|
    arm0) fun fa fw bs hv ap z q ow => ?_
  have s2 := bg bs s2; have s11 := gv hv 4 rfl rfl; refine ws ow 0 0 s2 s11 fun fw ow => ?_; refine wt hK5 ?_; refine wp_ret ?_; refine rs3 s2 (ow.box 0 rfl) q ?_; exact ⟨congrArg (fun v => Ending.returned (aggV v)) (by rw [if_neg (fun c => hne (by rw [c]; rfl))]), ow.kept⟩
set_option maxHeartbeats 4000000 in
theorem aleast_any (A : Option Addr) (cap : Nat) (l : List Int) (w : World) (hr : Row w A l) (h64 : All64 l) (hl : l.length ≤ 1000000) :
    Calls Tryz.prog 97 #[.slice A l.length cap] w fun e w' => e = .returned (aggV (if l = [] then vMake 0 else vMake (least16 l))) ∧ Kept w w' := by
  go_enter Tryz.func97, Tryz.ntmps97; refine sq fun hK1 => ?_
  refine ro [yNew w.heap.size (.cells #[.int .u8 0, .int .i64 0, .string ⟨[].toArray⟩] 25 (0, 0))] 1 10 rfl rfl (Own.start w) (
    aP (fun hk bs hd => xalloc rfl (by kernel_rfl)) rfl <|
    arm0) fun fa fw bs hv ap z q ov => ?_
  have s0 := bs.get 0 rfl rfl; obtain ⟨gb1, s2, bgb1, hgb1⟩ := gotP hv 0 rfl rfl rfl; have ov := ov.cons hgb1 (Nat.le_trans (Own.start w).kept.size bgb1) ((Own.start w).below bgb1); have ow := ov; refine wt hK1 ?_; refine sq fun hK2 => ?_; refine sq fun hK3 => ?_
  refine ro [yV _, yV _, yV _] 3 10 z q ow (
    mvS s0 rfl rfl rfl rfl <|
    aS (fun hk bs hd => xlen Tryz.underlying54 rfl (dp hd 0 rfl)) rfl <|
    aS (fun hk bs hd => xeqi rfl (dp hd 1 rfl) rfl) rfl <|
    arm0) fun fa fw bs hv ap z q ow => ?_
  obtain ⟨s0, s2⟩ := b2 bs s0 s2; have s5 := gv hv 2 rfl rfl; refine wt hK3 ?_
  by_cases hc1 : ((l.length : Nat) : Int) = (0 : Int)
  ·refine ct s5 ((decide_eq_true_iff).2 hc1) ?_
   refine sq fun hK4 => ?_
   refine ro [yV (aggV (vMake (0 * 10000)))] 1 10 z q ow (
     aC (fun hk bs hd => xcall1 rfl rfl (en_agg_whole _ _)) (fun hk bs hd => awhole_any 0 _ (by omega) (by omega)) rfl <|
     arm0) fun fa fw bs hv ap z q ow => ?_
   obtain ⟨s0, s2⟩ := b2 bs s0 s2; have s6 := gv hv 0 rfl rfl; refine ws ow 0 0 s2 s6 fun fw ow => ?_; refine wt hK4 ?_; refine wp_ret ?_; refine then_r ?_; refine rs3 s2 (ow.box 0 rfl) q ?_; exact ⟨congrArg (fun v => Ending.returned (aggV v)) (by rw [if_pos (show l = [] from List.eq_nil_of_length_eq_zero (by omega))]; rfl), ow.kept⟩
  refine cf s5 (decide_eq_true_iff) hc1 ?_; have hne := hc1; refine wp_skip ?_; refine tn hK2 ?_; refine sq fun hK5 => ?_
  refine ro [yV _, yV (.int .i64 (least16 l)), yV (aggV (vMake (least16 l)))] 3 10 z q ow (
    mvS s0 rfl rfl rfl rfl <|
    aC (fun hk bs hd => xcall1 rfl (dp hd 0 rfl) (en_slices_Min___int64_int64_ _ _)) (fun hk bs hd => smin_any A cap l _ (Row.kept16 hr (ow.keep hk).kept) (by omega) hl) rfl <|
    aC (fun hk bs hd => xcall1 rfl (dp hd 1 rfl) (en_val_Make _ _)) (fun hk bs hd => vmake_any (least16 l) _ (least16_i64 h64 (fun c => hne (by rw [c]; rfl))).1 (least16_i64 h64 (fun c => hne (by rw [c]; rfl))).2) rfl <|
    arm0) fun fa fw bs hv ap z q ow => ?_
  have s2 := bg bs s2; have s9 := gv hv 2 rfl rfl; refine ws ow 0 0 s2 s9 fun fw ow => ?_; refine wt hK5 ?_; refine wp_ret ?_; refine rs3 s2 (ow.box 0 rfl) q ?_; exact ⟨congrArg (fun v => Ending.returned (aggV v)) (by rw [if_neg (fun c => hne (by rw [c]; rfl))]), ow.kept⟩
set_option maxHeartbeats 4000000 in
theorem agreatest_any (A : Option Addr) (cap : Nat) (l : List Int) (w : World) (hr : Row w A l) (h64 : All64 l) (hl : l.length ≤ 1000000) :
    Calls Tryz.prog 98 #[.slice A l.length cap] w fun e w' => e = .returned (aggV (if l = [] then vMake 0 else vMake (great16 l))) ∧ Kept w w' := by
  go_enter Tryz.func98, Tryz.ntmps98; refine sq fun hK1 => ?_
  refine ro [yNew w.heap.size (.cells #[.int .u8 0, .int .i64 0, .string ⟨[].toArray⟩] 25 (0, 0))] 1 10 rfl rfl (Own.start w) (
    aP (fun hk bs hd => xalloc rfl (by kernel_rfl)) rfl <|
    arm0) fun fa fw bs hv ap z q ov => ?_
  have s0 := bs.get 0 rfl rfl; obtain ⟨gb1, s2, bgb1, hgb1⟩ := gotP hv 0 rfl rfl rfl; have ov := ov.cons hgb1 (Nat.le_trans (Own.start w).kept.size bgb1) ((Own.start w).below bgb1); have ow := ov; refine wt hK1 ?_; refine sq fun hK2 => ?_; refine sq fun hK3 => ?_
  refine ro [yV _, yV _, yV _] 3 10 z q ow (
    mvS s0 rfl rfl rfl rfl <|
    aS (fun hk bs hd => xlen Tryz.underlying54 rfl (dp hd 0 rfl)) rfl <|
    aS (fun hk bs hd => xeqi rfl (dp hd 1 rfl) rfl) rfl <|
    arm0) fun fa fw bs hv ap z q ow => ?_
  obtain ⟨s0, s2⟩ := b2 bs s0 s2; have s5 := gv hv 2 rfl rfl; refine wt hK3 ?_
  by_cases hc1 : ((l.length : Nat) : Int) = (0 : Int)
  ·refine ct s5 ((decide_eq_true_iff).2 hc1) ?_
   refine sq fun hK4 => ?_
   refine ro [yV (aggV (vMake (0 * 10000)))] 1 10 z q ow (
     aC (fun hk bs hd => xcall1 rfl rfl (en_agg_whole _ _)) (fun hk bs hd => awhole_any 0 _ (by omega) (by omega)) rfl <|
     arm0) fun fa fw bs hv ap z q ow => ?_
   obtain ⟨s0, s2⟩ := b2 bs s0 s2; have s6 := gv hv 0 rfl rfl; refine ws ow 0 0 s2 s6 fun fw ow => ?_; refine wt hK4 ?_; refine wp_ret ?_; refine then_r ?_; refine rs3 s2 (ow.box 0 rfl) q ?_; exact ⟨congrArg (fun v => Ending.returned (aggV v)) (by rw [if_pos (show l = [] from List.eq_nil_of_length_eq_zero (by omega))]; rfl), ow.kept⟩
  refine cf s5 (decide_eq_true_iff) hc1 ?_; have hne := hc1; refine wp_skip ?_; refine tn hK2 ?_; refine sq fun hK5 => ?_
  refine ro [yV _, yV (.int .i64 (great16 l)), yV (aggV (vMake (great16 l)))] 3 10 z q ow (
    mvS s0 rfl rfl rfl rfl <|
    aC (fun hk bs hd => xcall1 rfl (dp hd 0 rfl) (en_slices_Max___int64_int64_ _ _)) (fun hk bs hd => smax_any A cap l _ (Row.kept16 hr (ow.keep hk).kept) (by omega) hl) rfl <|
    aC (fun hk bs hd => xcall1 rfl (dp hd 1 rfl) (en_val_Make _ _)) (fun hk bs hd => vmake_any (great16 l) _ (great16_i64 h64 (fun c => hne (by rw [c]; rfl))).1 (great16_i64 h64 (fun c => hne (by rw [c]; rfl))).2) rfl <|
    arm0) fun fa fw bs hv ap z q ow => ?_
  have s2 := bg bs s2; have s9 := gv hv 2 rfl rfl; refine ws ow 0 0 s2 s9 fun fw ow => ?_; refine wt hK5 ?_; refine wp_ret ?_; refine rs3 s2 (ow.box 0 rfl) q ?_; exact ⟨congrArg (fun v => Ending.returned (aggV v)) (by rw [if_neg (fun c => hne (by rw [c]; rfl))]), ow.kept⟩
set_option maxHeartbeats 4000000 in
theorem aproduct_any (A : Option Addr) (cap : Nat) (l : List Int) (w : World) (hr : Row w A l) (h64 : All64 l) (hl : l.length ≤ 1000000) (hc : l.length ≤ cap) :
    Calls Tryz.prog 95 #[.slice A l.length cap] w fun e w' => e = .returned (aggV (if l = [] then vMake 0 else vRes (prod16 (l.headD 0) l.tail))) ∧ Kept w w' := by
  go_enter Tryz.func95, Tryz.ntmps95; refine sq fun hK1 => ?_
  refine ro [yNew w.heap.size (.cells #[.int .u8 0, .int .i64 0, .string ⟨[].toArray⟩] 25 (0, 0))] 1 33 rfl rfl (Own.start w) (
    aP (fun hk bs hd => xalloc rfl (by kernel_rfl)) rfl <|
    arm0) fun fa fw bs hv ap z q ov => ?_
  have s0 := bs.get 0 rfl rfl; obtain ⟨gb1, s2, bgb1, hgb1⟩ := gotP hv 0 rfl rfl rfl; have ov := ov.cons hgb1 (Nat.le_trans (Own.start w).kept.size bgb1) ((Own.start w).below bgb1); have ow := ov; refine wt hK1 ?_; refine sq fun hK2 => ?_; refine sq fun hK3 => ?_
  refine ro [yV _, yV _, yV _] 3 33 z q ow (
    mvS s0 rfl rfl rfl rfl <|
    aS (fun hk bs hd => xlen Tryz.underlying54 rfl (dp hd 0 rfl)) rfl <|
    aS (fun hk bs hd => xeqi rfl (dp hd 1 rfl) rfl) rfl <|
    arm0) fun fa fw bs hv ap z q ow => ?_
  obtain ⟨s0, s2⟩ := b2 bs s0 s2; have s9 := gv hv 2 rfl rfl; refine wt hK3 ?_
  by_cases hc1 : ((l.length : Nat) : Int) = (0 : Int)
  ·refine ct s9 ((decide_eq_true_iff).2 hc1) ?_
   refine sq fun hK4 => ?_
   refine ro [yV (aggV (vMake (0 * 10000)))] 1 33 z q ow (
     aC (fun hk bs hd => xcall1 rfl rfl (en_agg_whole _ _)) (fun hk bs hd => awhole_any 0 _ (by omega) (by omega)) rfl <|
     arm0) fun fa fw bs hv ap z q ow => ?_
   obtain ⟨s0, s2⟩ := b2 bs s0 s2; have s10 := gv hv 0 rfl rfl; refine ws ow 0 0 s2 s10 fun fw ow => ?_; refine wt hK4 ?_; refine wp_ret ?_; refine then_r ?_; refine rs3 s2 (ow.box 0 rfl) q ?_; exact ⟨congrArg (fun v => Ending.returned (aggV v)) (by rw [if_pos (show l = [] from List.eq_nil_of_length_eq_zero (by omega))]; rfl), ow.kept⟩
  refine cf s9 (decide_eq_true_iff) hc1 ?_; have hne := hc1; obtain ⟨b0, o0, hA0, _⟩ := hr 0 (by omega); obtain ⟨o1, ho1⟩ : ∃ o1, o1 = (if cap = 1 then o0 else o0 + 1) := ⟨_, rfl⟩; have ho2 : 1 < l.length → o1 = o0 + 1 := fun h => by rw [ho1, if_neg (by omega)]
  refine wp_skip ?_; refine tn hK2 ?_; refine sq fun hK5 => ?_
  refine ro [yV _, yV _, yV _, yV _, yV _] 5 33 z q ow (
    mvS s0 rfl rfl rfl rfl <|
    aS (fun hk bs hd => xplaceI (k := 0) rfl hA0 (dp hd 0 rfl) rfl (by omega)) rfl <|
    aS (fun hk bs hd => xrowI rfl (by kernel_rfl) (dp hd 1 rfl) (Row.kept16 hr (ow.keep hk).kept) hA0 (by omega)) rfl <|
    asD 2 rfl rfl rfl rfl rfl rfl <|
    aS (fun hk bs hd => xassign rfl rfl) rfl <|
    arm0) fun fa fw bs hv ap z q ow => ?_
  obtain ⟨s0, s2⟩ := b2 bs s0 s2; have s3 := gv hv 3 rfl rfl; have s4 := gv hv 4 rfl rfl; refine wt hK5 ?_; refine sq fun hK6 => ?_; refine sq fun hK7 => ?_
  refine ro [yV _, yV _, yV _, yV _] 4 33 z q ow (
    mvS s0 rfl rfl rfl rfl <|
    aS (fun hk bs hd => xtailI rfl hA0 ho1 (dp hd 0 rfl) (by omega) hc) rfl <|
    aS (fun hk bs hd => xlen Tryz.underlying54 rfl (dp hd 1 rfl)) rfl <|
    aS (fun hk bs hd => xmove rfl rfl) rfl <|
    arm0) fun fa fw bs hv ap z q ow => ?_
  obtain ⟨s2, s3, s4⟩ := b3 bs s2 s3 s4; have s15 := gv hv 1 rfl rfl; have s16 := gv hv 2 rfl rfl; have s17 := gv hv 3 rfl rfl; refine wt hK7 ?_; refine wp_block ?_; refine wp_loop_g (fun (k : Nat) fr u => ∃ (x : Int), (k ≤ l.length - 1) ∧ (prod16 (l.headD 0) l.tail = prod16 x (l.tail.drop k)) ∧ (i64 x) ∧ fr.tmps.size = 33 ∧ fr.defers = [] ∧ Own w [Th.obj gb1 (.cells #[.int .u8 0, .int .i64 0, .string ⟨[].toArray⟩] 25 (0, 0))] u ∧ fr.eval (.tmp 2) = .pointer (some ⟨gb1, 0, none⟩) ∧ fr.eval (.tmp 15) = .slice (some ⟨b0, o1, none⟩) (l.length - 1) (cap - 1) ∧ fr.eval (.tmp 16) = .int .i64 (((l.length - 1) : Nat) : Int) ∧ fr.eval (.tmp 3) = .int .i64 x ∧ fr.eval (.tmp 17) = .int .i64 (k : Int)) (fun k => l.length - 1 - k) 0 ⟨(l.getD 0 0), (Nat.zero_le _), (by rw [List.drop_zero, headD_getD]), (h64 _ (getD_mem (by omega))), z, q, ow, s2, s15, s16, s3, s17⟩ (fun k b_ u_ hI => ?_)
  revert b_ u_; intro fa fw hI
  obtain ⟨x, hk0, hp, hx, z, q, ow, s2, s15, s16, s3, s17⟩ := hI; refine sq fun hK8 => ?_
  refine ro [yV _] 1 33 z q ow (
    aS (fun hk bs hd => xlss rfl (bg bs s17) (bg bs s16)) rfl <|
    arm0) fun fa fw bs hv ap z q ow => ?_
  obtain ⟨s2, s15, s16, s3, s17⟩ := b5 bs s2 s15 s16 s3 s17; have s18 := gv hv 0 rfl rfl; refine wt hK8 ?_; refine sq fun hK9 => ?_
  by_cases hc2 : (k : Int) < (((l.length - 1) : Nat) : Int)
  ·refine ct s18 ((decide_eq_true_iff).2 hc2) ?_
   refine wp_skip ?_; refine tn hK9 ?_; refine sq fun hK10 => ?_; refine wp_block ?_; refine sq fun hK11 => ?_; have hlt : k + 1 < l.length := by omega
   have hyx : i64 (l.getD (k + 1) 0) := h64 _ (getD_mem hlt)
   refine ro [yV _, yV _, yV _] 3 33 z q ow (
     aS (fun hk bs hd => xplaceI (k := k) rfl rfl (bg bs s15) (bg bs s17) (by omega)) rfl <|
     aS (fun hk bs hd => xrowI (k := k + 1) rfl (by kernel_rfl) (at_plus (ho2 (by omega)) (dp hd 0 rfl)) (Row.kept16 hr (ow.keep hk).kept) hA0 (by omega)) rfl <|
     asD 1 rfl rfl rfl rfl rfl rfl <|
     arm0) fun fa fw bs hv ap z q ow => ?_
   obtain ⟨s2, s15, s16, s3, s17⟩ := b5 bs s2 s15 s16 s3 s17; have s6 := gv hv 2 rfl rfl; refine wt hK11 ?_; refine sq fun hK12 => ?_
   refine ro [yV _, yV _, yV (.tuple #[.int .i64 ((dMul x (l.getD (k + 1) 0)).1), .bool ((dMul x (l.getD (k + 1) 0)).2)]), yV _, yV _, yV _] 6 33 z q ow (
     mvS s3 rfl rfl rfl rfl <|
     mvS s6 rfl rfl rfl rfl <|
     aC (fun hk bs hd => xcall2 rfl (dp hd 0 rfl) (dp hd 1 rfl) (en_dec_Mul _ _)) (fun hk bs hd => drew_kept (mul_any x (l.getD (k + 1) 0) _ hx hyx)) rfl <|
     mvD 2 rfl rfl rfl rfl rfl rfl <|
     aS (fun hk bs hd => xextract rfl (dp hd 3 rfl) rfl) rfl <|
     aS (fun hk bs hd => xextract rfl (dp hd 3 rfl) rfl) rfl <|
     arm0) fun fa fw bs hv ap z q ow => ?_
   obtain ⟨s2, s15, s16, s3, s17⟩ := b5 bs s2 s15 s16 s3 s17; have s25 := gv hv 4 rfl rfl; have s26 := gv hv 5 rfl rfl; refine wl_value (v := .int .i64 ((dMul x (l.getD (k + 1) 0)).1)) (want0 rfl) (xassign rfl s25) ?_; refine wl_value (v := .bool ((dMul x (l.getD (k + 1) 0)).2)) (want0 rfl) (xassign rfl (pb 3 s26 rfl)) ?_; refine gt6 (put_size (put_size z)) (put_def (put_def q)) ow 2 (pb 4 (pb 3 s2 rfl) rfl) 15 (pb 4 (pb 3 s15 rfl) rfl) 16 (pb 4 (pb 3 s16 rfl) rfl) 17 (pb 4 (pb 3 s17 rfl) rfl) 3 (pb 4 (put_in (t := 3) z rfl) rfl) 4 (put_in (t := 4) (put_size z) rfl) fun fa fw z q ow s2 s15 s16 s17 s3 s4 => ?_; refine wt hK12 ?_; refine sq fun hK13 => ?_
   refine ro [yV _, yV _] 2 33 z q ow (
     mvS s4 rfl rfl rfl rfl <|
     aS (fun hk bs hd => xnot rfl (dp hd 0 rfl)) rfl <|
     arm0) fun fa fw bs hv ap z q ow => ?_
   obtain ⟨s2, s15, s16, s17, s3⟩ := b5 bs s2 s15 s16 s17 s3; have s28 := gv hv 1 rfl rfl; refine wt hK13 ?_
   by_cases hc3 : ¬ (((dMul x (l.getD (k + 1) 0)).2) = true)
   ·refine ct s28 ((bnot (Iff.rfl)).2 hc3) ?_
    have hno : (dMul x (l.getD (k + 1) 0)).2 = false := by simpa using hc3
    refine sq fun hK14 => ?_
    refine ro [yV (aggV (vFail 3))] 1 33 z q ow (
      aC (fun hk bs hd => xcall1 rfl rfl (en_val_Fail _ _)) (fun hk bs hd => vfail_any 3 _) rfl <|
      arm0) fun fa fw bs hv ap z q ow => ?_
    obtain ⟨s2, s15, s16, s17, s3⟩ := b5 bs s2 s15 s16 s17 s3; have s29 := gv hv 0 rfl rfl; refine ws ow 0 0 s2 s29 fun fw ow => ?_; refine wt hK14 ?_; refine wp_ret ?_; refine block_r ?_; refine then_r ?_; refine then_r ?_; refine block_r ?_; refine then_r ?_; refine rs3 s2 (ow.box 0 rfl) q ?_; exact ⟨congrArg (fun v => Ending.returned (aggV v)) (by rw [if_neg (fun c => hne (by rw [c]; rfl)), hp, prod_no (by omega) hno]), ow.kept⟩
   refine cf s28 (bnot (Iff.rfl)) hc3 ?_; have hok : (dMul x (l.getD (k + 1) 0)).2 = true := by simpa using hc3
   refine wp_skip ?_; refine block_n ?_; refine tn hK10 ?_
   refine ro [yV (.int .i64 ((k + 1 : Nat) : Int))] 1 33 z q ow (
     aS (fun hk bs hd => xadd (Or.inl rfl) rfl (bg bs s17) rfl (by omega) (by omega)) rfl <|
     arm0) fun fa fw bs hv ap z q ow => ?_
   obtain ⟨s2, s15, s16, s17, s3⟩ := b5 bs s2 s15 s16 s17 s3; have s30 := gv hv 0 rfl rfl; refine wl_value (v := .int .i64 ((k + 1 : Nat) : Int)) (want0 rfl) (xmove rfl s30) ?_; refine gp4 z q ow s2 s15 s16 s3 fun fa fw z q ow s2 s15 s16 s3 s17 => ?_; refine wl_end ?_; exact then_n ⟨(k + 1), ⟨((dMul x (l.getD (k + 1) 0)).1), (by omega), (hp.trans (prod_on (by omega) hok)), (dMul_i64 _ _), z, q, ow, s2, s15, s16, s3, s17⟩, (show l.length - 1 - (k + 1) < l.length - 1 - k by omega)⟩
  refine cf s18 (decide_eq_true_iff) hc2 ?_; refine wp_exit ?_; refine then_e ?_; refine then_e ?_; refine block_hit ?_; refine tn hK6 ?_; refine sq fun hK15 => ?_
  refine ro [yV _, yV (aggV (vMake x))] 2 33 z q ow (
    mvS s3 rfl rfl rfl rfl <|
    aC (fun hk bs hd => xcall1 rfl (dp hd 0 rfl) (en_val_Make _ _)) (fun hk bs hd => vmake_any x _ (by have := hx.1; omega) (by have := hx.2; omega)) rfl <|
    arm0) fun fa fw bs hv ap z q ow => ?_
  have s2 := bg bs s2; have s32 := gv hv 1 rfl rfl; refine ws ow 0 0 s2 s32 fun fw ow => ?_; refine wt hK15 ?_; refine wp_ret ?_; refine rs3 s2 (ow.box 0 rfl) q ?_; exact ⟨congrArg (fun v => Ending.returned (aggV v)) (by rw [if_neg (fun c => hne (by rw [c]; rfl)), hp, prod_end (by omega)]), ow.kept⟩
set_option maxHeartbeats 4000000 in
theorem afunction_any (fn : Nat) (w : World) :
    Calls Tryz.prog 30 #[.int .u8 fn] w fun e w' => e = .returned (.bool (own16 fn)) ∧ Kept w w' := by
  go_enter Tryz.func30, Tryz.ntmps30; refine sq fun hK1 => ?_
  refine ro [yV _] 1 17 rfl rfl (Own.start w) (
    aS (fun hk bs hd => xassign rfl rfl) rfl <|
    arm0) fun fa fw bs hv ap z q ow => ?_
  have s0 := bs.get 0 rfl rfl; have s2 := gv hv 0 rfl rfl; refine wt hK1 ?_; refine sq fun hK2 => ?_
  refine ro [yV _, yV _, yV _, yIf _ (yV _), yIf _ (yV _), yV _, yV _, yIf _ (yV _), yIf _ (yV _), yIf _ (yV _), yIf _ (yV _), yIf _ (yV _), yIf _ (yV _), yV _, yV _] 15 17 z q ow (
    mvS s0 rfl rfl rfl rfl <|
    aS (fun hk bs hd => xgeq rfl (dp hd 0 rfl) rfl) rfl <|
    mvD 1 rfl rfl rfl rfl rfl rfl <|
    ai (g1 2 rfl rfl) (fun hk bs hd hz => xmove rfl (bg bs s0)) rfl <|
    ai (g1 2 rfl rfl) (fun hk bs hd hz => xleq rfl (di hd 3 rfl hz) rfl) rfl <|
    aS (fun hk bs hd => xand rfl (dp hd 2 rfl) (fun hb => di hd 4 rfl hb) rfl) rfl <|
    mvD 5 rfl rfl rfl rfl rfl rfl <|
    ai (g1 6 rfl rfl) (fun hk bs hd hz => xmove rfl (bg bs s0)) rfl <|
    ai (g1 6 rfl rfl) (fun hk bs hd hz => xgeq rfl (di hd 7 rfl hz) rfl) rfl <|
    ai (g1 6 rfl rfl) (fun hk bs hd hz => xmove rfl (di hd 8 rfl hz)) rfl <|
    ai (g2 9 rfl rfl) (fun hk bs hd hz => xmove rfl (bg bs s0)) rfl <|
    ai (g2 9 rfl rfl) (fun hk bs hd hz => xleq rfl (di hd 10 rfl hz) rfl) rfl <|
    ai (g1 6 rfl rfl) (fun hk bs hd hz => xand rfl (di hd 9 rfl hz) (fun hb => di hd 11 rfl ⟨hz, hb⟩) rfl) rfl <|
    aS (fun hk bs hd => xor_ rfl (dp hd 6 rfl) rfl (fun hb => di hd 12 rfl hb)) rfl <|
    asD 13 rfl rfl rfl rfl rfl rfl <|
    arm0) fun fa fw bs hv ap z q ow => ?_
  have s2 := gv hv 14 rfl rfl; refine wt hK2 ?_; refine wp_ret ?_; refine results_one rfl (res_tmp s2) q ?_; exact ⟨(congrArg (fun b => Ending.returned (.bool b)) (show _ = own16 fn by unfold own16; rw [Bool.eq_iff_iff]; simp only [Bool.or_eq_true, Bool.and_eq_true, decide_eq_true_eq]; omega)), ow.kept⟩
set_option maxHeartbeats 4000000 in
theorem aarity_any (fn : Nat) (w : World) :
    Calls Tryz.prog 31 #[.int .u8 fn] w fun e w' => e = .returned (.tuple #[.int .i64 (ar16 fn).1, .int .i64 (ar16 fn).2.1, .int .i64 (ar16 fn).2.2]) ∧ Kept w w' := by
  go_enter Tryz.func31, Tryz.ntmps31; refine sq fun hK1 => ?_
  refine ro [yV _, yV _, yV _] 3 21 rfl rfl (Own.start w) (
    aS (fun hk bs hd => xassign rfl rfl) rfl <|
    aS (fun hk bs hd => xassign rfl rfl) rfl <|
    aS (fun hk bs hd => xassign rfl rfl) rfl <|
    arm0) fun fa fw bs hv ap z q ow => ?_
  have s0 := bs.get 0 rfl rfl; have s2 := gv hv 0 rfl rfl; have s3 := gv hv 1 rfl rfl; have s4 := gv hv 2 rfl rfl; refine wt hK1 ?_; refine sq fun hK2 => ?_; refine sq fun hK3 => ?_
  refine ro [yV _] 1 21 z q ow (
    mvS s0 rfl rfl rfl rfl <|
    arm0) fun fa fw bs hv ap z q ow => ?_
  obtain ⟨s2, s3, s4⟩ := b3 bs s2 s3 s4; have s5 := gv hv 0 rfl rfl; refine wt hK3 ?_; refine wp_block ?_; refine sq fun hK4 => ?_; refine sq fun hK5 => ?_
  refine ro [yV _, yV _] 2 21 z q ow (
    aS (fun hk bs hd => xeqi rfl (bg bs s5) rfl) rfl <|
    asD 0 rfl rfl rfl rfl rfl rfl <|
    arm0) fun fa fw bs hv ap z q ow => ?_
  obtain ⟨s2, s3, s4, s5⟩ := b4 bs s2 s3 s4 s5; have s6 := gv hv 1 rfl rfl; refine wt hK5 ?_
  by_cases hc1 : (fn : Int) = (13 : Int)
  ·refine ct s6 ((decide_eq_true_iff).2 hc1) ?_
   refine wp_skip ?_; refine tn hK4 ?_; refine ct s6 ((decide_eq_true_iff).2 hc1) ?_; refine sq fun hK6 => ?_
   refine ro [yV _, yV _, yV _] 3 21 z q ow (
     aS (fun hk bs hd => xassign rfl rfl) rfl <|
     aS (fun hk bs hd => xassign rfl rfl) rfl <|
     aS (fun hk bs hd => xassign rfl rfl) rfl <|
     arm0) fun fa fw bs hv ap z q ow => ?_
   have s2 := gv hv 0 rfl rfl; have s3 := gv hv 1 rfl rfl; have s4 := gv hv 2 rfl rfl; refine wt hK6 ?_; refine wp_ret ?_; refine block_r ?_; refine then_r ?_; refine resultsL (v := .tuple #[.int .i64 1, .int .i64 1, .int .i64 0]) rfl (.cons (res_tmp s2) (.cons (res_tmp s3) (.cons (res_tmp s4) .nil))) rfl q ?_; exact ⟨(congrArg (fun t : Int × Int × Int => Ending.returned (.tuple #[.int .i64 t.1, .int .i64 t.2.1, .int .i64 t.2.2])) (show (1, 1, 0) = ar16 fn by unfold ar16; (repeat' split) <;> first | rfl | omega)), ow.kept⟩
  refine cf s6 (decide_eq_true_iff) hc1 ?_; refine sq fun hK7 => ?_
  refine ro [yV _, yV _] 2 21 z q ow (
    aS (fun hk bs hd => xeqi rfl (bg bs s5) rfl) rfl <|
    asD 0 rfl rfl rfl rfl rfl rfl <|
    arm0) fun fa fw bs hv ap z q ow => ?_
  obtain ⟨s2, s3, s4, s5⟩ := b4 bs s2 s3 s4 s5; have s6 := gv hv 1 rfl rfl; refine wt hK7 ?_
  by_cases hc2 : (fn : Int) = (46 : Int)
  ·refine ct s6 ((decide_eq_true_iff).2 hc2) ?_
   refine wp_skip ?_; refine tn hK4 ?_; refine ct s6 ((decide_eq_true_iff).2 hc2) ?_; refine sq fun hK8 => ?_
   refine ro [yV _, yV _, yV _] 3 21 z q ow (
     aS (fun hk bs hd => xassign rfl rfl) rfl <|
     aS (fun hk bs hd => xassign rfl rfl) rfl <|
     aS (fun hk bs hd => xassign rfl rfl) rfl <|
     arm0) fun fa fw bs hv ap z q ow => ?_
   have s2 := gv hv 0 rfl rfl; have s3 := gv hv 1 rfl rfl; have s4 := gv hv 2 rfl rfl; refine wt hK8 ?_; refine wp_ret ?_; refine block_r ?_; refine then_r ?_; refine resultsL (v := .tuple #[.int .i64 1, .int .i64 1, .int .i64 0]) rfl (.cons (res_tmp s2) (.cons (res_tmp s3) (.cons (res_tmp s4) .nil))) rfl q ?_; exact ⟨(congrArg (fun t : Int × Int × Int => Ending.returned (.tuple #[.int .i64 t.1, .int .i64 t.2.1, .int .i64 t.2.2])) (show (1, 1, 0) = ar16 fn by unfold ar16; (repeat' split) <;> first | rfl | omega)), ow.kept⟩
  refine cf s6 (decide_eq_true_iff) hc2 ?_; refine sq fun hK9 => ?_
  refine ro [yV _, yV _] 2 21 z q ow (
    aS (fun hk bs hd => xeqi rfl (bg bs s5) rfl) rfl <|
    asD 0 rfl rfl rfl rfl rfl rfl <|
    arm0) fun fa fw bs hv ap z q ow => ?_
  obtain ⟨s2, s3, s4, s5⟩ := b4 bs s2 s3 s4 s5; have s6 := gv hv 1 rfl rfl; refine wt hK9 ?_
  by_cases hc3 : (fn : Int) = (47 : Int)
  ·refine ct s6 ((decide_eq_true_iff).2 hc3) ?_
   refine wp_skip ?_; refine tn hK4 ?_; refine ct s6 ((decide_eq_true_iff).2 hc3) ?_; refine sq fun hK10 => ?_
   refine ro [yV _, yV _, yV _] 3 21 z q ow (
     aS (fun hk bs hd => xassign rfl rfl) rfl <|
     aS (fun hk bs hd => xassign rfl rfl) rfl <|
     aS (fun hk bs hd => xassign rfl rfl) rfl <|
     arm0) fun fa fw bs hv ap z q ow => ?_
   have s2 := gv hv 0 rfl rfl; have s3 := gv hv 1 rfl rfl; have s4 := gv hv 2 rfl rfl; refine wt hK10 ?_; refine wp_ret ?_; refine block_r ?_; refine then_r ?_; refine resultsL (v := .tuple #[.int .i64 1, .int .i64 1, .int .i64 0]) rfl (.cons (res_tmp s2) (.cons (res_tmp s3) (.cons (res_tmp s4) .nil))) rfl q ?_; exact ⟨(congrArg (fun t : Int × Int × Int => Ending.returned (.tuple #[.int .i64 t.1, .int .i64 t.2.1, .int .i64 t.2.2])) (show (1, 1, 0) = ar16 fn by unfold ar16; (repeat' split) <;> first | rfl | omega)), ow.kept⟩
  refine cf s6 (decide_eq_true_iff) hc3 ?_; refine sq fun hK11 => ?_
  refine ro [yV _, yV _] 2 21 z q ow (
    aS (fun hk bs hd => xeqi rfl (bg bs s5) rfl) rfl <|
    asD 0 rfl rfl rfl rfl rfl rfl <|
    arm0) fun fa fw bs hv ap z q ow => ?_
  obtain ⟨s2, s3, s4, s5⟩ := b4 bs s2 s3 s4 s5; have s6 := gv hv 1 rfl rfl; refine wt hK11 ?_
  by_cases hc4 : (fn : Int) = (48 : Int)
  ·refine ct s6 ((decide_eq_true_iff).2 hc4) ?_
   refine wp_skip ?_; refine tn hK4 ?_; refine ct s6 ((decide_eq_true_iff).2 hc4) ?_; refine sq fun hK12 => ?_
   refine ro [yV _, yV _, yV _] 3 21 z q ow (
     aS (fun hk bs hd => xassign rfl rfl) rfl <|
     aS (fun hk bs hd => xassign rfl rfl) rfl <|
     aS (fun hk bs hd => xassign rfl rfl) rfl <|
     arm0) fun fa fw bs hv ap z q ow => ?_
   have s2 := gv hv 0 rfl rfl; have s3 := gv hv 1 rfl rfl; have s4 := gv hv 2 rfl rfl; refine wt hK12 ?_; refine wp_ret ?_; refine block_r ?_; refine then_r ?_; refine resultsL (v := .tuple #[.int .i64 1, .int .i64 1, .int .i64 0]) rfl (.cons (res_tmp s2) (.cons (res_tmp s3) (.cons (res_tmp s4) .nil))) rfl q ?_; exact ⟨(congrArg (fun t : Int × Int × Int => Ending.returned (.tuple #[.int .i64 t.1, .int .i64 t.2.1, .int .i64 t.2.2])) (show (1, 1, 0) = ar16 fn by unfold ar16; (repeat' split) <;> first | rfl | omega)), ow.kept⟩
  refine cf s6 (decide_eq_true_iff) hc4 ?_; refine sq fun hK13 => ?_
  refine ro [yV _, yV _] 2 21 z q ow (
    aS (fun hk bs hd => xeqi rfl (bg bs s5) rfl) rfl <|
    asD 0 rfl rfl rfl rfl rfl rfl <|
    arm0) fun fa fw bs hv ap z q ow => ?_
  obtain ⟨s2, s3, s4, s5⟩ := b4 bs s2 s3 s4 s5; have s6 := gv hv 1 rfl rfl; refine wt hK13 ?_
  by_cases hc5 : (fn : Int) = (49 : Int)
  ·refine ct s6 ((decide_eq_true_iff).2 hc5) ?_
   refine wp_skip ?_; refine tn hK4 ?_; refine ct s6 ((decide_eq_true_iff).2 hc5) ?_; refine sq fun hK14 => ?_
   refine ro [yV _, yV _, yV _] 3 21 z q ow (
     aS (fun hk bs hd => xassign rfl rfl) rfl <|
     aS (fun hk bs hd => xassign rfl rfl) rfl <|
     aS (fun hk bs hd => xassign rfl rfl) rfl <|
     arm0) fun fa fw bs hv ap z q ow => ?_
   have s2 := gv hv 0 rfl rfl; have s3 := gv hv 1 rfl rfl; have s4 := gv hv 2 rfl rfl; refine wt hK14 ?_; refine wp_ret ?_; refine block_r ?_; refine then_r ?_; refine resultsL (v := .tuple #[.int .i64 1, .int .i64 1, .int .i64 0]) rfl (.cons (res_tmp s2) (.cons (res_tmp s3) (.cons (res_tmp s4) .nil))) rfl q ?_; exact ⟨(congrArg (fun t : Int × Int × Int => Ending.returned (.tuple #[.int .i64 t.1, .int .i64 t.2.1, .int .i64 t.2.2])) (show (1, 1, 0) = ar16 fn by unfold ar16; (repeat' split) <;> first | rfl | omega)), ow.kept⟩
  refine cf s6 (decide_eq_true_iff) hc5 ?_
  refine ro [yV _, yV _] 2 21 z q ow (
    aS (fun hk bs hd => xeqi rfl (bg bs s5) rfl) rfl <|
    asD 0 rfl rfl rfl rfl rfl rfl <|
    arm0) fun fa fw bs hv ap z q ow => ?_
  obtain ⟨s2, s3, s4, s5⟩ := b4 bs s2 s3 s4 s5; have s6 := gv hv 1 rfl rfl; refine wt hK4 ?_
  by_cases hc6 : (fn : Int) = (50 : Int)
  ·refine ct s6 ((decide_eq_true_iff).2 hc6) ?_
   refine sq fun hK15 => ?_
   refine ro [yV _, yV _, yV _] 3 21 z q ow (
     aS (fun hk bs hd => xassign rfl rfl) rfl <|
     aS (fun hk bs hd => xassign rfl rfl) rfl <|
     aS (fun hk bs hd => xassign rfl rfl) rfl <|
     arm0) fun fa fw bs hv ap z q ow => ?_
   have s2 := gv hv 0 rfl rfl; have s3 := gv hv 1 rfl rfl; have s4 := gv hv 2 rfl rfl; refine wt hK15 ?_; refine wp_ret ?_; refine block_r ?_; refine then_r ?_; refine resultsL (v := .tuple #[.int .i64 1, .int .i64 1, .int .i64 0]) rfl (.cons (res_tmp s2) (.cons (res_tmp s3) (.cons (res_tmp s4) .nil))) rfl q ?_; exact ⟨(congrArg (fun t : Int × Int × Int => Ending.returned (.tuple #[.int .i64 t.1, .int .i64 t.2.1, .int .i64 t.2.2])) (show (1, 1, 0) = ar16 fn by unfold ar16; (repeat' split) <;> first | rfl | omega)), ow.kept⟩
  refine cf s6 (decide_eq_true_iff) hc6 ?_; refine sq fun hK16 => ?_; refine sq fun hK17 => ?_
  refine ro [yV _, yV _] 2 21 z q ow (
    aS (fun hk bs hd => xeqi rfl (bg bs s5) rfl) rfl <|
    asD 0 rfl rfl rfl rfl rfl rfl <|
    arm0) fun fa fw bs hv ap z q ow => ?_
  obtain ⟨s2, s3, s4, s5⟩ := b4 bs s2 s3 s4 s5; have s13 := gv hv 1 rfl rfl; refine wt hK17 ?_
  by_cases hc7 : (fn : Int) = (18 : Int)
  ·refine ct s13 ((decide_eq_true_iff).2 hc7) ?_
   refine wp_skip ?_; refine tn hK16 ?_; refine ct s13 ((decide_eq_true_iff).2 hc7) ?_; refine sq fun hK18 => ?_
   refine ro [yV _, yV _, yV _] 3 21 z q ow (
     aS (fun hk bs hd => xassign rfl rfl) rfl <|
     aS (fun hk bs hd => xassign rfl rfl) rfl <|
     aS (fun hk bs hd => xassign rfl rfl) rfl <|
     arm0) fun fa fw bs hv ap z q ow => ?_
   have s2 := gv hv 0 rfl rfl; have s3 := gv hv 1 rfl rfl; have s4 := gv hv 2 rfl rfl; refine wt hK18 ?_; refine wp_ret ?_; refine block_r ?_; refine then_r ?_; refine resultsL (v := .tuple #[.int .i64 2, .int .i64 2, .int .i64 0]) rfl (.cons (res_tmp s2) (.cons (res_tmp s3) (.cons (res_tmp s4) .nil))) rfl q ?_; exact ⟨(congrArg (fun t : Int × Int × Int => Ending.returned (.tuple #[.int .i64 t.1, .int .i64 t.2.1, .int .i64 t.2.2])) (show (2, 2, 0) = ar16 fn by unfold ar16; (repeat' split) <;> first | rfl | omega)), ow.kept⟩
  refine cf s13 (decide_eq_true_iff) hc7 ?_; refine sq fun hK19 => ?_
  refine ro [yV _, yV _] 2 21 z q ow (
    aS (fun hk bs hd => xeqi rfl (bg bs s5) rfl) rfl <|
    asD 0 rfl rfl rfl rfl rfl rfl <|
    arm0) fun fa fw bs hv ap z q ow => ?_
  obtain ⟨s2, s3, s4, s5⟩ := b4 bs s2 s3 s4 s5; have s13 := gv hv 1 rfl rfl; refine wt hK19 ?_
  by_cases hc8 : (fn : Int) = (19 : Int)
  ·refine ct s13 ((decide_eq_true_iff).2 hc8) ?_
   refine wp_skip ?_; refine tn hK16 ?_; refine ct s13 ((decide_eq_true_iff).2 hc8) ?_; refine sq fun hK20 => ?_
   refine ro [yV _, yV _, yV _] 3 21 z q ow (
     aS (fun hk bs hd => xassign rfl rfl) rfl <|
     aS (fun hk bs hd => xassign rfl rfl) rfl <|
     aS (fun hk bs hd => xassign rfl rfl) rfl <|
     arm0) fun fa fw bs hv ap z q ow => ?_
   have s2 := gv hv 0 rfl rfl; have s3 := gv hv 1 rfl rfl; have s4 := gv hv 2 rfl rfl; refine wt hK20 ?_; refine wp_ret ?_; refine block_r ?_; refine then_r ?_; refine resultsL (v := .tuple #[.int .i64 2, .int .i64 2, .int .i64 0]) rfl (.cons (res_tmp s2) (.cons (res_tmp s3) (.cons (res_tmp s4) .nil))) rfl q ?_; exact ⟨(congrArg (fun t : Int × Int × Int => Ending.returned (.tuple #[.int .i64 t.1, .int .i64 t.2.1, .int .i64 t.2.2])) (show (2, 2, 0) = ar16 fn by unfold ar16; (repeat' split) <;> first | rfl | omega)), ow.kept⟩
  refine cf s13 (decide_eq_true_iff) hc8 ?_
  refine ro [yV _, yV _] 2 21 z q ow (
    aS (fun hk bs hd => xeqi rfl (bg bs s5) rfl) rfl <|
    asD 0 rfl rfl rfl rfl rfl rfl <|
    arm0) fun fa fw bs hv ap z q ow => ?_
  obtain ⟨s2, s3, s4, s5⟩ := b4 bs s2 s3 s4 s5; have s13 := gv hv 1 rfl rfl; refine wt hK16 ?_
  by_cases hc9 : (fn : Int) = (45 : Int)
  ·refine ct s13 ((decide_eq_true_iff).2 hc9) ?_
   refine sq fun hK21 => ?_
   refine ro [yV _, yV _, yV _] 3 21 z q ow (
     aS (fun hk bs hd => xassign rfl rfl) rfl <|
     aS (fun hk bs hd => xassign rfl rfl) rfl <|
     aS (fun hk bs hd => xassign rfl rfl) rfl <|
     arm0) fun fa fw bs hv ap z q ow => ?_
   have s2 := gv hv 0 rfl rfl; have s3 := gv hv 1 rfl rfl; have s4 := gv hv 2 rfl rfl; refine wt hK21 ?_; refine wp_ret ?_; refine block_r ?_; refine then_r ?_; refine resultsL (v := .tuple #[.int .i64 2, .int .i64 2, .int .i64 0]) rfl (.cons (res_tmp s2) (.cons (res_tmp s3) (.cons (res_tmp s4) .nil))) rfl q ?_; exact ⟨(congrArg (fun t : Int × Int × Int => Ending.returned (.tuple #[.int .i64 t.1, .int .i64 t.2.1, .int .i64 t.2.2])) (show (2, 2, 0) = ar16 fn by unfold ar16; (repeat' split) <;> first | rfl | omega)), ow.kept⟩
  refine cf s13 (decide_eq_true_iff) hc9 ?_; refine sq fun hK22 => ?_
  refine ro [yV _, yV _] 2 21 z q ow (
    aS (fun hk bs hd => xeqi rfl (bg bs s5) rfl) rfl <|
    asD 0 rfl rfl rfl rfl rfl rfl <|
    arm0) fun fa fw bs hv ap z q ow => ?_
  obtain ⟨s2, s3, s4, s5⟩ := b4 bs s2 s3 s4 s5; have s17 := gv hv 1 rfl rfl; refine wt hK22 ?_
  by_cases hc10 : (fn : Int) = (43 : Int)
  ·refine ct s17 ((decide_eq_true_iff).2 hc10) ?_
   refine sq fun hK23 => ?_
   refine ro [yV _, yV _, yV _] 3 21 z q ow (
     aS (fun hk bs hd => xassign rfl rfl) rfl <|
     aS (fun hk bs hd => xassign rfl rfl) rfl <|
     aS (fun hk bs hd => xassign rfl rfl) rfl <|
     arm0) fun fa fw bs hv ap z q ow => ?_
   have s2 := gv hv 0 rfl rfl; have s3 := gv hv 1 rfl rfl; have s4 := gv hv 2 rfl rfl; refine wt hK23 ?_; refine wp_ret ?_; refine block_r ?_; refine then_r ?_; refine resultsL (v := .tuple #[.int .i64 2, .int .i64 3, .int .i64 0]) rfl (.cons (res_tmp s2) (.cons (res_tmp s3) (.cons (res_tmp s4) .nil))) rfl q ?_; exact ⟨(congrArg (fun t : Int × Int × Int => Ending.returned (.tuple #[.int .i64 t.1, .int .i64 t.2.1, .int .i64 t.2.2])) (show (2, 3, 0) = ar16 fn by unfold ar16; (repeat' split) <;> first | rfl | omega)), ow.kept⟩
  refine cf s17 (decide_eq_true_iff) hc10 ?_; refine sq fun hK24 => ?_
  refine ro [yV _, yV _] 2 21 z q ow (
    aS (fun hk bs hd => xeqi rfl (bg bs s5) rfl) rfl <|
    asD 0 rfl rfl rfl rfl rfl rfl <|
    arm0) fun fa fw bs hv ap z q ow => ?_
  obtain ⟨s2, s3, s4⟩ := b3 bs s2 s3 s4; have s19 := gv hv 1 rfl rfl; refine wt hK24 ?_
  by_cases hc11 : (fn : Int) = (44 : Int)
  ·refine ct s19 ((decide_eq_true_iff).2 hc11) ?_
   refine sq fun hK25 => ?_
   refine ro [yV _, yV _, yV _] 3 21 z q ow (
     aS (fun hk bs hd => xassign rfl rfl) rfl <|
     aS (fun hk bs hd => xassign rfl rfl) rfl <|
     aS (fun hk bs hd => xassign rfl rfl) rfl <|
     arm0) fun fa fw bs hv ap z q ow => ?_
   have s2 := gv hv 0 rfl rfl; have s3 := gv hv 1 rfl rfl; have s4 := gv hv 2 rfl rfl; refine wt hK25 ?_; refine wp_ret ?_; refine block_r ?_; refine then_r ?_; refine resultsL (v := .tuple #[.int .i64 2, .int .i64 2, .int .i64 1]) rfl (.cons (res_tmp s2) (.cons (res_tmp s3) (.cons (res_tmp s4) .nil))) rfl q ?_; exact ⟨(congrArg (fun t : Int × Int × Int => Ending.returned (.tuple #[.int .i64 t.1, .int .i64 t.2.1, .int .i64 t.2.2])) (show (2, 2, 1) = ar16 fn by unfold ar16; (repeat' split) <;> first | rfl | omega)), ow.kept⟩
  refine cf s19 (decide_eq_true_iff) hc11 ?_; refine wp_skip ?_; refine block_n ?_; refine tn hK2 ?_; refine sq fun hK26 => ?_
  refine ro [yV _, yV _, yV _] 3 21 z q ow (
    aS (fun hk bs hd => xassign rfl rfl) rfl <|
    aS (fun hk bs hd => xassign rfl rfl) rfl <|
    aS (fun hk bs hd => xassign rfl rfl) rfl <|
    arm0) fun fa fw bs hv ap z q ow => ?_
  have s2 := gv hv 0 rfl rfl; have s3 := gv hv 1 rfl rfl; have s4 := gv hv 2 rfl rfl; refine wt hK26 ?_; refine wp_ret ?_; refine resultsL (v := .tuple #[.int .i64 1, .int .i64 16, .int .i64 (-1)]) rfl (.cons (res_tmp s2) (.cons (res_tmp s3) (.cons (res_tmp s4) .nil))) rfl q ?_; exact ⟨(congrArg (fun t : Int × Int × Int => Ending.returned (.tuple #[.int .i64 t.1, .int .i64 t.2.1, .int .i64 t.2.2])) (show (1, 16, (-1)) = ar16 fn by unfold ar16; (repeat' split) <;> first | rfl | omega)), ow.kept⟩
end Go.Proofs.YtbkjdcpfkepheaaGreatDoor
