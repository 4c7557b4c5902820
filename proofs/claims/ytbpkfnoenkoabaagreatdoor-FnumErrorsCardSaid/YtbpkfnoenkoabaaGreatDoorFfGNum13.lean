/- Layer 13: functions of numbers and operators: the program's (printed by wip/mknum13.py). -/
import Derived.Test.YtbpkfnoenkoabaaGreatDoorFfMixAN
import Derived.Test.YtbpkfnoenkoabaaGreatDoorFfBunC
import Derived.Test.YtbpkfnoenkoabaaGreatDoorFfMixAO
namespace Go.Proofs.YtbpkfnoenkoabaaGreatDoor
set_option linter.unusedVariables false
set_option linter.unusedSimpArgs false
open Go.RowKit Lv
set_option maxRecDepth 100000
theorem two13_or (fn : Nat) : ((decide ((fn : Int) = (5 : Int)) || decide ((fn : Int) = (6 : Int))) || decide ((fn : Int) = (7 : Int))) = two13 fn := by
  unfold two13; rw [Bool.eq_iff_iff]
  simp only [Bool.or_eq_true, decide_eq_true_eq]
  omega
theorem chk_no13 {v : Vl} (h : vChk v ≠ (0 : Int)) : vOk v = false := by
  unfold vChk at h
  cases e : vOk v with
  | false => rfl
  | true => rw [e] at h; exact absurd rfl h
theorem chk_ok13 {v : Vl} (h : ¬ (vChk v ≠ (0 : Int))) : vOk v = true := by
  unfold vChk at h
  cases e : vOk v with
  | true => rfl
  | false => rw [e] at h; exact absurd (by decide) h
theorem all_no {l : List Vl} {k : Nat} (hk : k < l.length) (h : vOk (l.getD k blankV) = false) : l.all vOk = false := by
  rw [List.all_eq_false]; exact ⟨l[k], List.getElem_mem hk, by rw [← show l.getD k blankV = l[k] by simp [List.getD, hk], h]; decide⟩
theorem all_yes {l : List Vl} (h : ∀ j, j < l.length → vOk (l.getD j blankV) = true) : l.all vOk = true := by
  rw [List.all_eq_true]; intro v hv; obtain ⟨j, hj, e⟩ := List.getElem_of_mem hv; have := h j hj
  rwa [show l.getD j blankV = l[j] by simp [List.getD, hj], e] at this
theorem ret_pair13 {p : Vl × Int} {x : Vl} {c : Int} (h : p = (x, c)) : Ending.returned (.tuple #[aggV x, .int .i64 c]) = .returned (.tuple #[aggV p.1, .int .i64 p.2]) := by rw [h]
def NumOut (w0 : World) (l : List Vl) (gx gy : Nat) (T : List Th) (n : Int × Int) (e : Ending) (w' : World) : Prop := ∃ x ok, e = .returned (.tuple #[aggV x, .bool ok]) ∧ ((ok = false ∧ firstE (l.map vNum) = some x ∧ Own w0 T w') ∨ (ok = true ∧ firstE (l.map vNum) = none ∧ Own w0 (Th.obj gy (.cells #[.int .i64 n.2] 2 (0, 0)) :: Th.obj gx (.cells #[.int .i64 n.1] 2 (0, 0)) :: T) w'))
theorem none_1 {v : Vl} {l : List Vl} (h : firstE ((v :: l).map vNum) = none) : isE (vNum v) = false := by
  cases e : isE (vNum v) with
  | false => rfl
  | true => rw [List.map_cons, first_hit e] at h; cases h
theorem none_2 {v u : Vl} {l : List Vl} (h : firstE ((v :: u :: l).map vNum) = none) : isE (vNum u) = false := by
  have e := none_1 h; rw [List.map_cons, first_miss e] at h; exact none_1 h
theorem c13_val2 {fn : Nat} {v u : Vl} (h1 : ¬ (fn < 1 ∨ 8 < fn)) (h2 : two13 fn = true) (hv : [v, u].all vOk = true) (he : firstE ([v, u].map vNum) = none) : vCall13 fn [v, u] = (val13 fn (vNum v).n (vNum u).n, 0) := by
  rw [v13_val h1 (by rw [h2]; rfl) hv he, h2]; rfl
theorem c13_val1 {fn : Nat} {v : Vl} (h1 : ¬ (fn < 1 ∨ 8 < fn)) (h2 : two13 fn = false) (hv : [v].all vOk = true) (he : firstE ([v].map vNum) = none) : vCall13 fn [v] = (val13 fn (vNum v).n 0, 0) := by
  rw [v13_val h1 (by rw [h2]; rfl) hv he, h2]; rfl
theorem dSqrt_in {x : Int} (h : i64 x) : i64 (dSqrt x).1 := by
  unfold dSqrt
  split
  · exact ⟨by decide, by decide⟩
  · have := root_le h (by omega)
    exact ⟨by show (-9223372036854775808 : Int) ≤ (root x : Int); omega, by show (root x : Int) ≤ 9223372036854775807; omega⟩
theorem xsliceTo3 {a : Act} {w : World} {o : Oper} {T e : TypeId} (hu : Tryz.prog.underlying T = some (.slice e)) (hz : (sizeOf e).run Tryz.prog w = .ok 1 w) {x y : Operand} (ho : o.op = .slice T x none (some y) none) {b n cap h : Nat} (hx : a.eval x = .slice (some ⟨b, 0, none⟩) n cap) (hy : a.eval y = .int .i64 h) (hh : h ≤ cap) : (execOp a.eval o).run Tryz.prog w = .ok (.value (.slice (some ⟨b, 0, none⟩) h cap)) w := by
  have := xsliceTo hu hz ho hx hy hh
  rwa [fz_some] at this
theorem en_dec_Floor : En 155 := by intro args w; go_simp
theorem en_dec_Power : En 232 := by intro args w; go_simp
theorem en_dec_Round : En 156 := by intro args w; go_simp
theorem en_dec_Sqrt : En 159 := by intro args w; go_simp
theorem en_dec_Trunc : En 131 := by intro args w; go_simp
theorem en_fnum_mod : En 157 := by intro args w; go_simp
theorem en_fnum_numbers : En 71 := by intro args w; go_simp
theorem en_fnum_power : En 158 := by intro args w; go_simp
theorem en_fnum_result : En 89 := by intro args w; go_simp
theorem en_fnum_sign : En 154 := by intro args w; go_simp
theorem en_fnum_two : En 69 := by intro args w; go_simp
theorem en_fnum_valid : En 70 := by intro args w; go_simp
theorem en_fnum_value : En 72 := by intro args w; go_simp
theorem en_val_Check : En 37 := by intro args w; go_simp
theorem en_val_Fail : En 128 := by intro args w; go_simp
theorem en_val_Make : En 153 := by intro args w; go_simp
theorem en_val_ToNumber : En 38 := by intro args w; go_simp
set_option maxHeartbeats 4000000 in
theorem result13_any (n : Int) (b : Bool) (w : World) (hn : b = true → i64 n) :
    Calls Tryz.prog 89 #[.int .i64 n, .bool b] w fun e w' => e = .returned (aggV (vRes (n, b))) ∧ Kept w w' := by
  go_enter Tryz.func89, Tryz.ntmps89; refine sq fun hK1 => ?_
  refine ro [yNew w.heap.size (.cells #[.int .u8 0, .int .i64 0, .string ⟨[].toArray⟩] 25 (0, 0))] 1 10 rfl rfl (Own.start w) (
    aP (fun hk bs hd => xalloc rfl (by kernel_rfl)) rfl <|
    arm0) fun fa fw bs hv ap z q ov => ?_
  have s0 := bs.get 0 rfl rfl; have s1 := bs.get 1 rfl rfl; obtain ⟨gb1, s4, bgb1, hgb1⟩ := gotP hv 0 rfl rfl rfl; have ov := ov.cons hgb1 (Nat.le_trans (Own.start w).kept.size bgb1) ((Own.start w).below bgb1); have ow := ov; refine wt hK1 ?_; refine sq fun hK2 => ?_; refine sq fun hK3 => ?_
  refine ro [yV _, yV _] 2 10 z q ow (
    mvS s1 rfl rfl rfl rfl <|
    aS (fun hk bs hd => xnot rfl (dp hd 0 rfl)) rfl <|
    arm0) fun fa fw bs hv ap z q ow => ?_
  obtain ⟨s0, s4⟩ := b2 bs s0 s4; have s6 := gv hv 1 rfl rfl; refine wt hK3 ?_
  by_cases hc1 : ¬ (b = true)
  ·refine ct s6 ((bnot (Iff.rfl)).2 hc1) ?_
   have hb : b = false := by simpa using hc1
   refine sq fun hK4 => ?_
   refine ro [yV (aggV (vFail 3))] 1 10 z q ow (
     aC (fun hk bs hd => xcall1 rfl rfl (en_val_Fail _ _)) (fun hk bs hd => vfail_any 3 _) rfl <|
     arm0) fun fa fw bs hv ap z q ow => ?_
   obtain ⟨s0, s4⟩ := b2 bs s0 s4; have s7 := gv hv 0 rfl rfl; refine ws ow 0 0 s4 s7 fun fw ow => ?_; refine wt hK4 ?_; refine wp_ret ?_; refine then_r ?_; refine rs3 s4 (ow.box 0 rfl) q ?_; exact ⟨congrArg (fun v => Ending.returned (aggV v)) (show _ = vRes (n, b) by unfold vRes; rw [hb]; rfl), ow.kept⟩
  refine cf s6 (bnot (Iff.rfl)) hc1 ?_; have hb : b = true := by simpa using hc1
  refine wp_skip ?_; refine tn hK2 ?_; refine sq fun hK5 => ?_
  refine ro [yV _, yV (aggV (vMake n))] 2 10 z q ow (
    mvS s0 rfl rfl rfl rfl <|
    aC (fun hk bs hd => xcall1 rfl (dp hd 0 rfl) (en_val_Make _ _)) (fun hk bs hd => vmake_any n _ (hn hb).1 (hn hb).2) rfl <|
    arm0) fun fa fw bs hv ap z q ow => ?_
  have s4 := bg bs s4; have s9 := gv hv 1 rfl rfl; refine ws ow 0 0 s4 s9 fun fw ow => ?_; refine wt hK5 ?_; refine wp_ret ?_; refine rs3 s4 (ow.box 0 rfl) q ?_; exact ⟨congrArg (fun v => Ending.returned (aggV v)) (show _ = vRes (n, b) by unfold vRes; rw [hb]; rfl), ow.kept⟩
set_option maxHeartbeats 4000000 in
theorem sign13_any (x : Int) (w : World) :
    Calls Tryz.prog 154 #[.int .i64 x] w fun e w' => e = .returned (.int .i64 (sgn13 x)) ∧ Kept w w' := by
  go_enter Tryz.func154, Tryz.ntmps154; refine sq fun hK1 => ?_
  refine ro [yV _] 1 9 rfl rfl (Own.start w) (
    aS (fun hk bs hd => xassign rfl rfl) rfl <|
    arm0) fun fa fw bs hv ap z q ow => ?_
  have s0 := bs.get 0 rfl rfl; have s2 := gv hv 0 rfl rfl; refine wt hK1 ?_; refine sq fun hK2 => ?_; refine wp_block ?_; refine sq fun hK3 => ?_
  refine ro [yV _, yV _, yV _] 3 9 z q ow (
    mvS s0 rfl rfl rfl rfl <|
    aS (fun hk bs hd => xlss rfl (dp hd 0 rfl) rfl) rfl <|
    asD 1 rfl rfl rfl rfl rfl rfl <|
    arm0) fun fa fw bs hv ap z q ow => ?_
  obtain ⟨s0, s2⟩ := b2 bs s0 s2; have s3 := gv hv 2 rfl rfl; refine wt hK3 ?_
  by_cases hc1 : (x : Int) < (0 : Int)
  ·refine ct s3 ((decide_eq_true_iff).2 hc1) ?_
   refine sq fun hK4 => ?_
   refine ro [yV _] 1 9 z q ow (
     aS (fun hk bs hd => xassign rfl rfl) rfl <|
     arm0) fun fa fw bs hv ap z q ow => ?_
   have s2 := gv hv 0 rfl rfl; refine wt hK4 ?_; refine wp_ret ?_; refine block_r ?_; refine then_r ?_; refine results_one rfl (res_tmp s2) q ?_; exact ⟨(congrArg (fun n => Ending.returned (.int .i64 n)) (show _ = sgn13 x by unfold sgn13; (repeat' split) <;> omega)), ow.kept⟩
  refine cf s3 (decide_eq_true_iff) hc1 ?_; refine sq fun hK5 => ?_
  refine ro [yV _, yV _, yV _] 3 9 z q ow (
    mvS s0 rfl rfl rfl rfl <|
    aS (fun hk bs hd => xgtr rfl (dp hd 0 rfl) rfl) rfl <|
    asD 1 rfl rfl rfl rfl rfl rfl <|
    arm0) fun fa fw bs hv ap z q ow => ?_
  have s2 := bg bs s2; have s6 := gv hv 2 rfl rfl; refine wt hK5 ?_
  by_cases hc2 : (0 : Int) < (x : Int)
  ·refine ct s6 ((decide_eq_true_iff).2 hc2) ?_
   refine sq fun hK6 => ?_
   refine ro [yV _] 1 9 z q ow (
     aS (fun hk bs hd => xassign rfl rfl) rfl <|
     arm0) fun fa fw bs hv ap z q ow => ?_
   have s2 := gv hv 0 rfl rfl; refine wt hK6 ?_; refine wp_ret ?_; refine block_r ?_; refine then_r ?_; refine results_one rfl (res_tmp s2) q ?_; exact ⟨(congrArg (fun n => Ending.returned (.int .i64 n)) (show _ = sgn13 x by unfold sgn13; (repeat' split) <;> omega)), ow.kept⟩
  refine cf s6 (decide_eq_true_iff) hc2 ?_; refine wp_skip ?_; refine block_n ?_; refine tn hK2 ?_; refine sq fun hK7 => ?_
  refine ro [yV _] 1 9 z q ow (
    aS (fun hk bs hd => xassign rfl rfl) rfl <|
    arm0) fun fa fw bs hv ap z q ow => ?_
  have s2 := gv hv 0 rfl rfl; refine wt hK7 ?_; refine wp_ret ?_; refine results_one rfl (res_tmp s2) q ?_; exact ⟨(congrArg (fun n => Ending.returned (.int .i64 n)) (show _ = sgn13 x by unfold sgn13; (repeat' split) <;> omega)), ow.kept⟩
set_option maxHeartbeats 4000000 in
theorem power13_any (x n : Int) (w : World) (hx : i64 x) (hn : i64 n) :
    Calls Tryz.prog 158 #[.int .i64 x, .int .i64 n] w fun e w' => e = .returned (aggV (pow13 x n)) ∧ Kept w w' := by
  have hq := tdiv_in hn; have h1 := hn.1; have h2 := hn.2; go_enter Tryz.func158, Tryz.ntmps158; refine sq fun hK1 => ?_
  refine ro [yNew w.heap.size (.cells #[.int .u8 0, .int .i64 0, .string ⟨[].toArray⟩] 25 (0, 0))] 1 25 rfl rfl (Own.start w) (
    aP (fun hk bs hd => xalloc rfl (by kernel_rfl)) rfl <|
    arm0) fun fa fw bs hv ap z q ov => ?_
  have s0 := bs.get 0 rfl rfl; have s1 := bs.get 1 rfl rfl; obtain ⟨gb1, s4, bgb1, hgb1⟩ := gotP hv 0 rfl rfl rfl; have ov := ov.cons hgb1 (Nat.le_trans (Own.start w).kept.size bgb1) ((Own.start w).below bgb1); have ow := ov; refine wt hK1 ?_; refine sq fun hK2 => ?_; refine wp_block ?_; refine sq fun hK3 => ?_
  refine ro [yV _, yV _, yV _, yV _] 4 25 z q ow (
    mvS s1 rfl rfl rfl rfl <|
    aS (fun hk bs hd => xrem (Or.inr rfl) rfl (dp hd 0 rfl) rfl (by omega) (by omega) (by omega)) rfl <|
    aS (fun hk bs hd => xnei rfl (dp hd 1 rfl) rfl) rfl <|
    asD 2 rfl rfl rfl rfl rfl rfl <|
    arm0) fun fa fw bs hv ap z q ow => ?_
  obtain ⟨s0, s1, s4⟩ := b3 bs s0 s1 s4; have s5 := gv hv 3 rfl rfl; refine wt hK3 ?_
  by_cases hc1 : (Int.tmod n 10000 : Int) ≠ (0 : Int)
  ·refine ct s5 ((decide_eq_true_iff).2 hc1) ?_
   refine sq fun hK4 => ?_
   refine ro [yV (aggV (vFail 3))] 1 25 z q ow (
     aC (fun hk bs hd => xcall1 rfl rfl (en_val_Fail _ _)) (fun hk bs hd => vfail_any 3 _) rfl <|
     arm0) fun fa fw bs hv ap z q ow => ?_
   obtain ⟨s0, s1, s4⟩ := b3 bs s0 s1 s4; have s9 := gv hv 0 rfl rfl; refine ws ow 0 0 s4 s9 fun fw ow => ?_; refine wt hK4 ?_; refine wp_ret ?_; refine block_r ?_; refine then_r ?_; refine rs3 s4 (ow.box 0 rfl) q ?_; exact ⟨congrArg (fun v => Ending.returned (aggV v)) (show _ = pow13 x n by unfold pow13; rw [if_pos (by omega)]), ow.kept⟩
  refine cf s5 (decide_eq_true_iff) hc1 ?_; refine sq fun hK5 => ?_
  refine ro [yV _, yV _, yV _, yIf (((decide ((x : Int) = (0 : Int))) = true)) (yV (.int .i64 n)), yIf (((decide ((x : Int) = (0 : Int))) = true)) (yV (.bool (decide ((n : Int) < (0 : Int))))), yV _, yV _] 7 25 z q ow (
    mvS s0 rfl rfl rfl rfl <|
    aS (fun hk bs hd => xeqi rfl (dp hd 0 rfl) rfl) rfl <|
    mvD 1 rfl rfl rfl rfl rfl rfl <|
    arm (fun aa ww hk bs hd => by
      have d2 := dp hd 2 rfl
      by_cases hz : ((decide ((x : Int) = (0 : Int))) = true)
      · exact stepX_same (v := .int .i64 n) (want1 (j := 2) (b := true) rfl (d2.trans (congrArg Value.bool hz))) (xmove rfl (bg bs s1)) ⟨fun _ => rfl, fun c => absurd hz c⟩ rfl
      · exact stepX_skip (wantN (j := 2) (b := true) (b' := false) rfl (d2.trans (congrArg Value.bool (Bool.eq_false_iff.2 hz))) rfl) ⟨fun c => absurd c hz, fun _ => rfl⟩ rfl
      ) <|
    arm (fun aa ww hk bs hd => by
      have d2 := dp hd 2 rfl; have d3 := dI hd 3 rfl
      by_cases hz : ((decide ((x : Int) = (0 : Int))) = true)
      · exact stepX_same (v := .bool (decide ((n : Int) < (0 : Int)))) (want1 (j := 2) (b := true) rfl (d2.trans (congrArg Value.bool hz))) (xlss rfl (d3.1 hz) rfl) ⟨fun _ => rfl, fun c => absurd hz c⟩ rfl
      · exact stepX_skip (wantN (j := 2) (b := true) (b' := false) rfl (d2.trans (congrArg Value.bool (Bool.eq_false_iff.2 hz))) rfl) ⟨fun c => absurd c hz, fun _ => rfl⟩ rfl
      ) <|
    arm (fun aa ww hk bs hd => by
      have d2 := dp hd 2 rfl; have d4 := dI hd 4 rfl; exact stepX_same (v := .bool ((decide ((x : Int) = (0 : Int))) && (decide ((n : Int) < (0 : Int))))) (want0 rfl) (xand rfl (d2) (fun hb => d4.1 hb) rfl) rfl rfl
      ) <|
    asD 5 rfl rfl rfl rfl rfl rfl <|
    arm0) fun fa fw bs hv ap z q ow => ?_
  obtain ⟨s0, s1, s4⟩ := b3 bs s0 s1 s4; have s10 := gv hv 6 rfl rfl; refine wt hK5 ?_
  by_cases hc2 : ((x : Int) = (0 : Int)) ∧ ((n : Int) < (0 : Int))
  ·refine ct s10 ((band (decide_eq_true_iff) (decide_eq_true_iff)).2 hc2) ?_
   refine sq fun hK6 => ?_
   refine ro [yV (aggV (vFail 1))] 1 25 z q ow (
     aC (fun hk bs hd => xcall1 rfl rfl (en_val_Fail _ _)) (fun hk bs hd => vfail_any 1 _) rfl <|
     arm0) fun fa fw bs hv ap z q ow => ?_
   obtain ⟨s0, s1, s4⟩ := b3 bs s0 s1 s4; have s17 := gv hv 0 rfl rfl; refine ws ow 0 0 s4 s17 fun fw ow => ?_; refine wt hK6 ?_; refine wp_ret ?_; refine block_r ?_; refine then_r ?_; refine rs3 s4 (ow.box 0 rfl) q ?_; exact ⟨congrArg (fun v => Ending.returned (aggV v)) (show _ = pow13 x n by unfold pow13; rw [if_neg (by omega), if_pos (by omega)]), ow.kept⟩
  refine cf s10 (band (decide_eq_true_iff) (decide_eq_true_iff)) hc2 ?_; refine wp_skip ?_; refine block_n ?_; refine tn hK2 ?_; refine sq fun hK7 => ?_
  refine ro [yV _, yV _, yV _, yV (.tuple #[.int .i64 ((dPow x (Int.tdiv n 10000)).1), .bool ((dPow x (Int.tdiv n 10000)).2)]), yV _, yV _, yV (aggV (vRes ((dPow x (Int.tdiv n 10000)).1, (dPow x (Int.tdiv n 10000)).2)))] 7 25 z q ow (
    mvS s0 rfl rfl rfl rfl <|
    mvS s1 rfl rfl rfl rfl <|
    aS (fun hk bs hd => xquo (Or.inr rfl) rfl (dp hd 1 rfl) rfl (by omega) (by omega) (by omega)) rfl <|
    aC (fun hk bs hd => xcall2 rfl (dp hd 0 rfl) (dp hd 2 rfl) (en_dec_Power _ _)) (fun hk bs hd => power_any x (Int.tdiv n 10000) _ (by assumption) (by assumption)) rfl <|
    aS (fun hk bs hd => xextract rfl (dp hd 3 rfl) rfl) rfl <|
    aS (fun hk bs hd => xextract rfl (dp hd 3 rfl) rfl) rfl <|
    aC (fun hk bs hd => xcall2 rfl (dp hd 4 rfl) (dp hd 5 rfl) (en_fnum_result _ _)) (fun hk bs hd => result13_any ((dPow x (Int.tdiv n 10000)).1) ((dPow x (Int.tdiv n 10000)).2) _ (fun _ => dPow_i64 _ _)) rfl <|
    arm0) fun fa fw bs hv ap z q ow => ?_
  have s4 := bg bs s4; have s24 := gv hv 6 rfl rfl; refine ws ow 0 0 s4 s24 fun fw ow => ?_; refine wt hK7 ?_; refine wp_ret ?_; refine rs3 s4 (ow.box 0 rfl) q ?_; exact ⟨congrArg (fun v => Ending.returned (aggV v)) (show _ = pow13 x n by unfold pow13; rw [if_neg (by omega), if_neg (by omega)]), ow.kept⟩
set_option maxHeartbeats 4000000 in
theorem mod13_any (x y : Int) (w : World) (hx : -9223372036854775807 ≤ x ∧ x ≤ 9223372036854775807) (hy : -9223372036854775807 ≤ y ∧ y ≤ 9223372036854775807) (h0 : y ≠ 0) :
    Calls Tryz.prog 157 #[.int .i64 x, .int .i64 y] w fun e w' => e = .returned (.int .i64 (mod13 x y)) ∧ Kept w w' := by
  go_enter Tryz.func157, Tryz.ntmps157; refine sq fun hK1 => ?_
  refine ro [yV _] 1 22 rfl rfl (Own.start w) (
    aS (fun hk bs hd => xassign rfl rfl) rfl <|
    arm0) fun fa fw bs hv ap z q ow => ?_
  have s0 := bs.get 0 rfl rfl; have s1 := bs.get 1 rfl rfl; have s4 := gv hv 0 rfl rfl; refine wt hK1 ?_; refine sq fun hK2 => ?_
  refine ro [yV _, yV _, yV _, yV _] 4 22 z q ow (
    mvS s0 rfl rfl rfl rfl <|
    mvS s1 rfl rfl rfl rfl <|
    aS (fun hk bs hd => xremZ (Or.inr rfl) rfl (n := x) (m := y) (dp hd 0 rfl) (dp hd 1 rfl) h0 (by omega) (by omega)) rfl <|
    asD 2 rfl rfl rfl rfl rfl rfl <|
    arm0) fun fa fw bs hv ap z q ow => ?_
  obtain ⟨s1, s4⟩ := b2 bs s1 s4; have s5 := gv hv 3 rfl rfl; refine wt hK2 ?_; refine sq fun hK3 => ?_; refine sq fun hK4 => ?_
  refine ro [yV _, yV _, yV _, yIf (((decide ((Int.tmod x y : Int) ≠ (0 : Int))) = true)) (yV (.int .i64 (Int.tmod x y))), yIf (((decide ((Int.tmod x y : Int) ≠ (0 : Int))) = true)) (yV (.bool (decide ((Int.tmod x y : Int) < (0 : Int))))), yIf (((decide ((Int.tmod x y : Int) ≠ (0 : Int))) = true)) (yV (.int .i64 y)), yIf (((decide ((Int.tmod x y : Int) ≠ (0 : Int))) = true)) (yV (.bool (decide ((y : Int) < (0 : Int))))), yIf (((decide ((Int.tmod x y : Int) ≠ (0 : Int))) = true)) (yV (.bool ((decide ((Int.tmod x y : Int) < (0 : Int))) != (decide ((y : Int) < (0 : Int)))))), yV _] 9 22 z q ow (
    mvS s5 rfl rfl rfl rfl <|
    aS (fun hk bs hd => xnei rfl (dp hd 0 rfl) rfl) rfl <|
    mvD 1 rfl rfl rfl rfl rfl rfl <|
    arm (fun aa ww hk bs hd => by
      have d2 := dp hd 2 rfl
      by_cases hz : ((decide ((Int.tmod x y : Int) ≠ (0 : Int))) = true)
      · exact stepX_same (v := .int .i64 (Int.tmod x y)) (want1 (j := 2) (b := true) rfl (d2.trans (congrArg Value.bool hz))) (xmove rfl (bg bs s5)) ⟨fun _ => rfl, fun c => absurd hz c⟩ rfl
      · exact stepX_skip (wantN (j := 2) (b := true) (b' := false) rfl (d2.trans (congrArg Value.bool (Bool.eq_false_iff.2 hz))) rfl) ⟨fun c => absurd c hz, fun _ => rfl⟩ rfl
      ) <|
    arm (fun aa ww hk bs hd => by
      have d2 := dp hd 2 rfl; have d3 := dI hd 3 rfl
      by_cases hz : ((decide ((Int.tmod x y : Int) ≠ (0 : Int))) = true)
      · exact stepX_same (v := .bool (decide ((Int.tmod x y : Int) < (0 : Int)))) (want1 (j := 2) (b := true) rfl (d2.trans (congrArg Value.bool hz))) (xlss rfl (d3.1 hz) rfl) ⟨fun _ => rfl, fun c => absurd hz c⟩ rfl
      · exact stepX_skip (wantN (j := 2) (b := true) (b' := false) rfl (d2.trans (congrArg Value.bool (Bool.eq_false_iff.2 hz))) rfl) ⟨fun c => absurd c hz, fun _ => rfl⟩ rfl
      ) <|
    arm (fun aa ww hk bs hd => by
      have d2 := dp hd 2 rfl
      by_cases hz : ((decide ((Int.tmod x y : Int) ≠ (0 : Int))) = true)
      · exact stepX_same (v := .int .i64 y) (want1 (j := 2) (b := true) rfl (d2.trans (congrArg Value.bool hz))) (xmove rfl (bg bs s1)) ⟨fun _ => rfl, fun c => absurd hz c⟩ rfl
      · exact stepX_skip (wantN (j := 2) (b := true) (b' := false) rfl (d2.trans (congrArg Value.bool (Bool.eq_false_iff.2 hz))) rfl) ⟨fun c => absurd c hz, fun _ => rfl⟩ rfl
      ) <|
    arm (fun aa ww hk bs hd => by
      have d2 := dp hd 2 rfl; have d5 := dI hd 5 rfl
      by_cases hz : ((decide ((Int.tmod x y : Int) ≠ (0 : Int))) = true)
      · exact stepX_same (v := .bool (decide ((y : Int) < (0 : Int)))) (want1 (j := 2) (b := true) rfl (d2.trans (congrArg Value.bool hz))) (xlss rfl (d5.1 hz) rfl) ⟨fun _ => rfl, fun c => absurd hz c⟩ rfl
      · exact stepX_skip (wantN (j := 2) (b := true) (b' := false) rfl (d2.trans (congrArg Value.bool (Bool.eq_false_iff.2 hz))) rfl) ⟨fun c => absurd c hz, fun _ => rfl⟩ rfl
      ) <|
    arm (fun aa ww hk bs hd => by
      have d2 := dp hd 2 rfl; have d4 := dI hd 4 rfl; have d6 := dI hd 6 rfl
      by_cases hz : ((decide ((Int.tmod x y : Int) ≠ (0 : Int))) = true)
      · exact stepX_same (v := .bool ((decide ((Int.tmod x y : Int) < (0 : Int))) != (decide ((y : Int) < (0 : Int))))) (want1 (j := 2) (b := true) rfl (d2.trans (congrArg Value.bool hz))) (xneB rfl (d4.1 hz) (d6.1 hz)) ⟨fun _ => rfl, fun c => absurd hz c⟩ rfl
      · exact stepX_skip (wantN (j := 2) (b := true) (b' := false) rfl (d2.trans (congrArg Value.bool (Bool.eq_false_iff.2 hz))) rfl) ⟨fun c => absurd c hz, fun _ => rfl⟩ rfl
      ) <|
    arm (fun aa ww hk bs hd => by
      have d2 := dp hd 2 rfl; have d7 := dI hd 7 rfl; exact stepX_same (v := .bool ((decide ((Int.tmod x y : Int) ≠ (0 : Int))) && ((decide ((Int.tmod x y : Int) < (0 : Int))) != (decide ((y : Int) < (0 : Int)))))) (want0 rfl) (xand rfl (d2) (fun hb => d7.1 hb) rfl) rfl rfl
      ) <|
    arm0) fun fa fw bs hv ap z q ow => ?_
  obtain ⟨s1, s4, s5⟩ := b3 bs s1 s4 s5; have s17 := gv hv 8 rfl rfl; refine wt hK4 ?_
  by_cases hc1 : ((Int.tmod x y : Int) ≠ (0 : Int)) ∧ (((decide ((Int.tmod x y : Int) < (0 : Int))) != (decide ((y : Int) < (0 : Int)))) = true)
  ·refine ct s17 ((band (decide_eq_true_iff) (Iff.rfl)).2 hc1) ?_
   have hm := hc1
   refine ro [yV _, yV _, yV _] 3 22 z q ow (
     mvS s5 rfl rfl rfl rfl <|
     mvS s1 rfl rfl rfl rfl <|
     aS (fun hk bs hd => xadd (Or.inr rfl) rfl (dp hd 0 rfl) (dp hd 1 rfl) (mod13_sum hx hy hm).1 (mod13_sum hx hy hm).2) rfl <|
     arm0) fun fa fw bs hv ap z q ow => ?_
   obtain ⟨s4, s5⟩ := b2 bs s4 s5; have s20 := gv hv 2 rfl rfl; refine wl_value (v := .int .i64 ((Int.tmod x y) + y)) (want0 rfl) (xassign rfl s20) ?_; refine gp1 z q ow s4 fun fa fw z q ow s4 s5 => ?_; refine wt hK3 ?_; refine sq fun hK5 => ?_
   refine ro [yV _, yV _] 2 22 z q ow (
     mvS s5 rfl rfl rfl rfl <|
     asD 0 rfl rfl rfl rfl rfl rfl <|
     arm0) fun fa fw bs hv ap z q ow => ?_
   have s4 := gv hv 1 rfl rfl; refine wt hK5 ?_; refine wp_ret ?_; refine results_one rfl (res_tmp s4) q ?_; exact ⟨(congrArg (fun n => Ending.returned (.int .i64 n)) (mod13_pos hm)), ow.kept⟩
  refine cf s17 (band (decide_eq_true_iff) (Iff.rfl)) hc1 ?_; have hm := hc1; refine wp_skip ?_; refine tn hK3 ?_; refine sq fun hK6 => ?_
  refine ro [yV _, yV _] 2 22 z q ow (
    mvS s5 rfl rfl rfl rfl <|
    asD 0 rfl rfl rfl rfl rfl rfl <|
    arm0) fun fa fw bs hv ap z q ow => ?_
  have s4 := gv hv 1 rfl rfl; refine wt hK6 ?_; refine wp_ret ?_; refine results_one rfl (res_tmp s4) q ?_; exact ⟨(congrArg (fun n => Ending.returned (.int .i64 n)) (mod13_neg hm)), ow.kept⟩
set_option maxHeartbeats 4000000 in
theorem two13_any (fn : Nat) (w : World) :
    Calls Tryz.prog 69 #[.int .u8 fn] w fun e w' => e = .returned (.bool (two13 fn)) ∧ Kept w w' := by
  go_enter Tryz.func69, Tryz.ntmps69; refine sq fun hK1 => ?_
  refine ro [yV _] 1 13 rfl rfl (Own.start w) (
    aS (fun hk bs hd => xassign rfl rfl) rfl <|
    arm0) fun fa fw bs hv ap z q ow => ?_
  have s0 := bs.get 0 rfl rfl; have s2 := gv hv 0 rfl rfl; refine wt hK1 ?_; refine sq fun hK2 => ?_
  refine ro [yV _, yV _, yV _, yIf (((decide ((fn : Int) = (5 : Int))) = false)) (yV (.int .u8 (fn : Int))), yIf (((decide ((fn : Int) = (5 : Int))) = false)) (yV (.bool (decide ((fn : Int) = (6 : Int))))), yV _, yV _, yIf ((((decide ((fn : Int) = (5 : Int))) || (decide ((fn : Int) = (6 : Int)))) = false)) (yV (.int .u8 (fn : Int))), yIf ((((decide ((fn : Int) = (5 : Int))) || (decide ((fn : Int) = (6 : Int)))) = false)) (yV (.bool (decide ((fn : Int) = (7 : Int))))), yV _, yV _] 11 13 z q ow (
    mvS s0 rfl rfl rfl rfl <|
    aS (fun hk bs hd => xeqi rfl (dp hd 0 rfl) rfl) rfl <|
    mvD 1 rfl rfl rfl rfl rfl rfl <|
    arm (fun aa ww hk bs hd => by
      have d2 := dp hd 2 rfl
      by_cases hz : ((decide ((fn : Int) = (5 : Int))) = false)
      · exact stepX_same (v := .int .u8 (fn : Int)) (want1 (j := 2) (b := false) rfl (d2.trans (congrArg Value.bool hz))) (xmove rfl (bg bs s0)) ⟨fun _ => rfl, fun c => absurd hz c⟩ rfl
      · exact stepX_skip (wantN (j := 2) (b := false) (b' := true) rfl (d2.trans (congrArg Value.bool ((Bool.not_eq_false _).mp hz))) rfl) ⟨fun c => absurd c hz, fun _ => rfl⟩ rfl
      ) <|
    arm (fun aa ww hk bs hd => by
      have d2 := dp hd 2 rfl; have d3 := dI hd 3 rfl
      by_cases hz : ((decide ((fn : Int) = (5 : Int))) = false)
      · exact stepX_same (v := .bool (decide ((fn : Int) = (6 : Int)))) (want1 (j := 2) (b := false) rfl (d2.trans (congrArg Value.bool hz))) (xeqi rfl (d3.1 hz) rfl) ⟨fun _ => rfl, fun c => absurd hz c⟩ rfl
      · exact stepX_skip (wantN (j := 2) (b := false) (b' := true) rfl (d2.trans (congrArg Value.bool ((Bool.not_eq_false _).mp hz))) rfl) ⟨fun c => absurd c hz, fun _ => rfl⟩ rfl
      ) <|
    arm (fun aa ww hk bs hd => by
      have d2 := dp hd 2 rfl; have d4 := dI hd 4 rfl; exact stepX_same (v := .bool ((decide ((fn : Int) = (5 : Int))) || (decide ((fn : Int) = (6 : Int))))) (want0 rfl) (xor_ rfl (d2) rfl (fun hb => d4.1 hb)) rfl rfl
      ) <|
    mvD 5 rfl rfl rfl rfl rfl rfl <|
    arm (fun aa ww hk bs hd => by
      have d6 := dp hd 6 rfl
      by_cases hz : (((decide ((fn : Int) = (5 : Int))) || (decide ((fn : Int) = (6 : Int)))) = false)
      · exact stepX_same (v := .int .u8 (fn : Int)) (want1 (j := 6) (b := false) rfl (d6.trans (congrArg Value.bool hz))) (xmove rfl (bg bs s0)) ⟨fun _ => rfl, fun c => absurd hz c⟩ rfl
      · exact stepX_skip (wantN (j := 6) (b := false) (b' := true) rfl (d6.trans (congrArg Value.bool ((Bool.not_eq_false _).mp hz))) rfl) ⟨fun c => absurd c hz, fun _ => rfl⟩ rfl
      ) <|
    arm (fun aa ww hk bs hd => by
      have d6 := dp hd 6 rfl; have d7 := dI hd 7 rfl
      by_cases hz : (((decide ((fn : Int) = (5 : Int))) || (decide ((fn : Int) = (6 : Int)))) = false)
      · exact stepX_same (v := .bool (decide ((fn : Int) = (7 : Int)))) (want1 (j := 6) (b := false) rfl (d6.trans (congrArg Value.bool hz))) (xeqi rfl (d7.1 hz) rfl) ⟨fun _ => rfl, fun c => absurd hz c⟩ rfl
      · exact stepX_skip (wantN (j := 6) (b := false) (b' := true) rfl (d6.trans (congrArg Value.bool ((Bool.not_eq_false _).mp hz))) rfl) ⟨fun c => absurd c hz, fun _ => rfl⟩ rfl
      ) <|
    arm (fun aa ww hk bs hd => by
      have d6 := dp hd 6 rfl; have d8 := dI hd 8 rfl; exact stepX_same (v := .bool (((decide ((fn : Int) = (5 : Int))) || (decide ((fn : Int) = (6 : Int)))) || (decide ((fn : Int) = (7 : Int))))) (want0 rfl) (xor_ rfl (d6) rfl (fun hb => d8.1 hb)) rfl rfl
      ) <|
    asD 9 rfl rfl rfl rfl rfl rfl <|
    arm0) fun fa fw bs hv ap z q ow => ?_
  have s2 := gv hv 10 rfl rfl; refine wt hK2 ?_; refine wp_ret ?_; refine results_one rfl (res_tmp s2) q ?_; exact ⟨(congrArg (fun b => Ending.returned (.bool b)) (show _ = two13 fn from two13_or fn)), ow.kept⟩
set_option maxHeartbeats 4000000 in
theorem valid13r_any (b0 off0 cap : Nat) (l : List Vl) (w : World) (hr : RowV w (some ⟨b0, off0, none⟩) l) (hs : ∀ v ∈ l, Small v) (hl : l.length ≤ 1000000) :
    Calls Tryz.prog 70 #[.slice (some ⟨b0, off0, none⟩) l.length cap] w fun e w' => e = .returned (.bool (l.all vOk)) ∧ Kept w w' := by
  go_enter Tryz.func70, Tryz.ntmps70; refine sq fun hK1 => ?_
  refine ro [yV _] 1 15 rfl rfl (Own.start w) (
    aS (fun hk bs hd => xassign rfl rfl) rfl <|
    arm0) fun fa fw bs hv ap z q ow => ?_
  have s0 := bs.get 0 rfl rfl; have s2 := gv hv 0 rfl rfl; refine wt hK1 ?_; refine sq fun hK2 => ?_; refine sq fun hK3 => ?_
  refine ro [yV _, yV _, yV _] 3 15 z q ow (
    mvS s0 rfl rfl rfl rfl <|
    aS (fun hk bs hd => xlen Tryz.underlying22 rfl (dp hd 0 rfl)) rfl <|
    aS (fun hk bs hd => xmove rfl rfl) rfl <|
    arm0) fun fa fw bs hv ap z q ow => ?_
  have s2 := bg bs s2; have s5 := gv hv 0 rfl rfl; have s6 := gv hv 1 rfl rfl; have s7 := gv hv 2 rfl rfl; refine wt hK3 ?_; refine wp_block ?_; refine wp_loop_g (fun (k : Nat) fr u => (k ≤ l.length) ∧ (∀ j, j < k → vOk (l.getD j blankV) = true) ∧ fr.tmps.size = 15 ∧ fr.defers = [] ∧ Own w [] u ∧ fr.eval (.tmp 5) = .slice (some ⟨b0, off0, none⟩) l.length cap ∧ fr.eval (.tmp 6) = .int .i64 ((l.length : Nat) : Int) ∧ fr.eval (.tmp 7) = .int .i64 (k : Int)) (fun k => l.length - k) 0 ⟨(Nat.zero_le _), (fun j hj => absurd hj (Nat.not_lt_zero j)), z, q, ow, s5, s6, s7⟩ (fun k b_ u_ hI => ?_)
  revert b_ u_; intro fa fw hI
  obtain ⟨hk, hoks, z, q, ow, s5, s6, s7⟩ := hI; refine sq fun hK4 => ?_
  refine ro [yV _] 1 15 z q ow (
    aS (fun hk bs hd => xlss rfl (bg bs s7) (bg bs s6)) rfl <|
    arm0) fun fa fw bs hv ap z q ow => ?_
  obtain ⟨s5, s6, s7⟩ := b3 bs s5 s6 s7; have s8 := gv hv 0 rfl rfl; refine wt hK4 ?_; refine sq fun hK5 => ?_
  by_cases hc1 : (k : Int) < ((l.length : Nat) : Int)
  ·refine ct s8 ((decide_eq_true_iff).2 hc1) ?_
   refine wp_skip ?_; refine tn hK5 ?_; refine sq fun hK6 => ?_; refine wp_block ?_; refine sq fun hK7 => ?_; have hlt : k < l.length := by omega
   have hsk : Small (l.getD k blankV) := hs _ (by rw [show l.getD k blankV = l[k] by simp [List.getD, hlt]]; exact List.getElem_mem hlt)
   refine ro [yV _, yV (aggV (l.getD k blankV)), yNew fw.heap.size (.cells #[.int .u8 0, .int .i64 0, .string ⟨[].toArray⟩] 25 (0, 0))] 3 15 z q ow (
     aS (fun hk bs hd => xplaceV rfl (k := k) (bg bs s5) (bg bs s7) hlt) rfl <|
     aS (fun hk bs hd => xatV rfl (l := l) (k := k) (dp hd 0 rfl) (hr.kept (ow.keep hk).kept) hlt) rfl <|
     aP (fun hk bs hd => xalloc rfl (by kernel_rfl)) rfl <|
     arm0) fun fa fw bs hv ap z q ov => ?_
   obtain ⟨s5, s6, s7⟩ := b3 bs s5 s6 s7; have s10 := gv hv 1 rfl rfl; obtain ⟨gb1, s4, bgb1, hgb1⟩ := gotP hv 2 rfl rfl rfl; have ov := ov.cons hgb1 (Nat.le_trans ow.kept.size bgb1) (ow.below bgb1); have ow := ov; refine ws ow 0 0 s4 s10 fun fw ow => ?_; refine wt hK7 ?_; refine sq fun hK8 => ?_
   refine ro [yV (aggV (l.getD k blankV)), yV (.int .i64 (vChk (l.getD k blankV))), yV _] 3 15 z q ow (
     aS (fun hk bs hd => xloadN 3 rfl (by kernel_rfl) (by kernel_rfl) (bg bs s4) ((ow.keep hk).box 0 rfl) (Nat.le_of_ble_eq_true rfl) rfl) rfl <|
     aC (fun hk bs hd => xcall1 rfl (dp hd 0 rfl) (en_val_Check _ _)) (fun hk bs hd => vcheck5_any (l.getD k blankV) _ hsk.1 (Nat.le_trans hsk.2 (by decide))) rfl <|
     aS (fun hk bs hd => xnei rfl (dp hd 1 rfl) rfl) rfl <|
     arm0) fun fa fw bs hv ap z q ow => ?_
   obtain ⟨s5, s6, s7⟩ := b3 bs s5 s6 s7; have s13 := gv hv 2 rfl rfl; refine wt hK8 ?_
   by_cases hc2 : (vChk (l.getD k blankV) : Int) ≠ (0 : Int)
   ·refine ct s13 ((decide_eq_true_iff).2 hc2) ?_
    have hbad : vOk (l.getD k blankV) = false := chk_no13 hc2; refine sq fun hK9 => ?_
    refine ro [yV _] 1 15 z q ow (
      aS (fun hk bs hd => xassign rfl rfl) rfl <|
      arm0) fun fa fw bs hv ap z q ow => ?_
    obtain ⟨s5, s6, s7⟩ := b3 bs s5 s6 s7; have s2 := gv hv 0 rfl rfl; refine wt hK9 ?_; refine wp_ret ?_; refine block_r ?_; refine then_r ?_; refine then_r ?_; refine block_r ?_; refine then_r ?_; refine results_one rfl (res_tmp s2) q ?_; exact ⟨(congrArg (fun b => Ending.returned (.bool b)) (all_no hlt hbad).symm), ow.kept⟩
   refine cf s13 (decide_eq_true_iff) hc2 ?_; have hok : vOk (l.getD k blankV) = true := chk_ok13 hc2; refine wp_skip ?_; refine block_n ?_; refine tn hK6 ?_
   refine ro [yV (.int .i64 ((k + 1 : Nat) : Int))] 1 15 z q ow (
     aS (fun hk bs hd => xadd (Or.inl rfl) rfl (bg bs s7) rfl (by omega) (by omega)) rfl <|
     arm0) fun fa fw bs hv ap z q ow => ?_
   obtain ⟨s5, s6, s7⟩ := b3 bs s5 s6 s7; have s14 := gv hv 0 rfl rfl; refine wl_value (v := .int .i64 ((k + 1 : Nat) : Int)) (want0 rfl) (xmove rfl s14) ?_; refine gp2 z q ow s5 s6 fun fa fw z q ow s5 s6 s7 => ?_; refine wl_end ?_; exact then_n ⟨(k + 1), ⟨hlt, (fun j hj => (Nat.lt_succ_iff_lt_or_eq.1 hj).elim (hoks j) (fun e => e ▸ hok)), z, q, ow.tail, s5, s6, s7⟩, (show l.length - (k + 1) < l.length - k by omega)⟩
  refine cf s8 (decide_eq_true_iff) hc1 ?_; refine wp_exit ?_; refine then_e ?_; refine then_e ?_; refine block_hit ?_; refine tn hK2 ?_; refine sq fun hK10 => ?_
  refine ro [yV _] 1 15 z q ow (
    aS (fun hk bs hd => xassign rfl rfl) rfl <|
    arm0) fun fa fw bs hv ap z q ow => ?_
  have s2 := gv hv 0 rfl rfl; refine wt hK10 ?_; refine wp_ret ?_; refine results_one rfl (res_tmp s2) q ?_; exact ⟨(congrArg (fun b => Ending.returned (.bool b)) (all_yes (fun j hj => hoks j (by omega))).symm), ow.kept⟩
set_option maxHeartbeats 4000000 in
theorem numbers13_1 (v : Vl) (b0 off0 cap g gx gy c : Nat) (T : List Th) (w0 w : World) (mx : Int) (HM : Mx w0 mx) (OW : Own w0 ((Th.obj g (.cells #[.pointer (some ⟨gx, 0, none⟩), .pointer (some ⟨gy, 0, none⟩)] 108 (0, 0))) :: (Th.obj gy (.cells #[.int .i64 0] 2 (0, 0))) :: (Th.obj gx (.cells #[.int .i64 0] 2 (0, 0))) :: T) w) (hr : ∀ z_, Own w0 T z_ → RowV z_ (some ⟨b0, off0, none⟩) [v]) (s_v : Small v) :
    Calls Tryz.prog 71 #[.slice (some ⟨b0, off0, none⟩) 1 cap, .slice (some ⟨g, 0, none⟩) 1 c] w fun e w' => NumOut w0 [v] gx gy T ((vNum v).n, 0) e w' := by
  go_enter Tryz.func71, Tryz.ntmps71; refine sq fun hK1 => ?_
  refine ro [yNew w.heap.size (.cells #[.int .u8 0, .int .i64 0, .string ⟨[].toArray⟩] 25 (0, 0)), yV _] 2 31 rfl rfl OW (
    aP (fun hk bs hd => xalloc rfl (by kernel_rfl)) rfl <|
    aS (fun hk bs hd => xassign rfl rfl) rfl <|
    arm0) fun fa fw bs hv ap z q ov => ?_
  have s0 := bs.get 0 rfl rfl; have s1 := bs.get 1 rfl rfl; obtain ⟨gb1, s4, bgb1, hgb1⟩ := gotP hv 0 rfl rfl rfl; have ov := ov.cons hgb1 (Nat.le_trans OW.kept.size bgb1) (OW.below bgb1); have s5 := gv hv 1 rfl rfl; have ow := ov; refine wt hK1 ?_; refine sq fun hK2 => ?_; refine sq fun hK3 => ?_
  refine ro [yV _, yV _, yV _] 3 31 z q ow (
    mvS s1 rfl rfl rfl rfl <|
    aS (fun hk bs hd => xlen Tryz.underlying109 rfl (dp hd 0 rfl)) rfl <|
    aS (fun hk bs hd => xmove rfl rfl) rfl <|
    arm0) fun fa fw bs hv ap z q ow => ?_
  obtain ⟨s0, s4, s5⟩ := b3 bs s0 s4 s5; have s9 := gv hv 0 rfl rfl; have s10 := gv hv 1 rfl rfl; have s11 := gv hv 2 rfl rfl; refine wt hK3 ?_; refine wp_block ?_; refine wp_loop_rounds 2 ?_; refine rnd1 ?_; refine sq fun hK4 => ?_
  refine ro [yV (.bool true)] 1 31 z q ow (
    aE (fun hk bs hd => xlss rfl (bg bs s11) (bg bs s10)) (congrArg Value.bool rfl) rfl <|
    arm0) fun fa fw bs hv ap z q ow => ?_
  obtain ⟨s0, s4, s5, s9, s10, s11⟩ := b6 bs s0 s4 s5 s9 s10 s11; have s12 := gv hv 0 rfl rfl; refine wt hK4 ?_; refine sq fun hK5 => ?_; refine wp_cond_true (s12) ?_; refine wp_skip ?_; refine tn hK5 ?_; refine sq fun hK6 => ?_; refine wp_block ?_; refine sq fun hK7 => ?_
  refine ro [yV _, yV _, yV _, yV _, yV _] 5 31 z q ow (
    mvS s11 rfl rfl rfl rfl <|
    aS (fun hk bs hd => xindexAddr (u := .slice (some ⟨g, 0, none⟩) 1 c) (z := .int .i64 0) rfl (bg bs s9) (bg bs s11) (run_place1 (off := 0) (k := 0) Tryz.underlying109 (by kernel_rfl) (by decide))) rfl <|
    aS (fun hk bs hd => xloadB rfl (by kernel_rfl) (dp hd 1 rfl) ((ow.keep hk).box 1 rfl) rfl) rfl <|
    asD 0 rfl rfl rfl rfl rfl rfl <|
    asD 2 rfl rfl rfl rfl rfl rfl <|
    arm0) fun fa fw bs hv ap z q ow => ?_
  obtain ⟨s0, s4, s5, s9, s10, s11, s12⟩ := b7 bs s0 s4 s5 s9 s10 s11 s12; have s13 := gv hv 0 rfl rfl; have s14 := gv hv 1 rfl rfl; have s15 := gv hv 2 rfl rfl; have s6 := gv hv 3 rfl rfl; have s7 := gv hv 4 rfl rfl; refine wt hK7 ?_; refine sq fun hK8 => ?_
  refine ro [yV _, yV _, yV _, yV (aggV v), yV (aggV (vNum v)), yNew fw.heap.size (.cells #[.int .u8 0, .int .i64 0, .string ⟨[].toArray⟩] 25 (0, 0))] 6 31 z q ow (
    mvS s0 rfl rfl rfl rfl <|
    mvS s6 rfl rfl rfl rfl <|
    aS (fun hk bs hd => xplaceV rfl (k := 0) (dp hd 0 rfl) (dp hd 1 rfl) (Nat.le_of_ble_eq_true rfl)) rfl <|
    aS (fun hk bs hd => xatV rfl (l := [v]) (k := 0) (dp hd 2 rfl) (hr _ (ow.keep hk).tail.tail.tail.tail) (Nat.le_of_ble_eq_true rfl)) rfl <|
    aC (fun hk bs hd => xcall1 rfl (dp hd 3 rfl) (en_val_ToNumber _ _)) (fun hk bs hd => tonum_any v _ mx (HM.kept (ow.keep hk).kept) s_v.1 s_v.2) rfl <|
    aP (fun hk bs hd => xalloc rfl (by kernel_rfl)) rfl <|
    arm0) fun fa fw bs hv ap z q ov => ?_
  obtain ⟨s0, s4, s5, s9, s10, s11, s12, s13⟩ := b8 bs s0 s4 s5 s9 s10 s11 s12 s13; obtain ⟨s14, s15, s6, s7⟩ := b4 bs s14 s15 s6 s7; have s16 := gv hv 0 rfl rfl; have s17 := gv hv 1 rfl rfl; have s18 := gv hv 2 rfl rfl; have s19 := gv hv 3 rfl rfl; have s20 := gv hv 4 rfl rfl; obtain ⟨gb2, s8, bgb2, hgb2⟩ := gotP hv 5 rfl rfl rfl; have ov := ov.cons hgb2 (Nat.le_trans ow.kept.size bgb2) (ow.below bgb2); have ow := ov; refine ws ow 0 0 s8 s20 fun fw ow => ?_; refine wt hK8 ?_; refine sq fun hK9 => ?_; refine sq fun hK10 => ?_
  refine ro [yV (.pointer (some ⟨gb2, 0, none⟩)), yV _, yV _] 3 31 z q ow (
    aS (fun hk bs hd => xfieldAddr rfl (bg bs s8) (by kernel_rfl)) rfl <|
    aS (fun hk bs hd => xloadB rfl (by kernel_rfl) (dp hd 0 rfl) ((ow.keep hk).box 0 rfl) rfl) rfl <|
    aS (fun hk bs hd => xeqi rfl (dp hd 1 rfl) rfl) rfl <|
    arm0) fun fa fw bs hv ap z q ow => ?_
  obtain ⟨s0, s4, s5, s9, s10, s11, s12, s13⟩ := b8 bs s0 s4 s5 s9 s10 s11 s12 s13; obtain ⟨s14, s15, s6, s7, s16, s17, s18, s19⟩ := b8 bs s14 s15 s6 s7 s16 s17 s18 s19; obtain ⟨s20, s8⟩ := b2 bs s20 s8; have s21 := gv hv 0 rfl rfl; have s22 := gv hv 1 rfl rfl; have s23 := gv hv 2 rfl rfl; refine wt hK10 ?_
  by_cases hc1 : ((vNum v).k : Int) = (4 : Int)
  ·refine ct s23 ((decide_eq_true_iff).2 hc1) ?_
   have hye0 := isE_yes hc1; refine sq fun hK11 => ?_
   refine ro [yV (aggV (vNum v))] 1 31 z q ow (
     aS (fun hk bs hd => xloadN 3 rfl (by kernel_rfl) (by kernel_rfl) (bg bs s8) ((ow.keep hk).box 0 rfl) (Nat.le_of_ble_eq_true rfl) rfl) rfl <|
     arm0) fun fa fw bs hv ap z q ow => ?_
   obtain ⟨s0, s4, s5, s9, s10, s11, s12, s13⟩ := b8 bs s0 s4 s5 s9 s10 s11 s12 s13; obtain ⟨s14, s15, s6, s7, s16, s17, s18, s19⟩ := b8 bs s14 s15 s6 s7 s16 s17 s18 s19; obtain ⟨s20, s8, s21, s22, s23⟩ := b5 bs s20 s8 s21 s22 s23; have s24 := gv hv 0 rfl rfl; refine ws ow 1 0 s4 s24 fun fw ow => ?_; refine wl_value (v := .bool false) (want0 rfl) (xassign rfl rfl) ?_; refine gp21 z q ow s0 s4 s9 s10 s11 s12 s13 s14 s15 s6 s7 s16 s17 s18 s19 s20 s8 s21 s22 s23 s24 fun fa fw z q ow s0 s4 s9 s10 s11 s12 s13 s14 s15 s6 s7 s16 s17 s18 s19 s20 s8 s21 s22 s23 s24 s5 => ?_; refine wt hK11 ?_; refine wp_ret ?_; refine then_r ?_; refine block_r ?_; refine then_r ?_; refine then_r ?_; refine block_r ?_; refine then_r ?_; refine resultsL (v := .tuple #[aggV (vNum v), .bool false]) rfl (.cons (res_cell (n := 3) _ s4 (by kernel_rfl) (by kernel_rfl) (ow.box 1 rfl) (Nat.le_of_ble_eq_true rfl) rfl) (.cons (res_tmp s5) .nil)) rfl q ?_; exact ⟨_, false, rfl, Or.inl ⟨rfl, first_hit hye0, ow.tail.tail.tail.tail.tail⟩⟩
  refine cf s23 (decide_eq_true_iff) hc1 ?_; have hne0 := isE_no hc1; refine wp_skip ?_; refine tn hK9 ?_
  refine ro [yV _, yV (.pointer (some ⟨gb2, 1, none⟩)), yV _, yV _] 4 31 z q ow (
    mvS s7 rfl rfl rfl rfl <|
    aS (fun hk bs hd => xfieldAddr rfl (bg bs s8) (by kernel_rfl)) rfl <|
    aS (fun hk bs hd => xloadB rfl (by kernel_rfl) (dp hd 1 rfl) ((ow.keep hk).box 0 rfl) rfl) rfl <|
    aS (fun hk bs hd => xnilC rfl (dp hd 0 rfl)) rfl <|
    arm0) fun fa fw bs hv ap z q ow => ?_
  obtain ⟨s0, s4, s5, s9, s10, s11, s12, s13⟩ := b8 bs s0 s4 s5 s9 s10 s11 s12 s13; obtain ⟨s14, s15, s6, s7, s16, s17, s18, s19⟩ := b8 bs s14 s15 s6 s7 s16 s17 s18 s19; obtain ⟨s20, s8, s21, s22, s23⟩ := b5 bs s20 s8 s21 s22 s23; have s25 := gv hv 0 rfl rfl; have s26 := gv hv 1 rfl rfl; have s27 := gv hv 2 rfl rfl; have s28 := gv hv 3 rfl rfl; refine ws ow 4 0 s28 s27 fun fw ow => ?_; refine wl_end ?_; refine block_n ?_; refine tn hK6 ?_
  refine ro [yV (.int .i64 1)] 1 31 z q ow (
    aS (fun hk bs hd => xadd (Or.inl rfl) rfl (bg bs s11) rfl (by omega) (by omega)) rfl <|
    arm0) fun fa fw bs hv ap z q ow => ?_
  obtain ⟨s0, s4, s5, s9, s10, s11, s12, s13⟩ := b8 bs s0 s4 s5 s9 s10 s11 s12 s13; obtain ⟨s14, s15, s6, s7, s16, s17, s18, s19⟩ := b8 bs s14 s15 s6 s7 s16 s17 s18 s19; obtain ⟨s20, s8, s21, s22, s23, s25, s26, s27⟩ := b8 bs s20 s8 s21 s22 s23 s25 s26 s27; have s28 := bg bs s28; have s29 := gv hv 0 rfl rfl; refine wl_value (v := .int .i64 1) (want0 rfl) (xmove rfl s29) ?_; refine gp25 z q ow s0 s4 s5 s9 s10 s12 s13 s14 s15 s6 s7 s16 s17 s18 s19 s20 s8 s21 s22 s23 s25 s26 s27 s28 s29 fun fa fw z q ow s0 s4 s5 s9 s10 s12 s13 s14 s15 s6 s7 s16 s17 s18 s19 s20 s8 s21 s22 s23 s25 s26 s27 s28 s29 s11 => ?_; refine wl_end ?_; refine then_n ?_; refine rnd1 ?_; refine sq fun hK12 => ?_
  refine ro [yV (.bool false)] 1 31 z q ow (
    aE (fun hk bs hd => xlss rfl (bg bs s11) (bg bs s10)) (congrArg Value.bool rfl) rfl <|
    arm0) fun fa fw bs hv ap z q ow => ?_
  obtain ⟨s0, s4, s5, s9, s10, s13, s14, s15⟩ := b8 bs s0 s4 s5 s9 s10 s13 s14 s15; obtain ⟨s6, s7, s16, s17, s18, s19, s20, s8⟩ := b8 bs s6 s7 s16 s17 s18 s19 s20 s8; obtain ⟨s21, s22, s23, s25, s26, s27, s28, s29⟩ := b8 bs s21 s22 s23 s25 s26 s27 s28 s29; have s11 := bg bs s11; have s12 := gv hv 0 rfl rfl; refine wt hK12 ?_; refine sq fun hK13 => ?_; refine wp_cond_false (s12) ?_; refine wp_exit ?_; refine then_e ?_; refine then_e ?_; refine block_hit ?_; refine tn hK2 ?_; refine sq fun hK14 => ?_
  refine ro [yV (aggV (⟨0, 0, []⟩ : Vl))] 1 31 z q ow (
    aS (fun hk bs hd => xbuild (us := #[]) rfl (by simp) (by kernel_rfl)) rfl <|
    arm0) fun fa fw bs hv ap z q ow => ?_
  obtain ⟨s4, s5⟩ := b2 bs s4 s5; have s30 := gv hv 0 rfl rfl; refine ws ow 1 0 s4 s30 fun fw ow => ?_; refine wl_value (v := .bool true) (want0 rfl) (xassign rfl rfl) ?_; refine gp1 z q ow s4 fun fa fw z q ow s4 s5 => ?_; refine wt hK14 ?_; refine wp_ret ?_; refine resultsL (v := .tuple #[aggV (⟨0, 0, []⟩ : Vl), .bool true]) rfl (.cons (res_cell (n := 3) _ s4 (by kernel_rfl) (by kernel_rfl) (ow.box 1 rfl) (Nat.le_of_ble_eq_true rfl) rfl) (.cons (res_tmp s5) .nil)) rfl q ?_; exact ⟨_, true, rfl, Or.inr ⟨rfl, (first_miss hne0).trans first_nil, ow.tail.tail.tail⟩⟩
set_option maxHeartbeats 4000000 in
theorem numbers13_2 (v u : Vl) (b0 off0 cap g gx gy c : Nat) (T : List Th) (w0 w : World) (mx : Int) (HM : Mx w0 mx) (OW : Own w0 ((Th.obj g (.cells #[.pointer (some ⟨gx, 0, none⟩), .pointer (some ⟨gy, 0, none⟩)] 108 (0, 0))) :: (Th.obj gy (.cells #[.int .i64 0] 2 (0, 0))) :: (Th.obj gx (.cells #[.int .i64 0] 2 (0, 0))) :: T) w) (hr : ∀ z_, Own w0 T z_ → RowV z_ (some ⟨b0, off0, none⟩) [v, u]) (s_v : Small v) (s_u : Small u) :
    Calls Tryz.prog 71 #[.slice (some ⟨b0, off0, none⟩) 2 cap, .slice (some ⟨g, 0, none⟩) 2 c] w fun e w' => NumOut w0 [v, u] gx gy T ((vNum v).n, (vNum u).n) e w' := by
  go_enter Tryz.func71, Tryz.ntmps71; refine sq fun hK1 => ?_
  refine ro [yNew w.heap.size (.cells #[.int .u8 0, .int .i64 0, .string ⟨[].toArray⟩] 25 (0, 0)), yV _] 2 31 rfl rfl OW (
    aP (fun hk bs hd => xalloc rfl (by kernel_rfl)) rfl <|
    aS (fun hk bs hd => xassign rfl rfl) rfl <|
    arm0) fun fa fw bs hv ap z q ov => ?_
  have s0 := bs.get 0 rfl rfl; have s1 := bs.get 1 rfl rfl; obtain ⟨gb1, s4, bgb1, hgb1⟩ := gotP hv 0 rfl rfl rfl; have ov := ov.cons hgb1 (Nat.le_trans OW.kept.size bgb1) (OW.below bgb1); have s5 := gv hv 1 rfl rfl; have ow := ov; refine wt hK1 ?_; refine sq fun hK2 => ?_; refine sq fun hK3 => ?_
  refine ro [yV _, yV _, yV _] 3 31 z q ow (
    mvS s1 rfl rfl rfl rfl <|
    aS (fun hk bs hd => xlen Tryz.underlying109 rfl (dp hd 0 rfl)) rfl <|
    aS (fun hk bs hd => xmove rfl rfl) rfl <|
    arm0) fun fa fw bs hv ap z q ow => ?_
  obtain ⟨s0, s4, s5⟩ := b3 bs s0 s4 s5; have s9 := gv hv 0 rfl rfl; have s10 := gv hv 1 rfl rfl; have s11 := gv hv 2 rfl rfl; refine wt hK3 ?_; refine wp_block ?_; refine wp_loop_rounds 3 ?_; refine rnd1 ?_; refine sq fun hK4 => ?_
  refine ro [yV (.bool true)] 1 31 z q ow (
    aE (fun hk bs hd => xlss rfl (bg bs s11) (bg bs s10)) (congrArg Value.bool rfl) rfl <|
    arm0) fun fa fw bs hv ap z q ow => ?_
  obtain ⟨s0, s4, s5, s9, s10, s11⟩ := b6 bs s0 s4 s5 s9 s10 s11; have s12 := gv hv 0 rfl rfl; refine wt hK4 ?_; refine sq fun hK5 => ?_; refine wp_cond_true (s12) ?_; refine wp_skip ?_; refine tn hK5 ?_; refine sq fun hK6 => ?_; refine wp_block ?_; refine sq fun hK7 => ?_
  refine ro [yV _, yV _, yV _, yV _, yV _] 5 31 z q ow (
    mvS s11 rfl rfl rfl rfl <|
    aS (fun hk bs hd => xindexAddr (u := .slice (some ⟨g, 0, none⟩) 2 c) (z := .int .i64 0) rfl (bg bs s9) (bg bs s11) (run_place1 (off := 0) (k := 0) Tryz.underlying109 (by kernel_rfl) (by decide))) rfl <|
    aS (fun hk bs hd => xloadB rfl (by kernel_rfl) (dp hd 1 rfl) ((ow.keep hk).box 1 rfl) rfl) rfl <|
    asD 0 rfl rfl rfl rfl rfl rfl <|
    asD 2 rfl rfl rfl rfl rfl rfl <|
    arm0) fun fa fw bs hv ap z q ow => ?_
  obtain ⟨s0, s4, s5, s9, s10, s11, s12⟩ := b7 bs s0 s4 s5 s9 s10 s11 s12; have s13 := gv hv 0 rfl rfl; have s14 := gv hv 1 rfl rfl; have s15 := gv hv 2 rfl rfl; have s6 := gv hv 3 rfl rfl; have s7 := gv hv 4 rfl rfl; refine wt hK7 ?_; refine sq fun hK8 => ?_
  refine ro [yV _, yV _, yV _, yV (aggV v), yV (aggV (vNum v)), yNew fw.heap.size (.cells #[.int .u8 0, .int .i64 0, .string ⟨[].toArray⟩] 25 (0, 0))] 6 31 z q ow (
    mvS s0 rfl rfl rfl rfl <|
    mvS s6 rfl rfl rfl rfl <|
    aS (fun hk bs hd => xplaceV rfl (k := 0) (dp hd 0 rfl) (dp hd 1 rfl) (Nat.le_of_ble_eq_true rfl)) rfl <|
    aS (fun hk bs hd => xatV rfl (l := [v, u]) (k := 0) (dp hd 2 rfl) (hr _ (ow.keep hk).tail.tail.tail.tail) (Nat.le_of_ble_eq_true rfl)) rfl <|
    aC (fun hk bs hd => xcall1 rfl (dp hd 3 rfl) (en_val_ToNumber _ _)) (fun hk bs hd => tonum_any v _ mx (HM.kept (ow.keep hk).kept) s_v.1 s_v.2) rfl <|
    aP (fun hk bs hd => xalloc rfl (by kernel_rfl)) rfl <|
    arm0) fun fa fw bs hv ap z q ov => ?_
  obtain ⟨s0, s4, s5, s9, s10, s11, s12, s13⟩ := b8 bs s0 s4 s5 s9 s10 s11 s12 s13; obtain ⟨s14, s15, s6, s7⟩ := b4 bs s14 s15 s6 s7; have s16 := gv hv 0 rfl rfl; have s17 := gv hv 1 rfl rfl; have s18 := gv hv 2 rfl rfl; have s19 := gv hv 3 rfl rfl; have s20 := gv hv 4 rfl rfl; obtain ⟨gb2, s8, bgb2, hgb2⟩ := gotP hv 5 rfl rfl rfl; have ov := ov.cons hgb2 (Nat.le_trans ow.kept.size bgb2) (ow.below bgb2); have ow := ov; refine ws ow 0 0 s8 s20 fun fw ow => ?_; refine wt hK8 ?_; refine sq fun hK9 => ?_; refine sq fun hK10 => ?_
  refine ro [yV (.pointer (some ⟨gb2, 0, none⟩)), yV _, yV _] 3 31 z q ow (
    aS (fun hk bs hd => xfieldAddr rfl (bg bs s8) (by kernel_rfl)) rfl <|
    aS (fun hk bs hd => xloadB rfl (by kernel_rfl) (dp hd 0 rfl) ((ow.keep hk).box 0 rfl) rfl) rfl <|
    aS (fun hk bs hd => xeqi rfl (dp hd 1 rfl) rfl) rfl <|
    arm0) fun fa fw bs hv ap z q ow => ?_
  obtain ⟨s0, s4, s5, s9, s10, s11, s12, s13⟩ := b8 bs s0 s4 s5 s9 s10 s11 s12 s13; obtain ⟨s14, s15, s6, s7, s16, s17, s18, s19⟩ := b8 bs s14 s15 s6 s7 s16 s17 s18 s19; obtain ⟨s20, s8⟩ := b2 bs s20 s8; have s21 := gv hv 0 rfl rfl; have s22 := gv hv 1 rfl rfl; have s23 := gv hv 2 rfl rfl; refine wt hK10 ?_
  by_cases hc1 : ((vNum v).k : Int) = (4 : Int)
  ·refine ct s23 ((decide_eq_true_iff).2 hc1) ?_
   have hye0 := isE_yes hc1; refine sq fun hK11 => ?_
   refine ro [yV (aggV (vNum v))] 1 31 z q ow (
     aS (fun hk bs hd => xloadN 3 rfl (by kernel_rfl) (by kernel_rfl) (bg bs s8) ((ow.keep hk).box 0 rfl) (Nat.le_of_ble_eq_true rfl) rfl) rfl <|
     arm0) fun fa fw bs hv ap z q ow => ?_
   obtain ⟨s0, s4, s5, s9, s10, s11, s12, s13⟩ := b8 bs s0 s4 s5 s9 s10 s11 s12 s13; obtain ⟨s14, s15, s6, s7, s16, s17, s18, s19⟩ := b8 bs s14 s15 s6 s7 s16 s17 s18 s19; obtain ⟨s20, s8, s21, s22, s23⟩ := b5 bs s20 s8 s21 s22 s23; have s24 := gv hv 0 rfl rfl; refine ws ow 1 0 s4 s24 fun fw ow => ?_; refine wl_value (v := .bool false) (want0 rfl) (xassign rfl rfl) ?_; refine gp21 z q ow s0 s4 s9 s10 s11 s12 s13 s14 s15 s6 s7 s16 s17 s18 s19 s20 s8 s21 s22 s23 s24 fun fa fw z q ow s0 s4 s9 s10 s11 s12 s13 s14 s15 s6 s7 s16 s17 s18 s19 s20 s8 s21 s22 s23 s24 s5 => ?_; refine wt hK11 ?_; refine wp_ret ?_; refine then_r ?_; refine block_r ?_; refine then_r ?_; refine then_r ?_; refine block_r ?_; refine then_r ?_; refine resultsL (v := .tuple #[aggV (vNum v), .bool false]) rfl (.cons (res_cell (n := 3) _ s4 (by kernel_rfl) (by kernel_rfl) (ow.box 1 rfl) (Nat.le_of_ble_eq_true rfl) rfl) (.cons (res_tmp s5) .nil)) rfl q ?_; exact ⟨_, false, rfl, Or.inl ⟨rfl, first_hit hye0, ow.tail.tail.tail.tail.tail⟩⟩
  refine cf s23 (decide_eq_true_iff) hc1 ?_; have hne0 := isE_no hc1; refine wp_skip ?_; refine tn hK9 ?_
  refine ro [yV _, yV (.pointer (some ⟨gb2, 1, none⟩)), yV _, yV _] 4 31 z q ow (
    mvS s7 rfl rfl rfl rfl <|
    aS (fun hk bs hd => xfieldAddr rfl (bg bs s8) (by kernel_rfl)) rfl <|
    aS (fun hk bs hd => xloadB rfl (by kernel_rfl) (dp hd 1 rfl) ((ow.keep hk).box 0 rfl) rfl) rfl <|
    aS (fun hk bs hd => xnilC rfl (dp hd 0 rfl)) rfl <|
    arm0) fun fa fw bs hv ap z q ow => ?_
  obtain ⟨s0, s4, s5, s9, s10, s11, s12, s13⟩ := b8 bs s0 s4 s5 s9 s10 s11 s12 s13; obtain ⟨s14, s15, s6, s7, s16, s17, s18, s19⟩ := b8 bs s14 s15 s6 s7 s16 s17 s18 s19; obtain ⟨s20, s8, s21, s22, s23⟩ := b5 bs s20 s8 s21 s22 s23; have s25 := gv hv 0 rfl rfl; have s26 := gv hv 1 rfl rfl; have s27 := gv hv 2 rfl rfl; have s28 := gv hv 3 rfl rfl; refine ws ow 4 0 s28 s27 fun fw ow => ?_; refine wl_end ?_; refine block_n ?_; refine tn hK6 ?_
  refine ro [yV (.int .i64 1)] 1 31 z q ow (
    aS (fun hk bs hd => xadd (Or.inl rfl) rfl (bg bs s11) rfl (by omega) (by omega)) rfl <|
    arm0) fun fa fw bs hv ap z q ow => ?_
  obtain ⟨s0, s4, s5, s9, s10, s11, s12, s13⟩ := b8 bs s0 s4 s5 s9 s10 s11 s12 s13; obtain ⟨s14, s15, s6, s7, s16, s17, s18, s19⟩ := b8 bs s14 s15 s6 s7 s16 s17 s18 s19; obtain ⟨s20, s8, s21, s22, s23, s25, s26, s27⟩ := b8 bs s20 s8 s21 s22 s23 s25 s26 s27; have s28 := bg bs s28; have s29 := gv hv 0 rfl rfl; refine wl_value (v := .int .i64 1) (want0 rfl) (xmove rfl s29) ?_; refine gp25 z q ow s0 s4 s5 s9 s10 s12 s13 s14 s15 s6 s7 s16 s17 s18 s19 s20 s8 s21 s22 s23 s25 s26 s27 s28 s29 fun fa fw z q ow s0 s4 s5 s9 s10 s12 s13 s14 s15 s6 s7 s16 s17 s18 s19 s20 s8 s21 s22 s23 s25 s26 s27 s28 s29 s11 => ?_; refine wl_end ?_; refine then_n ?_; refine rnd1 ?_; refine sq fun hK12 => ?_
  refine ro [yV (.bool true)] 1 31 z q ow (
    aE (fun hk bs hd => xlss rfl (bg bs s11) (bg bs s10)) (congrArg Value.bool rfl) rfl <|
    arm0) fun fa fw bs hv ap z q ow => ?_
  obtain ⟨s0, s4, s5, s9, s10, s13, s14, s15⟩ := b8 bs s0 s4 s5 s9 s10 s13 s14 s15; obtain ⟨s6, s7, s16, s17, s18, s19, s20, s8⟩ := b8 bs s6 s7 s16 s17 s18 s19 s20 s8; obtain ⟨s21, s22, s23, s25, s26, s27, s28, s29⟩ := b8 bs s21 s22 s23 s25 s26 s27 s28 s29; have s11 := bg bs s11; have s12 := gv hv 0 rfl rfl; refine wt hK12 ?_; refine sq fun hK13 => ?_; refine wp_cond_true (s12) ?_; refine wp_skip ?_; refine tn hK13 ?_; refine sq fun hK14 => ?_; refine wp_block ?_; refine sq fun hK15 => ?_
  refine ro [yV _, yV _, yV _, yV _, yV _] 5 31 z q ow (
    mvS s11 rfl rfl rfl rfl <|
    aS (fun hk bs hd => xindexAddr (u := .slice (some ⟨g, 0, none⟩) 2 c) (z := .int .i64 1) rfl (bg bs s9) (bg bs s11) (run_place1 (off := 0) (k := 1) Tryz.underlying109 (by kernel_rfl) (by decide))) rfl <|
    aS (fun hk bs hd => xloadB rfl (by kernel_rfl) (dp hd 1 rfl) ((ow.keep hk).box 2 rfl) rfl) rfl <|
    asD 0 rfl rfl rfl rfl rfl rfl <|
    asD 2 rfl rfl rfl rfl rfl rfl <|
    arm0) fun fa fw bs hv ap z q ow => ?_
  obtain ⟨s0, s4, s5, s9, s10, s16, s17, s18⟩ := b8 bs s0 s4 s5 s9 s10 s16 s17 s18; obtain ⟨s19, s20, s8, s21, s22, s23, s25, s26⟩ := b8 bs s19 s20 s8 s21 s22 s23 s25 s26; obtain ⟨s27, s28, s29, s11, s12⟩ := b5 bs s27 s28 s29 s11 s12; have s13 := gv hv 0 rfl rfl; have s14 := gv hv 1 rfl rfl; have s15 := gv hv 2 rfl rfl; have s6 := gv hv 3 rfl rfl; have s7 := gv hv 4 rfl rfl; refine wt hK15 ?_; refine sq fun hK16 => ?_
  refine ro [yV _, yV _, yV _, yV (aggV u), yV (aggV (vNum u)), yNew fw.heap.size (.cells #[.int .u8 0, .int .i64 0, .string ⟨[].toArray⟩] 25 (0, 0))] 6 31 z q ow (
    mvS s0 rfl rfl rfl rfl <|
    mvS s6 rfl rfl rfl rfl <|
    aS (fun hk bs hd => xplaceV rfl (k := 1) (dp hd 0 rfl) (dp hd 1 rfl) (Nat.le_of_ble_eq_true rfl)) rfl <|
    aS (fun hk bs hd => xatV rfl (l := [v, u]) (k := 1) (dp hd 2 rfl) (hr _ (ow.keep hk).tail.tail.tail.tail.tail) (Nat.le_of_ble_eq_true rfl)) rfl <|
    aC (fun hk bs hd => xcall1 rfl (dp hd 3 rfl) (en_val_ToNumber _ _)) (fun hk bs hd => tonum_any u _ mx (HM.kept (ow.keep hk).kept) s_u.1 s_u.2) rfl <|
    aP (fun hk bs hd => xalloc rfl (by kernel_rfl)) rfl <|
    arm0) fun fa fw bs hv ap z q ov => ?_
  obtain ⟨s0, s4, s5, s9, s10, s21, s22, s23⟩ := b8 bs s0 s4 s5 s9 s10 s21 s22 s23; obtain ⟨s25, s26, s27, s28, s29, s11, s12, s13⟩ := b8 bs s25 s26 s27 s28 s29 s11 s12 s13; obtain ⟨s14, s15, s6, s7⟩ := b4 bs s14 s15 s6 s7; have s16 := gv hv 0 rfl rfl; have s17 := gv hv 1 rfl rfl; have s18 := gv hv 2 rfl rfl; have s19 := gv hv 3 rfl rfl; have s20 := gv hv 4 rfl rfl; obtain ⟨gb3, s8, bgb3, hgb3⟩ := gotP hv 5 rfl rfl rfl; have ov := ov.cons hgb3 (Nat.le_trans ow.kept.size bgb3) (ow.below bgb3); have ow := ov; refine ws ow 0 0 s8 s20 fun fw ow => ?_; refine wt hK16 ?_; refine sq fun hK17 => ?_; refine sq fun hK18 => ?_
  refine ro [yV (.pointer (some ⟨gb3, 0, none⟩)), yV _, yV _] 3 31 z q ow (
    aS (fun hk bs hd => xfieldAddr rfl (bg bs s8) (by kernel_rfl)) rfl <|
    aS (fun hk bs hd => xloadB rfl (by kernel_rfl) (dp hd 0 rfl) ((ow.keep hk).box 0 rfl) rfl) rfl <|
    aS (fun hk bs hd => xeqi rfl (dp hd 1 rfl) rfl) rfl <|
    arm0) fun fa fw bs hv ap z q ow => ?_
  obtain ⟨s0, s4, s5, s9, s10, s25, s26, s27⟩ := b8 bs s0 s4 s5 s9 s10 s25 s26 s27; obtain ⟨s28, s29, s11, s12, s13, s14, s15, s6⟩ := b8 bs s28 s29 s11 s12 s13 s14 s15 s6; obtain ⟨s7, s16, s17, s18, s19, s20, s8⟩ := b7 bs s7 s16 s17 s18 s19 s20 s8; have s21 := gv hv 0 rfl rfl; have s22 := gv hv 1 rfl rfl; have s23 := gv hv 2 rfl rfl; refine wt hK18 ?_
  by_cases hc2 : ((vNum u).k : Int) = (4 : Int)
  ·refine ct s23 ((decide_eq_true_iff).2 hc2) ?_
   have hye1 := isE_yes hc2; refine sq fun hK19 => ?_
   refine ro [yV (aggV (vNum u))] 1 31 z q ow (
     aS (fun hk bs hd => xloadN 3 rfl (by kernel_rfl) (by kernel_rfl) (bg bs s8) ((ow.keep hk).box 0 rfl) (Nat.le_of_ble_eq_true rfl) rfl) rfl <|
     arm0) fun fa fw bs hv ap z q ow => ?_
   obtain ⟨s0, s4, s5, s9, s10, s25, s26, s27⟩ := b8 bs s0 s4 s5 s9 s10 s25 s26 s27; obtain ⟨s28, s29, s11, s12, s13, s14, s15, s6⟩ := b8 bs s28 s29 s11 s12 s13 s14 s15 s6; obtain ⟨s7, s16, s17, s18, s19, s20, s8, s21⟩ := b8 bs s7 s16 s17 s18 s19 s20 s8 s21; obtain ⟨s22, s23⟩ := b2 bs s22 s23; have s24 := gv hv 0 rfl rfl; refine ws ow 2 0 s4 s24 fun fw ow => ?_; refine wl_value (v := .bool false) (want0 rfl) (xassign rfl rfl) ?_; refine gp26 z q ow s0 s4 s9 s10 s25 s26 s27 s28 s29 s11 s12 s13 s14 s15 s6 s7 s16 s17 s18 s19 s20 s8 s21 s22 s23 s24 fun fa fw z q ow s0 s4 s9 s10 s25 s26 s27 s28 s29 s11 s12 s13 s14 s15 s6 s7 s16 s17 s18 s19 s20 s8 s21 s22 s23 s24 s5 => ?_; refine wt hK19 ?_; refine wp_ret ?_; refine then_r ?_; refine block_r ?_; refine then_r ?_; refine then_r ?_; refine block_r ?_; refine then_r ?_; refine resultsL (v := .tuple #[aggV (vNum u), .bool false]) rfl (.cons (res_cell (n := 3) _ s4 (by kernel_rfl) (by kernel_rfl) (ow.box 2 rfl) (Nat.le_of_ble_eq_true rfl) rfl) (.cons (res_tmp s5) .nil)) rfl q ?_; exact ⟨_, false, rfl, Or.inl ⟨rfl, (first_miss hne0).trans (first_hit hye1), ow.tail.tail.tail.tail.tail.tail⟩⟩
  refine cf s23 (decide_eq_true_iff) hc2 ?_; have hne1 := isE_no hc2; refine wp_skip ?_; refine tn hK17 ?_
  refine ro [yV _, yV (.pointer (some ⟨gb3, 1, none⟩)), yV _, yV _] 4 31 z q ow (
    mvS s7 rfl rfl rfl rfl <|
    aS (fun hk bs hd => xfieldAddr rfl (bg bs s8) (by kernel_rfl)) rfl <|
    aS (fun hk bs hd => xloadB rfl (by kernel_rfl) (dp hd 1 rfl) ((ow.keep hk).box 0 rfl) rfl) rfl <|
    aS (fun hk bs hd => xnilC rfl (dp hd 0 rfl)) rfl <|
    arm0) fun fa fw bs hv ap z q ow => ?_
  obtain ⟨s0, s4, s5, s9, s10, s29, s11, s12⟩ := b8 bs s0 s4 s5 s9 s10 s29 s11 s12; obtain ⟨s13, s14, s15, s6, s7, s16, s17, s18⟩ := b8 bs s13 s14 s15 s6 s7 s16 s17 s18; obtain ⟨s19, s20, s8, s21, s22, s23⟩ := b6 bs s19 s20 s8 s21 s22 s23; have s25 := gv hv 0 rfl rfl; have s26 := gv hv 1 rfl rfl; have s27 := gv hv 2 rfl rfl; have s28 := gv hv 3 rfl rfl; refine ws ow 4 0 s28 s27 fun fw ow => ?_; refine wl_end ?_; refine block_n ?_; refine tn hK14 ?_
  refine ro [yV (.int .i64 2)] 1 31 z q ow (
    aS (fun hk bs hd => xadd (Or.inl rfl) rfl (bg bs s11) rfl (by omega) (by omega)) rfl <|
    arm0) fun fa fw bs hv ap z q ow => ?_
  obtain ⟨s0, s4, s5, s9, s10, s11, s12, s13⟩ := b8 bs s0 s4 s5 s9 s10 s11 s12 s13; obtain ⟨s14, s15, s6, s7, s16, s17, s18, s19⟩ := b8 bs s14 s15 s6 s7 s16 s17 s18 s19; obtain ⟨s20, s8, s21, s22, s23, s25, s26, s27⟩ := b8 bs s20 s8 s21 s22 s23 s25 s26 s27; have s28 := bg bs s28; have s29 := gv hv 0 rfl rfl; refine wl_value (v := .int .i64 2) (want0 rfl) (xmove rfl s29) ?_; refine gp25 z q ow s0 s4 s5 s9 s10 s12 s13 s14 s15 s6 s7 s16 s17 s18 s19 s20 s8 s21 s22 s23 s25 s26 s27 s28 s29 fun fa fw z q ow s0 s4 s5 s9 s10 s12 s13 s14 s15 s6 s7 s16 s17 s18 s19 s20 s8 s21 s22 s23 s25 s26 s27 s28 s29 s11 => ?_; refine wl_end ?_; refine then_n ?_; refine rnd1 ?_; refine sq fun hK20 => ?_
  refine ro [yV (.bool false)] 1 31 z q ow (
    aE (fun hk bs hd => xlss rfl (bg bs s11) (bg bs s10)) (congrArg Value.bool rfl) rfl <|
    arm0) fun fa fw bs hv ap z q ow => ?_
  obtain ⟨s0, s4, s5, s9, s10, s13, s14, s15⟩ := b8 bs s0 s4 s5 s9 s10 s13 s14 s15; obtain ⟨s6, s7, s16, s17, s18, s19, s20, s8⟩ := b8 bs s6 s7 s16 s17 s18 s19 s20 s8; obtain ⟨s21, s22, s23, s25, s26, s27, s28, s29⟩ := b8 bs s21 s22 s23 s25 s26 s27 s28 s29; have s11 := bg bs s11; have s12 := gv hv 0 rfl rfl; refine wt hK20 ?_; refine sq fun hK21 => ?_; refine wp_cond_false (s12) ?_; refine wp_exit ?_; refine then_e ?_; refine then_e ?_; refine block_hit ?_; refine tn hK2 ?_; refine sq fun hK22 => ?_
  refine ro [yV (aggV (⟨0, 0, []⟩ : Vl))] 1 31 z q ow (
    aS (fun hk bs hd => xbuild (us := #[]) rfl (by simp) (by kernel_rfl)) rfl <|
    arm0) fun fa fw bs hv ap z q ow => ?_
  obtain ⟨s4, s5⟩ := b2 bs s4 s5; have s30 := gv hv 0 rfl rfl; refine ws ow 2 0 s4 s30 fun fw ow => ?_; refine wl_value (v := .bool true) (want0 rfl) (xassign rfl rfl) ?_; refine gp1 z q ow s4 fun fa fw z q ow s4 s5 => ?_; refine wt hK22 ?_; refine wp_ret ?_; refine resultsL (v := .tuple #[aggV (⟨0, 0, []⟩ : Vl), .bool true]) rfl (.cons (res_cell (n := 3) _ s4 (by kernel_rfl) (by kernel_rfl) (ow.box 2 rfl) (Nat.le_of_ble_eq_true rfl) rfl) (.cons (res_tmp s5) .nil)) rfl q ?_; exact ⟨_, true, rfl, Or.inr ⟨rfl, (first_miss hne0).trans ((first_miss hne1).trans first_nil), ow.tail.tail.tail.tail⟩⟩
set_option maxHeartbeats 4000000 in
theorem value13_any (fn : Nat) (x y : Int) (w : World) (h1 : 1 ≤ fn) (h2 : fn ≤ 8) (hx : -9223372036854775807 ≤ x ∧ x ≤ 9223372036854775807) (hy : -9223372036854775807 ≤ y ∧ y ≤ 9223372036854775807) :
    Calls Tryz.prog 72 #[.int .u8 fn, .int .i64 x, .int .i64 y] w fun e w' => e = .returned (aggV (val13 fn x y)) ∧ Kept w w' := by
  have ix : i64 x := ⟨by omega, by omega⟩; have iy : i64 y := ⟨by omega, by omega⟩; have it : i64 (dTrunc x) := dTrunc_in ix; have iu : i64 (dTrunc y) := dTrunc_in iy; have sg := sgn13_in x; have im := mod13_in hx hy; have ir : i64 (min (max (Int.tdiv (dTrunc y) 10000) (-20)) 4) := ⟨by omega, by omega⟩; have it1 := it.1; have it2 := it.2; have iu1 := iu.1; have iu2 := iu.2; have im1 := im.1; have im2 := im.2; go_enter Tryz.func72, Tryz.ntmps72; refine sq fun hK1 => ?_
  refine ro [yNew w.heap.size (.cells #[.int .u8 0, .int .i64 0, .string ⟨[].toArray⟩] 25 (0, 0))] 1 69 rfl rfl (Own.start w) (
    aP (fun hk bs hd => xalloc rfl (by kernel_rfl)) rfl <|
    arm0) fun fa fw bs hv ap z q ov => ?_
  have s0 := bs.get 0 rfl rfl; have s1 := bs.get 1 rfl rfl; have s2 := bs.get 2 rfl rfl; obtain ⟨gb1, s6, bgb1, hgb1⟩ := gotP hv 0 rfl rfl rfl; have ov := ov.cons hgb1 (Nat.le_trans (Own.start w).kept.size bgb1) ((Own.start w).below bgb1); have ow := ov; refine wt hK1 ?_; refine sq fun hK2 => ?_; refine sq fun hK3 => ?_
  refine ro [yV _] 1 69 z q ow (
    mvS s0 rfl rfl rfl rfl <|
    arm0) fun fa fw bs hv ap z q ow => ?_
  obtain ⟨s1, s2, s6⟩ := b3 bs s1 s2 s6; have s8 := gv hv 0 rfl rfl; refine wt hK3 ?_; refine wp_block ?_; refine sq fun hK4 => ?_
  refine ro [yV _, yV _] 2 69 z q ow (
    aS (fun hk bs hd => xeqi rfl (bg bs s8) rfl) rfl <|
    asD 0 rfl rfl rfl rfl rfl rfl <|
    arm0) fun fa fw bs hv ap z q ow => ?_
  obtain ⟨s1, s2, s6, s8⟩ := b4 bs s1 s2 s6 s8; have s9 := gv hv 1 rfl rfl; refine wt hK4 ?_
  by_cases hc1 : (fn : Int) = (1 : Int)
  ·refine ct s9 ((decide_eq_true_iff).2 hc1) ?_
   refine sq fun hK5 => ?_
   refine ro [yV _, yV _, yV _, yV _, yV (aggV (vMake (max x (-x))))] 5 69 z q ow (
     mvS s1 rfl rfl rfl rfl <|
     mvS s1 rfl rfl rfl rfl <|
     aS (fun hk bs hd => xneg (Or.inr rfl) rfl (n := x) (dp hd 1 rfl) (by omega) (by omega)) rfl <|
     aS (fun hk bs hd => xmaxI rfl (Or.inr rfl) (dp hd 0 rfl) (dp hd 2 rfl)) rfl <|
     aC (fun hk bs hd => xcall1 rfl (dp hd 3 rfl) (en_val_Make _ _)) (fun hk bs hd => vmake_any (max x (-x)) _ (by omega) (by omega)) rfl <|
     arm0) fun fa fw bs hv ap z q ow => ?_
   obtain ⟨s1, s6⟩ := b2 bs s1 s6; have s15 := gv hv 4 rfl rfl; refine ws ow 0 0 s6 s15 fun fw ow => ?_; refine wt hK5 ?_; refine wp_ret ?_; refine block_r ?_; refine then_r ?_; refine rs3 s6 (ow.box 0 rfl) q ?_; exact ⟨congrArg (fun v => Ending.returned (aggV v)) (show _ = val13 fn x y by have e : fn = 1 := (by omega); subst e; rfl), ow.kept⟩
  refine cf s9 (decide_eq_true_iff) hc1 ?_; refine sq fun hK6 => ?_
  refine ro [yV _, yV _] 2 69 z q ow (
    aS (fun hk bs hd => xeqi rfl (bg bs s8) rfl) rfl <|
    asD 0 rfl rfl rfl rfl rfl rfl <|
    arm0) fun fa fw bs hv ap z q ow => ?_
  obtain ⟨s1, s2, s6, s8⟩ := b4 bs s1 s2 s6 s8; have s16 := gv hv 1 rfl rfl; refine wt hK6 ?_
  by_cases hc2 : (fn : Int) = (2 : Int)
  ·refine ct s16 ((decide_eq_true_iff).2 hc2) ?_
   refine sq fun hK7 => ?_
   refine ro [yV _, yV (.int .i64 (sgn13 x)), yV _, yV (aggV (vMake ((sgn13 x) * 10000)))] 4 69 z q ow (
     mvS s1 rfl rfl rfl rfl <|
     aC (fun hk bs hd => xcall1 rfl (dp hd 0 rfl) (en_fnum_sign _ _)) (fun hk bs hd => sign13_any x _) rfl <|
     aS (fun hk bs hd => xmul (Or.inr rfl) rfl (dp hd 1 rfl) rfl (by omega) (by omega)) rfl <|
     aC (fun hk bs hd => xcall1 rfl (dp hd 2 rfl) (en_val_Make _ _)) (fun hk bs hd => vmake_any ((sgn13 x) * 10000) _ (by omega) (by omega)) rfl <|
     arm0) fun fa fw bs hv ap z q ow => ?_
   obtain ⟨s1, s6⟩ := b2 bs s1 s6; have s21 := gv hv 3 rfl rfl; refine ws ow 0 0 s6 s21 fun fw ow => ?_; refine wt hK7 ?_; refine wp_ret ?_; refine block_r ?_; refine then_r ?_; refine rs3 s6 (ow.box 0 rfl) q ?_; exact ⟨congrArg (fun v => Ending.returned (aggV v)) (show _ = val13 fn x y by have e : fn = 2 := (by omega); subst e; rfl), ow.kept⟩
  refine cf s16 (decide_eq_true_iff) hc2 ?_; refine sq fun hK8 => ?_
  refine ro [yV _, yV _] 2 69 z q ow (
    aS (fun hk bs hd => xeqi rfl (bg bs s8) rfl) rfl <|
    asD 0 rfl rfl rfl rfl rfl rfl <|
    arm0) fun fa fw bs hv ap z q ow => ?_
  obtain ⟨s1, s2, s6, s8⟩ := b4 bs s1 s2 s6 s8; have s22 := gv hv 1 rfl rfl; refine wt hK8 ?_
  by_cases hc3 : (fn : Int) = (3 : Int)
  ·refine ct s22 ((decide_eq_true_iff).2 hc3) ?_
   refine sq fun hK9 => ?_
   refine ro [yV _, yV (.tuple #[.int .i64 ((dFloor x).1), .bool ((dFloor x).2)]), yV _, yV _, yV (aggV (vRes ((dFloor x).1, (dFloor x).2)))] 5 69 z q ow (
     mvS s1 rfl rfl rfl rfl <|
     aC (fun hk bs hd => xcall1 rfl (dp hd 0 rfl) (en_dec_Floor _ _)) (fun hk bs hd => floor_any x _ (by assumption)) rfl <|
     aS (fun hk bs hd => xextract rfl (dp hd 1 rfl) rfl) rfl <|
     aS (fun hk bs hd => xextract rfl (dp hd 1 rfl) rfl) rfl <|
     aC (fun hk bs hd => xcall2 rfl (dp hd 2 rfl) (dp hd 3 rfl) (en_fnum_result _ _)) (fun hk bs hd => result13_any ((dFloor x).1) ((dFloor x).2) _ (fun _ => by first | exact dFloor_i64 ix | exact dRound_i64 | exact dSqrt_in ix)) rfl <|
     arm0) fun fa fw bs hv ap z q ow => ?_
   obtain ⟨s1, s6⟩ := b2 bs s1 s6; have s28 := gv hv 4 rfl rfl; refine ws ow 0 0 s6 s28 fun fw ow => ?_; refine wt hK9 ?_; refine wp_ret ?_; refine block_r ?_; refine then_r ?_; refine rs3 s6 (ow.box 0 rfl) q ?_; exact ⟨congrArg (fun v => Ending.returned (aggV v)) (show _ = val13 fn x y by have e : fn = 3 := (by omega); subst e; rfl), ow.kept⟩
  refine cf s22 (decide_eq_true_iff) hc3 ?_; refine sq fun hK10 => ?_
  refine ro [yV _, yV _] 2 69 z q ow (
    aS (fun hk bs hd => xeqi rfl (bg bs s8) rfl) rfl <|
    asD 0 rfl rfl rfl rfl rfl rfl <|
    arm0) fun fa fw bs hv ap z q ow => ?_
  obtain ⟨s1, s2, s6, s8⟩ := b4 bs s1 s2 s6 s8; have s29 := gv hv 1 rfl rfl; refine wt hK10 ?_
  by_cases hc4 : (fn : Int) = (4 : Int)
  ·refine ct s29 ((decide_eq_true_iff).2 hc4) ?_
   refine sq fun hK11 => ?_
   refine ro [yV _, yV (.int .i64 (dTrunc x)), yV (aggV (vMake (dTrunc x)))] 3 69 z q ow (
     mvS s1 rfl rfl rfl rfl <|
     aC (fun hk bs hd => xcall1 rfl (dp hd 0 rfl) (en_dec_Trunc _ _)) (fun hk bs hd => same_kept (trunc_any x _ (by assumption))) rfl <|
     aC (fun hk bs hd => xcall1 rfl (dp hd 1 rfl) (en_val_Make _ _)) (fun hk bs hd => vmake_any (dTrunc x) _ (by omega) (by omega)) rfl <|
     arm0) fun fa fw bs hv ap z q ow => ?_
   obtain ⟨s1, s6⟩ := b2 bs s1 s6; have s33 := gv hv 2 rfl rfl; refine ws ow 0 0 s6 s33 fun fw ow => ?_; refine wt hK11 ?_; refine wp_ret ?_; refine block_r ?_; refine then_r ?_; refine rs3 s6 (ow.box 0 rfl) q ?_; exact ⟨congrArg (fun v => Ending.returned (aggV v)) (show _ = val13 fn x y by have e : fn = 4 := (by omega); subst e; rfl), ow.kept⟩
  refine cf s29 (decide_eq_true_iff) hc4 ?_; refine sq fun hK12 => ?_
  refine ro [yV _, yV _] 2 69 z q ow (
    aS (fun hk bs hd => xeqi rfl (bg bs s8) rfl) rfl <|
    asD 0 rfl rfl rfl rfl rfl rfl <|
    arm0) fun fa fw bs hv ap z q ow => ?_
  obtain ⟨s1, s2, s6, s8⟩ := b4 bs s1 s2 s6 s8; have s34 := gv hv 1 rfl rfl; refine wt hK12 ?_
  by_cases hc5 : (fn : Int) = (5 : Int)
  ·refine ct s34 ((decide_eq_true_iff).2 hc5) ?_
   refine sq fun hK13 => ?_
   refine ro [yV _, yV (.int .i64 (dTrunc y)), yV _, yV _] 4 69 z q ow (
     mvS s2 rfl rfl rfl rfl <|
     aC (fun hk bs hd => xcall1 rfl (dp hd 0 rfl) (en_dec_Trunc _ _)) (fun hk bs hd => same_kept (trunc_any y _ (by assumption))) rfl <|
     aS (fun hk bs hd => xquo (Or.inr rfl) rfl (dp hd 1 rfl) rfl (by decide) (by omega) (by omega)) rfl <|
     asD 2 rfl rfl rfl rfl rfl rfl <|
     arm0) fun fa fw bs hv ap z q ow => ?_
   obtain ⟨s1, s6⟩ := b2 bs s1 s6; have s7 := gv hv 3 rfl rfl; refine wt hK13 ?_; refine sq fun hK14 => ?_
   refine ro [yV _, yV _, yV _, yV _, yV (.tuple #[.int .i64 ((dRound x (min (max (Int.tdiv (dTrunc y) 10000) (-20)) 4)).1), .bool ((dRound x (min (max (Int.tdiv (dTrunc y) 10000) (-20)) 4)).2)]), yV _, yV _, yV (aggV (vRes ((dRound x (min (max (Int.tdiv (dTrunc y) 10000) (-20)) 4)).1, (dRound x (min (max (Int.tdiv (dTrunc y) 10000) (-20)) 4)).2)))] 8 69 z q ow (
     mvS s1 rfl rfl rfl rfl <|
     mvS s7 rfl rfl rfl rfl <|
     aS (fun hk bs hd => xmaxI rfl (Or.inr rfl) (dp hd 1 rfl) rfl) rfl <|
     aS (fun hk bs hd => xminI rfl (Or.inr rfl) (dp hd 2 rfl) rfl) rfl <|
     aC (fun hk bs hd => xcall2 rfl (dp hd 0 rfl) (dp hd 3 rfl) (en_dec_Round _ _)) (fun hk bs hd => round_any x (min (max (Int.tdiv (dTrunc y) 10000) (-20)) 4) _ (by assumption) (by assumption)) rfl <|
     aS (fun hk bs hd => xextract rfl (dp hd 4 rfl) rfl) rfl <|
     aS (fun hk bs hd => xextract rfl (dp hd 4 rfl) rfl) rfl <|
     aC (fun hk bs hd => xcall2 rfl (dp hd 5 rfl) (dp hd 6 rfl) (en_fnum_result _ _)) (fun hk bs hd => result13_any ((dRound x (min (max (Int.tdiv (dTrunc y) 10000) (-20)) 4)).1) ((dRound x (min (max (Int.tdiv (dTrunc y) 10000) (-20)) 4)).2) _ (fun _ => by first | exact dFloor_i64 ix | exact dRound_i64 | exact dSqrt_in ix)) rfl <|
     arm0) fun fa fw bs hv ap z q ow => ?_
   obtain ⟨s1, s6⟩ := b2 bs s1 s6; have s46 := gv hv 7 rfl rfl; refine ws ow 0 0 s6 s46 fun fw ow => ?_; refine wt hK14 ?_; refine wp_ret ?_; refine block_r ?_; refine then_r ?_; refine rs3 s6 (ow.box 0 rfl) q ?_; exact ⟨congrArg (fun v => Ending.returned (aggV v)) (show _ = val13 fn x y by have e : fn = 5 := (by omega); subst e; show _ = vRes (dRound x _); rw [tdiv_trunc']), ow.kept⟩
  refine cf s34 (decide_eq_true_iff) hc5 ?_; refine sq fun hK15 => ?_
  refine ro [yV _, yV _] 2 69 z q ow (
    aS (fun hk bs hd => xeqi rfl (bg bs s8) rfl) rfl <|
    asD 0 rfl rfl rfl rfl rfl rfl <|
    arm0) fun fa fw bs hv ap z q ow => ?_
  obtain ⟨s1, s2, s6, s8⟩ := b4 bs s1 s2 s6 s8; have s47 := gv hv 1 rfl rfl; refine wt hK15 ?_
  by_cases hc6 : (fn : Int) = (6 : Int)
  ·refine ct s47 ((decide_eq_true_iff).2 hc6) ?_
   refine sq fun hK16 => ?_; refine sq fun hK17 => ?_
   refine ro [yV _, yV _] 2 69 z q ow (
     mvS s2 rfl rfl rfl rfl <|
     aS (fun hk bs hd => xeqi rfl (dp hd 0 rfl) rfl) rfl <|
     arm0) fun fa fw bs hv ap z q ow => ?_
   obtain ⟨s1, s2, s6⟩ := b3 bs s1 s2 s6; have s50 := gv hv 1 rfl rfl; refine wt hK17 ?_
   by_cases hc7 : (y : Int) = (0 : Int)
   ·refine ct s50 ((decide_eq_true_iff).2 hc7) ?_
    refine sq fun hK18 => ?_
    refine ro [yV (aggV (vFail 1))] 1 69 z q ow (
      aC (fun hk bs hd => xcall1 rfl rfl (en_val_Fail _ _)) (fun hk bs hd => vfail_any 1 _) rfl <|
      arm0) fun fa fw bs hv ap z q ow => ?_
    obtain ⟨s1, s2, s6⟩ := b3 bs s1 s2 s6; have s51 := gv hv 0 rfl rfl; refine ws ow 0 0 s6 s51 fun fw ow => ?_; refine wt hK18 ?_; refine wp_ret ?_; refine then_r ?_; refine block_r ?_; refine then_r ?_; refine rs3 s6 (ow.box 0 rfl) q ?_; exact ⟨congrArg (fun v => Ending.returned (aggV v)) (show _ = val13 fn x y by have e : fn = 6 := (by omega); subst e; show _ = if y = 0 then _ else _; rw [if_pos (by omega)]), ow.kept⟩
   refine cf s50 (decide_eq_true_iff) hc7 ?_; refine wp_skip ?_; refine tn hK16 ?_; refine sq fun hK19 => ?_
   refine ro [yV _, yV _, yV (.int .i64 (mod13 x y)), yV (aggV (vMake (mod13 x y)))] 4 69 z q ow (
     mvS s1 rfl rfl rfl rfl <|
     mvS s2 rfl rfl rfl rfl <|
     aC (fun hk bs hd => xcall2 rfl (dp hd 0 rfl) (dp hd 1 rfl) (en_fnum_mod _ _)) (fun hk bs hd => mod13_any x y _ hx hy (by omega)) rfl <|
     aC (fun hk bs hd => xcall1 rfl (dp hd 2 rfl) (en_val_Make _ _)) (fun hk bs hd => vmake_any (mod13 x y) _ (by omega) (by omega)) rfl <|
     arm0) fun fa fw bs hv ap z q ow => ?_
   obtain ⟨s1, s6⟩ := b2 bs s1 s6; have s55 := gv hv 3 rfl rfl; refine ws ow 0 0 s6 s55 fun fw ow => ?_; refine wt hK19 ?_; refine wp_ret ?_; refine block_r ?_; refine then_r ?_; refine rs3 s6 (ow.box 0 rfl) q ?_; exact ⟨congrArg (fun v => Ending.returned (aggV v)) (show _ = val13 fn x y by have e : fn = 6 := (by omega); subst e; show _ = if y = 0 then _ else _; rw [if_neg (by omega)]), ow.kept⟩
  refine cf s47 (decide_eq_true_iff) hc6 ?_; refine sq fun hK20 => ?_
  refine ro [yV _, yV _] 2 69 z q ow (
    aS (fun hk bs hd => xeqi rfl (bg bs s8) rfl) rfl <|
    asD 0 rfl rfl rfl rfl rfl rfl <|
    arm0) fun fa fw bs hv ap z q ow => ?_
  obtain ⟨s1, s2, s6⟩ := b3 bs s1 s2 s6; have s56 := gv hv 1 rfl rfl; refine wt hK20 ?_
  by_cases hc8 : (fn : Int) = (7 : Int)
  ·refine ct s56 ((decide_eq_true_iff).2 hc8) ?_
   refine sq fun hK21 => ?_
   refine ro [yV _, yV _, yV (aggV (pow13 x y))] 3 69 z q ow (
     mvS s1 rfl rfl rfl rfl <|
     mvS s2 rfl rfl rfl rfl <|
     aC (fun hk bs hd => xcall2 rfl (dp hd 0 rfl) (dp hd 1 rfl) (en_fnum_power _ _)) (fun hk bs hd => power13_any x y _ (by assumption) (by assumption)) rfl <|
     arm0) fun fa fw bs hv ap z q ow => ?_
   obtain ⟨s1, s6⟩ := b2 bs s1 s6; have s60 := gv hv 2 rfl rfl; refine ws ow 0 0 s6 s60 fun fw ow => ?_; refine wt hK21 ?_; refine wp_ret ?_; refine block_r ?_; refine then_r ?_; refine rs3 s6 (ow.box 0 rfl) q ?_; exact ⟨congrArg (fun v => Ending.returned (aggV v)) (show _ = val13 fn x y by have e : fn = 7 := (by omega); subst e; rfl), ow.kept⟩
  refine cf s56 (decide_eq_true_iff) hc8 ?_; refine wp_skip ?_; refine block_n ?_; refine tn hK2 ?_; refine sq fun hK22 => ?_; refine sq fun hK23 => ?_
  refine ro [yV _, yV _] 2 69 z q ow (
    mvS s1 rfl rfl rfl rfl <|
    aS (fun hk bs hd => xlss rfl (dp hd 0 rfl) rfl) rfl <|
    arm0) fun fa fw bs hv ap z q ow => ?_
  obtain ⟨s1, s6⟩ := b2 bs s1 s6; have s62 := gv hv 1 rfl rfl; refine wt hK23 ?_
  by_cases hc9 : (x : Int) < (0 : Int)
  ·refine ct s62 ((decide_eq_true_iff).2 hc9) ?_
   refine sq fun hK24 => ?_
   refine ro [yV (aggV (vFail 3))] 1 69 z q ow (
     aC (fun hk bs hd => xcall1 rfl rfl (en_val_Fail _ _)) (fun hk bs hd => vfail_any 3 _) rfl <|
     arm0) fun fa fw bs hv ap z q ow => ?_
   obtain ⟨s1, s6⟩ := b2 bs s1 s6; have s63 := gv hv 0 rfl rfl; refine ws ow 0 0 s6 s63 fun fw ow => ?_; refine wt hK24 ?_; refine wp_ret ?_; refine then_r ?_; refine rs3 s6 (ow.box 0 rfl) q ?_; exact ⟨congrArg (fun v => Ending.returned (aggV v)) (show _ = val13 fn x y by have e : fn = 8 := (by omega); subst e; show _ = if x < 0 then _ else _; rw [if_pos (by omega)]), ow.kept⟩
  refine cf s62 (decide_eq_true_iff) hc9 ?_; refine wp_skip ?_; refine tn hK22 ?_; refine sq fun hK25 => ?_
  refine ro [yV _, yV (.tuple #[.int .i64 ((dSqrt x).1), .bool ((dSqrt x).2)]), yV _, yV _, yV (aggV (vRes ((dSqrt x).1, (dSqrt x).2)))] 5 69 z q ow (
    mvS s1 rfl rfl rfl rfl <|
    aC (fun hk bs hd => xcall1 rfl (dp hd 0 rfl) (en_dec_Sqrt _ _)) (fun hk bs hd => same_kept (sqrt_any x _ (by assumption))) rfl <|
    aS (fun hk bs hd => xextract rfl (dp hd 1 rfl) rfl) rfl <|
    aS (fun hk bs hd => xextract rfl (dp hd 1 rfl) rfl) rfl <|
    aC (fun hk bs hd => xcall2 rfl (dp hd 2 rfl) (dp hd 3 rfl) (en_fnum_result _ _)) (fun hk bs hd => result13_any ((dSqrt x).1) ((dSqrt x).2) _ (fun _ => by first | exact dFloor_i64 ix | exact dRound_i64 | exact dSqrt_in ix)) rfl <|
    arm0) fun fa fw bs hv ap z q ow => ?_
  have s6 := bg bs s6; have s68 := gv hv 4 rfl rfl; refine ws ow 0 0 s6 s68 fun fw ow => ?_; refine wt hK25 ?_; refine wp_ret ?_; refine rs3 s6 (ow.box 0 rfl) q ?_; exact ⟨congrArg (fun v => Ending.returned (aggV v)) (show _ = val13 fn x y by have e : fn = 8 := (by omega); subst e; show _ = if x < 0 then _ else _; rw [if_neg (by omega)]), ow.kept⟩
set_option maxHeartbeats 8000000 in
theorem call13_two (fn : Nat) (A : Option Addr) (cap : Nat) (l : List Vl) (w : World) (mx : Int) (HM : Mx w mx) (hr : RowV w A l) (hs : ∀ v ∈ l, Small v) (h2 : two13 fn = true) :
    Calls Tryz.prog 27 #[.int .u8 fn, .slice A l.length cap] w fun e w' => e = .returned (.tuple #[aggV (vCall13 fn l).1, .int .i64 (vCall13 fn l).2]) ∧ Kept w w' := by
  go_enter Tryz.func27, Tryz.ntmps27; refine sq fun hK1 => ?_
  refine ro [yNew w.heap.size (.cells #[.int .u8 0, .int .i64 0, .string ⟨[].toArray⟩] 25 (0, 0)), yV _] 2 57 rfl rfl (Own.start w) (
    aP (fun hk bs hd => xalloc rfl (by kernel_rfl)) rfl <|
    aS (fun hk bs hd => xassign rfl rfl) rfl <|
    arm0) fun fa fw bs hv ap z q ov => ?_
  have s0 := bs.get 0 rfl rfl; have s1 := bs.get 1 rfl rfl; obtain ⟨gb1, s4, bgb1, hgb1⟩ := gotP hv 0 rfl rfl rfl; have ov := ov.cons hgb1 (Nat.le_trans (Own.start w).kept.size bgb1) ((Own.start w).below bgb1); have s5 := gv hv 1 rfl rfl; have ow := ov; refine wt hK1 ?_; refine sq fun hK2 => ?_; refine sq fun hK3 => ?_
  refine ro [yV _, yV _, yV _, yIf (((decide ((fn : Int) < (1 : Int))) = false)) (yV (.int .u8 (fn : Int))), yIf (((decide ((fn : Int) < (1 : Int))) = false)) (yV (.bool (decide ((8 : Int) < (fn : Int))))), yV _] 6 57 z q ow (
    mvS s0 rfl rfl rfl rfl <|
    aS (fun hk bs hd => xlss rfl (dp hd 0 rfl) rfl) rfl <|
    mvD 1 rfl rfl rfl rfl rfl rfl <|
    arm (fun aa ww hk bs hd => by
      have d2 := dp hd 2 rfl
      by_cases hz : ((decide ((fn : Int) < (1 : Int))) = false)
      · exact stepX_same (v := .int .u8 (fn : Int)) (want1 (j := 2) (b := false) rfl (d2.trans (congrArg Value.bool hz))) (xmove rfl (bg bs s0)) ⟨fun _ => rfl, fun c => absurd hz c⟩ rfl
      · exact stepX_skip (wantN (j := 2) (b := false) (b' := true) rfl (d2.trans (congrArg Value.bool ((Bool.not_eq_false _).mp hz))) rfl) ⟨fun c => absurd c hz, fun _ => rfl⟩ rfl
      ) <|
    arm (fun aa ww hk bs hd => by
      have d2 := dp hd 2 rfl; have d3 := dI hd 3 rfl
      by_cases hz : ((decide ((fn : Int) < (1 : Int))) = false)
      · exact stepX_same (v := .bool (decide ((8 : Int) < (fn : Int)))) (want1 (j := 2) (b := false) rfl (d2.trans (congrArg Value.bool hz))) (xgtr rfl (d3.1 hz) rfl) ⟨fun _ => rfl, fun c => absurd hz c⟩ rfl
      · exact stepX_skip (wantN (j := 2) (b := false) (b' := true) rfl (d2.trans (congrArg Value.bool ((Bool.not_eq_false _).mp hz))) rfl) ⟨fun c => absurd c hz, fun _ => rfl⟩ rfl
      ) <|
    arm (fun aa ww hk bs hd => by
      have d2 := dp hd 2 rfl; have d4 := dI hd 4 rfl; exact stepX_same (v := .bool ((decide ((fn : Int) < (1 : Int))) || (decide ((8 : Int) < (fn : Int))))) (want0 rfl) (xor_ rfl (d2) rfl (fun hb => d4.1 hb)) rfl rfl
      ) <|
    arm0) fun fa fw bs hv ap z q ow => ?_
  obtain ⟨s0, s1, s4, s5⟩ := b4 bs s0 s1 s4 s5; have s16 := gv hv 5 rfl rfl; refine wt hK3 ?_
  by_cases hc1 : ((fn : Int) < (1 : Int)) ∨ ((8 : Int) < (fn : Int))
  ·refine ct s16 ((bor (decide_eq_true_iff) (decide_eq_true_iff)).2 hc1) ?_
   refine sq fun hK4 => ?_
   refine ro [yV (aggV (⟨0, 0, []⟩ : Vl))] 1 57 z q ow (
     aS (fun hk bs hd => xbuild (us := #[]) rfl (by simp) (by kernel_rfl)) rfl <|
     arm0) fun fa fw bs hv ap z q ow => ?_
   obtain ⟨s0, s1, s4, s5⟩ := b4 bs s0 s1 s4 s5; have s17 := gv hv 0 rfl rfl; refine ws ow 0 0 s4 s17 fun fw ow => ?_; refine wl_value (v := .int .i64 10) (want0 rfl) (xassign rfl rfl) ?_; refine gp3 z q ow s0 s1 s4 fun fa fw z q ow s0 s1 s4 s5 => ?_; refine wt hK4 ?_; refine wp_ret ?_; refine then_r ?_; refine resultsL (v := .tuple #[aggV (⟨0, 0, []⟩ : Vl), .int .i64 10]) rfl (.cons (res_cell (n := 3) _ s4 (by kernel_rfl) (by kernel_rfl) (ow.box 0 rfl) (Nat.le_of_ble_eq_true rfl) rfl) (.cons (res_tmp s5) .nil)) rfl q ?_; exact ⟨ret_pair13 (v13_name (by omega)), ow.kept⟩
  refine cf s16 (bor (decide_eq_true_iff) (decide_eq_true_iff)) hc1 ?_; refine wp_skip ?_; refine tn hK2 ?_; refine sq fun hK5 => ?_; refine sq fun hK6 => ?_
  refine ro [yV _, yV (.bool true), yV _, yV _, yV _, yV _, yV _, yV _, yIf (((decide (((l.length : Nat) : Int) ≠ (2 : Int))) = false)) (yV (.int .u8 (fn : Int))), yIf (((decide (((l.length : Nat) : Int) ≠ (2 : Int))) = false)) (yV (.bool true)), yIf (((decide (((l.length : Nat) : Int) ≠ (2 : Int))) = false)) (yV (.bool false)), yIf (((decide (((l.length : Nat) : Int) ≠ (2 : Int))) = false)) (yV (.bool false)), yNo, yNo, yNo, yIf (((decide (((l.length : Nat) : Int) ≠ (2 : Int))) = false)) (yV (.bool false)), yV _] 17 57 z q ow (
    mvS s0 rfl rfl rfl rfl <|
    aD (fun hk bs hd => xcall1 rfl (dp hd 0 rfl) (en_fnum_two _ _)) (fun hk bs hd => two13_any fn _) (congrArg Value.bool h2) rfl <|
    mvD 1 rfl rfl rfl rfl rfl rfl <|
    armS (wg (j := 2) (b := true) rfl rfl rfl) (fun aa ww hk bs hd => xmove rfl (bg bs s1)) rfl <|
    armS (wg (j := 2) (b := true) rfl rfl rfl) (fun aa ww hk bs hd => xlen Tryz.underlying22 rfl (dp hd 3 rfl)) rfl <|
    armS (wg (j := 2) (b := true) rfl rfl rfl) (fun aa ww hk bs hd => xnei rfl (dp hd 4 rfl) rfl) rfl <|
    aS (fun hk bs hd => xpickT rfl (dp hd 2 rfl) (dp hd 5 rfl)) rfl <|
    mvD 6 rfl rfl rfl rfl rfl rfl <|
    arm (fun aa ww hk bs hd => by
      have d7 := dp hd 7 rfl
      by_cases hz : ((decide (((l.length : Nat) : Int) ≠ (2 : Int))) = false)
      · exact stepX_same (v := .int .u8 (fn : Int)) (want1 (j := 7) (b := false) rfl (d7.trans (congrArg Value.bool hz))) (xmove rfl (bg bs s0)) ⟨fun _ => rfl, fun c => absurd hz c⟩ rfl
      · exact stepX_skip (wantN (j := 7) (b := false) (b' := true) rfl (d7.trans (congrArg Value.bool ((Bool.not_eq_false _).mp hz))) rfl) ⟨fun c => absurd c hz, fun _ => rfl⟩ rfl
      ) <|
    arm (fun aa ww hk bs hd => by
      have d7 := dp hd 7 rfl; have d8 := dI hd 8 rfl
      by_cases hz : ((decide (((l.length : Nat) : Int) ≠ (2 : Int))) = false)
      · exact stepX_enter (want1 (j := 7) (b := false) rfl (d7.trans (congrArg Value.bool hz))) (xcall1 (u := .int .u8 (fn : Int)) rfl (d8.1 hz) (en_fnum_two _ _)) ((two13_any fn ww).mono fun _ _ ⟨he, hk2⟩ => ⟨_, he, ⟨fun _ => congrArg Value.bool h2, fun c => absurd hz c⟩, hk2⟩) rfl
      · exact stepX_skip (wantN (j := 7) (b := false) (b' := true) rfl (d7.trans (congrArg Value.bool ((Bool.not_eq_false _).mp hz))) rfl) ⟨fun c => absurd c hz, fun _ => rfl⟩ rfl
      ) <|
    arm (fun aa ww hk bs hd => by
      have d7 := dp hd 7 rfl; have d9 := dI hd 9 rfl
      by_cases hz : ((decide (((l.length : Nat) : Int) ≠ (2 : Int))) = false)
      · exact stepX_same (v := .bool false) (want1 (j := 7) (b := false) rfl (d7.trans (congrArg Value.bool hz))) (xnot rfl (d9.1 hz)) ⟨fun _ => rfl, fun c => absurd hz c⟩ rfl
      · exact stepX_skip (wantN (j := 7) (b := false) (b' := true) rfl (d7.trans (congrArg Value.bool ((Bool.not_eq_false _).mp hz))) rfl) ⟨fun c => absurd c hz, fun _ => rfl⟩ rfl
      ) <|
    arm (fun aa ww hk bs hd => by
      have d7 := dp hd 7 rfl; have d10 := dI hd 10 rfl
      by_cases hz : ((decide (((l.length : Nat) : Int) ≠ (2 : Int))) = false)
      · exact stepX_same (v := .bool false) (want1 (j := 7) (b := false) rfl (d7.trans (congrArg Value.bool hz))) (xmove rfl (d10.1 hz)) ⟨fun _ => rfl, fun c => absurd hz c⟩ rfl
      · exact stepX_skip (wantN (j := 7) (b := false) (b' := true) rfl (d7.trans (congrArg Value.bool ((Bool.not_eq_false _).mp hz))) rfl) ⟨fun c => absurd c hz, fun _ => rfl⟩ rfl
      ) <|
    arm (fun aa ww hk bs hd => by
      have d11 := dI hd 11 rfl
      by_cases hz : ((decide (((l.length : Nat) : Int) ≠ (2 : Int))) = false)
      · exact stepX_skip (wantN (j := 11) (b := true) (b' := false) rfl (d11.1 hz) rfl) trivial rfl
      · exact stepX_skip (wantU (j := 11) (b := true) rfl (d11.2 hz)) trivial rfl
      ) <|
    arm (fun aa ww hk bs hd => by
      have d11 := dI hd 11 rfl
      by_cases hz : ((decide (((l.length : Nat) : Int) ≠ (2 : Int))) = false)
      · exact stepX_skip (wantN (j := 11) (b := true) (b' := false) rfl (d11.1 hz) rfl) trivial rfl
      · exact stepX_skip (wantU (j := 11) (b := true) rfl (d11.2 hz)) trivial rfl
      ) <|
    arm (fun aa ww hk bs hd => by
      have d11 := dI hd 11 rfl
      by_cases hz : ((decide (((l.length : Nat) : Int) ≠ (2 : Int))) = false)
      · exact stepX_skip (wantN (j := 11) (b := true) (b' := false) rfl (d11.1 hz) rfl) trivial rfl
      · exact stepX_skip (wantU (j := 11) (b := true) rfl (d11.2 hz)) trivial rfl
      ) <|
    arm (fun aa ww hk bs hd => by
      have d7 := dp hd 7 rfl; have d11 := dI hd 11 rfl
      by_cases hz : ((decide (((l.length : Nat) : Int) ≠ (2 : Int))) = false)
      · exact stepX_same (v := .bool false) (want1 (j := 7) (b := false) rfl (d7.trans (congrArg Value.bool hz))) (xpickF rfl (d11.1 hz) rfl) ⟨fun _ => rfl, fun c => absurd hz c⟩ rfl
      · exact stepX_skip (wantN (j := 7) (b := false) (b' := true) rfl (d7.trans (congrArg Value.bool ((Bool.not_eq_false _).mp hz))) rfl) ⟨fun c => absurd c hz, fun _ => rfl⟩ rfl
      ) <|
    arm (fun aa ww hk bs hd => by
      have d7 := dp hd 7 rfl; have d15 := dI hd 15 rfl; exact stepX_same (v := .bool ((decide (((l.length : Nat) : Int) ≠ (2 : Int))) || false)) (want0 rfl) (xor_ rfl (d7) rfl (fun hb => d15.1 hb)) rfl rfl
      ) <|
    arm0) fun fa fw bs hv ap z q ow => ?_
  obtain ⟨s0, s1, s4, s5⟩ := b4 bs s0 s1 s4 s5; have s34 := gv hv 16 rfl rfl; refine wt hK6 ?_
  by_cases hc2 : (((l.length : Nat) : Int) ≠ (2 : Int)) ∨ (false = true)
  ·refine ct s34 ((bor (decide_eq_true_iff) (Iff.rfl)).2 hc2) ?_
   have hlen : ¬ (l.length = 2) := by rcases hc2 with h | h; omega; cases h
   refine sq fun hK7 => ?_
   refine ro [yV (aggV (⟨0, 0, []⟩ : Vl))] 1 57 z q ow (
     aS (fun hk bs hd => xbuild (us := #[]) rfl (by simp) (by kernel_rfl)) rfl <|
     arm0) fun fa fw bs hv ap z q ow => ?_
   obtain ⟨s0, s1, s4, s5⟩ := b4 bs s0 s1 s4 s5; have s35 := gv hv 0 rfl rfl; refine ws ow 0 0 s4 s35 fun fw ow => ?_; refine wl_value (v := .int .i64 11) (want0 rfl) (xassign rfl rfl) ?_; refine gp3 z q ow s0 s1 s4 fun fa fw z q ow s0 s1 s4 s5 => ?_; refine wt hK7 ?_; refine wp_ret ?_; refine then_r ?_; refine resultsL (v := .tuple #[aggV (⟨0, 0, []⟩ : Vl), .int .i64 11]) rfl (.cons (res_cell (n := 3) _ s4 (by kernel_rfl) (by kernel_rfl) (ow.box 0 rfl) (Nat.le_of_ble_eq_true rfl) rfl) (.cons (res_tmp s5) .nil)) rfl q ?_; exact ⟨ret_pair13 (v13_count (by omega) (by rw [h2]; exact hlen)), ow.kept⟩
  refine cf s34 (bor (decide_eq_true_iff) (Iff.rfl)) hc2 ?_; have hlen : l.length = 2 := by omega
  refine wp_skip ?_; refine tn hK5 ?_; refine sq fun hK8 => ?_; refine sq fun hK9 => ?_; obtain ⟨v, u, rfl⟩ := len_two hlen; obtain ⟨b0, off0, rfl, _⟩ := hr 0 (Nat.zero_lt_succ _); have s_v : Small v := hs _ (by simp); have s_u : Small u := hs _ (by simp)
  refine ro [yV _, yV (.bool ([v, u].all vOk)), yV _] 3 57 z q ow (
    mvS s1 rfl rfl rfl rfl <|
    aC (fun hk bs hd => xcall1 rfl (dp hd 0 rfl) (en_fnum_valid _ _)) (fun hk bs hd => valid13r_any b0 off0 cap [v, u] _ (hr.kept (ow.keep hk).kept) hs (by simp)) rfl <|
    aS (fun hk bs hd => xnot rfl (dp hd 1 rfl)) rfl <|
    arm0) fun fa fw bs hv ap z q ow => ?_
  obtain ⟨s0, s1, s4, s5⟩ := b4 bs s0 s1 s4 s5; have s38 := gv hv 2 rfl rfl; refine wt hK9 ?_
  by_cases hc3 : ¬ (([v, u].all vOk) = true)
  ·refine ct s38 ((bnot (Iff.rfl)).2 hc3) ?_
   have hval : [v, u].all vOk = false := by simpa using hc3
   refine sq fun hK10 => ?_
   refine ro [yV (aggV (⟨0, 0, []⟩ : Vl))] 1 57 z q ow (
     aS (fun hk bs hd => xbuild (us := #[]) rfl (by simp) (by kernel_rfl)) rfl <|
     arm0) fun fa fw bs hv ap z q ow => ?_
   obtain ⟨s0, s1, s4, s5⟩ := b4 bs s0 s1 s4 s5; have s39 := gv hv 0 rfl rfl; refine ws ow 0 0 s4 s39 fun fw ow => ?_; refine wl_value (v := .int .i64 2) (want0 rfl) (xassign rfl rfl) ?_; refine gp3 z q ow s0 s1 s4 fun fa fw z q ow s0 s1 s4 s5 => ?_; refine wt hK10 ?_; refine wp_ret ?_; refine then_r ?_; refine resultsL (v := .tuple #[aggV (⟨0, 0, []⟩ : Vl), .int .i64 2]) rfl (.cons (res_cell (n := 3) _ s4 (by kernel_rfl) (by kernel_rfl) (ow.box 0 rfl) (Nat.le_of_ble_eq_true rfl) rfl) (.cons (res_tmp s5) .nil)) rfl q ?_; exact ⟨ret_pair13 (v13_arg (by omega) (by rw [h2]; rfl) hval), ow.kept⟩
  refine cf s38 (bnot (Iff.rfl)) hc3 ?_; have hval : [v, u].all vOk = true := by simpa using hc3
  refine wp_skip ?_; refine tn hK8 ?_; refine sq fun hK11 => ?_
  refine ro [yNew fw.heap.size (.cells #[.int .i64 0] 2 (0, 0)), yNew fw.heap.size (.cells #[.int .i64 0] 2 (0, 0))] 2 57 z q ow (
    aP (fun hk bs hd => xalloc rfl (by kernel_rfl)) rfl <|
    aP (fun hk bs hd => xalloc rfl (by kernel_rfl)) rfl <|
    arm0) fun fa fw bs hv ap z q ov => ?_
  obtain ⟨s0, s1, s4, s5⟩ := b4 bs s0 s1 s4 s5; obtain ⟨gb2, s6, bgb2, hgb2⟩ := gotP hv 0 rfl rfl rfl; have ov := ov.cons hgb2 (Nat.le_trans ow.kept.size bgb2) (ow.below bgb2); obtain ⟨gb3, s7, bgb3, hgb3⟩ := gotP hv 1 rfl rfl rfl; have ov := ov.cons hgb3 (Nat.le_trans ow.kept.size bgb3) (ne_cons (apartP ap 0 1 rfl rfl rfl s6 rfl s7 rfl) (ow.below bgb3)); have ow := ov; refine wt hK11 ?_; refine sq fun hK12 => ?_
  refine ro [ySlice fw.heap.size 2 (.cells #[.pointer (some ⟨gb2, 0, none⟩), .pointer (some ⟨gb3, 0, none⟩)] 108 (0, 0))] 1 57 z q ow (
    aL (fun hk bs hd => xbuildSlice (us := #[(0, .pointer (some ⟨gb2, 0, none⟩)), (1, .pointer (some ⟨gb3, 0, none⟩))]) rfl (by simp only [List.map_toArray, List.map_cons, List.map_nil, bg bs s6, bg bs s7]) (by kernel_rfl)) rfl <|
    arm0) fun fa fw bs hv ap z q ov => ?_
  obtain ⟨s0, s1, s4, s5, s6, s7⟩ := b6 bs s0 s1 s4 s5 s6 s7; obtain ⟨gb4, s40, bgb4, hgb4⟩ := gotL hv 0 rfl rfl rfl; have ov := ov.cons hgb4 (Nat.le_trans ow.kept.size bgb4) (ow.below bgb4); have ow := ov; refine wl_value (v := .slice (some ⟨gb4, 0, none⟩) 2 2) (want0 rfl) (xassign rfl s40) ?_; refine gp6 z q ow s0 s1 s4 s5 s6 s7 fun fa fw z q ow s0 s1 s4 s5 s6 s7 s8 => ?_; refine wt hK12 ?_; refine sq fun hK13 => ?_; refine sq fun hK14 => ?_
  refine ro [yV _, yV _, yV _, yV _, yV _] 5 57 z q ow (
    mvS s1 rfl rfl rfl rfl <|
    mvS s8 rfl rfl rfl rfl <|
    mvS s1 rfl rfl rfl rfl <|
    aS (fun hk bs hd => xlen Tryz.underlying22 rfl (dp hd 2 rfl)) rfl <|
    aS (fun hk bs hd => xsliceTo3 Tryz.underlying109 (by kernel_rfl) rfl (h := 2) (dp hd 1 rfl) (dp hd 3 rfl) (by decide)) rfl <|
    arm0) fun fa fw bs hv ap z q ow => ?_
  obtain ⟨s0, s4, s5, s6, s7⟩ := b5 bs s0 s4 s5 s6 s7; have s42 := gv hv 0 rfl rfl; have s46 := gv hv 4 rfl rfl; refine wl_enter (want0 rfl) (xcall2 (u := .slice (some ⟨b0, off0, none⟩) 2 cap) (v := .slice (some ⟨gb4, 0, none⟩) 2 2) rfl s42 s46 (en_fnum_numbers _ _)) ((numbers13_2 v u b0 off0 cap gb4 gb2 gb3 2 [Th.obj gb1 (.cells #[.int .u8 0, .int .i64 0, .string ⟨[].toArray⟩] 25 (0, 0))] w _ mx HM ow (fun u o => hr.kept o.kept) s_v s_u).mono ?_); rintro _ fw ⟨x, ok, rfl, hcv⟩; refine ⟨_, rfl, ?_⟩; rcases hcv with ⟨rfl, hfst, how⟩ | ⟨rfl, hfst, how⟩
  ·skip
   have ow := how; clear how; refine wl_value (v := .tuple #[aggV x, .bool false]) (want0 rfl) (xmove rfl (put_in (t := 47) z rfl)) ?_; refine wl_value (v := aggV x) (want0 rfl) (xextract rfl (put_in (t := 41) (put_size z) rfl) rfl) ?_; refine wl_value (v := .bool false) (want0 rfl) (xextract rfl (pb 48 (put_in (t := 41) (put_size z) rfl) rfl) rfl) ?_; refine wl_newP ow (want0 rfl) (xalloc (b := .cells #[.int .u8 0, .int .i64 0, .string ⟨[].toArray⟩] 25 (0, 0)) rfl (by kernel_rfl)) fun gb5 fw ow => ?_; refine wl_store ow 0 0 (want0 rfl) rfl rfl (put_in (t := 9) (put_size (put_size (put_size (put_size z)))) rfl) (pb 9 (pb 49 (put_in (t := 48) (put_size (put_size z)) rfl) rfl) rfl) (by kernel_rfl) rfl rfl rfl fun fw ow => ?_; refine wl_value (v := .bool false) (want0 rfl) (xassign rfl (pb 9 (put_in (t := 49) (put_size (put_size (put_size z))) rfl) rfl)) ?_; refine gt7 (put_size (put_size (put_size (put_size (put_size (put_size z)))))) (put_def (put_def (put_def (put_def (put_def (put_def q)))))) ow 0 (pb 10 (pb 9 (pb 49 (pb 48 (pb 41 (pb 47 s0 rfl) rfl) rfl) rfl) rfl) rfl) 4 (pb 10 (pb 9 (pb 49 (pb 48 (pb 41 (pb 47 s4 rfl) rfl) rfl) rfl) rfl) rfl) 5 (pb 10 (pb 9 (pb 49 (pb 48 (pb 41 (pb 47 s5 rfl) rfl) rfl) rfl) rfl) rfl) 6 (pb 10 (pb 9 (pb 49 (pb 48 (pb 41 (pb 47 s6 rfl) rfl) rfl) rfl) rfl) rfl) 7 (pb 10 (pb 9 (pb 49 (pb 48 (pb 41 (pb 47 s7 rfl) rfl) rfl) rfl) rfl) rfl) 9 (pb 10 (put_in (t := 9) (put_size (put_size (put_size (put_size z)))) rfl) rfl) 10 (put_in (t := 10) (put_size (put_size (put_size (put_size (put_size z))))) rfl) fun fa fw z q ow s0 s4 s5 s6 s7 s9 s10 => ?_
   refine wt hK14 ?_; refine sq fun hK15 => ?_
   refine ro [yV _, yV _] 2 57 z q ow (
     mvS s10 rfl rfl rfl rfl <|
     aS (fun hk bs hd => xnot rfl (dp hd 0 rfl)) rfl <|
     arm0) fun fa fw bs hv ap z q ow => ?_
   obtain ⟨s0, s4, s5, s6, s7, s9⟩ := b6 bs s0 s4 s5 s6 s7 s9; have s51 := gv hv 1 rfl rfl; refine wt hK15 ?_; refine wp_cond_true (s51) ?_; refine sq fun hK16 => ?_
   refine ro [yV (aggV x)] 1 57 z q ow (
     aS (fun hk bs hd => xloadN 3 rfl (by kernel_rfl) (by kernel_rfl) (bg bs s9) ((ow.keep hk).box 0 rfl) (Nat.le_of_ble_eq_true rfl) rfl) rfl <|
     arm0) fun fa fw bs hv ap z q ow => ?_
   obtain ⟨s0, s4, s5, s6, s7⟩ := b5 bs s0 s4 s5 s6 s7; have s52 := gv hv 0 rfl rfl; refine ws ow 1 0 s4 s52 fun fw ow => ?_; refine wl_value (v := .int .i64 0) (want0 rfl) (xassign rfl rfl) ?_; refine gp4 z q ow s0 s4 s6 s7 fun fa fw z q ow s0 s4 s6 s7 s5 => ?_; refine wt hK16 ?_; refine wp_ret ?_; refine then_r ?_; refine resultsL (v := .tuple #[aggV x, .int .i64 0]) rfl (.cons (res_cell (n := 3) _ s4 (by kernel_rfl) (by kernel_rfl) (ow.box 1 rfl) (Nat.le_of_ble_eq_true rfl) rfl) (.cons (res_tmp s5) .nil)) rfl q ?_; exact ⟨ret_pair13 (v13_err (by omega) (by rw [h2]; rfl) hval hfst), ow.kept⟩
  have ow := how; clear how; have hn0 : isE (vNum v) = false := none_1 hfst; have hn1 : isE (vNum u) = false := none_2 hfst; refine wl_value (v := .tuple #[aggV x, .bool true]) (want0 rfl) (xmove rfl (put_in (t := 47) z rfl)) ?_; refine wl_value (v := aggV x) (want0 rfl) (xextract rfl (put_in (t := 41) (put_size z) rfl) rfl) ?_; refine wl_value (v := .bool true) (want0 rfl) (xextract rfl (pb 48 (put_in (t := 41) (put_size z) rfl) rfl) rfl) ?_; refine wl_newP ow (want0 rfl) (xalloc (b := .cells #[.int .u8 0, .int .i64 0, .string ⟨[].toArray⟩] 25 (0, 0)) rfl (by kernel_rfl)) fun gb6 fw ow => ?_; refine wl_store ow 0 0 (want0 rfl) rfl rfl (put_in (t := 9) (put_size (put_size (put_size (put_size z)))) rfl) (pb 9 (pb 49 (put_in (t := 48) (put_size (put_size z)) rfl) rfl) rfl) (by kernel_rfl) rfl rfl rfl fun fw ow => ?_; refine wl_value (v := .bool true) (want0 rfl) (xassign rfl (pb 9 (put_in (t := 49) (put_size (put_size (put_size z))) rfl) rfl)) ?_; refine gt7 (put_size (put_size (put_size (put_size (put_size (put_size z)))))) (put_def (put_def (put_def (put_def (put_def (put_def q)))))) ow 0 (pb 10 (pb 9 (pb 49 (pb 48 (pb 41 (pb 47 s0 rfl) rfl) rfl) rfl) rfl) rfl) 4 (pb 10 (pb 9 (pb 49 (pb 48 (pb 41 (pb 47 s4 rfl) rfl) rfl) rfl) rfl) rfl) 5 (pb 10 (pb 9 (pb 49 (pb 48 (pb 41 (pb 47 s5 rfl) rfl) rfl) rfl) rfl) rfl) 6 (pb 10 (pb 9 (pb 49 (pb 48 (pb 41 (pb 47 s6 rfl) rfl) rfl) rfl) rfl) rfl) 7 (pb 10 (pb 9 (pb 49 (pb 48 (pb 41 (pb 47 s7 rfl) rfl) rfl) rfl) rfl) rfl) 9 (pb 10 (put_in (t := 9) (put_size (put_size (put_size (put_size z)))) rfl) rfl) 10 (put_in (t := 10) (put_size (put_size (put_size (put_size (put_size z))))) rfl) fun fa fw z q ow s0 s4 s5 s6 s7 s9 s10 => ?_
  refine wt hK14 ?_; refine sq fun hK17 => ?_
  refine ro [yV _, yV _] 2 57 z q ow (
    mvS s10 rfl rfl rfl rfl <|
    aS (fun hk bs hd => xnot rfl (dp hd 0 rfl)) rfl <|
    arm0) fun fa fw bs hv ap z q ow => ?_
  obtain ⟨s0, s4, s5, s6, s7, s9⟩ := b6 bs s0 s4 s5 s6 s7 s9; have s51 := gv hv 1 rfl rfl; refine wt hK17 ?_; refine wp_cond_false (s51) ?_; refine wp_skip ?_; refine tn hK13 ?_; refine sq fun hK18 => ?_
  refine ro [yV _, yV _, yV _, yV (aggV (val13 fn ((vNum v).n) ((vNum u).n)))] 4 57 z q ow (
    mvS s0 rfl rfl rfl rfl <|
    aS (fun hk bs hd => xloadB rfl (by kernel_rfl) (bg bs s6) ((ow.keep hk).box 2 rfl) rfl) rfl <|
    aS (fun hk bs hd => xloadB rfl (by kernel_rfl) (bg bs s7) ((ow.keep hk).box 1 rfl) rfl) rfl <|
    aC (fun hk bs hd => xcall3 rfl (dp hd 0 rfl) (dp hd 1 rfl) (dp hd 2 rfl) (en_fnum_value _ _)) (fun hk bs hd => value13_any fn ((vNum v).n) ((vNum u).n) _ (by omega) (by omega) (num_range hn0 s_v.1) (num_range hn1 s_u.1)) rfl <|
    arm0) fun fa fw bs hv ap z q ow => ?_
  obtain ⟨s4, s5⟩ := b2 bs s4 s5; have s56 := gv hv 3 rfl rfl; refine ws ow 3 0 s4 s56 fun fw ow => ?_; refine wl_value (v := .int .i64 0) (want0 rfl) (xassign rfl rfl) ?_; refine gp1 z q ow s4 fun fa fw z q ow s4 s5 => ?_; refine wt hK18 ?_; refine wp_ret ?_; refine resultsL (v := .tuple #[aggV (val13 fn ((vNum v).n) ((vNum u).n)), .int .i64 0]) rfl (.cons (res_cell (n := 3) _ s4 (by kernel_rfl) (by kernel_rfl) (ow.box 3 rfl) (Nat.le_of_ble_eq_true rfl) rfl) (.cons (res_tmp s5) .nil)) rfl q ?_; exact ⟨ret_pair13 (c13_val2 (by omega) h2 hval hfst), ow.kept⟩
set_option maxHeartbeats 8000000 in
theorem call13_one (fn : Nat) (A : Option Addr) (cap : Nat) (l : List Vl) (w : World) (mx : Int) (HM : Mx w mx) (hr : RowV w A l) (hs : ∀ v ∈ l, Small v) (h2 : two13 fn = false) :
    Calls Tryz.prog 27 #[.int .u8 fn, .slice A l.length cap] w fun e w' => e = .returned (.tuple #[aggV (vCall13 fn l).1, .int .i64 (vCall13 fn l).2]) ∧ Kept w w' := by
  go_enter Tryz.func27, Tryz.ntmps27; refine sq fun hK1 => ?_
  refine ro [yNew w.heap.size (.cells #[.int .u8 0, .int .i64 0, .string ⟨[].toArray⟩] 25 (0, 0)), yV _] 2 57 rfl rfl (Own.start w) (
    aP (fun hk bs hd => xalloc rfl (by kernel_rfl)) rfl <|
    aS (fun hk bs hd => xassign rfl rfl) rfl <|
    arm0) fun fa fw bs hv ap z q ov => ?_
  have s0 := bs.get 0 rfl rfl; have s1 := bs.get 1 rfl rfl; obtain ⟨gb1, s4, bgb1, hgb1⟩ := gotP hv 0 rfl rfl rfl; have ov := ov.cons hgb1 (Nat.le_trans (Own.start w).kept.size bgb1) ((Own.start w).below bgb1); have s5 := gv hv 1 rfl rfl; have ow := ov; refine wt hK1 ?_; refine sq fun hK2 => ?_; refine sq fun hK3 => ?_
  refine ro [yV _, yV _, yV _, yIf (((decide ((fn : Int) < (1 : Int))) = false)) (yV (.int .u8 (fn : Int))), yIf (((decide ((fn : Int) < (1 : Int))) = false)) (yV (.bool (decide ((8 : Int) < (fn : Int))))), yV _] 6 57 z q ow (
    mvS s0 rfl rfl rfl rfl <|
    aS (fun hk bs hd => xlss rfl (dp hd 0 rfl) rfl) rfl <|
    mvD 1 rfl rfl rfl rfl rfl rfl <|
    arm (fun aa ww hk bs hd => by
      have d2 := dp hd 2 rfl
      by_cases hz : ((decide ((fn : Int) < (1 : Int))) = false)
      · exact stepX_same (v := .int .u8 (fn : Int)) (want1 (j := 2) (b := false) rfl (d2.trans (congrArg Value.bool hz))) (xmove rfl (bg bs s0)) ⟨fun _ => rfl, fun c => absurd hz c⟩ rfl
      · exact stepX_skip (wantN (j := 2) (b := false) (b' := true) rfl (d2.trans (congrArg Value.bool ((Bool.not_eq_false _).mp hz))) rfl) ⟨fun c => absurd c hz, fun _ => rfl⟩ rfl
      ) <|
    arm (fun aa ww hk bs hd => by
      have d2 := dp hd 2 rfl; have d3 := dI hd 3 rfl
      by_cases hz : ((decide ((fn : Int) < (1 : Int))) = false)
      · exact stepX_same (v := .bool (decide ((8 : Int) < (fn : Int)))) (want1 (j := 2) (b := false) rfl (d2.trans (congrArg Value.bool hz))) (xgtr rfl (d3.1 hz) rfl) ⟨fun _ => rfl, fun c => absurd hz c⟩ rfl
      · exact stepX_skip (wantN (j := 2) (b := false) (b' := true) rfl (d2.trans (congrArg Value.bool ((Bool.not_eq_false _).mp hz))) rfl) ⟨fun c => absurd c hz, fun _ => rfl⟩ rfl
      ) <|
    arm (fun aa ww hk bs hd => by
      have d2 := dp hd 2 rfl; have d4 := dI hd 4 rfl; exact stepX_same (v := .bool ((decide ((fn : Int) < (1 : Int))) || (decide ((8 : Int) < (fn : Int))))) (want0 rfl) (xor_ rfl (d2) rfl (fun hb => d4.1 hb)) rfl rfl
      ) <|
    arm0) fun fa fw bs hv ap z q ow => ?_
  obtain ⟨s0, s1, s4, s5⟩ := b4 bs s0 s1 s4 s5; have s16 := gv hv 5 rfl rfl; refine wt hK3 ?_
  by_cases hc1 : ((fn : Int) < (1 : Int)) ∨ ((8 : Int) < (fn : Int))
  ·refine ct s16 ((bor (decide_eq_true_iff) (decide_eq_true_iff)).2 hc1) ?_
   refine sq fun hK4 => ?_
   refine ro [yV (aggV (⟨0, 0, []⟩ : Vl))] 1 57 z q ow (
     aS (fun hk bs hd => xbuild (us := #[]) rfl (by simp) (by kernel_rfl)) rfl <|
     arm0) fun fa fw bs hv ap z q ow => ?_
   obtain ⟨s0, s1, s4, s5⟩ := b4 bs s0 s1 s4 s5; have s17 := gv hv 0 rfl rfl; refine ws ow 0 0 s4 s17 fun fw ow => ?_; refine wl_value (v := .int .i64 10) (want0 rfl) (xassign rfl rfl) ?_; refine gp3 z q ow s0 s1 s4 fun fa fw z q ow s0 s1 s4 s5 => ?_; refine wt hK4 ?_; refine wp_ret ?_; refine then_r ?_; refine resultsL (v := .tuple #[aggV (⟨0, 0, []⟩ : Vl), .int .i64 10]) rfl (.cons (res_cell (n := 3) _ s4 (by kernel_rfl) (by kernel_rfl) (ow.box 0 rfl) (Nat.le_of_ble_eq_true rfl) rfl) (.cons (res_tmp s5) .nil)) rfl q ?_; exact ⟨ret_pair13 (v13_name (by omega)), ow.kept⟩
  refine cf s16 (bor (decide_eq_true_iff) (decide_eq_true_iff)) hc1 ?_; refine wp_skip ?_; refine tn hK2 ?_; refine sq fun hK5 => ?_; refine sq fun hK6 => ?_
  refine ro [yV _, yV (.bool false), yV _, yNo, yNo, yNo, yV _, yV _, yV _, yV (.bool false), yV _, yV _, yV _, yV _, yV _, yV _, yV _] 17 57 z q ow (
    mvS s0 rfl rfl rfl rfl <|
    aD (fun hk bs hd => xcall1 rfl (dp hd 0 rfl) (en_fnum_two _ _)) (fun hk bs hd => two13_any fn _) (congrArg Value.bool h2) rfl <|
    mvD 1 rfl rfl rfl rfl rfl rfl <|
    armO (j := 2) (b := true) rfl rfl rfl rfl rfl <|
    armO (j := 2) (b := true) rfl rfl rfl rfl rfl <|
    armO (j := 2) (b := true) rfl rfl rfl rfl rfl <|
    aS (fun hk bs hd => xpickF rfl (dp hd 2 rfl) rfl) rfl <|
    mvD 6 rfl rfl rfl rfl rfl rfl <|
    armS (wg (j := 7) (b := false) rfl rfl rfl) (fun aa ww hk bs hd => xmove rfl (bg bs s0)) rfl <|
    armD (wg (j := 7) (b := false) rfl rfl rfl) (fun aa ww hk bs hd => xcall1 rfl (dp hd 8 rfl) (en_fnum_two _ _)) (fun aa ww hk bs hd => two13_any fn ww) (congrArg Value.bool h2) rfl <|
    armS (wg (j := 7) (b := false) rfl rfl rfl) (fun aa ww hk bs hd => xnot rfl (dp hd 9 rfl)) rfl <|
    armS (wg (j := 7) (b := false) rfl rfl rfl) (fun aa ww hk bs hd => xmove rfl (dp hd 10 rfl)) rfl <|
    armS (wg (j := 11) (b := true) rfl rfl rfl) (fun aa ww hk bs hd => xmove rfl (bg bs s1)) rfl <|
    armS (wg (j := 11) (b := true) rfl rfl rfl) (fun aa ww hk bs hd => xlen Tryz.underlying22 rfl (dp hd 12 rfl)) rfl <|
    armS (wg (j := 11) (b := true) rfl rfl rfl) (fun aa ww hk bs hd => xnei rfl (dp hd 13 rfl) rfl) rfl <|
    armS (wg (j := 7) (b := false) rfl rfl rfl) (fun aa ww hk bs hd => xpickT rfl (dp hd 11 rfl) (dp hd 14 rfl)) rfl <|
    aS (fun hk bs hd => xpickF rfl (dp hd 7 rfl) (dp hd 15 rfl)) rfl <|
    arm0) fun fa fw bs hv ap z q ow => ?_
  obtain ⟨s0, s1, s4, s5⟩ := b4 bs s0 s1 s4 s5; have s34 := gv hv 16 rfl rfl; refine wt hK6 ?_
  by_cases hc2 : ((l.length : Nat) : Int) ≠ (1 : Int)
  ·refine ct s34 ((decide_eq_true_iff).2 hc2) ?_
   have hlen : ¬ (l.length = 1) := by omega
   refine sq fun hK7 => ?_
   refine ro [yV (aggV (⟨0, 0, []⟩ : Vl))] 1 57 z q ow (
     aS (fun hk bs hd => xbuild (us := #[]) rfl (by simp) (by kernel_rfl)) rfl <|
     arm0) fun fa fw bs hv ap z q ow => ?_
   obtain ⟨s0, s1, s4, s5⟩ := b4 bs s0 s1 s4 s5; have s35 := gv hv 0 rfl rfl; refine ws ow 0 0 s4 s35 fun fw ow => ?_; refine wl_value (v := .int .i64 11) (want0 rfl) (xassign rfl rfl) ?_; refine gp3 z q ow s0 s1 s4 fun fa fw z q ow s0 s1 s4 s5 => ?_; refine wt hK7 ?_; refine wp_ret ?_; refine then_r ?_; refine resultsL (v := .tuple #[aggV (⟨0, 0, []⟩ : Vl), .int .i64 11]) rfl (.cons (res_cell (n := 3) _ s4 (by kernel_rfl) (by kernel_rfl) (ow.box 0 rfl) (Nat.le_of_ble_eq_true rfl) rfl) (.cons (res_tmp s5) .nil)) rfl q ?_; exact ⟨ret_pair13 (v13_count (by omega) (by rw [h2]; exact hlen)), ow.kept⟩
  refine cf s34 (decide_eq_true_iff) hc2 ?_; have hlen : l.length = 1 := by omega
  refine wp_skip ?_; refine tn hK5 ?_; refine sq fun hK8 => ?_; refine sq fun hK9 => ?_; obtain ⟨v, rfl⟩ := len_one hlen; obtain ⟨b0, off0, rfl, _⟩ := hr 0 (Nat.zero_lt_succ _); have s_v : Small v := hs _ (by simp)
  refine ro [yV _, yV (.bool ([v].all vOk)), yV _] 3 57 z q ow (
    mvS s1 rfl rfl rfl rfl <|
    aC (fun hk bs hd => xcall1 rfl (dp hd 0 rfl) (en_fnum_valid _ _)) (fun hk bs hd => valid13r_any b0 off0 cap [v] _ (hr.kept (ow.keep hk).kept) hs (by simp)) rfl <|
    aS (fun hk bs hd => xnot rfl (dp hd 1 rfl)) rfl <|
    arm0) fun fa fw bs hv ap z q ow => ?_
  obtain ⟨s0, s1, s4, s5⟩ := b4 bs s0 s1 s4 s5; have s38 := gv hv 2 rfl rfl; refine wt hK9 ?_
  by_cases hc3 : ¬ (([v].all vOk) = true)
  ·refine ct s38 ((bnot (Iff.rfl)).2 hc3) ?_
   have hval : [v].all vOk = false := by simpa using hc3
   refine sq fun hK10 => ?_
   refine ro [yV (aggV (⟨0, 0, []⟩ : Vl))] 1 57 z q ow (
     aS (fun hk bs hd => xbuild (us := #[]) rfl (by simp) (by kernel_rfl)) rfl <|
     arm0) fun fa fw bs hv ap z q ow => ?_
   obtain ⟨s0, s1, s4, s5⟩ := b4 bs s0 s1 s4 s5; have s39 := gv hv 0 rfl rfl; refine ws ow 0 0 s4 s39 fun fw ow => ?_; refine wl_value (v := .int .i64 2) (want0 rfl) (xassign rfl rfl) ?_; refine gp3 z q ow s0 s1 s4 fun fa fw z q ow s0 s1 s4 s5 => ?_; refine wt hK10 ?_; refine wp_ret ?_; refine then_r ?_; refine resultsL (v := .tuple #[aggV (⟨0, 0, []⟩ : Vl), .int .i64 2]) rfl (.cons (res_cell (n := 3) _ s4 (by kernel_rfl) (by kernel_rfl) (ow.box 0 rfl) (Nat.le_of_ble_eq_true rfl) rfl) (.cons (res_tmp s5) .nil)) rfl q ?_; exact ⟨ret_pair13 (v13_arg (by omega) (by rw [h2]; rfl) hval), ow.kept⟩
  refine cf s38 (bnot (Iff.rfl)) hc3 ?_; have hval : [v].all vOk = true := by simpa using hc3
  refine wp_skip ?_; refine tn hK8 ?_; refine sq fun hK11 => ?_
  refine ro [yNew fw.heap.size (.cells #[.int .i64 0] 2 (0, 0)), yNew fw.heap.size (.cells #[.int .i64 0] 2 (0, 0))] 2 57 z q ow (
    aP (fun hk bs hd => xalloc rfl (by kernel_rfl)) rfl <|
    aP (fun hk bs hd => xalloc rfl (by kernel_rfl)) rfl <|
    arm0) fun fa fw bs hv ap z q ov => ?_
  obtain ⟨s0, s1, s4, s5⟩ := b4 bs s0 s1 s4 s5; obtain ⟨gb2, s6, bgb2, hgb2⟩ := gotP hv 0 rfl rfl rfl; have ov := ov.cons hgb2 (Nat.le_trans ow.kept.size bgb2) (ow.below bgb2); obtain ⟨gb3, s7, bgb3, hgb3⟩ := gotP hv 1 rfl rfl rfl; have ov := ov.cons hgb3 (Nat.le_trans ow.kept.size bgb3) (ne_cons (apartP ap 0 1 rfl rfl rfl s6 rfl s7 rfl) (ow.below bgb3)); have ow := ov; refine wt hK11 ?_; refine sq fun hK12 => ?_
  refine ro [ySlice fw.heap.size 2 (.cells #[.pointer (some ⟨gb2, 0, none⟩), .pointer (some ⟨gb3, 0, none⟩)] 108 (0, 0))] 1 57 z q ow (
    aL (fun hk bs hd => xbuildSlice (us := #[(0, .pointer (some ⟨gb2, 0, none⟩)), (1, .pointer (some ⟨gb3, 0, none⟩))]) rfl (by simp only [List.map_toArray, List.map_cons, List.map_nil, bg bs s6, bg bs s7]) (by kernel_rfl)) rfl <|
    arm0) fun fa fw bs hv ap z q ov => ?_
  obtain ⟨s0, s1, s4, s5, s6, s7⟩ := b6 bs s0 s1 s4 s5 s6 s7; obtain ⟨gb4, s40, bgb4, hgb4⟩ := gotL hv 0 rfl rfl rfl; have ov := ov.cons hgb4 (Nat.le_trans ow.kept.size bgb4) (ow.below bgb4); have ow := ov; refine wl_value (v := .slice (some ⟨gb4, 0, none⟩) 2 2) (want0 rfl) (xassign rfl s40) ?_; refine gp6 z q ow s0 s1 s4 s5 s6 s7 fun fa fw z q ow s0 s1 s4 s5 s6 s7 s8 => ?_; refine wt hK12 ?_; refine sq fun hK13 => ?_; refine sq fun hK14 => ?_
  refine ro [yV _, yV _, yV _, yV _, yV _] 5 57 z q ow (
    mvS s1 rfl rfl rfl rfl <|
    mvS s8 rfl rfl rfl rfl <|
    mvS s1 rfl rfl rfl rfl <|
    aS (fun hk bs hd => xlen Tryz.underlying22 rfl (dp hd 2 rfl)) rfl <|
    aS (fun hk bs hd => xsliceTo3 Tryz.underlying109 (by kernel_rfl) rfl (h := 1) (dp hd 1 rfl) (dp hd 3 rfl) (by decide)) rfl <|
    arm0) fun fa fw bs hv ap z q ow => ?_
  obtain ⟨s0, s4, s5, s6, s7⟩ := b5 bs s0 s4 s5 s6 s7; have s42 := gv hv 0 rfl rfl; have s46 := gv hv 4 rfl rfl; refine wl_enter (want0 rfl) (xcall2 (u := .slice (some ⟨b0, off0, none⟩) 1 cap) (v := .slice (some ⟨gb4, 0, none⟩) 1 2) rfl s42 s46 (en_fnum_numbers _ _)) ((numbers13_1 v b0 off0 cap gb4 gb2 gb3 2 [Th.obj gb1 (.cells #[.int .u8 0, .int .i64 0, .string ⟨[].toArray⟩] 25 (0, 0))] w _ mx HM ow (fun u o => hr.kept o.kept) s_v).mono ?_); rintro _ fw ⟨x, ok, rfl, hcv⟩; refine ⟨_, rfl, ?_⟩; rcases hcv with ⟨rfl, hfst, how⟩ | ⟨rfl, hfst, how⟩
  ·skip
   have ow := how; clear how; refine wl_value (v := .tuple #[aggV x, .bool false]) (want0 rfl) (xmove rfl (put_in (t := 47) z rfl)) ?_; refine wl_value (v := aggV x) (want0 rfl) (xextract rfl (put_in (t := 41) (put_size z) rfl) rfl) ?_; refine wl_value (v := .bool false) (want0 rfl) (xextract rfl (pb 48 (put_in (t := 41) (put_size z) rfl) rfl) rfl) ?_; refine wl_newP ow (want0 rfl) (xalloc (b := .cells #[.int .u8 0, .int .i64 0, .string ⟨[].toArray⟩] 25 (0, 0)) rfl (by kernel_rfl)) fun gb5 fw ow => ?_; refine wl_store ow 0 0 (want0 rfl) rfl rfl (put_in (t := 9) (put_size (put_size (put_size (put_size z)))) rfl) (pb 9 (pb 49 (put_in (t := 48) (put_size (put_size z)) rfl) rfl) rfl) (by kernel_rfl) rfl rfl rfl fun fw ow => ?_; refine wl_value (v := .bool false) (want0 rfl) (xassign rfl (pb 9 (put_in (t := 49) (put_size (put_size (put_size z))) rfl) rfl)) ?_; refine gt7 (put_size (put_size (put_size (put_size (put_size (put_size z)))))) (put_def (put_def (put_def (put_def (put_def (put_def q)))))) ow 0 (pb 10 (pb 9 (pb 49 (pb 48 (pb 41 (pb 47 s0 rfl) rfl) rfl) rfl) rfl) rfl) 4 (pb 10 (pb 9 (pb 49 (pb 48 (pb 41 (pb 47 s4 rfl) rfl) rfl) rfl) rfl) rfl) 5 (pb 10 (pb 9 (pb 49 (pb 48 (pb 41 (pb 47 s5 rfl) rfl) rfl) rfl) rfl) rfl) 6 (pb 10 (pb 9 (pb 49 (pb 48 (pb 41 (pb 47 s6 rfl) rfl) rfl) rfl) rfl) rfl) 7 (pb 10 (pb 9 (pb 49 (pb 48 (pb 41 (pb 47 s7 rfl) rfl) rfl) rfl) rfl) rfl) 9 (pb 10 (put_in (t := 9) (put_size (put_size (put_size (put_size z)))) rfl) rfl) 10 (put_in (t := 10) (put_size (put_size (put_size (put_size (put_size z))))) rfl) fun fa fw z q ow s0 s4 s5 s6 s7 s9 s10 => ?_
   refine wt hK14 ?_; refine sq fun hK15 => ?_
   refine ro [yV _, yV _] 2 57 z q ow (
     mvS s10 rfl rfl rfl rfl <|
     aS (fun hk bs hd => xnot rfl (dp hd 0 rfl)) rfl <|
     arm0) fun fa fw bs hv ap z q ow => ?_
   obtain ⟨s0, s4, s5, s6, s7, s9⟩ := b6 bs s0 s4 s5 s6 s7 s9; have s51 := gv hv 1 rfl rfl; refine wt hK15 ?_; refine wp_cond_true (s51) ?_; refine sq fun hK16 => ?_
   refine ro [yV (aggV x)] 1 57 z q ow (
     aS (fun hk bs hd => xloadN 3 rfl (by kernel_rfl) (by kernel_rfl) (bg bs s9) ((ow.keep hk).box 0 rfl) (Nat.le_of_ble_eq_true rfl) rfl) rfl <|
     arm0) fun fa fw bs hv ap z q ow => ?_
   obtain ⟨s0, s4, s5, s6, s7⟩ := b5 bs s0 s4 s5 s6 s7; have s52 := gv hv 0 rfl rfl; refine ws ow 1 0 s4 s52 fun fw ow => ?_; refine wl_value (v := .int .i64 0) (want0 rfl) (xassign rfl rfl) ?_; refine gp4 z q ow s0 s4 s6 s7 fun fa fw z q ow s0 s4 s6 s7 s5 => ?_; refine wt hK16 ?_; refine wp_ret ?_; refine then_r ?_; refine resultsL (v := .tuple #[aggV x, .int .i64 0]) rfl (.cons (res_cell (n := 3) _ s4 (by kernel_rfl) (by kernel_rfl) (ow.box 1 rfl) (Nat.le_of_ble_eq_true rfl) rfl) (.cons (res_tmp s5) .nil)) rfl q ?_; exact ⟨ret_pair13 (v13_err (by omega) (by rw [h2]; rfl) hval hfst), ow.kept⟩
  have ow := how; clear how; have hn0 : isE (vNum v) = false := none_1 hfst; refine wl_value (v := .tuple #[aggV x, .bool true]) (want0 rfl) (xmove rfl (put_in (t := 47) z rfl)) ?_; refine wl_value (v := aggV x) (want0 rfl) (xextract rfl (put_in (t := 41) (put_size z) rfl) rfl) ?_; refine wl_value (v := .bool true) (want0 rfl) (xextract rfl (pb 48 (put_in (t := 41) (put_size z) rfl) rfl) rfl) ?_; refine wl_newP ow (want0 rfl) (xalloc (b := .cells #[.int .u8 0, .int .i64 0, .string ⟨[].toArray⟩] 25 (0, 0)) rfl (by kernel_rfl)) fun gb6 fw ow => ?_; refine wl_store ow 0 0 (want0 rfl) rfl rfl (put_in (t := 9) (put_size (put_size (put_size (put_size z)))) rfl) (pb 9 (pb 49 (put_in (t := 48) (put_size (put_size z)) rfl) rfl) rfl) (by kernel_rfl) rfl rfl rfl fun fw ow => ?_; refine wl_value (v := .bool true) (want0 rfl) (xassign rfl (pb 9 (put_in (t := 49) (put_size (put_size (put_size z))) rfl) rfl)) ?_; refine gt7 (put_size (put_size (put_size (put_size (put_size (put_size z)))))) (put_def (put_def (put_def (put_def (put_def (put_def q)))))) ow 0 (pb 10 (pb 9 (pb 49 (pb 48 (pb 41 (pb 47 s0 rfl) rfl) rfl) rfl) rfl) rfl) 4 (pb 10 (pb 9 (pb 49 (pb 48 (pb 41 (pb 47 s4 rfl) rfl) rfl) rfl) rfl) rfl) 5 (pb 10 (pb 9 (pb 49 (pb 48 (pb 41 (pb 47 s5 rfl) rfl) rfl) rfl) rfl) rfl) 6 (pb 10 (pb 9 (pb 49 (pb 48 (pb 41 (pb 47 s6 rfl) rfl) rfl) rfl) rfl) rfl) 7 (pb 10 (pb 9 (pb 49 (pb 48 (pb 41 (pb 47 s7 rfl) rfl) rfl) rfl) rfl) rfl) 9 (pb 10 (put_in (t := 9) (put_size (put_size (put_size (put_size z)))) rfl) rfl) 10 (put_in (t := 10) (put_size (put_size (put_size (put_size (put_size z))))) rfl) fun fa fw z q ow s0 s4 s5 s6 s7 s9 s10 => ?_
  refine wt hK14 ?_; refine sq fun hK17 => ?_
  refine ro [yV _, yV _] 2 57 z q ow (
    mvS s10 rfl rfl rfl rfl <|
    aS (fun hk bs hd => xnot rfl (dp hd 0 rfl)) rfl <|
    arm0) fun fa fw bs hv ap z q ow => ?_
  obtain ⟨s0, s4, s5, s6, s7, s9⟩ := b6 bs s0 s4 s5 s6 s7 s9; have s51 := gv hv 1 rfl rfl; refine wt hK17 ?_; refine wp_cond_false (s51) ?_; refine wp_skip ?_; refine tn hK13 ?_; refine sq fun hK18 => ?_
  refine ro [yV _, yV _, yV _, yV (aggV (val13 fn ((vNum v).n) 0))] 4 57 z q ow (
    mvS s0 rfl rfl rfl rfl <|
    aS (fun hk bs hd => xloadB rfl (by kernel_rfl) (bg bs s6) ((ow.keep hk).box 2 rfl) rfl) rfl <|
    aS (fun hk bs hd => xloadB rfl (by kernel_rfl) (bg bs s7) ((ow.keep hk).box 1 rfl) rfl) rfl <|
    aC (fun hk bs hd => xcall3 rfl (dp hd 0 rfl) (dp hd 1 rfl) (dp hd 2 rfl) (en_fnum_value _ _)) (fun hk bs hd => value13_any fn ((vNum v).n) 0 _ (by omega) (by omega) (num_range hn0 s_v.1) ⟨by decide, by decide⟩) rfl <|
    arm0) fun fa fw bs hv ap z q ow => ?_
  obtain ⟨s4, s5⟩ := b2 bs s4 s5; have s56 := gv hv 3 rfl rfl; refine ws ow 3 0 s4 s56 fun fw ow => ?_; refine wl_value (v := .int .i64 0) (want0 rfl) (xassign rfl rfl) ?_; refine gp1 z q ow s4 fun fa fw z q ow s4 s5 => ?_; refine wt hK18 ?_; refine wp_ret ?_; refine resultsL (v := .tuple #[aggV (val13 fn ((vNum v).n) 0), .int .i64 0]) rfl (.cons (res_cell (n := 3) _ s4 (by kernel_rfl) (by kernel_rfl) (ow.box 3 rfl) (Nat.le_of_ble_eq_true rfl) rfl) (.cons (res_tmp s5) .nil)) rfl q ?_; exact ⟨ret_pair13 (c13_val1 (by omega) h2 hval hfst), ow.kept⟩
theorem call13_any (fn : Nat) (A : Option Addr) (cap : Nat) (l : List Vl) (w : World) (mx : Int) (HM : Mx w mx) (hr : RowV w A l) (hs : ∀ v ∈ l, Small v) (hl : l.length ≤ 1000000) (hc : l.length ≤ cap) :
    Calls Tryz.prog 27 #[.int .u8 fn, .slice A l.length cap] w fun e w' => e = .returned (.tuple #[aggV (vCall13 fn l).1, .int .i64 (vCall13 fn l).2]) ∧ Kept w w' := by
  cases h2 : two13 fn with
  | true => exact call13_two fn A cap l w mx HM hr hs h2
  | false => exact call13_one fn A cap l w mx HM hr hs h2
end Go.Proofs.YtbpkfnoenkoabaaGreatDoor
