/- Layer 13: the reference's functions (printed by wip/mkrnum13.py). -/
import Derived.Test.YtbpkfnoenkoabaaGreatDoorFgGNum13b
import Derived.Test.YtbpkfnoenkoabaaGreatDoorFgMixAT
import Derived.Test.YtbpkfnoenkoabaaGreatDoorFgBunC
import Derived.Test.YtbpkfnoenkoabaaGreatDoorFgBunV
import Derived.Test.YtbpkfnoenkoabaaGreatDoorFgMixAV
namespace Go.Proofs.YtbpkfnoenkoabaaGreatDoor
set_option linter.unusedVariables false
set_option linter.unusedSimpArgs false
open Go.RowKit Lv
set_option maxRecDepth 100000
def RNumOut (w : World) (l : List Vl) (e : Ending) (w' : World) : Prop := ∃ nv x ok, e = .returned (.tuple #[nv, aggV x, .bool ok]) ∧ Kept w w' ∧ ((ok = false ∧ firstE (l.map vNum) = some x) ∨ (ok = true ∧ firstE (l.map vNum) = none ∧ Own w [Th.row w.heap.size 2 1 nv ((l.map fun v => (vNum v).n).map numV).length ((l.map fun v => (vNum v).n).map numV)] w'))
theorem nextN13 {l : List Vl} {k : Nat} (hk : k < l.length) : ((l.take (k + 1)).map fun v => (vNum v).n).map numV = ((l.take k).map fun v => (vNum v).n).map numV ++ [numV (vNum (l.getD k blankV)).n] := by
  rw [List.take_succ_eq_append_getElem hk, List.map_append, List.map_append, show l.getD k blankV = l[k] by simp [List.getD, hk]]; rfl
theorem firstN_next {l : List Vl} {k : Nat} (hk : k < l.length) (h : firstE ((l.take k).map vNum) = none) (he : isE (vNum (l.getD k blankV)) = false) : firstE ((l.take (k + 1)).map vNum) = none := by
  rw [List.take_succ_eq_append_getElem hk, List.map_append, List.map_cons, List.map_nil, firstE_snoc', h, ← show l.getD k blankV = l[k] by simp [List.getD, hk], he]; rfl
theorem firstE_app {l m : List Vl} {x : Vl} (h : firstE l = some x) : firstE (l ++ m) = some x := by
  unfold firstE at h ⊢; rw [List.find?_append, h]; rfl
theorem firstN_more {l : List Vl} {k : Nat} (hk : k < l.length) (h : firstE ((l.take k).map vNum) = none) (he : isE (vNum (l.getD k blankV)) = true) : firstE (l.map vNum) = some (vNum (l.getD k blankV)) := by
  have e : l.map vNum = (l.take (k + 1)).map vNum ++ (l.drop (k + 1)).map vNum := by rw [← List.map_append, List.take_append_drop]
  rw [e]; apply firstE_app; rw [List.take_succ_eq_append_getElem hk, List.map_append, List.map_cons, List.map_nil, firstE_snoc', h, ← show l.getD k blankV = l[k] by simp [List.getD, hk], he]; rfl
theorem Own.one {w0 w : World} {s : Th} {H : List Th} (h : Own w0 (s :: H) w) : Own w0 [s] w := h.sub (by simp)
theorem mod13_m1 {x y : Int} (h : y = -1) : (0 : Int) = mod13 x y := by
  subst h; have e : x.tmod (-1) = 0 := by rw [Int.tmod_neg]; exact Int.tmod_one x
  unfold mod13; rw [if_neg (by rw [e]; simp), e]
theorem two13_yes {fn : Nat} (h : two13 fn = true) : fn = 5 ∨ fn = 6 ∨ fn = 7 := by unfold two13 at h; simpa using h
theorem two13_no {fn : Nat} (h : two13 fn = false) : fn ≠ 5 ∧ fn ≠ 6 ∧ fn ≠ 7 := by unfold two13 at h; simpa using h
theorem sqrt13 (x : Int) : vRes ((dSqrt x).1, (dSqrt x).2) = if x < 0 then vFail 3 else vRes (dSqrt x) := by
  by_cases h : x < 0
  · rw [if_pos h]; unfold dSqrt; rw [if_pos h]; rfl
  · rw [if_neg h]
set_option maxHeartbeats 2000000 in
theorem arity13_any (fn : Nat) (h1 : 1 ≤ fn) (h2 : fn ≤ 8) (w : World) : Calls Tryz.prog 144 #[.int .u8 fn] w fun e w' => e = .returned (.tuple #[.int .i64 (if two13 fn then 2 else 1 : Nat), .int .i64 (if two13 fn then 2 else 1 : Nat)]) ∧ Kept w w' := by
  rcases (show fn = 1 ∨ fn = 2 ∨ fn = 3 ∨ fn = 4 ∨ fn = 5 ∨ fn = 6 ∨ fn = 7 ∨ fn = 8 by omega) with rfl | rfl | rfl | rfl | rfl | rfl | rfl | rfl
  all_goals
    go_enter Tryz.func144, Tryz.ntmps144; go_wp2_with fail; go_ret2; exact ⟨rfl, kpt⟩
theorem count13n_any (fn : Nat) (h1 : 1 ≤ fn) (h2 : fn ≤ 8) (n : Nat) (w : World) : Calls Tryz.prog 62 #[.int .u8 fn, .int .i64 n] w fun e w' => e = .returned (.bool (decide (n = (if two13 fn then 2 else 1)))) ∧ Kept w w' := by
  have AR := Lib.hid (fun w => arity13_any fn h1 h2 w); generalize (if two13 fn then 2 else 1 : Nat) = lo at *; clear h1 h2
  by_cases c : lo ≤ n
  · by_cases d : n ≤ lo
    · have EF : Hid (decide (n = lo) = true) := decide_eq_true (by omega)
      go_enter Tryz.func62, Tryz.ntmps62; go_wp2_with fail; refine (AR.out _).mono ?_; rintro e w' ⟨rfl, k1⟩; go_wp2_with fail; go_ret; exact ⟨ret_bool EF.out.symm, k1⟩
    · have EF : Hid (decide (n = lo) = false) := decide_eq_false (by omega)
      have d' : lo < n := by omega
      go_enter Tryz.func62, Tryz.ntmps62; go_wp2_with fail; refine (AR.out _).mono ?_; rintro e w' ⟨rfl, k1⟩; go_wp2_with fail; go_ret; exact ⟨ret_bool EF.out.symm, k1⟩
  · have EF : Hid (decide (n = lo) = false) := decide_eq_false (by omega)
    have d' : n < lo := by omega
    go_enter Tryz.func62, Tryz.ntmps62; go_wp2_with fail; refine (AR.out _).mono ?_; rintro e w' ⟨rfl, k1⟩; go_wp2_with fail; go_ret; exact ⟨ret_bool EF.out.symm, k1⟩
theorem en_louvreref01_Add : En 83 := by intro args w; go_simp
theorem en_louvreref01_Floor : En 161 := by intro args w; go_simp
theorem en_louvreref01_Mul : En 85 := by intro args w; go_simp
theorem en_louvreref01_Neg : En 92 := by intro args w; go_simp
theorem en_louvreref01_Power : En 183 := by intro args w; go_simp
theorem en_louvreref01_Quo : En 87 := by intro args w; go_simp
theorem en_louvreref01_Round : En 163 := by intro args w; go_simp
theorem en_louvreref01_Sqrt : En 165 := by intro args w; go_simp
theorem en_louvreref01_Sub : En 84 := by intro args w; go_simp
theorem en_louvreref01_Trunc : En 162 := by intro args w; go_simp
theorem en_louvreref05_Compare : En 174 := by intro args w; go_simp
theorem en_louvreref05_Fail : En 86 := by intro args w; go_simp
theorem en_louvreref05_Make : En 96 := by intro args w; go_simp
theorem en_louvreref05_ToNumber : En 91 := by intro args w; go_simp
theorem en_louvreref05_ToText : En 146 := by intro args w; go_simp
theorem en_louvreref05_Truth : En 95 := by intro args w; go_simp
theorem en_louvreref13_Count : En 62 := by intro args w; go_simp
theorem en_louvreref13_Numbers : En 73 := by intro args w; go_simp
theorem en_louvreref13_Valid : En 63 := by intro args w; go_simp
theorem en_louvreref13_compare : En 81 := by intro args w; go_simp
theorem en_louvreref13_join : En 80 := by intro args w; go_simp
theorem en_louvreref13_mod : En 164 := by intro args w; go_simp
theorem en_louvreref13_number : En 82 := by intro args w; go_simp
theorem en_louvreref13_power : En 88 := by intro args w; go_simp
theorem en_louvreref13_sign : En 160 := by intro args w; go_simp
theorem en_louvreref13_value : En 74 := by intro args w; go_simp
set_option maxHeartbeats 4000000 in
theorem rnumber13_any (n : Int) (b : Bool) (w : World) (hn : b = true → i64 n) :
    Calls Tryz.prog 82 #[.int .i64 n, .bool b] w fun e w' => e = .returned (aggV (vRes (n, b))) ∧ Kept w w' := by
  go_enter Tryz.func82, Tryz.ntmps82; refine sq fun hK1 => ?_
  refine ro [yNew w.heap.size (.cells #[.int .u8 0, .int .i64 0, .string ⟨[].toArray⟩] 25 (0, 0))] 1 10 rfl rfl (Own.start w) (
    aP (fun hk bs hd => xalloc rfl (by kernel_rfl)) rfl <|
    arm0) fun fa fw bs hv ap z q ov => ?_
  have s0 := bs.get 0 rfl rfl; have s1 := bs.get 1 rfl rfl; obtain ⟨gb1, s4, bgb1, hgb1⟩ := gotP hv 0 rfl rfl rfl; have ov := ov.cons hgb1 (Nat.le_trans (Own.start w).kept.size bgb1) ((Own.start w).below bgb1); have ow := ov; refine wt hK1 ?_; refine sq fun hK2 => ?_; refine sq fun hK3 => ?_
  refine ro [yV _, yV _] 2 10 z q ow (
    mvS s1 rfl rfl rfl rfl <|
    aS (fun hk bs hd => xnot rfl (dp hd 0 rfl)) rfl <|
    arm0) fun fa fw bs hv ap z q ow => ?_
  obtain ⟨s0, s4⟩ := b2 bs s0 s4; have s6 := gv hv 1 rfl rfl; refine wt hK3 ?_
  by_cases hc1 : ¬ (b = true)
  · refine ct s6 ((bnot (Iff.rfl)).2 hc1) ?_
    have hb : b = false := by simpa using hc1
    refine sq fun hK4 => ?_
    refine ro [yV (aggV (vFail 3))] 1 10 z q ow (
      aC (fun hk bs hd => xcall1 rfl rfl (en_louvreref05_Fail _ _)) (fun hk bs hd => rfail_any 3 _) rfl <|
      arm0) fun fa fw bs hv ap z q ow => ?_
    obtain ⟨s0, s4⟩ := b2 bs s0 s4; have s7 := gv hv 0 rfl rfl; refine ws ow 0 0 s4 s7 fun fw ow => ?_; refine wt hK4 ?_; refine wp_ret ?_; refine then_r ?_; refine rs3 s4 (ow.box 0 rfl) q ?_; exact ⟨congrArg (fun v => Ending.returned (aggV v)) (show _ = vRes (n, b) by unfold vRes; rw [hb]; rfl), ow.kept⟩
  refine cf s6 (bnot (Iff.rfl)) hc1 ?_; have hb : b = true := by simpa using hc1
  refine wp_skip ?_; refine tn hK2 ?_; refine sq fun hK5 => ?_
  refine ro [yV _, yV (aggV (vMake n))] 2 10 z q ow (
    mvS s0 rfl rfl rfl rfl <|
    aC (fun hk bs hd => xcall1 rfl (dp hd 0 rfl) (en_louvreref05_Make _ _)) (fun hk bs hd => rmake_any n _ (hn hb).1 (hn hb).2) rfl <|
    arm0) fun fa fw bs hv ap z q ow => ?_
  have s4 := bg bs s4; have s9 := gv hv 1 rfl rfl; refine ws ow 0 0 s4 s9 fun fw ow => ?_; refine wt hK5 ?_; refine wp_ret ?_; refine rs3 s4 (ow.box 0 rfl) q ?_; exact ⟨congrArg (fun v => Ending.returned (aggV v)) (show _ = vRes (n, b) by unfold vRes; rw [hb]; rfl), ow.kept⟩
set_option maxHeartbeats 4000000 in
theorem rsign13_any (x : Int) (w : World) :
    Calls Tryz.prog 160 #[.int .i64 x] w fun e w' => e = .returned (.int .i64 (sgn13 x * 10000)) ∧ Kept w w' := by
  go_enter Tryz.func160, Tryz.ntmps160; refine sq fun hK1 => ?_
  refine ro [yV _] 1 7 rfl rfl (Own.start w) (
    aS (fun hk bs hd => xassign rfl rfl) rfl <|
    arm0) fun fa fw bs hv ap z q ow => ?_
  have s0 := bs.get 0 rfl rfl; have s2 := gv hv 0 rfl rfl; refine wt hK1 ?_; refine sq fun hK2 => ?_; refine sq fun hK3 => ?_
  refine ro [yV _, yV _] 2 7 z q ow (
    mvS s0 rfl rfl rfl rfl <|
    aS (fun hk bs hd => xgtr rfl (dp hd 0 rfl) rfl) rfl <|
    arm0) fun fa fw bs hv ap z q ow => ?_
  obtain ⟨s0, s2⟩ := b2 bs s0 s2; have s4 := gv hv 1 rfl rfl; refine wt hK3 ?_
  by_cases hc1 : (0 : Int) < (x : Int)
  · refine ct s4 ((decide_eq_true_iff).2 hc1) ?_
    refine sq fun hK4 => ?_
    refine ro [yV _] 1 7 z q ow (
      aS (fun hk bs hd => xassign rfl rfl) rfl <|
      arm0) fun fa fw bs hv ap z q ow => ?_
    have s0 := bg bs s0; have s2 := gv hv 0 rfl rfl; refine wt hK4 ?_; refine wp_ret ?_; refine then_r ?_; refine results_one rfl (res_tmp s2) q ?_; exact ⟨(congrArg (fun n => Ending.returned (.int .i64 n)) (show _ = sgn13 x * 10000 by unfold sgn13; (repeat' split) <;> omega)), ow.kept⟩
  refine cf s4 (decide_eq_true_iff) hc1 ?_; refine wp_skip ?_; refine tn hK2 ?_; refine sq fun hK5 => ?_; refine sq fun hK6 => ?_
  refine ro [yV _, yV _] 2 7 z q ow (
    mvS s0 rfl rfl rfl rfl <|
    aS (fun hk bs hd => xlss rfl (dp hd 0 rfl) rfl) rfl <|
    arm0) fun fa fw bs hv ap z q ow => ?_
  have s2 := bg bs s2; have s6 := gv hv 1 rfl rfl; refine wt hK6 ?_
  by_cases hc2 : (x : Int) < (0 : Int)
  · refine ct s6 ((decide_eq_true_iff).2 hc2) ?_
    refine sq fun hK7 => ?_
    refine ro [yV _] 1 7 z q ow (
      aS (fun hk bs hd => xassign rfl rfl) rfl <|
      arm0) fun fa fw bs hv ap z q ow => ?_
    have s2 := gv hv 0 rfl rfl; refine wt hK7 ?_; refine wp_ret ?_; refine then_r ?_; refine results_one rfl (res_tmp s2) q ?_; exact ⟨(congrArg (fun n => Ending.returned (.int .i64 n)) (show _ = sgn13 x * 10000 by unfold sgn13; (repeat' split) <;> omega)), ow.kept⟩
  refine cf s6 (decide_eq_true_iff) hc2 ?_; refine wp_skip ?_; refine tn hK5 ?_; refine sq fun hK8 => ?_
  refine ro [yV _] 1 7 z q ow (
    aS (fun hk bs hd => xassign rfl rfl) rfl <|
    arm0) fun fa fw bs hv ap z q ow => ?_
  have s2 := gv hv 0 rfl rfl; refine wt hK8 ?_; refine wp_ret ?_; refine results_one rfl (res_tmp s2) q ?_; exact ⟨(congrArg (fun n => Ending.returned (.int .i64 n)) (show _ = sgn13 x * 10000 by unfold sgn13; (repeat' split) <;> omega)), ow.kept⟩
set_option maxHeartbeats 4000000 in
theorem rpower13_any (x n : Int) (w : World) (hx : i64 x) (hn : i64 n) :
    Calls Tryz.prog 88 #[.int .i64 x, .int .i64 n] w fun e w' => e = .returned (aggV (pow13 x n)) ∧ Kept w w' := by
  have hq := tdiv_in hn; have h1 := hn.1; have h2 := hn.2; go_enter Tryz.func88, Tryz.ntmps88; refine sq fun hK1 => ?_
  refine ro [yNew w.heap.size (.cells #[.int .u8 0, .int .i64 0, .string ⟨[].toArray⟩] 25 (0, 0))] 1 23 rfl rfl (Own.start w) (
    aP (fun hk bs hd => xalloc rfl (by kernel_rfl)) rfl <|
    arm0) fun fa fw bs hv ap z q ov => ?_
  have s0 := bs.get 0 rfl rfl; have s1 := bs.get 1 rfl rfl; obtain ⟨gb1, s4, bgb1, hgb1⟩ := gotP hv 0 rfl rfl rfl; have ov := ov.cons hgb1 (Nat.le_trans (Own.start w).kept.size bgb1) ((Own.start w).below bgb1); have ow := ov; refine wt hK1 ?_; refine sq fun hK2 => ?_; refine sq fun hK3 => ?_
  refine ro [yV _, yV _, yV _] 3 23 z q ow (
    mvS s1 rfl rfl rfl rfl <|
    aS (fun hk bs hd => xrem (Or.inr rfl) rfl (dp hd 0 rfl) rfl (by omega) (by omega) (by omega)) rfl <|
    aS (fun hk bs hd => xnei rfl (dp hd 1 rfl) rfl) rfl <|
    arm0) fun fa fw bs hv ap z q ow => ?_
  obtain ⟨s0, s1, s4⟩ := b3 bs s0 s1 s4; have s7 := gv hv 2 rfl rfl; refine wt hK3 ?_
  by_cases hc1 : (Int.tmod n 10000 : Int) ≠ (0 : Int)
  · refine ct s7 ((decide_eq_true_iff).2 hc1) ?_
    refine sq fun hK4 => ?_
    refine ro [yV (aggV (vFail 3))] 1 23 z q ow (
      aC (fun hk bs hd => xcall1 rfl rfl (en_louvreref05_Fail _ _)) (fun hk bs hd => rfail_any 3 _) rfl <|
      arm0) fun fa fw bs hv ap z q ow => ?_
    obtain ⟨s0, s1, s4⟩ := b3 bs s0 s1 s4; have s8 := gv hv 0 rfl rfl; refine ws ow 0 0 s4 s8 fun fw ow => ?_; refine wt hK4 ?_; refine wp_ret ?_; refine then_r ?_; refine rs3 s4 (ow.box 0 rfl) q ?_; exact ⟨congrArg (fun v => Ending.returned (aggV v)) (show _ = pow13 x n by unfold pow13; rw [if_pos (by omega)]), ow.kept⟩
  refine cf s7 (decide_eq_true_iff) hc1 ?_; refine wp_skip ?_; refine tn hK2 ?_; refine sq fun hK5 => ?_; refine sq fun hK6 => ?_
  refine ro [yV _, yV _, yV _, yIf (((decide ((x : Int) = (0 : Int))) = true)) (yV (.int .i64 n)), yIf (((decide ((x : Int) = (0 : Int))) = true)) (yV (.bool (decide ((n : Int) < (0 : Int))))), yV _] 6 23 z q ow (
    mvS s0 rfl rfl rfl rfl <|
    aS (fun hk bs hd => xeqi rfl (dp hd 0 rfl) rfl) rfl <|
    mvD 1 rfl rfl rfl rfl rfl rfl <|
    arm (fun aa ww hk bs hd => by
      have d2 := dp hd 2 rfl
      by_cases hz : ((decide ((x : Int) = (0 : Int))) = true)
      · exact stepX_same (v := .int .i64 n) (want1 (j := 2) (b := true) rfl (d2.trans (congrArg Value.bool hz))) (xmove rfl (bg bs s1)) ⟨fun _ => rfl, fun c => absurd hz c⟩ rfl
      · exact stepX_skip (wantN (j := 2) (b := true) (b' := false) rfl (d2.trans (congrArg Value.bool (Bool.eq_false_iff.2 hz))) rfl) ⟨fun c => absurd c hz, fun _ => rfl⟩ rfl
      ) <|
    arm (fun aa ww hk bs hd => by
      have d2 := dp hd 2 rfl; have d3 := dI hd 3 rfl
      by_cases hz : ((decide ((x : Int) = (0 : Int))) = true)
      · exact stepX_same (v := .bool (decide ((n : Int) < (0 : Int)))) (want1 (j := 2) (b := true) rfl (d2.trans (congrArg Value.bool hz))) (xlss rfl (d3.1 hz) rfl) ⟨fun _ => rfl, fun c => absurd hz c⟩ rfl
      · exact stepX_skip (wantN (j := 2) (b := true) (b' := false) rfl (d2.trans (congrArg Value.bool (Bool.eq_false_iff.2 hz))) rfl) ⟨fun c => absurd c hz, fun _ => rfl⟩ rfl
      ) <|
    arm (fun aa ww hk bs hd => by
      have d2 := dp hd 2 rfl; have d4 := dI hd 4 rfl; exact stepX_same (v := .bool ((decide ((x : Int) = (0 : Int))) && (decide ((n : Int) < (0 : Int))))) (want0 rfl) (xand rfl (d2) (fun hb => d4.1 hb) rfl) rfl rfl
      ) <|
    arm0) fun fa fw bs hv ap z q ow => ?_
  obtain ⟨s0, s1, s4⟩ := b3 bs s0 s1 s4; have s14 := gv hv 5 rfl rfl; refine wt hK6 ?_
  by_cases hc2 : ((x : Int) = (0 : Int)) ∧ ((n : Int) < (0 : Int))
  · refine ct s14 ((band (decide_eq_true_iff) (decide_eq_true_iff)).2 hc2) ?_
    refine sq fun hK7 => ?_
    refine ro [yV (aggV (vFail 1))] 1 23 z q ow (
      aC (fun hk bs hd => xcall1 rfl rfl (en_louvreref05_Fail _ _)) (fun hk bs hd => rfail_any 1 _) rfl <|
      arm0) fun fa fw bs hv ap z q ow => ?_
    obtain ⟨s0, s1, s4⟩ := b3 bs s0 s1 s4; have s15 := gv hv 0 rfl rfl; refine ws ow 0 0 s4 s15 fun fw ow => ?_; refine wt hK7 ?_; refine wp_ret ?_; refine then_r ?_; refine rs3 s4 (ow.box 0 rfl) q ?_; exact ⟨congrArg (fun v => Ending.returned (aggV v)) (show _ = pow13 x n by unfold pow13; rw [if_neg (by omega), if_pos (by omega)]), ow.kept⟩
  refine cf s14 (band (decide_eq_true_iff) (decide_eq_true_iff)) hc2 ?_; refine wp_skip ?_; refine tn hK5 ?_; refine sq fun hK8 => ?_
  refine ro [yV _, yV _, yV _, yV (.tuple #[.int .i64 ((dPow x (Int.tdiv n 10000)).1), .bool ((dPow x (Int.tdiv n 10000)).2)]), yV _, yV _, yV (aggV (vRes ((dPow x (Int.tdiv n 10000)).1, (dPow x (Int.tdiv n 10000)).2)))] 7 23 z q ow (
    mvS s0 rfl rfl rfl rfl <|
    mvS s1 rfl rfl rfl rfl <|
    aS (fun hk bs hd => xquo (Or.inr rfl) rfl (dp hd 1 rfl) rfl (by omega) (by omega) (by omega)) rfl <|
    aC (fun hk bs hd => xcall2 rfl (dp hd 0 rfl) (dp hd 2 rfl) (en_louvreref01_Power _ _)) (fun hk bs hd => rpower_any x (Int.tdiv n 10000) _ (by assumption) (by assumption)) rfl <|
    aS (fun hk bs hd => xextract rfl (dp hd 3 rfl) rfl) rfl <|
    aS (fun hk bs hd => xextract rfl (dp hd 3 rfl) rfl) rfl <|
    aC (fun hk bs hd => xcall2 rfl (dp hd 4 rfl) (dp hd 5 rfl) (en_louvreref13_number _ _)) (fun hk bs hd => rnumber13_any ((dPow x (Int.tdiv n 10000)).1) ((dPow x (Int.tdiv n 10000)).2) _ (fun _ => dPow_i64 _ _)) rfl <|
    arm0) fun fa fw bs hv ap z q ow => ?_
  have s4 := bg bs s4; have s22 := gv hv 6 rfl rfl; refine ws ow 0 0 s4 s22 fun fw ow => ?_; refine wt hK8 ?_; refine wp_ret ?_; refine rs3 s4 (ow.box 0 rfl) q ?_; exact ⟨congrArg (fun v => Ending.returned (aggV v)) (show _ = pow13 x n by unfold pow13; rw [if_neg (by omega), if_neg (by omega)]), ow.kept⟩
set_option maxHeartbeats 4000000 in
theorem rmod13_any (x y : Int) (w : World) (hx : -9223372036854775807 ≤ x ∧ x ≤ 9223372036854775807) (hy : -9223372036854775807 ≤ y ∧ y ≤ 9223372036854775807) (h0 : y ≠ 0) :
    Calls Tryz.prog 164 #[.int .i64 x, .int .i64 y] w fun e w' => e = .returned (.int .i64 (mod13 x y)) ∧ Kept w w' := by
  go_enter Tryz.func164, Tryz.ntmps164; refine sq fun hK1 => ?_
  refine ro [yV _] 1 24 rfl rfl (Own.start w) (
    aS (fun hk bs hd => xassign rfl rfl) rfl <|
    arm0) fun fa fw bs hv ap z q ow => ?_
  have s0 := bs.get 0 rfl rfl; have s1 := bs.get 1 rfl rfl; have s4 := gv hv 0 rfl rfl; refine wt hK1 ?_; refine sq fun hK2 => ?_; refine sq fun hK3 => ?_
  refine ro [yV _, yV _] 2 24 z q ow (
    mvS s1 rfl rfl rfl rfl <|
    aS (fun hk bs hd => xeqi rfl (dp hd 0 rfl) rfl) rfl <|
    arm0) fun fa fw bs hv ap z q ow => ?_
  obtain ⟨s0, s1, s4⟩ := b3 bs s0 s1 s4; have s7 := gv hv 1 rfl rfl; refine wt hK3 ?_
  by_cases hc1 : (y : Int) = ((-1) : Int)
  · refine ct s7 ((decide_eq_true_iff).2 hc1) ?_
    refine sq fun hK4 => ?_
    refine ro [yV _] 1 24 z q ow (
      aS (fun hk bs hd => xassign rfl rfl) rfl <|
      arm0) fun fa fw bs hv ap z q ow => ?_
    obtain ⟨s0, s1⟩ := b2 bs s0 s1; have s4 := gv hv 0 rfl rfl; refine wt hK4 ?_; refine wp_ret ?_; refine then_r ?_; refine results_one rfl (res_tmp s4) q ?_; exact ⟨(congrArg (fun n => Ending.returned (.int .i64 n)) (mod13_m1 (by omega))), ow.kept⟩
  refine cf s7 (decide_eq_true_iff) hc1 ?_; refine wp_skip ?_; refine tn hK2 ?_; refine sq fun hK5 => ?_
  refine ro [yV _, yV _, yV _, yV _] 4 24 z q ow (
    mvS s0 rfl rfl rfl rfl <|
    mvS s1 rfl rfl rfl rfl <|
    aS (fun hk bs hd => xremZ (Or.inr rfl) rfl (n := x) (m := y) (dp hd 0 rfl) (dp hd 1 rfl) h0 (by omega) (by omega)) rfl <|
    asD 2 rfl rfl rfl rfl rfl rfl <|
    arm0) fun fa fw bs hv ap z q ow => ?_
  obtain ⟨s1, s4⟩ := b2 bs s1 s4; have s5 := gv hv 3 rfl rfl; refine wt hK5 ?_; refine sq fun hK6 => ?_; refine sq fun hK7 => ?_
  refine ro [yV _, yV _, yV _, yIf (((decide ((Int.tmod x y : Int) ≠ (0 : Int))) = true)) (yV (.int .i64 (Int.tmod x y))), yIf (((decide ((Int.tmod x y : Int) ≠ (0 : Int))) = true)) (yV (.bool (decide ((Int.tmod x y : Int) < (0 : Int))))), yIf (((decide ((Int.tmod x y : Int) ≠ (0 : Int))) = true)) (yV (.int .i64 y)), yIf (((decide ((Int.tmod x y : Int) ≠ (0 : Int))) = true)) (yV (.bool (decide ((y : Int) < (0 : Int))))), yIf (((decide ((Int.tmod x y : Int) ≠ (0 : Int))) = true)) (yV (.bool ((decide ((Int.tmod x y : Int) < (0 : Int))) != (decide ((y : Int) < (0 : Int)))))), yV _] 9 24 z q ow (
    mvS s5 rfl rfl rfl rfl <|
    aS (fun hk bs hd => xnei rfl (dp hd 0 rfl) rfl) rfl <|
    mvD 1 rfl rfl rfl rfl rfl rfl <|
    arm (fun aa ww hk bs hd => by
      have d2 := dp hd 2 rfl
      by_cases hz : ((decide ((Int.tmod x y : Int) ≠ (0 : Int))) = true)
      · exact stepX_same (v := .int .i64 (Int.tmod x y)) (want1 (j := 2) (b := true) rfl (d2.trans (congrArg Value.bool hz))) (xmove rfl (bg bs s5)) ⟨fun _ => rfl, fun c => absurd hz c⟩ rfl
      · exact stepX_skip (wantN (j := 2) (b := true) (b' := false) rfl (d2.trans (congrArg Value.bool (Bool.eq_false_iff.2 hz))) rfl) ⟨fun c => absurd c hz, fun _ => rfl⟩ rfl
      ) <|
    arm (fun aa ww hk bs hd => by
      have d2 := dp hd 2 rfl; have d3 := dI hd 3 rfl
      by_cases hz : ((decide ((Int.tmod x y : Int) ≠ (0 : Int))) = true)
      · exact stepX_same (v := .bool (decide ((Int.tmod x y : Int) < (0 : Int)))) (want1 (j := 2) (b := true) rfl (d2.trans (congrArg Value.bool hz))) (xlss rfl (d3.1 hz) rfl) ⟨fun _ => rfl, fun c => absurd hz c⟩ rfl
      · exact stepX_skip (wantN (j := 2) (b := true) (b' := false) rfl (d2.trans (congrArg Value.bool (Bool.eq_false_iff.2 hz))) rfl) ⟨fun c => absurd c hz, fun _ => rfl⟩ rfl
      ) <|
    arm (fun aa ww hk bs hd => by
      have d2 := dp hd 2 rfl
      by_cases hz : ((decide ((Int.tmod x y : Int) ≠ (0 : Int))) = true)
      · exact stepX_same (v := .int .i64 y) (want1 (j := 2) (b := true) rfl (d2.trans (congrArg Value.bool hz))) (xmove rfl (bg bs s1)) ⟨fun _ => rfl, fun c => absurd hz c⟩ rfl
      · exact stepX_skip (wantN (j := 2) (b := true) (b' := false) rfl (d2.trans (congrArg Value.bool (Bool.eq_false_iff.2 hz))) rfl) ⟨fun c => absurd c hz, fun _ => rfl⟩ rfl
      ) <|
    arm (fun aa ww hk bs hd => by
      have d2 := dp hd 2 rfl; have d5 := dI hd 5 rfl
      by_cases hz : ((decide ((Int.tmod x y : Int) ≠ (0 : Int))) = true)
      · exact stepX_same (v := .bool (decide ((y : Int) < (0 : Int)))) (want1 (j := 2) (b := true) rfl (d2.trans (congrArg Value.bool hz))) (xlss rfl (d5.1 hz) rfl) ⟨fun _ => rfl, fun c => absurd hz c⟩ rfl
      · exact stepX_skip (wantN (j := 2) (b := true) (b' := false) rfl (d2.trans (congrArg Value.bool (Bool.eq_false_iff.2 hz))) rfl) ⟨fun c => absurd c hz, fun _ => rfl⟩ rfl
      ) <|
    arm (fun aa ww hk bs hd => by
      have d2 := dp hd 2 rfl; have d4 := dI hd 4 rfl; have d6 := dI hd 6 rfl
      by_cases hz : ((decide ((Int.tmod x y : Int) ≠ (0 : Int))) = true)
      · exact stepX_same (v := .bool ((decide ((Int.tmod x y : Int) < (0 : Int))) != (decide ((y : Int) < (0 : Int))))) (want1 (j := 2) (b := true) rfl (d2.trans (congrArg Value.bool hz))) (xneB rfl (d4.1 hz) (d6.1 hz)) ⟨fun _ => rfl, fun c => absurd hz c⟩ rfl
      · exact stepX_skip (wantN (j := 2) (b := true) (b' := false) rfl (d2.trans (congrArg Value.bool (Bool.eq_false_iff.2 hz))) rfl) ⟨fun c => absurd c hz, fun _ => rfl⟩ rfl
      ) <|
    arm (fun aa ww hk bs hd => by
      have d2 := dp hd 2 rfl; have d7 := dI hd 7 rfl; exact stepX_same (v := .bool ((decide ((Int.tmod x y : Int) ≠ (0 : Int))) && ((decide ((Int.tmod x y : Int) < (0 : Int))) != (decide ((y : Int) < (0 : Int)))))) (want0 rfl) (xand rfl (d2) (fun hb => d7.1 hb) rfl) rfl rfl
      ) <|
    arm0) fun fa fw bs hv ap z q ow => ?_
  obtain ⟨s1, s4, s5⟩ := b3 bs s1 s4 s5; have s19 := gv hv 8 rfl rfl; refine wt hK7 ?_
  by_cases hc2 : ((Int.tmod x y : Int) ≠ (0 : Int)) ∧ (((decide ((Int.tmod x y : Int) < (0 : Int))) != (decide ((y : Int) < (0 : Int)))) = true)
  · refine ct s19 ((band (decide_eq_true_iff) (Iff.rfl)).2 hc2) ?_
    have hm := hc2
    refine ro [yV _, yV _, yV _] 3 24 z q ow (
      mvS s5 rfl rfl rfl rfl <|
      mvS s1 rfl rfl rfl rfl <|
      aS (fun hk bs hd => xadd (Or.inr rfl) rfl (dp hd 0 rfl) (dp hd 1 rfl) (mod13_sum hx hy hm).1 (mod13_sum hx hy hm).2) rfl <|
      arm0) fun fa fw bs hv ap z q ow => ?_
    obtain ⟨s4, s5⟩ := b2 bs s4 s5; have s22 := gv hv 2 rfl rfl; refine wl_value (v := .int .i64 ((Int.tmod x y) + y)) (want0 rfl) (xassign rfl s22) ?_; refine gp1 z q ow s4 fun fa fw z q ow s4 s5 => ?_; refine wt hK6 ?_; refine sq fun hK8 => ?_
    refine ro [yV _, yV _] 2 24 z q ow (
      mvS s5 rfl rfl rfl rfl <|
      asD 0 rfl rfl rfl rfl rfl rfl <|
      arm0) fun fa fw bs hv ap z q ow => ?_
    have s4 := gv hv 1 rfl rfl; refine wt hK8 ?_; refine wp_ret ?_; refine results_one rfl (res_tmp s4) q ?_; exact ⟨(congrArg (fun n => Ending.returned (.int .i64 n)) (mod13_pos hm)), ow.kept⟩
  refine cf s19 (band (decide_eq_true_iff) (Iff.rfl)) hc2 ?_; have hm := hc2; refine wp_skip ?_; refine tn hK6 ?_; refine sq fun hK9 => ?_
  refine ro [yV _, yV _] 2 24 z q ow (
    mvS s5 rfl rfl rfl rfl <|
    asD 0 rfl rfl rfl rfl rfl rfl <|
    arm0) fun fa fw bs hv ap z q ow => ?_
  have s4 := gv hv 1 rfl rfl; refine wt hK9 ?_; refine wp_ret ?_; refine results_one rfl (res_tmp s4) q ?_; exact ⟨(congrArg (fun n => Ending.returned (.int .i64 n)) (mod13_neg hm)), ow.kept⟩
set_option maxHeartbeats 4000000 in
theorem rnumbers13_any (b0 off0 cap : Nat) (l : List Vl) (w : World) (hr : RowV w (some ⟨b0, off0, none⟩) l) (hs : ∀ v ∈ l, Small v) (hl : l.length ≤ 1000000) :
    Calls Tryz.prog 73 #[.slice (some ⟨b0, off0, none⟩) l.length cap] w fun e w' => RNumOut w l e w' := by
  go_enter Tryz.func73, Tryz.ntmps73; refine sq fun hK1 => ?_
  refine ro [yV _, yNew w.heap.size (.cells #[.int .u8 0, .int .i64 0, .string ⟨[].toArray⟩] 25 (0, 0)), yV _] 3 30 rfl rfl (Own.start w) (
    aS (fun hk bs hd => xassign rfl rfl) rfl <|
    aP (fun hk bs hd => xalloc rfl (by kernel_rfl)) rfl <|
    aS (fun hk bs hd => xassign rfl rfl) rfl <|
    arm0) fun fa fw bs hv ap z q ov => ?_
  have s0 := bs.get 0 rfl rfl; have s2 := gv hv 0 rfl rfl; obtain ⟨gb1, s3, bgb1, hgb1⟩ := gotP hv 1 rfl rfl rfl; have ov := ov.cons hgb1 (Nat.le_trans (Own.start w).kept.size bgb1) ((Own.start w).below bgb1); have s4 := gv hv 2 rfl rfl; have ow := ov; refine wt hK1 ?_; refine sq fun hK2 => ?_
  refine ro [yV _] 1 30 z q ow (
    aS (fun hk bs hd => xassign rfl rfl) rfl <|
    arm0) fun fa fw bs hv ap z q ow => ?_
  obtain ⟨s0, s2, s3, s4⟩ := b4 bs s0 s2 s3 s4; have s5 := gv hv 0 rfl rfl; refine wt hK2 ?_; refine sq fun hK3 => ?_; refine sq fun hK4 => ?_
  refine ro [yV _] 1 30 z q ow (
    aS (fun hk bs hd => xassign rfl rfl) rfl <|
    arm0) fun fa fw bs hv ap z q ow => ?_
  obtain ⟨s0, s2, s3, s4, s5⟩ := b5 bs s0 s2 s3 s4 s5; have s6 := gv hv 0 rfl rfl; refine wt hK4 ?_; refine wp_block ?_; refine wp_loop_g (fun (k : Nat) fr u => ∃ (va : Value), (k ≤ l.length) ∧ (firstE ((l.take k).map vNum) = none) ∧ fr.tmps.size = 30 ∧ fr.defers = [] ∧ Own w [Th.row w.heap.size 2 1 va ((((l.take k).map fun v => (vNum v).n).map numV).length) (((l.take k).map fun v => (vNum v).n).map numV), Th.obj gb1 (.cells #[.int .u8 0, .int .i64 0, .string ⟨[].toArray⟩] 25 (0, 0))] u ∧ fr.eval (.tmp 0) = .slice (some ⟨b0, off0, none⟩) l.length cap ∧ fr.eval (.tmp 3) = .pointer (some ⟨gb1, 0, none⟩) ∧ fr.eval (.tmp 5) = va ∧ fr.eval (.tmp 6) = .int .i64 (k : Int)) (fun k => l.length - k) 0 ⟨(.slice none 0 0), (Nat.zero_le _), rfl, z, q, (ow.nil 2 1), s0, s3, s5, s6⟩ (fun k b_ u_ hI => ?_)
  revert b_ u_; intro fa fw hI
  obtain ⟨va, hk, hfe, z, q, ow, s0, s3, s5, s6⟩ := hI; refine sq fun hK5 => ?_; refine sq fun hK6 => ?_
  refine ro [yV _, yV _, yV _, yV _] 4 30 z q ow (
    mvS s6 rfl rfl rfl rfl <|
    mvS s0 rfl rfl rfl rfl <|
    aS (fun hk bs hd => xlen Tryz.underlying22 rfl (dp hd 1 rfl)) rfl <|
    aS (fun hk bs hd => xlss rfl (dp hd 0 rfl) (dp hd 2 rfl)) rfl <|
    arm0) fun fa fw bs hv ap z q ow => ?_
  obtain ⟨s0, s3, s5, s6⟩ := b4 bs s0 s3 s5 s6; have s11 := gv hv 3 rfl rfl; refine wt hK6 ?_
  by_cases hc1 : (k : Int) < ((l.length : Nat) : Int)
  · refine ct s11 ((decide_eq_true_iff).2 hc1) ?_
    refine wp_skip ?_; refine tn hK5 ?_; refine sq fun hK7 => ?_; refine wp_block ?_; refine sq fun hK8 => ?_; have hlt : k < l.length := by omega
    have hsk : Small (l.getD k blankV) := hs _ (by rw [show l.getD k blankV = l[k] by simp [List.getD, hlt]]; exact List.getElem_mem hlt)
    refine ro [yV _, yV _, yV _, yV (aggV (l.getD k blankV)), yV (aggV (vNum (l.getD k blankV))), yNew fw.heap.size (.cells #[.int .u8 0, .int .i64 0, .string ⟨[].toArray⟩] 25 (0, 0))] 6 30 z q ow (
      mvS s0 rfl rfl rfl rfl <|
      mvS s6 rfl rfl rfl rfl <|
      aS (fun hk bs hd => xplaceV rfl (k := k) (dp hd 0 rfl) (dp hd 1 rfl) hlt) rfl <|
      aS (fun hk bs hd => xatV rfl (l := l) (k := k) (dp hd 2 rfl) (hr.kept (ow.keep hk).kept) hlt) rfl <|
      aC (fun hk bs hd => xcall1 rfl (dp hd 3 rfl) (en_louvreref05_ToNumber _ _)) (fun hk bs hd => rtonum_any (l.getD k blankV) _ hsk.1 hsk.2) rfl <|
      aP (fun hk bs hd => xalloc rfl (by kernel_rfl)) rfl <|
      arm0) fun fa fw bs hv ap z q ov => ?_
    obtain ⟨s0, s3, s5, s6⟩ := b4 bs s0 s3 s5 s6; have s18 := gv hv 4 rfl rfl; obtain ⟨gb2, s7, bgb2, hgb2⟩ := gotP hv 5 rfl rfl rfl; have ov := ov.cons hgb2 (Nat.le_trans ow.kept.size bgb2) (ow.below bgb2); have ow := ov; refine ws ow 0 0 s7 s18 fun fw ow => ?_; refine wt hK8 ?_; refine sq fun hK9 => ?_; refine sq fun hK10 => ?_
    refine ro [yV (.pointer (some ⟨gb2, 0, none⟩)), yV _, yV _] 3 30 z q ow (
      aS (fun hk bs hd => xfieldAddr rfl (bg bs s7) (by kernel_rfl)) rfl <|
      aS (fun hk bs hd => xloadB rfl (by kernel_rfl) (dp hd 0 rfl) ((ow.keep hk).box 0 rfl) rfl) rfl <|
      aS (fun hk bs hd => xeqi rfl (dp hd 1 rfl) rfl) rfl <|
      arm0) fun fa fw bs hv ap z q ow => ?_
    obtain ⟨s0, s3, s5, s6, s7⟩ := b5 bs s0 s3 s5 s6 s7; have s21 := gv hv 2 rfl rfl; refine wt hK10 ?_
    by_cases hc2 : ((vNum (l.getD k blankV)).k : Int) = (4 : Int)
    · refine ct s21 ((decide_eq_true_iff).2 hc2) ?_
      have hye : isE (vNum (l.getD k blankV)) = true := isE_yes hc2; refine sq fun hK11 => ?_
      refine ro [yV (aggV (vNum (l.getD k blankV))), yV _] 2 30 z q ow (
        aS (fun hk bs hd => xloadN 3 rfl (by kernel_rfl) (by kernel_rfl) (bg bs s7) ((ow.keep hk).box 0 rfl) (Nat.le_of_ble_eq_true rfl) rfl) rfl <|
        aS (fun hk bs hd => xassign rfl rfl) rfl <|
        arm0) fun fa fw bs hv ap z q ow => ?_
      obtain ⟨s0, s3, s5, s6, s7⟩ := b5 bs s0 s3 s5 s6 s7; have s22 := gv hv 0 rfl rfl; have s2 := gv hv 1 rfl rfl; refine ws ow 2 0 s3 s22 fun fw ow => ?_; refine wl_value (v := .bool false) (want0 rfl) (xassign rfl rfl) ?_; refine gp6 z q ow s0 s3 s5 s6 s7 s2 fun fa fw z q ow s0 s3 s5 s6 s7 s2 s4 => ?_; refine wt hK11 ?_; refine wp_ret ?_; refine then_r ?_; refine block_r ?_; refine then_r ?_; refine then_r ?_; refine block_r ?_; refine then_r ?_; refine resultsL (v := .tuple #[.slice none 0 0, aggV (vNum (l.getD k blankV)), .bool false]) rfl (.cons (res_tmp s2) (.cons (res_cell (n := 3) _ s3 (by kernel_rfl) (by kernel_rfl) (ow.box 2 rfl) (Nat.le_of_ble_eq_true rfl) rfl) (.cons (res_tmp s4) .nil))) rfl q ?_; exact ⟨_, vNum (l.getD k blankV), false, rfl, ow.kept, Or.inl ⟨rfl, firstN_more hlt hfe hye⟩⟩
    refine cf s21 (decide_eq_true_iff) hc2 ?_; have hne : isE (vNum (l.getD k blankV)) = false := isE_no hc2; refine wp_skip ?_; refine tn hK9 ?_
    refine ro [yV _, yV (.pointer (some ⟨gb2, 1, none⟩)), yV _, ySlice fw.heap.size 1 (.cells #[.int .i64 ((vNum (l.getD k blankV)).n)] 2 (0, 0))] 4 30 z q ow (
      mvS s5 rfl rfl rfl rfl <|
      aS (fun hk bs hd => xfieldAddr rfl (bg bs s7) (by kernel_rfl)) rfl <|
      aS (fun hk bs hd => xloadB rfl (by kernel_rfl) (dp hd 1 rfl) ((ow.keep hk).box 0 rfl) rfl) rfl <|
      arm (fun aa ww hk bs hd => by
        have d2 : aa.eval (.tmp 25) = .int .i64 ((vNum (l.getD k blankV)).n) := depX hd 2 rfl; exact stepX_new _ (want0 rfl) (xbuildSlice (us := #[(0, .int .i64 ((vNum (l.getD k blankV)).n))]) (b := .cells #[.int .i64 ((vNum (l.getD k blankV)).n)] 2 (0, 0)) rfl (by simp only [List.map_toArray, List.map_cons, List.map_nil, d2]) (by kernel_rfl)) ⟨_, rfl, hk.size, Go.heap_alloc_new _ _⟩ ((Kept.refl _).alloc _) rfl (Nat.le_refl _)
        ) <|
      arm0) fun fa fw bs hv ap z q ov => ?_
    obtain ⟨s0, s3, s5, s6⟩ := b4 bs s0 s3 s5 s6; have s23 := gv hv 0 rfl rfl; obtain ⟨gb3, s26, bgb3, hgb3⟩ := gotL hv 3 rfl rfl rfl; have ov := ov.cons hgb3 (Nat.le_trans ow.kept.size bgb3) (ow.below bgb3); have ow := ov; refine wl_appendC (by_ := 8) (want0 rfl) (l := ((l.take k).map fun v => (vNum v).n).map numV) (u := (numV ((vNum (l.getD k blankV)).n))) rfl Tryz.underlying72 (info_one _ _ _ (by kernel_rfl) rfl) s23 s26 (ow.row 2 rfl) (ow.get 0 rfl) rfl (by simp only [List.length_map, List.length_take]; omega) (by decide) ow.kept.size (fun vr1 fw1 ho hg hb => ?_); have ow := ow.turn 2 rfl (t' := Th.row w.heap.size 2 1 vr1 ((((l.take k).map fun v => (vNum v).n).map numV ++ [(numV ((vNum (l.getD k blankV)).n))]).length) (((l.take k).map fun v => (vNum v).n).map numV ++ [(numV ((vNum (l.getD k blankV)).n))])) ho hg (turn_new hb); clear ho hg hb; refine wl_value (v := vr1) (want0 rfl) (xassign rfl (put_in (t := 27) z rfl)) ?_; refine gt4 (put_size (put_size z)) (put_def (put_def q)) ow 0 (pb 5 (pb 27 s0 rfl) rfl) 3 (pb 5 (pb 27 s3 rfl) rfl) 6 (pb 5 (pb 27 s6 rfl) rfl) 5 (put_in (t := 5) (put_size z) rfl) fun fa fw z q ow s0 s3 s6 s5 => ?_; refine wl_end ?_; refine block_n ?_; refine tn hK7 ?_
    refine ro [yV _, yV (.int .i64 ((k + 1 : Nat) : Int))] 2 30 z q ow (
      mvS s6 rfl rfl rfl rfl <|
      aS (fun hk bs hd => xadd (Or.inl rfl) rfl (dp hd 0 rfl) rfl (by omega) (by omega)) rfl <|
      arm0) fun fa fw bs hv ap z q ow => ?_
    obtain ⟨s0, s3, s6, s5⟩ := b4 bs s0 s3 s6 s5; have s13 := gv hv 1 rfl rfl; refine wl_value (v := .int .i64 ((k + 1 : Nat) : Int)) (want0 rfl) (xassign rfl s13) ?_; refine gp3 z q ow s0 s3 s5 fun fa fw z q ow s0 s3 s5 s6 => ?_; refine wl_end ?_; exact then_n ⟨(k + 1), ⟨vr1, hlt, (firstN_next hlt hfe hne), z, q, (by rw [nextN13 hlt]; exact ow.tail.tail), s0, s3, s5, s6⟩, (show l.length - (k + 1) < l.length - k by omega)⟩
  refine cf s11 (decide_eq_true_iff) hc1 ?_; refine wp_exit ?_; refine then_e ?_; refine then_e ?_; refine block_hit ?_; refine tn hK3 ?_; refine sq fun hK12 => ?_
  refine ro [yV _, yV (aggV (⟨0, 0, []⟩ : Vl)), yV _] 3 30 z q ow (
    mvS s5 rfl rfl rfl rfl <|
    aS (fun hk bs hd => xbuild (us := #[]) rfl (by simp) (by kernel_rfl)) rfl <|
    asD 0 rfl rfl rfl rfl rfl rfl <|
    arm0) fun fa fw bs hv ap z q ow => ?_
  have s3 := bg bs s3; have s29 := gv hv 1 rfl rfl; have s2 := gv hv 2 rfl rfl; refine ws ow 1 0 s3 s29 fun fw ow => ?_; refine wl_value (v := .bool true) (want0 rfl) (xassign rfl rfl) ?_; refine gp2 z q ow s3 s2 fun fa fw z q ow s3 s2 s4 => ?_; refine wt hK12 ?_; refine wp_ret ?_; refine resultsL (v := .tuple #[va, aggV (⟨0, 0, []⟩ : Vl), .bool true]) rfl (.cons (res_tmp s2) (.cons (res_cell (n := 3) _ s3 (by kernel_rfl) (by kernel_rfl) (ow.box 1 rfl) (Nat.le_of_ble_eq_true rfl) rfl) (.cons (res_tmp s4) .nil))) rfl q ?_; have hkl : k = l.length := by omega
  subst hkl; rw [List.take_length] at hfe; have oo := Own.one ow; rw [List.take_length] at oo; exact ⟨_, (⟨0, 0, []⟩ : Vl), true, rfl, ow.kept, Or.inr ⟨rfl, hfe, oo⟩⟩
set_option maxHeartbeats 4000000 in
theorem rvalue13_1 (fn : Nat) (x : Int) (nb no cn : Nat) (w : World) (hn : RowC w (some ⟨nb, no, none⟩) [.int .i64 x]) (h1 : 1 ≤ fn) (h2 : fn ≤ 8) (ht : two13 fn = false) (hx : -9223372036854775807 ≤ x ∧ x ≤ 9223372036854775807) :
    Calls Tryz.prog 74 #[.int .u8 fn, .slice (some ⟨nb, no, none⟩) 1 cn] w fun e w' => e = .returned (aggV (val13 fn x 0)) ∧ Kept w w' := by
  have ix : i64 x := ⟨by omega, by omega⟩; have it : i64 (dTrunc x) := dTrunc_in ix; have sg := sgn13_in x; have it1 := it.1; have it2 := it.2; have nt : fn ≠ 5 ∧ fn ≠ 6 ∧ fn ≠ 7 := two13_no ht; go_enter Tryz.func74, Tryz.ntmps74; refine sq fun hK1 => ?_
  refine ro [yNew w.heap.size (.cells #[.int .u8 0, .int .i64 0, .string ⟨[].toArray⟩] 25 (0, 0))] 1 74 rfl rfl (Own.start w) (
    aP (fun hk bs hd => xalloc rfl (by kernel_rfl)) rfl <|
    arm0) fun fa fw bs hv ap z q ov => ?_
  have s0 := bs.get 0 rfl rfl; have s1 := bs.get 1 rfl rfl; obtain ⟨gb1, s4, bgb1, hgb1⟩ := gotP hv 0 rfl rfl rfl; have ov := ov.cons hgb1 (Nat.le_trans (Own.start w).kept.size bgb1) ((Own.start w).below bgb1); have ow := ov; refine wt hK1 ?_; refine sq fun hK2 => ?_
  refine ro [yV _, yV _, yV _, yV _] 4 74 z q ow (
    mvS s1 rfl rfl rfl rfl <|
    aS (fun hk bs hd => xindexAddr (u := .slice (some ⟨nb, no, none⟩) 1 cn) (z := .int .i64 ((0 : Nat) : Int)) rfl (dp hd 0 rfl) rfl (run_place1 Tryz.underlying72 (by kernel_rfl) (by omega))) rfl <|
    aS (fun hk bs hd => xloadC rfl (by kernel_rfl) (dp hd 1 rfl) ((hn.kept (ow.keep hk).kept).at_ (k := 0) rfl)) rfl <|
    asD 2 rfl rfl rfl rfl rfl rfl <|
    arm0) fun fa fw bs hv ap z q ow => ?_
  obtain ⟨s0, s1, s4⟩ := b3 bs s0 s1 s4; have s5 := gv hv 3 rfl rfl; refine wt hK2 ?_; refine sq fun hK3 => ?_; refine sq fun hK4 => ?_
  refine ro [yV _] 1 74 z q ow (
    mvS s0 rfl rfl rfl rfl <|
    arm0) fun fa fw bs hv ap z q ow => ?_
  obtain ⟨s1, s4, s5⟩ := b3 bs s1 s4 s5; have s10 := gv hv 0 rfl rfl; refine wt hK4 ?_; refine wp_block ?_; refine sq fun hK5 => ?_
  refine ro [yV _, yV _] 2 74 z q ow (
    aS (fun hk bs hd => xeqi rfl (bg bs s10) rfl) rfl <|
    asD 0 rfl rfl rfl rfl rfl rfl <|
    arm0) fun fa fw bs hv ap z q ow => ?_
  obtain ⟨s1, s4, s5, s10⟩ := b4 bs s1 s4 s5 s10; have s11 := gv hv 1 rfl rfl; refine wt hK5 ?_
  by_cases hc1 : (fn : Int) = (1 : Int)
  · refine ct s11 ((decide_eq_true_iff).2 hc1) ?_
    refine sq fun hK6 => ?_
    refine ro [yV _, yV _, yV _, yV _, yV (aggV (vMake (max x (-x))))] 5 74 z q ow (
      mvS s5 rfl rfl rfl rfl <|
      mvS s5 rfl rfl rfl rfl <|
      aS (fun hk bs hd => xneg (Or.inr rfl) rfl (n := x) (dp hd 1 rfl) (by omega) (by omega)) rfl <|
      aS (fun hk bs hd => xmaxI rfl (Or.inr rfl) (dp hd 0 rfl) (dp hd 2 rfl)) rfl <|
      aC (fun hk bs hd => xcall1 rfl (dp hd 3 rfl) (en_louvreref05_Make _ _)) (fun hk bs hd => rmake_any (max x (-x)) _ (by omega) (by omega)) rfl <|
      arm0) fun fa fw bs hv ap z q ow => ?_
    obtain ⟨s4, s5⟩ := b2 bs s4 s5; have s17 := gv hv 4 rfl rfl; refine ws ow 0 0 s4 s17 fun fw ow => ?_; refine wt hK6 ?_; refine wp_ret ?_; refine block_r ?_; refine then_r ?_; refine rs3 s4 (ow.box 0 rfl) q ?_; exact ⟨congrArg (fun v => Ending.returned (aggV v)) (show _ = val13 fn x 0 by have e : fn = 1 := (by omega); subst e; rfl), ow.kept⟩
  refine cf s11 (decide_eq_true_iff) hc1 ?_; refine sq fun hK7 => ?_
  refine ro [yV _, yV _] 2 74 z q ow (
    aS (fun hk bs hd => xeqi rfl (bg bs s10) rfl) rfl <|
    asD 0 rfl rfl rfl rfl rfl rfl <|
    arm0) fun fa fw bs hv ap z q ow => ?_
  obtain ⟨s1, s4, s5, s10⟩ := b4 bs s1 s4 s5 s10; have s18 := gv hv 1 rfl rfl; refine wt hK7 ?_
  by_cases hc2 : (fn : Int) = (2 : Int)
  · refine ct s18 ((decide_eq_true_iff).2 hc2) ?_
    refine sq fun hK8 => ?_
    refine ro [yV _, yV (.int .i64 (sgn13 x * 10000)), yV (aggV (vMake (sgn13 x * 10000)))] 3 74 z q ow (
      mvS s5 rfl rfl rfl rfl <|
      aC (fun hk bs hd => xcall1 rfl (dp hd 0 rfl) (en_louvreref13_sign _ _)) (fun hk bs hd => rsign13_any x _) rfl <|
      aC (fun hk bs hd => xcall1 rfl (dp hd 1 rfl) (en_louvreref05_Make _ _)) (fun hk bs hd => rmake_any (sgn13 x * 10000) _ (by omega) (by omega)) rfl <|
      arm0) fun fa fw bs hv ap z q ow => ?_
    obtain ⟨s4, s5⟩ := b2 bs s4 s5; have s22 := gv hv 2 rfl rfl; refine ws ow 0 0 s4 s22 fun fw ow => ?_; refine wt hK8 ?_; refine wp_ret ?_; refine block_r ?_; refine then_r ?_; refine rs3 s4 (ow.box 0 rfl) q ?_; exact ⟨congrArg (fun v => Ending.returned (aggV v)) (show _ = val13 fn x 0 by have e : fn = 2 := (by omega); subst e; rfl), ow.kept⟩
  refine cf s18 (decide_eq_true_iff) hc2 ?_; refine sq fun hK9 => ?_
  refine ro [yV _, yV _] 2 74 z q ow (
    aS (fun hk bs hd => xeqi rfl (bg bs s10) rfl) rfl <|
    asD 0 rfl rfl rfl rfl rfl rfl <|
    arm0) fun fa fw bs hv ap z q ow => ?_
  obtain ⟨s1, s4, s5, s10⟩ := b4 bs s1 s4 s5 s10; have s23 := gv hv 1 rfl rfl; refine wt hK9 ?_
  by_cases hc3 : (fn : Int) = (3 : Int)
  · refine ct s23 ((decide_eq_true_iff).2 hc3) ?_
    refine sq fun hK10 => ?_
    refine ro [yV _, yV (.tuple #[.int .i64 ((dFloor x).1), .bool ((dFloor x).2)]), yV _, yV _, yV (aggV (vRes ((dFloor x).1, (dFloor x).2)))] 5 74 z q ow (
      mvS s5 rfl rfl rfl rfl <|
      aC (fun hk bs hd => xcall1 rfl (dp hd 0 rfl) (en_louvreref01_Floor _ _)) (fun hk bs hd => rfloor_any x _ (by assumption)) rfl <|
      aS (fun hk bs hd => xextract rfl (dp hd 1 rfl) rfl) rfl <|
      aS (fun hk bs hd => xextract rfl (dp hd 1 rfl) rfl) rfl <|
      aC (fun hk bs hd => xcall2 rfl (dp hd 2 rfl) (dp hd 3 rfl) (en_louvreref13_number _ _)) (fun hk bs hd => rnumber13_any ((dFloor x).1) ((dFloor x).2) _ (fun _ => by first | exact dFloor_i64 ix | exact dRound_i64 | exact dSqrt_in ix)) rfl <|
      arm0) fun fa fw bs hv ap z q ow => ?_
    obtain ⟨s4, s5⟩ := b2 bs s4 s5; have s29 := gv hv 4 rfl rfl; refine ws ow 0 0 s4 s29 fun fw ow => ?_; refine wt hK10 ?_; refine wp_ret ?_; refine block_r ?_; refine then_r ?_; refine rs3 s4 (ow.box 0 rfl) q ?_; exact ⟨congrArg (fun v => Ending.returned (aggV v)) (show _ = val13 fn x 0 by have e : fn = 3 := (by omega); subst e; rfl), ow.kept⟩
  refine cf s23 (decide_eq_true_iff) hc3 ?_; refine sq fun hK11 => ?_
  refine ro [yV _, yV _] 2 74 z q ow (
    aS (fun hk bs hd => xeqi rfl (bg bs s10) rfl) rfl <|
    asD 0 rfl rfl rfl rfl rfl rfl <|
    arm0) fun fa fw bs hv ap z q ow => ?_
  obtain ⟨s1, s4, s5, s10⟩ := b4 bs s1 s4 s5 s10; have s30 := gv hv 1 rfl rfl; refine wt hK11 ?_
  by_cases hc4 : (fn : Int) = (4 : Int)
  · refine ct s30 ((decide_eq_true_iff).2 hc4) ?_
    refine sq fun hK12 => ?_
    refine ro [yV _, yV (.int .i64 (dTrunc x)), yV (aggV (vMake (dTrunc x)))] 3 74 z q ow (
      mvS s5 rfl rfl rfl rfl <|
      aC (fun hk bs hd => xcall1 rfl (dp hd 0 rfl) (en_louvreref01_Trunc _ _)) (fun hk bs hd => same_kept (rtrunc_any x _ (by assumption))) rfl <|
      aC (fun hk bs hd => xcall1 rfl (dp hd 1 rfl) (en_louvreref05_Make _ _)) (fun hk bs hd => rmake_any (dTrunc x) _ (by omega) (by omega)) rfl <|
      arm0) fun fa fw bs hv ap z q ow => ?_
    obtain ⟨s4, s5⟩ := b2 bs s4 s5; have s34 := gv hv 2 rfl rfl; refine ws ow 0 0 s4 s34 fun fw ow => ?_; refine wt hK12 ?_; refine wp_ret ?_; refine block_r ?_; refine then_r ?_; refine rs3 s4 (ow.box 0 rfl) q ?_; exact ⟨congrArg (fun v => Ending.returned (aggV v)) (show _ = val13 fn x 0 by have e : fn = 4 := (by omega); subst e; rfl), ow.kept⟩
  refine cf s30 (decide_eq_true_iff) hc4 ?_; refine sq fun hK13 => ?_
  refine ro [yV _, yV _] 2 74 z q ow (
    aS (fun hk bs hd => xeqi rfl (bg bs s10) rfl) rfl <|
    asD 0 rfl rfl rfl rfl rfl rfl <|
    arm0) fun fa fw bs hv ap z q ow => ?_
  obtain ⟨s1, s4, s5, s10⟩ := b4 bs s1 s4 s5 s10; have s35 := gv hv 1 rfl rfl; refine wt hK13 ?_
  by_cases hc5 : (fn : Int) = (5 : Int)
  · refine ct s35 ((decide_eq_true_iff).2 hc5) ?_
    refine sq fun hK14 => ?_; exact absurd nt (by omega)
  refine cf s35 (decide_eq_true_iff) hc5 ?_; refine sq fun hK15 => ?_
  refine ro [yV _, yV _] 2 74 z q ow (
    aS (fun hk bs hd => xeqi rfl (bg bs s10) rfl) rfl <|
    asD 0 rfl rfl rfl rfl rfl rfl <|
    arm0) fun fa fw bs hv ap z q ow => ?_
  obtain ⟨s1, s4, s5, s10⟩ := b4 bs s1 s4 s5 s10; have s49 := gv hv 1 rfl rfl; refine wt hK15 ?_
  by_cases hc6 : (fn : Int) = (6 : Int)
  · refine ct s49 ((decide_eq_true_iff).2 hc6) ?_
    refine sq fun hK16 => ?_; refine sq fun hK17 => ?_; exact absurd nt (by omega)
  refine cf s49 (decide_eq_true_iff) hc6 ?_; refine sq fun hK18 => ?_
  refine ro [yV _, yV _] 2 74 z q ow (
    aS (fun hk bs hd => xeqi rfl (bg bs s10) rfl) rfl <|
    asD 0 rfl rfl rfl rfl rfl rfl <|
    arm0) fun fa fw bs hv ap z q ow => ?_
  obtain ⟨s1, s4, s5⟩ := b3 bs s1 s4 s5; have s62 := gv hv 1 rfl rfl; refine wt hK18 ?_
  by_cases hc7 : (fn : Int) = (7 : Int)
  · refine ct s62 ((decide_eq_true_iff).2 hc7) ?_
    refine sq fun hK19 => ?_; exact absurd nt (by omega)
  refine cf s62 (decide_eq_true_iff) hc7 ?_; refine wp_skip ?_; refine block_n ?_; refine tn hK3 ?_; refine sq fun hK20 => ?_
  refine ro [yV _, yV (.tuple #[.int .i64 ((dSqrt x).1), .bool ((dSqrt x).2)]), yV _, yV _, yV (aggV (vRes ((dSqrt x).1, (dSqrt x).2)))] 5 74 z q ow (
    mvS s5 rfl rfl rfl rfl <|
    aC (fun hk bs hd => xcall1 rfl (dp hd 0 rfl) (en_louvreref01_Sqrt _ _)) (fun hk bs hd => rsqrt_any x _ (by assumption)) rfl <|
    aS (fun hk bs hd => xextract rfl (dp hd 1 rfl) rfl) rfl <|
    aS (fun hk bs hd => xextract rfl (dp hd 1 rfl) rfl) rfl <|
    aC (fun hk bs hd => xcall2 rfl (dp hd 2 rfl) (dp hd 3 rfl) (en_louvreref13_number _ _)) (fun hk bs hd => rnumber13_any ((dSqrt x).1) ((dSqrt x).2) _ (fun _ => by first | exact dFloor_i64 ix | exact dRound_i64 | exact dSqrt_in ix)) rfl <|
    arm0) fun fa fw bs hv ap z q ow => ?_
  have s4 := bg bs s4; have s73 := gv hv 4 rfl rfl; refine ws ow 0 0 s4 s73 fun fw ow => ?_; refine wt hK20 ?_; refine wp_ret ?_; refine rs3 s4 (ow.box 0 rfl) q ?_; exact ⟨congrArg (fun v => Ending.returned (aggV v)) (show _ = val13 fn x 0 by have e : fn = 8 := (by omega); subst e; exact sqrt13 x), ow.kept⟩
set_option maxHeartbeats 4000000 in
theorem rvalue13_2 (fn : Nat) (x y : Int) (nb no cn : Nat) (w : World) (hn : RowC w (some ⟨nb, no, none⟩) [.int .i64 x, .int .i64 y]) (h1 : 1 ≤ fn) (h2 : fn ≤ 8) (ht : two13 fn = true) (hx : -9223372036854775807 ≤ x ∧ x ≤ 9223372036854775807) (hy : -9223372036854775807 ≤ y ∧ y ≤ 9223372036854775807) :
    Calls Tryz.prog 74 #[.int .u8 fn, .slice (some ⟨nb, no, none⟩) 2 cn] w fun e w' => e = .returned (aggV (val13 fn x y)) ∧ Kept w w' := by
  have ix : i64 x := ⟨by omega, by omega⟩; have it : i64 (dTrunc x) := dTrunc_in ix; have sg := sgn13_in x; have it1 := it.1; have it2 := it.2; have nt : fn = 5 ∨ fn = 6 ∨ fn = 7 := two13_yes ht; have iy : i64 y := ⟨by omega, by omega⟩; have im := mod13_in hx hy; have im1 := im.1; have im2 := im.2; have ir : i64 (min (max (Int.tdiv y 10000) (-20)) 4) := ⟨by omega, by omega⟩; go_enter Tryz.func74, Tryz.ntmps74; refine sq fun hK1 => ?_
  refine ro [yNew w.heap.size (.cells #[.int .u8 0, .int .i64 0, .string ⟨[].toArray⟩] 25 (0, 0))] 1 74 rfl rfl (Own.start w) (
    aP (fun hk bs hd => xalloc rfl (by kernel_rfl)) rfl <|
    arm0) fun fa fw bs hv ap z q ov => ?_
  have s0 := bs.get 0 rfl rfl; have s1 := bs.get 1 rfl rfl; obtain ⟨gb1, s4, bgb1, hgb1⟩ := gotP hv 0 rfl rfl rfl; have ov := ov.cons hgb1 (Nat.le_trans (Own.start w).kept.size bgb1) ((Own.start w).below bgb1); have ow := ov; refine wt hK1 ?_; refine sq fun hK2 => ?_
  refine ro [yV _, yV _, yV _, yV _] 4 74 z q ow (
    mvS s1 rfl rfl rfl rfl <|
    aS (fun hk bs hd => xindexAddr (u := .slice (some ⟨nb, no, none⟩) 2 cn) (z := .int .i64 ((0 : Nat) : Int)) rfl (dp hd 0 rfl) rfl (run_place1 Tryz.underlying72 (by kernel_rfl) (by omega))) rfl <|
    aS (fun hk bs hd => xloadC rfl (by kernel_rfl) (dp hd 1 rfl) ((hn.kept (ow.keep hk).kept).at_ (k := 0) rfl)) rfl <|
    asD 2 rfl rfl rfl rfl rfl rfl <|
    arm0) fun fa fw bs hv ap z q ow => ?_
  obtain ⟨s0, s1, s4⟩ := b3 bs s0 s1 s4; have s5 := gv hv 3 rfl rfl; refine wt hK2 ?_; refine sq fun hK3 => ?_; refine sq fun hK4 => ?_
  refine ro [yV _] 1 74 z q ow (
    mvS s0 rfl rfl rfl rfl <|
    arm0) fun fa fw bs hv ap z q ow => ?_
  obtain ⟨s1, s4, s5⟩ := b3 bs s1 s4 s5; have s10 := gv hv 0 rfl rfl; refine wt hK4 ?_; refine wp_block ?_; refine sq fun hK5 => ?_
  refine ro [yV _, yV _] 2 74 z q ow (
    aS (fun hk bs hd => xeqi rfl (bg bs s10) rfl) rfl <|
    asD 0 rfl rfl rfl rfl rfl rfl <|
    arm0) fun fa fw bs hv ap z q ow => ?_
  obtain ⟨s1, s4, s5, s10⟩ := b4 bs s1 s4 s5 s10; have s11 := gv hv 1 rfl rfl; refine wt hK5 ?_
  by_cases hc1 : (fn : Int) = (1 : Int)
  · refine ct s11 ((decide_eq_true_iff).2 hc1) ?_
    refine sq fun hK6 => ?_
    refine ro [yV _, yV _, yV _, yV _, yV (aggV (vMake (max x (-x))))] 5 74 z q ow (
      mvS s5 rfl rfl rfl rfl <|
      mvS s5 rfl rfl rfl rfl <|
      aS (fun hk bs hd => xneg (Or.inr rfl) rfl (n := x) (dp hd 1 rfl) (by omega) (by omega)) rfl <|
      aS (fun hk bs hd => xmaxI rfl (Or.inr rfl) (dp hd 0 rfl) (dp hd 2 rfl)) rfl <|
      aC (fun hk bs hd => xcall1 rfl (dp hd 3 rfl) (en_louvreref05_Make _ _)) (fun hk bs hd => rmake_any (max x (-x)) _ (by omega) (by omega)) rfl <|
      arm0) fun fa fw bs hv ap z q ow => ?_
    obtain ⟨s4, s5⟩ := b2 bs s4 s5; have s17 := gv hv 4 rfl rfl; refine ws ow 0 0 s4 s17 fun fw ow => ?_; refine wt hK6 ?_; refine wp_ret ?_; refine block_r ?_; refine then_r ?_; refine rs3 s4 (ow.box 0 rfl) q ?_; exact ⟨congrArg (fun v => Ending.returned (aggV v)) (show _ = val13 fn x y by have e : fn = 1 := (by omega); subst e; rfl), ow.kept⟩
  refine cf s11 (decide_eq_true_iff) hc1 ?_; refine sq fun hK7 => ?_
  refine ro [yV _, yV _] 2 74 z q ow (
    aS (fun hk bs hd => xeqi rfl (bg bs s10) rfl) rfl <|
    asD 0 rfl rfl rfl rfl rfl rfl <|
    arm0) fun fa fw bs hv ap z q ow => ?_
  obtain ⟨s1, s4, s5, s10⟩ := b4 bs s1 s4 s5 s10; have s18 := gv hv 1 rfl rfl; refine wt hK7 ?_
  by_cases hc2 : (fn : Int) = (2 : Int)
  · refine ct s18 ((decide_eq_true_iff).2 hc2) ?_
    refine sq fun hK8 => ?_
    refine ro [yV _, yV (.int .i64 (sgn13 x * 10000)), yV (aggV (vMake (sgn13 x * 10000)))] 3 74 z q ow (
      mvS s5 rfl rfl rfl rfl <|
      aC (fun hk bs hd => xcall1 rfl (dp hd 0 rfl) (en_louvreref13_sign _ _)) (fun hk bs hd => rsign13_any x _) rfl <|
      aC (fun hk bs hd => xcall1 rfl (dp hd 1 rfl) (en_louvreref05_Make _ _)) (fun hk bs hd => rmake_any (sgn13 x * 10000) _ (by omega) (by omega)) rfl <|
      arm0) fun fa fw bs hv ap z q ow => ?_
    obtain ⟨s4, s5⟩ := b2 bs s4 s5; have s22 := gv hv 2 rfl rfl; refine ws ow 0 0 s4 s22 fun fw ow => ?_; refine wt hK8 ?_; refine wp_ret ?_; refine block_r ?_; refine then_r ?_; refine rs3 s4 (ow.box 0 rfl) q ?_; exact ⟨congrArg (fun v => Ending.returned (aggV v)) (show _ = val13 fn x y by have e : fn = 2 := (by omega); subst e; rfl), ow.kept⟩
  refine cf s18 (decide_eq_true_iff) hc2 ?_; refine sq fun hK9 => ?_
  refine ro [yV _, yV _] 2 74 z q ow (
    aS (fun hk bs hd => xeqi rfl (bg bs s10) rfl) rfl <|
    asD 0 rfl rfl rfl rfl rfl rfl <|
    arm0) fun fa fw bs hv ap z q ow => ?_
  obtain ⟨s1, s4, s5, s10⟩ := b4 bs s1 s4 s5 s10; have s23 := gv hv 1 rfl rfl; refine wt hK9 ?_
  by_cases hc3 : (fn : Int) = (3 : Int)
  · refine ct s23 ((decide_eq_true_iff).2 hc3) ?_
    refine sq fun hK10 => ?_
    refine ro [yV _, yV (.tuple #[.int .i64 ((dFloor x).1), .bool ((dFloor x).2)]), yV _, yV _, yV (aggV (vRes ((dFloor x).1, (dFloor x).2)))] 5 74 z q ow (
      mvS s5 rfl rfl rfl rfl <|
      aC (fun hk bs hd => xcall1 rfl (dp hd 0 rfl) (en_louvreref01_Floor _ _)) (fun hk bs hd => rfloor_any x _ (by assumption)) rfl <|
      aS (fun hk bs hd => xextract rfl (dp hd 1 rfl) rfl) rfl <|
      aS (fun hk bs hd => xextract rfl (dp hd 1 rfl) rfl) rfl <|
      aC (fun hk bs hd => xcall2 rfl (dp hd 2 rfl) (dp hd 3 rfl) (en_louvreref13_number _ _)) (fun hk bs hd => rnumber13_any ((dFloor x).1) ((dFloor x).2) _ (fun _ => by first | exact dFloor_i64 ix | exact dRound_i64 | exact dSqrt_in ix)) rfl <|
      arm0) fun fa fw bs hv ap z q ow => ?_
    obtain ⟨s4, s5⟩ := b2 bs s4 s5; have s29 := gv hv 4 rfl rfl; refine ws ow 0 0 s4 s29 fun fw ow => ?_; refine wt hK10 ?_; refine wp_ret ?_; refine block_r ?_; refine then_r ?_; refine rs3 s4 (ow.box 0 rfl) q ?_; exact ⟨congrArg (fun v => Ending.returned (aggV v)) (show _ = val13 fn x y by have e : fn = 3 := (by omega); subst e; rfl), ow.kept⟩
  refine cf s23 (decide_eq_true_iff) hc3 ?_; refine sq fun hK11 => ?_
  refine ro [yV _, yV _] 2 74 z q ow (
    aS (fun hk bs hd => xeqi rfl (bg bs s10) rfl) rfl <|
    asD 0 rfl rfl rfl rfl rfl rfl <|
    arm0) fun fa fw bs hv ap z q ow => ?_
  obtain ⟨s1, s4, s5, s10⟩ := b4 bs s1 s4 s5 s10; have s30 := gv hv 1 rfl rfl; refine wt hK11 ?_
  by_cases hc4 : (fn : Int) = (4 : Int)
  · refine ct s30 ((decide_eq_true_iff).2 hc4) ?_
    refine sq fun hK12 => ?_
    refine ro [yV _, yV (.int .i64 (dTrunc x)), yV (aggV (vMake (dTrunc x)))] 3 74 z q ow (
      mvS s5 rfl rfl rfl rfl <|
      aC (fun hk bs hd => xcall1 rfl (dp hd 0 rfl) (en_louvreref01_Trunc _ _)) (fun hk bs hd => same_kept (rtrunc_any x _ (by assumption))) rfl <|
      aC (fun hk bs hd => xcall1 rfl (dp hd 1 rfl) (en_louvreref05_Make _ _)) (fun hk bs hd => rmake_any (dTrunc x) _ (by omega) (by omega)) rfl <|
      arm0) fun fa fw bs hv ap z q ow => ?_
    obtain ⟨s4, s5⟩ := b2 bs s4 s5; have s34 := gv hv 2 rfl rfl; refine ws ow 0 0 s4 s34 fun fw ow => ?_; refine wt hK12 ?_; refine wp_ret ?_; refine block_r ?_; refine then_r ?_; refine rs3 s4 (ow.box 0 rfl) q ?_; exact ⟨congrArg (fun v => Ending.returned (aggV v)) (show _ = val13 fn x y by have e : fn = 4 := (by omega); subst e; rfl), ow.kept⟩
  refine cf s30 (decide_eq_true_iff) hc4 ?_; refine sq fun hK13 => ?_
  refine ro [yV _, yV _] 2 74 z q ow (
    aS (fun hk bs hd => xeqi rfl (bg bs s10) rfl) rfl <|
    asD 0 rfl rfl rfl rfl rfl rfl <|
    arm0) fun fa fw bs hv ap z q ow => ?_
  obtain ⟨s1, s4, s5, s10⟩ := b4 bs s1 s4 s5 s10; have s35 := gv hv 1 rfl rfl; refine wt hK13 ?_
  by_cases hc5 : (fn : Int) = (5 : Int)
  · refine ct s35 ((decide_eq_true_iff).2 hc5) ?_
    refine sq fun hK14 => ?_
    refine ro [yV _, yV _, yV _, yV _, yV _, yV _, yV _] 7 74 z q ow (
      mvS s1 rfl rfl rfl rfl <|
      aS (fun hk bs hd => xindexAddr (u := .slice (some ⟨nb, no, none⟩) 2 cn) (z := .int .i64 ((1 : Nat) : Int)) rfl (dp hd 0 rfl) rfl (run_place1 Tryz.underlying72 (by kernel_rfl) (by omega))) rfl <|
      aS (fun hk bs hd => xloadC rfl (by kernel_rfl) (dp hd 1 rfl) ((hn.kept (ow.keep hk).kept).at_ (k := 1) rfl)) rfl <|
      aS (fun hk bs hd => xquo (Or.inr rfl) rfl (dp hd 2 rfl) rfl (by decide) (by omega) (by omega)) rfl <|
      aS (fun hk bs hd => xmaxI rfl (Or.inr rfl) (dp hd 3 rfl) rfl) rfl <|
      aS (fun hk bs hd => xminI rfl (Or.inr rfl) (dp hd 4 rfl) rfl) rfl <|
      asD 5 rfl rfl rfl rfl rfl rfl <|
      arm0) fun fa fw bs hv ap z q ow => ?_
    obtain ⟨s4, s5⟩ := b2 bs s4 s5; have s6 := gv hv 6 rfl rfl; refine wt hK14 ?_; refine sq fun hK15 => ?_
    refine ro [yV _, yV _, yV (.tuple #[.int .i64 ((dRound x (min (max (Int.tdiv y 10000) (-20)) 4)).1), .bool ((dRound x (min (max (Int.tdiv y 10000) (-20)) 4)).2)]), yV _, yV _, yV (aggV (vRes ((dRound x (min (max (Int.tdiv y 10000) (-20)) 4)).1, (dRound x (min (max (Int.tdiv y 10000) (-20)) 4)).2)))] 6 74 z q ow (
      mvS s5 rfl rfl rfl rfl <|
      mvS s6 rfl rfl rfl rfl <|
      aC (fun hk bs hd => xcall2 rfl (dp hd 0 rfl) (dp hd 1 rfl) (en_louvreref01_Round _ _)) (fun hk bs hd => rround_any x (min (max (Int.tdiv y 10000) (-20)) 4) _ (by assumption) (by assumption)) rfl <|
      aS (fun hk bs hd => xextract rfl (dp hd 2 rfl) rfl) rfl <|
      aS (fun hk bs hd => xextract rfl (dp hd 2 rfl) rfl) rfl <|
      aC (fun hk bs hd => xcall2 rfl (dp hd 3 rfl) (dp hd 4 rfl) (en_louvreref13_number _ _)) (fun hk bs hd => rnumber13_any ((dRound x (min (max (Int.tdiv y 10000) (-20)) 4)).1) ((dRound x (min (max (Int.tdiv y 10000) (-20)) 4)).2) _ (fun _ => by first | exact dFloor_i64 ix | exact dRound_i64 | exact dSqrt_in ix)) rfl <|
      arm0) fun fa fw bs hv ap z q ow => ?_
    obtain ⟨s4, s5⟩ := b2 bs s4 s5; have s48 := gv hv 5 rfl rfl; refine ws ow 0 0 s4 s48 fun fw ow => ?_; refine wt hK15 ?_; refine wp_ret ?_; refine block_r ?_; refine then_r ?_; refine rs3 s4 (ow.box 0 rfl) q ?_; exact ⟨congrArg (fun v => Ending.returned (aggV v)) (show _ = val13 fn x y by have e : fn = 5 := (by omega); subst e; rfl), ow.kept⟩
  refine cf s35 (decide_eq_true_iff) hc5 ?_; refine sq fun hK16 => ?_
  refine ro [yV _, yV _] 2 74 z q ow (
    aS (fun hk bs hd => xeqi rfl (bg bs s10) rfl) rfl <|
    asD 0 rfl rfl rfl rfl rfl rfl <|
    arm0) fun fa fw bs hv ap z q ow => ?_
  obtain ⟨s1, s4, s5, s10⟩ := b4 bs s1 s4 s5 s10; have s49 := gv hv 1 rfl rfl; refine wt hK16 ?_
  by_cases hc6 : (fn : Int) = (6 : Int)
  · refine ct s49 ((decide_eq_true_iff).2 hc6) ?_
    refine sq fun hK17 => ?_; refine sq fun hK18 => ?_
    refine ro [yV _, yV _, yV _, yV _] 4 74 z q ow (
      mvS s1 rfl rfl rfl rfl <|
      aS (fun hk bs hd => xindexAddr (u := .slice (some ⟨nb, no, none⟩) 2 cn) (z := .int .i64 ((1 : Nat) : Int)) rfl (dp hd 0 rfl) rfl (run_place1 Tryz.underlying72 (by kernel_rfl) (by omega))) rfl <|
      aS (fun hk bs hd => xloadC rfl (by kernel_rfl) (dp hd 1 rfl) ((hn.kept (ow.keep hk).kept).at_ (k := 1) rfl)) rfl <|
      aS (fun hk bs hd => xeqi rfl (dp hd 2 rfl) rfl) rfl <|
      arm0) fun fa fw bs hv ap z q ow => ?_
    obtain ⟨s1, s4, s5⟩ := b3 bs s1 s4 s5; have s54 := gv hv 3 rfl rfl; refine wt hK18 ?_
    by_cases hc7 : (y : Int) = (0 : Int)
    · refine ct s54 ((decide_eq_true_iff).2 hc7) ?_
      refine sq fun hK19 => ?_
      refine ro [yV (aggV (vFail 1))] 1 74 z q ow (
        aC (fun hk bs hd => xcall1 rfl rfl (en_louvreref05_Fail _ _)) (fun hk bs hd => rfail_any 1 _) rfl <|
        arm0) fun fa fw bs hv ap z q ow => ?_
      obtain ⟨s1, s4, s5⟩ := b3 bs s1 s4 s5; have s55 := gv hv 0 rfl rfl; refine ws ow 0 0 s4 s55 fun fw ow => ?_; refine wt hK19 ?_; refine wp_ret ?_; refine then_r ?_; refine block_r ?_; refine then_r ?_; refine rs3 s4 (ow.box 0 rfl) q ?_; exact ⟨congrArg (fun v => Ending.returned (aggV v)) (show _ = val13 fn x y by have e : fn = 6 := (by omega); subst e; show _ = if y = 0 then _ else _; rw [if_pos (by omega)]), ow.kept⟩
    refine cf s54 (decide_eq_true_iff) hc7 ?_; refine wp_skip ?_; refine tn hK17 ?_; refine sq fun hK20 => ?_
    refine ro [yV _, yV _, yV _, yV _, yV (.int .i64 (mod13 x y)), yV (aggV (vMake (mod13 x y)))] 6 74 z q ow (
      mvS s5 rfl rfl rfl rfl <|
      mvS s1 rfl rfl rfl rfl <|
      aS (fun hk bs hd => xindexAddr (u := .slice (some ⟨nb, no, none⟩) 2 cn) (z := .int .i64 ((1 : Nat) : Int)) rfl (dp hd 1 rfl) rfl (run_place1 Tryz.underlying72 (by kernel_rfl) (by omega))) rfl <|
      aS (fun hk bs hd => xloadC rfl (by kernel_rfl) (dp hd 2 rfl) ((hn.kept (ow.keep hk).kept).at_ (k := 1) rfl)) rfl <|
      aC (fun hk bs hd => xcall2 rfl (dp hd 0 rfl) (dp hd 3 rfl) (en_louvreref13_mod _ _)) (fun hk bs hd => rmod13_any x y _ hx hy (by omega)) rfl <|
      aC (fun hk bs hd => xcall1 rfl (dp hd 4 rfl) (en_louvreref05_Make _ _)) (fun hk bs hd => rmake_any (mod13 x y) _ (by omega) (by omega)) rfl <|
      arm0) fun fa fw bs hv ap z q ow => ?_
    obtain ⟨s4, s5⟩ := b2 bs s4 s5; have s61 := gv hv 5 rfl rfl; refine ws ow 0 0 s4 s61 fun fw ow => ?_; refine wt hK20 ?_; refine wp_ret ?_; refine block_r ?_; refine then_r ?_; refine rs3 s4 (ow.box 0 rfl) q ?_; exact ⟨congrArg (fun v => Ending.returned (aggV v)) (show _ = val13 fn x y by have e : fn = 6 := (by omega); subst e; show _ = if y = 0 then _ else _; rw [if_neg (by omega)]), ow.kept⟩
  refine cf s49 (decide_eq_true_iff) hc6 ?_; refine sq fun hK21 => ?_
  refine ro [yV _, yV _] 2 74 z q ow (
    aS (fun hk bs hd => xeqi rfl (bg bs s10) rfl) rfl <|
    asD 0 rfl rfl rfl rfl rfl rfl <|
    arm0) fun fa fw bs hv ap z q ow => ?_
  obtain ⟨s1, s4, s5⟩ := b3 bs s1 s4 s5; have s62 := gv hv 1 rfl rfl; refine wt hK21 ?_
  by_cases hc8 : (fn : Int) = (7 : Int)
  · refine ct s62 ((decide_eq_true_iff).2 hc8) ?_
    refine sq fun hK22 => ?_
    refine ro [yV _, yV _, yV _, yV _, yV (aggV (pow13 x y))] 5 74 z q ow (
      mvS s5 rfl rfl rfl rfl <|
      mvS s1 rfl rfl rfl rfl <|
      aS (fun hk bs hd => xindexAddr (u := .slice (some ⟨nb, no, none⟩) 2 cn) (z := .int .i64 ((1 : Nat) : Int)) rfl (dp hd 1 rfl) rfl (run_place1 Tryz.underlying72 (by kernel_rfl) (by omega))) rfl <|
      aS (fun hk bs hd => xloadC rfl (by kernel_rfl) (dp hd 2 rfl) ((hn.kept (ow.keep hk).kept).at_ (k := 1) rfl)) rfl <|
      aC (fun hk bs hd => xcall2 rfl (dp hd 0 rfl) (dp hd 3 rfl) (en_louvreref13_power _ _)) (fun hk bs hd => rpower13_any x y _ (by assumption) (by assumption)) rfl <|
      arm0) fun fa fw bs hv ap z q ow => ?_
    obtain ⟨s4, s5⟩ := b2 bs s4 s5; have s68 := gv hv 4 rfl rfl; refine ws ow 0 0 s4 s68 fun fw ow => ?_; refine wt hK22 ?_; refine wp_ret ?_; refine block_r ?_; refine then_r ?_; refine rs3 s4 (ow.box 0 rfl) q ?_; exact ⟨congrArg (fun v => Ending.returned (aggV v)) (show _ = val13 fn x y by have e : fn = 7 := (by omega); subst e; rfl), ow.kept⟩
  refine cf s62 (decide_eq_true_iff) hc8 ?_; refine wp_skip ?_; refine block_n ?_; refine tn hK3 ?_; refine sq fun hK23 => ?_
  refine ro [yV _, yV (.tuple #[.int .i64 ((dSqrt x).1), .bool ((dSqrt x).2)]), yV _, yV _, yV (aggV (vRes ((dSqrt x).1, (dSqrt x).2)))] 5 74 z q ow (
    mvS s5 rfl rfl rfl rfl <|
    aC (fun hk bs hd => xcall1 rfl (dp hd 0 rfl) (en_louvreref01_Sqrt _ _)) (fun hk bs hd => rsqrt_any x _ (by assumption)) rfl <|
    aS (fun hk bs hd => xextract rfl (dp hd 1 rfl) rfl) rfl <|
    aS (fun hk bs hd => xextract rfl (dp hd 1 rfl) rfl) rfl <|
    aC (fun hk bs hd => xcall2 rfl (dp hd 2 rfl) (dp hd 3 rfl) (en_louvreref13_number _ _)) (fun hk bs hd => rnumber13_any ((dSqrt x).1) ((dSqrt x).2) _ (fun _ => by first | exact dFloor_i64 ix | exact dRound_i64 | exact dSqrt_in ix)) rfl <|
    arm0) fun fa fw bs hv ap z q ow => ?_
  have s4 := bg bs s4; have s73 := gv hv 4 rfl rfl; refine ws ow 0 0 s4 s73 fun fw ow => ?_; refine wt hK23 ?_; refine wp_ret ?_; refine rs3 s4 (ow.box 0 rfl) q ?_; exact ⟨congrArg (fun v => Ending.returned (aggV v)) (show _ = val13 fn x y by have e : fn = 8 := (by omega); subst e; exact sqrt13 x), ow.kept⟩
set_option maxHeartbeats 8000000 in
theorem rcall13_two (fn : Nat) (A : Option Addr) (cap : Nat) (l : List Vl) (w : World) (hr : RowV w A l) (hs : ∀ v ∈ l, Small v) (h2 : two13 fn = true) :
    Calls Tryz.prog 28 #[.int .u8 fn, .slice A l.length cap] w fun e w' => e = .returned (.tuple #[aggV (vCall13 fn l).1, .int .i64 (vCall13 fn l).2]) ∧ Kept w w' := by
  go_enter Tryz.func28, Tryz.ntmps28; refine sq fun hK1 => ?_
  refine ro [yNew w.heap.size (.cells #[.int .u8 0, .int .i64 0, .string ⟨[].toArray⟩] 25 (0, 0)), yV _] 2 38 rfl rfl (Own.start w) (
    aP (fun hk bs hd => xalloc rfl (by kernel_rfl)) rfl <|
    aS (fun hk bs hd => xassign rfl rfl) rfl <|
    arm0) fun fa fw bs hv ap z q ov => ?_
  have s0 := bs.get 0 rfl rfl; have s1 := bs.get 1 rfl rfl; obtain ⟨gb1, s4, bgb1, hgb1⟩ := gotP hv 0 rfl rfl rfl; have ov := ov.cons hgb1 (Nat.le_trans (Own.start w).kept.size bgb1) ((Own.start w).below bgb1); have s5 := gv hv 1 rfl rfl; have ow := ov; refine wt hK1 ?_; refine sq fun hK2 => ?_; refine sq fun hK3 => ?_
  refine ro [yV _, yV _, yV _, yIf (((decide ((fn : Int) < (1 : Int))) = false)) (yV (.int .u8 (fn : Int))), yIf (((decide ((fn : Int) < (1 : Int))) = false)) (yV (.bool (decide ((8 : Int) < (fn : Int))))), yV _] 6 38 z q ow (
    mvS s0 rfl rfl rfl rfl <|
    aS (fun hk bs hd => xlss rfl (dp hd 0 rfl) rfl) rfl <|
    mvD 1 rfl rfl rfl rfl rfl rfl <|
    arm (fun aa ww hk bs hd => by
      have d2 := dp hd 2 rfl
      by_cases hz : ((decide ((fn : Int) < (1 : Int))) = false)
      · exact stepX_same (v := .int .u8 (fn : Int)) (want1 (j := 2) (b := false) rfl (d2.trans (congrArg Value.bool hz))) (xmove rfl (bg bs s0)) ⟨fun _ => rfl, fun c => absurd hz c⟩ rfl
      · exact stepX_skip (wantN (j := 2) (b := false) (b' := true) rfl (d2.trans (congrArg Value.bool ((Bool.not_eq_false _).mp hz))) rfl) ⟨fun c => absurd c hz, fun _ => rfl⟩ rfl
      ) <|
    arm (fun aa ww hk bs hd => by
      have d2 := dp hd 2 rfl; have d3 := dI hd 3 rfl
      by_cases hz : ((decide ((fn : Int) < (1 : Int))) = false)
      · exact stepX_same (v := .bool (decide ((8 : Int) < (fn : Int)))) (want1 (j := 2) (b := false) rfl (d2.trans (congrArg Value.bool hz))) (xgtr rfl (d3.1 hz) rfl) ⟨fun _ => rfl, fun c => absurd hz c⟩ rfl
      · exact stepX_skip (wantN (j := 2) (b := false) (b' := true) rfl (d2.trans (congrArg Value.bool ((Bool.not_eq_false _).mp hz))) rfl) ⟨fun c => absurd c hz, fun _ => rfl⟩ rfl
      ) <|
    arm (fun aa ww hk bs hd => by
      have d2 := dp hd 2 rfl; have d4 := dI hd 4 rfl; exact stepX_same (v := .bool ((decide ((fn : Int) < (1 : Int))) || (decide ((8 : Int) < (fn : Int))))) (want0 rfl) (xor_ rfl (d2) rfl (fun hb => d4.1 hb)) rfl rfl
      ) <|
    arm0) fun fa fw bs hv ap z q ow => ?_
  obtain ⟨s0, s1, s4, s5⟩ := b4 bs s0 s1 s4 s5; have s14 := gv hv 5 rfl rfl; refine wt hK3 ?_
  by_cases hc1 : ((fn : Int) < (1 : Int)) ∨ ((8 : Int) < (fn : Int))
  · refine ct s14 ((bor (decide_eq_true_iff) (decide_eq_true_iff)).2 hc1) ?_
    refine sq fun hK4 => ?_
    refine ro [yV (aggV (⟨0, 0, []⟩ : Vl))] 1 38 z q ow (
      aS (fun hk bs hd => xbuild (us := #[]) rfl (by simp) (by kernel_rfl)) rfl <|
      arm0) fun fa fw bs hv ap z q ow => ?_
    obtain ⟨s0, s1, s4, s5⟩ := b4 bs s0 s1 s4 s5; have s15 := gv hv 0 rfl rfl; refine ws ow 0 0 s4 s15 fun fw ow => ?_; refine wl_value (v := .int .i64 10) (want0 rfl) (xassign rfl rfl) ?_; refine gp3 z q ow s0 s1 s4 fun fa fw z q ow s0 s1 s4 s5 => ?_; refine wt hK4 ?_; refine wp_ret ?_; refine then_r ?_; refine resultsL (v := .tuple #[aggV (⟨0, 0, []⟩ : Vl), .int .i64 10]) rfl (.cons (res_cell (n := 3) _ s4 (by kernel_rfl) (by kernel_rfl) (ow.box 0 rfl) (Nat.le_of_ble_eq_true rfl) rfl) (.cons (res_tmp s5) .nil)) rfl q ?_; exact ⟨ret_pair13 (v13_name (by omega)), ow.kept⟩
  refine cf s14 (bor (decide_eq_true_iff) (decide_eq_true_iff)) hc1 ?_; refine wp_skip ?_; refine tn hK2 ?_; refine sq fun hK5 => ?_; refine sq fun hK6 => ?_
  refine ro [yV _, yV _, yV _, yV (.bool (decide (l.length = 2))), yV _] 5 38 z q ow (
    mvS s0 rfl rfl rfl rfl <|
    mvS s1 rfl rfl rfl rfl <|
    aS (fun hk bs hd => xlen Tryz.underlying22 rfl (dp hd 1 rfl)) rfl <|
    aC (fun hk bs hd => xcall2 rfl (dp hd 0 rfl) (dp hd 2 rfl) (en_louvreref13_Count _ _)) (fun {_ ww} hk bs hd => (by have h := count13n_any fn (by omega) (by omega) l.length ww; rw [h2] at h; exact h)) rfl <|
    aS (fun hk bs hd => xnot rfl (dp hd 3 rfl)) rfl <|
    arm0) fun fa fw bs hv ap z q ow => ?_
  obtain ⟨s0, s1, s4, s5⟩ := b4 bs s0 s1 s4 s5; have s20 := gv hv 4 rfl rfl; refine wt hK6 ?_
  by_cases hc2 : ¬ (l.length = 2)
  · refine ct s20 ((bnot (decide_eq_true_iff)).2 hc2) ?_
    have hlen : ¬ (l.length = 2) := by simpa using hc2
    refine sq fun hK7 => ?_
    refine ro [yV (aggV (⟨0, 0, []⟩ : Vl))] 1 38 z q ow (
      aS (fun hk bs hd => xbuild (us := #[]) rfl (by simp) (by kernel_rfl)) rfl <|
      arm0) fun fa fw bs hv ap z q ow => ?_
    obtain ⟨s0, s1, s4, s5⟩ := b4 bs s0 s1 s4 s5; have s21 := gv hv 0 rfl rfl; refine ws ow 0 0 s4 s21 fun fw ow => ?_; refine wl_value (v := .int .i64 11) (want0 rfl) (xassign rfl rfl) ?_; refine gp3 z q ow s0 s1 s4 fun fa fw z q ow s0 s1 s4 s5 => ?_; refine wt hK7 ?_; refine wp_ret ?_; refine then_r ?_; refine resultsL (v := .tuple #[aggV (⟨0, 0, []⟩ : Vl), .int .i64 11]) rfl (.cons (res_cell (n := 3) _ s4 (by kernel_rfl) (by kernel_rfl) (ow.box 0 rfl) (Nat.le_of_ble_eq_true rfl) rfl) (.cons (res_tmp s5) .nil)) rfl q ?_; exact ⟨ret_pair13 (v13_count (by omega) (by rw [h2]; exact hlen)), ow.kept⟩
  refine cf s20 (bnot (decide_eq_true_iff)) hc2 ?_; have hlen : l.length = 2 := by simpa using hc2
  refine wp_skip ?_; refine tn hK5 ?_; refine sq fun hK8 => ?_; refine sq fun hK9 => ?_; obtain ⟨v, u, rfl⟩ := len_two hlen; obtain ⟨b0, off0, rfl, _⟩ := hr 0 (Nat.zero_lt_succ _); have s_v : Small v := hs _ (by simp); have s_u : Small u := hs _ (by simp)
  refine ro [yV _, yV (.bool ([v, u].all vOk)), yV _] 3 38 z q ow (
    mvS s1 rfl rfl rfl rfl <|
    aC (fun hk bs hd => xcall1 rfl (dp hd 0 rfl) (en_louvreref13_Valid _ _)) (fun hk bs hd => valid13_any (some ⟨b0, off0, none⟩) cap [v, u] _ (hr.kept (ow.keep hk).kept) hs (by simp)) rfl <|
    aS (fun hk bs hd => xnot rfl (dp hd 1 rfl)) rfl <|
    arm0) fun fa fw bs hv ap z q ow => ?_
  obtain ⟨s0, s1, s4, s5⟩ := b4 bs s0 s1 s4 s5; have s24 := gv hv 2 rfl rfl; refine wt hK9 ?_
  by_cases hc3 : ¬ (([v, u].all vOk) = true)
  · refine ct s24 ((bnot (Iff.rfl)).2 hc3) ?_
    have hval : [v, u].all vOk = false := by simpa using hc3
    refine sq fun hK10 => ?_
    refine ro [yV (aggV (⟨0, 0, []⟩ : Vl))] 1 38 z q ow (
      aS (fun hk bs hd => xbuild (us := #[]) rfl (by simp) (by kernel_rfl)) rfl <|
      arm0) fun fa fw bs hv ap z q ow => ?_
    obtain ⟨s0, s1, s4, s5⟩ := b4 bs s0 s1 s4 s5; have s25 := gv hv 0 rfl rfl; refine ws ow 0 0 s4 s25 fun fw ow => ?_; refine wl_value (v := .int .i64 2) (want0 rfl) (xassign rfl rfl) ?_; refine gp3 z q ow s0 s1 s4 fun fa fw z q ow s0 s1 s4 s5 => ?_; refine wt hK10 ?_; refine wp_ret ?_; refine then_r ?_; refine resultsL (v := .tuple #[aggV (⟨0, 0, []⟩ : Vl), .int .i64 2]) rfl (.cons (res_cell (n := 3) _ s4 (by kernel_rfl) (by kernel_rfl) (ow.box 0 rfl) (Nat.le_of_ble_eq_true rfl) rfl) (.cons (res_tmp s5) .nil)) rfl q ?_; exact ⟨ret_pair13 (v13_arg (by omega) (by rw [h2]; rfl) hval), ow.kept⟩
  refine cf s24 (bnot (Iff.rfl)) hc3 ?_; have hval : [v, u].all vOk = true := by simpa using hc3
  refine wp_skip ?_; refine tn hK8 ?_; refine sq fun hK11 => ?_
  refine ro [yV _] 1 38 z q ow (
    mvS s1 rfl rfl rfl rfl <|
    arm0) fun fa fw bs hv ap z q ow => ?_
  obtain ⟨s0, s4, s5⟩ := b3 bs s0 s4 s5; have s27 := gv hv 0 rfl rfl; refine wl_enter (want0 rfl) (xcall1 (u := .slice (some ⟨b0, off0, none⟩) 2 cap) rfl s27 (en_louvreref13_Numbers _ _)) ((rnumbers13_any b0 off0 cap [v, u] _ (hr.kept ow.kept) hs (by simp)).mono ?_); rintro _ fw ⟨nv, x, ok, rfl, hk, hcv⟩; refine ⟨_, rfl, ?_⟩; rcases hcv with ⟨rfl, hfst⟩ | ⟨rfl, hfst, hown⟩
  · skip
    have ow := ow.keep hk; clear hk; refine wl_value (v := .tuple #[nv, aggV x, .bool false]) (want0 rfl) (xmove rfl (put_in (t := 28) z rfl)) ?_; refine wl_value (v := nv) (want0 rfl) (xextract rfl (put_in (t := 26) (put_size z) rfl) rfl) ?_; refine wl_value (v := aggV x) (want0 rfl) (xextract rfl (pb 29 (put_in (t := 26) (put_size z) rfl) rfl) rfl) ?_; refine wl_value (v := .bool false) (want0 rfl) (xextract rfl (pb 30 (pb 29 (put_in (t := 26) (put_size z) rfl) rfl) rfl) rfl) ?_; refine wl_newP ow (want0 rfl) (xalloc (b := .cells #[.int .u8 0, .int .i64 0, .string ⟨[].toArray⟩] 25 (0, 0)) rfl (by kernel_rfl)) fun gb2 fw ow => ?_; refine gt7 (put_size (put_size (put_size (put_size (put_size (put_size z)))))) (put_def (put_def (put_def (put_def (put_def (put_def q)))))) ow 0 (pb 7 (pb 31 (pb 30 (pb 29 (pb 26 (pb 28 s0 rfl) rfl) rfl) rfl) rfl) rfl) 4 (pb 7 (pb 31 (pb 30 (pb 29 (pb 26 (pb 28 s4 rfl) rfl) rfl) rfl) rfl) rfl) 5 (pb 7 (pb 31 (pb 30 (pb 29 (pb 26 (pb 28 s5 rfl) rfl) rfl) rfl) rfl) rfl) 29 (pb 7 (pb 31 (pb 30 (put_in (t := 29) (put_size (put_size z)) rfl) rfl) rfl) rfl) 30 (pb 7 (pb 31 (put_in (t := 30) (put_size (put_size (put_size z))) rfl) rfl) rfl) 31 (pb 7 (put_in (t := 31) (put_size (put_size (put_size (put_size z)))) rfl) rfl) 7 (put_in (t := 7) (put_size (put_size (put_size (put_size (put_size z))))) rfl) fun fa fw z q ow s0 s4 s5 s29 s30 s31 s7 => ?_; refine wl_value (v := nv) (want0 rfl) (xassign rfl s29) ?_; refine wl_store ow 0 0 (want0 rfl) rfl rfl (pb 6 s7 rfl) (pb 6 s30 rfl) (by kernel_rfl) rfl rfl rfl fun fw ow => ?_
    refine wl_value (v := .bool false) (want0 rfl) (xassign rfl (pb 6 s31 rfl)) ?_; refine gt6 (put_size (put_size z)) (put_def (put_def q)) ow 0 (pb 8 (pb 6 s0 rfl) rfl) 4 (pb 8 (pb 6 s4 rfl) rfl) 5 (pb 8 (pb 6 s5 rfl) rfl) 7 (pb 8 (pb 6 s7 rfl) rfl) 6 (pb 8 (put_in (t := 6) z rfl) rfl) 8 (put_in (t := 8) (put_size z) rfl) fun fa fw z q ow s0 s4 s5 s7 s6 s8 => ?_; refine wt hK11 ?_; refine sq fun hK12 => ?_; refine sq fun hK13 => ?_
    refine ro [yV _, yV _] 2 38 z q ow (
      mvS s8 rfl rfl rfl rfl <|
      aS (fun hk bs hd => xnot rfl (dp hd 0 rfl)) rfl <|
      arm0) fun fa fw bs hv ap z q ow => ?_
    obtain ⟨s0, s4, s5, s7, s6⟩ := b5 bs s0 s4 s5 s7 s6; have s33 := gv hv 1 rfl rfl; refine wt hK13 ?_; refine wp_cond_true (s33) ?_; refine sq fun hK14 => ?_
    refine ro [yV (aggV x)] 1 38 z q ow (
      aS (fun hk bs hd => xloadN 3 rfl (by kernel_rfl) (by kernel_rfl) (bg bs s7) ((ow.keep hk).box 0 rfl) (Nat.le_of_ble_eq_true rfl) rfl) rfl <|
      arm0) fun fa fw bs hv ap z q ow => ?_
    obtain ⟨s0, s4, s5, s6⟩ := b4 bs s0 s4 s5 s6; have s34 := gv hv 0 rfl rfl; refine ws ow 1 0 s4 s34 fun fw ow => ?_; refine wl_value (v := .int .i64 0) (want0 rfl) (xassign rfl rfl) ?_; refine gp3 z q ow s0 s4 s6 fun fa fw z q ow s0 s4 s6 s5 => ?_; refine wt hK14 ?_; refine wp_ret ?_; refine then_r ?_; refine resultsL (v := .tuple #[aggV x, .int .i64 0]) rfl (.cons (res_cell (n := 3) _ s4 (by kernel_rfl) (by kernel_rfl) (ow.box 1 rfl) (Nat.le_of_ble_eq_true rfl) rfl) (.cons (res_tmp s5) .nil)) rfl q ?_; exact ⟨ret_pair13 (v13_err (by omega) (by rw [h2]; rfl) hval hfst), ow.kept⟩
  have ow := ow.join hown; clear hk hown; obtain ⟨A2, n2, rfl⟩ := row_slice (ow.row 0 rfl); obtain ⟨b1, off1, rfl⟩ : ∃ b off, A2 = some ⟨b, off, none⟩ := (RowC.of_own (ow.row 0 rfl)).1.some (Nat.zero_lt_succ _); have hn0 : isE (vNum v) = false := none_1 hfst; have r0 := num_range hn0 s_v.1; have i0 : i64 (vNum v).n := ⟨by omega, by omega⟩; have hn1 : isE (vNum u) = false := none_2 hfst; have r1 := num_range hn1 s_u.1; have i1 : i64 (vNum u).n := ⟨by omega, by omega⟩; refine wl_value (v := .tuple #[.slice (some ⟨b1, off1, none⟩) 2 n2, aggV x, .bool true]) (want0 rfl) (xmove rfl (put_in (t := 28) z rfl)) ?_; refine wl_value (v := .slice (some ⟨b1, off1, none⟩) 2 n2) (want0 rfl) (xextract rfl (put_in (t := 26) (put_size z) rfl) rfl) ?_; refine wl_value (v := aggV x) (want0 rfl) (xextract rfl (pb 29 (put_in (t := 26) (put_size z) rfl) rfl) rfl) ?_; refine wl_value (v := .bool true) (want0 rfl) (xextract rfl (pb 30 (pb 29 (put_in (t := 26) (put_size z) rfl) rfl) rfl) rfl) ?_; refine wl_newP ow (want0 rfl) (xalloc (b := .cells #[.int .u8 0, .int .i64 0, .string ⟨[].toArray⟩] 25 (0, 0)) rfl (by kernel_rfl)) fun gb3 fw ow => ?_; refine gt7 (put_size (put_size (put_size (put_size (put_size (put_size z)))))) (put_def (put_def (put_def (put_def (put_def (put_def q)))))) ow 0 (pb 7 (pb 31 (pb 30 (pb 29 (pb 26 (pb 28 s0 rfl) rfl) rfl) rfl) rfl) rfl) 4 (pb 7 (pb 31 (pb 30 (pb 29 (pb 26 (pb 28 s4 rfl) rfl) rfl) rfl) rfl) rfl) 5 (pb 7 (pb 31 (pb 30 (pb 29 (pb 26 (pb 28 s5 rfl) rfl) rfl) rfl) rfl) rfl) 29 (pb 7 (pb 31 (pb 30 (put_in (t := 29) (put_size (put_size z)) rfl) rfl) rfl) rfl) 30 (pb 7 (pb 31 (put_in (t := 30) (put_size (put_size (put_size z))) rfl) rfl) rfl) 31 (pb 7 (put_in (t := 31) (put_size (put_size (put_size (put_size z)))) rfl) rfl) 7 (put_in (t := 7) (put_size (put_size (put_size (put_size (put_size z))))) rfl) fun fa fw z q ow s0 s4 s5 s29 s30 s31 s7 => ?_
  refine wl_value (v := .slice (some ⟨b1, off1, none⟩) 2 n2) (want0 rfl) (xassign rfl s29) ?_; refine wl_store ow 0 0 (want0 rfl) rfl rfl (pb 6 s7 rfl) (pb 6 s30 rfl) (by kernel_rfl) rfl rfl rfl fun fw ow => ?_; refine wl_value (v := .bool true) (want0 rfl) (xassign rfl (pb 6 s31 rfl)) ?_; refine gt6 (put_size (put_size z)) (put_def (put_def q)) ow 0 (pb 8 (pb 6 s0 rfl) rfl) 4 (pb 8 (pb 6 s4 rfl) rfl) 5 (pb 8 (pb 6 s5 rfl) rfl) 7 (pb 8 (pb 6 s7 rfl) rfl) 6 (pb 8 (put_in (t := 6) z rfl) rfl) 8 (put_in (t := 8) (put_size z) rfl) fun fa fw z q ow s0 s4 s5 s7 s6 s8 => ?_; refine wt hK11 ?_; refine sq fun hK15 => ?_; refine sq fun hK16 => ?_
  refine ro [yV _, yV _] 2 38 z q ow (
    mvS s8 rfl rfl rfl rfl <|
    aS (fun hk bs hd => xnot rfl (dp hd 0 rfl)) rfl <|
    arm0) fun fa fw bs hv ap z q ow => ?_
  obtain ⟨s0, s4, s5, s7, s6⟩ := b5 bs s0 s4 s5 s7 s6; have s33 := gv hv 1 rfl rfl; refine wt hK16 ?_; refine wp_cond_false (s33) ?_; refine wp_skip ?_; refine tn hK15 ?_; refine sq fun hK17 => ?_
  refine ro [yV _, yV _, yV (aggV (val13 fn (vNum v).n (vNum u).n))] 3 38 z q ow (
    mvS s0 rfl rfl rfl rfl <|
    mvS s6 rfl rfl rfl rfl <|
    aC (fun hk bs hd => xcall2 rfl (dp hd 0 rfl) (dp hd 1 rfl) (en_louvreref13_value _ _)) (fun hk bs hd => rvalue13_2 fn (vNum v).n (vNum u).n b1 off1 n2 _ (RowC.of_own ((ow.keep hk).row 1 rfl)).1 (by omega) (by omega) h2 r0 r1) rfl <|
    arm0) fun fa fw bs hv ap z q ow => ?_
  obtain ⟨s4, s5⟩ := b2 bs s4 s5; have s37 := gv hv 2 rfl rfl; refine ws ow 2 0 s4 s37 fun fw ow => ?_; refine wl_value (v := .int .i64 0) (want0 rfl) (xassign rfl rfl) ?_; refine gp1 z q ow s4 fun fa fw z q ow s4 s5 => ?_; refine wt hK17 ?_; refine wp_ret ?_; refine resultsL (v := .tuple #[aggV (val13 fn (vNum v).n (vNum u).n), .int .i64 0]) rfl (.cons (res_cell (n := 3) _ s4 (by kernel_rfl) (by kernel_rfl) (ow.box 2 rfl) (Nat.le_of_ble_eq_true rfl) rfl) (.cons (res_tmp s5) .nil)) rfl q ?_; exact ⟨ret_pair13 (c13_val2 (by omega) h2 hval hfst), ow.kept⟩
set_option maxHeartbeats 8000000 in
theorem rcall13_one (fn : Nat) (A : Option Addr) (cap : Nat) (l : List Vl) (w : World) (hr : RowV w A l) (hs : ∀ v ∈ l, Small v) (h2 : two13 fn = false) :
    Calls Tryz.prog 28 #[.int .u8 fn, .slice A l.length cap] w fun e w' => e = .returned (.tuple #[aggV (vCall13 fn l).1, .int .i64 (vCall13 fn l).2]) ∧ Kept w w' := by
  go_enter Tryz.func28, Tryz.ntmps28; refine sq fun hK1 => ?_
  refine ro [yNew w.heap.size (.cells #[.int .u8 0, .int .i64 0, .string ⟨[].toArray⟩] 25 (0, 0)), yV _] 2 38 rfl rfl (Own.start w) (
    aP (fun hk bs hd => xalloc rfl (by kernel_rfl)) rfl <|
    aS (fun hk bs hd => xassign rfl rfl) rfl <|
    arm0) fun fa fw bs hv ap z q ov => ?_
  have s0 := bs.get 0 rfl rfl; have s1 := bs.get 1 rfl rfl; obtain ⟨gb1, s4, bgb1, hgb1⟩ := gotP hv 0 rfl rfl rfl; have ov := ov.cons hgb1 (Nat.le_trans (Own.start w).kept.size bgb1) ((Own.start w).below bgb1); have s5 := gv hv 1 rfl rfl; have ow := ov; refine wt hK1 ?_; refine sq fun hK2 => ?_; refine sq fun hK3 => ?_
  refine ro [yV _, yV _, yV _, yIf (((decide ((fn : Int) < (1 : Int))) = false)) (yV (.int .u8 (fn : Int))), yIf (((decide ((fn : Int) < (1 : Int))) = false)) (yV (.bool (decide ((8 : Int) < (fn : Int))))), yV _] 6 38 z q ow (
    mvS s0 rfl rfl rfl rfl <|
    aS (fun hk bs hd => xlss rfl (dp hd 0 rfl) rfl) rfl <|
    mvD 1 rfl rfl rfl rfl rfl rfl <|
    arm (fun aa ww hk bs hd => by
      have d2 := dp hd 2 rfl
      by_cases hz : ((decide ((fn : Int) < (1 : Int))) = false)
      · exact stepX_same (v := .int .u8 (fn : Int)) (want1 (j := 2) (b := false) rfl (d2.trans (congrArg Value.bool hz))) (xmove rfl (bg bs s0)) ⟨fun _ => rfl, fun c => absurd hz c⟩ rfl
      · exact stepX_skip (wantN (j := 2) (b := false) (b' := true) rfl (d2.trans (congrArg Value.bool ((Bool.not_eq_false _).mp hz))) rfl) ⟨fun c => absurd c hz, fun _ => rfl⟩ rfl
      ) <|
    arm (fun aa ww hk bs hd => by
      have d2 := dp hd 2 rfl; have d3 := dI hd 3 rfl
      by_cases hz : ((decide ((fn : Int) < (1 : Int))) = false)
      · exact stepX_same (v := .bool (decide ((8 : Int) < (fn : Int)))) (want1 (j := 2) (b := false) rfl (d2.trans (congrArg Value.bool hz))) (xgtr rfl (d3.1 hz) rfl) ⟨fun _ => rfl, fun c => absurd hz c⟩ rfl
      · exact stepX_skip (wantN (j := 2) (b := false) (b' := true) rfl (d2.trans (congrArg Value.bool ((Bool.not_eq_false _).mp hz))) rfl) ⟨fun c => absurd c hz, fun _ => rfl⟩ rfl
      ) <|
    arm (fun aa ww hk bs hd => by
      have d2 := dp hd 2 rfl; have d4 := dI hd 4 rfl; exact stepX_same (v := .bool ((decide ((fn : Int) < (1 : Int))) || (decide ((8 : Int) < (fn : Int))))) (want0 rfl) (xor_ rfl (d2) rfl (fun hb => d4.1 hb)) rfl rfl
      ) <|
    arm0) fun fa fw bs hv ap z q ow => ?_
  obtain ⟨s0, s1, s4, s5⟩ := b4 bs s0 s1 s4 s5; have s14 := gv hv 5 rfl rfl; refine wt hK3 ?_
  by_cases hc1 : ((fn : Int) < (1 : Int)) ∨ ((8 : Int) < (fn : Int))
  · refine ct s14 ((bor (decide_eq_true_iff) (decide_eq_true_iff)).2 hc1) ?_
    refine sq fun hK4 => ?_
    refine ro [yV (aggV (⟨0, 0, []⟩ : Vl))] 1 38 z q ow (
      aS (fun hk bs hd => xbuild (us := #[]) rfl (by simp) (by kernel_rfl)) rfl <|
      arm0) fun fa fw bs hv ap z q ow => ?_
    obtain ⟨s0, s1, s4, s5⟩ := b4 bs s0 s1 s4 s5; have s15 := gv hv 0 rfl rfl; refine ws ow 0 0 s4 s15 fun fw ow => ?_; refine wl_value (v := .int .i64 10) (want0 rfl) (xassign rfl rfl) ?_; refine gp3 z q ow s0 s1 s4 fun fa fw z q ow s0 s1 s4 s5 => ?_; refine wt hK4 ?_; refine wp_ret ?_; refine then_r ?_; refine resultsL (v := .tuple #[aggV (⟨0, 0, []⟩ : Vl), .int .i64 10]) rfl (.cons (res_cell (n := 3) _ s4 (by kernel_rfl) (by kernel_rfl) (ow.box 0 rfl) (Nat.le_of_ble_eq_true rfl) rfl) (.cons (res_tmp s5) .nil)) rfl q ?_; exact ⟨ret_pair13 (v13_name (by omega)), ow.kept⟩
  refine cf s14 (bor (decide_eq_true_iff) (decide_eq_true_iff)) hc1 ?_; refine wp_skip ?_; refine tn hK2 ?_; refine sq fun hK5 => ?_; refine sq fun hK6 => ?_
  refine ro [yV _, yV _, yV _, yV (.bool (decide (l.length = 1))), yV _] 5 38 z q ow (
    mvS s0 rfl rfl rfl rfl <|
    mvS s1 rfl rfl rfl rfl <|
    aS (fun hk bs hd => xlen Tryz.underlying22 rfl (dp hd 1 rfl)) rfl <|
    aC (fun hk bs hd => xcall2 rfl (dp hd 0 rfl) (dp hd 2 rfl) (en_louvreref13_Count _ _)) (fun {_ ww} hk bs hd => (by have h := count13n_any fn (by omega) (by omega) l.length ww; rw [h2] at h; exact h)) rfl <|
    aS (fun hk bs hd => xnot rfl (dp hd 3 rfl)) rfl <|
    arm0) fun fa fw bs hv ap z q ow => ?_
  obtain ⟨s0, s1, s4, s5⟩ := b4 bs s0 s1 s4 s5; have s20 := gv hv 4 rfl rfl; refine wt hK6 ?_
  by_cases hc2 : ¬ (l.length = 1)
  · refine ct s20 ((bnot (decide_eq_true_iff)).2 hc2) ?_
    have hlen : ¬ (l.length = 1) := by simpa using hc2
    refine sq fun hK7 => ?_
    refine ro [yV (aggV (⟨0, 0, []⟩ : Vl))] 1 38 z q ow (
      aS (fun hk bs hd => xbuild (us := #[]) rfl (by simp) (by kernel_rfl)) rfl <|
      arm0) fun fa fw bs hv ap z q ow => ?_
    obtain ⟨s0, s1, s4, s5⟩ := b4 bs s0 s1 s4 s5; have s21 := gv hv 0 rfl rfl; refine ws ow 0 0 s4 s21 fun fw ow => ?_; refine wl_value (v := .int .i64 11) (want0 rfl) (xassign rfl rfl) ?_; refine gp3 z q ow s0 s1 s4 fun fa fw z q ow s0 s1 s4 s5 => ?_; refine wt hK7 ?_; refine wp_ret ?_; refine then_r ?_; refine resultsL (v := .tuple #[aggV (⟨0, 0, []⟩ : Vl), .int .i64 11]) rfl (.cons (res_cell (n := 3) _ s4 (by kernel_rfl) (by kernel_rfl) (ow.box 0 rfl) (Nat.le_of_ble_eq_true rfl) rfl) (.cons (res_tmp s5) .nil)) rfl q ?_; exact ⟨ret_pair13 (v13_count (by omega) (by rw [h2]; exact hlen)), ow.kept⟩
  refine cf s20 (bnot (decide_eq_true_iff)) hc2 ?_; have hlen : l.length = 1 := by simpa using hc2
  refine wp_skip ?_; refine tn hK5 ?_; refine sq fun hK8 => ?_; refine sq fun hK9 => ?_; obtain ⟨v, rfl⟩ := len_one hlen; obtain ⟨b0, off0, rfl, _⟩ := hr 0 (Nat.zero_lt_succ _); have s_v : Small v := hs _ (by simp)
  refine ro [yV _, yV (.bool ([v].all vOk)), yV _] 3 38 z q ow (
    mvS s1 rfl rfl rfl rfl <|
    aC (fun hk bs hd => xcall1 rfl (dp hd 0 rfl) (en_louvreref13_Valid _ _)) (fun hk bs hd => valid13_any (some ⟨b0, off0, none⟩) cap [v] _ (hr.kept (ow.keep hk).kept) hs (by simp)) rfl <|
    aS (fun hk bs hd => xnot rfl (dp hd 1 rfl)) rfl <|
    arm0) fun fa fw bs hv ap z q ow => ?_
  obtain ⟨s0, s1, s4, s5⟩ := b4 bs s0 s1 s4 s5; have s24 := gv hv 2 rfl rfl; refine wt hK9 ?_
  by_cases hc3 : ¬ (([v].all vOk) = true)
  · refine ct s24 ((bnot (Iff.rfl)).2 hc3) ?_
    have hval : [v].all vOk = false := by simpa using hc3
    refine sq fun hK10 => ?_
    refine ro [yV (aggV (⟨0, 0, []⟩ : Vl))] 1 38 z q ow (
      aS (fun hk bs hd => xbuild (us := #[]) rfl (by simp) (by kernel_rfl)) rfl <|
      arm0) fun fa fw bs hv ap z q ow => ?_
    obtain ⟨s0, s1, s4, s5⟩ := b4 bs s0 s1 s4 s5; have s25 := gv hv 0 rfl rfl; refine ws ow 0 0 s4 s25 fun fw ow => ?_; refine wl_value (v := .int .i64 2) (want0 rfl) (xassign rfl rfl) ?_; refine gp3 z q ow s0 s1 s4 fun fa fw z q ow s0 s1 s4 s5 => ?_; refine wt hK10 ?_; refine wp_ret ?_; refine then_r ?_; refine resultsL (v := .tuple #[aggV (⟨0, 0, []⟩ : Vl), .int .i64 2]) rfl (.cons (res_cell (n := 3) _ s4 (by kernel_rfl) (by kernel_rfl) (ow.box 0 rfl) (Nat.le_of_ble_eq_true rfl) rfl) (.cons (res_tmp s5) .nil)) rfl q ?_; exact ⟨ret_pair13 (v13_arg (by omega) (by rw [h2]; rfl) hval), ow.kept⟩
  refine cf s24 (bnot (Iff.rfl)) hc3 ?_; have hval : [v].all vOk = true := by simpa using hc3
  refine wp_skip ?_; refine tn hK8 ?_; refine sq fun hK11 => ?_
  refine ro [yV _] 1 38 z q ow (
    mvS s1 rfl rfl rfl rfl <|
    arm0) fun fa fw bs hv ap z q ow => ?_
  obtain ⟨s0, s4, s5⟩ := b3 bs s0 s4 s5; have s27 := gv hv 0 rfl rfl; refine wl_enter (want0 rfl) (xcall1 (u := .slice (some ⟨b0, off0, none⟩) 1 cap) rfl s27 (en_louvreref13_Numbers _ _)) ((rnumbers13_any b0 off0 cap [v] _ (hr.kept ow.kept) hs (by simp)).mono ?_); rintro _ fw ⟨nv, x, ok, rfl, hk, hcv⟩; refine ⟨_, rfl, ?_⟩; rcases hcv with ⟨rfl, hfst⟩ | ⟨rfl, hfst, hown⟩
  · skip
    have ow := ow.keep hk; clear hk; refine wl_value (v := .tuple #[nv, aggV x, .bool false]) (want0 rfl) (xmove rfl (put_in (t := 28) z rfl)) ?_; refine wl_value (v := nv) (want0 rfl) (xextract rfl (put_in (t := 26) (put_size z) rfl) rfl) ?_; refine wl_value (v := aggV x) (want0 rfl) (xextract rfl (pb 29 (put_in (t := 26) (put_size z) rfl) rfl) rfl) ?_; refine wl_value (v := .bool false) (want0 rfl) (xextract rfl (pb 30 (pb 29 (put_in (t := 26) (put_size z) rfl) rfl) rfl) rfl) ?_; refine wl_newP ow (want0 rfl) (xalloc (b := .cells #[.int .u8 0, .int .i64 0, .string ⟨[].toArray⟩] 25 (0, 0)) rfl (by kernel_rfl)) fun gb2 fw ow => ?_; refine gt7 (put_size (put_size (put_size (put_size (put_size (put_size z)))))) (put_def (put_def (put_def (put_def (put_def (put_def q)))))) ow 0 (pb 7 (pb 31 (pb 30 (pb 29 (pb 26 (pb 28 s0 rfl) rfl) rfl) rfl) rfl) rfl) 4 (pb 7 (pb 31 (pb 30 (pb 29 (pb 26 (pb 28 s4 rfl) rfl) rfl) rfl) rfl) rfl) 5 (pb 7 (pb 31 (pb 30 (pb 29 (pb 26 (pb 28 s5 rfl) rfl) rfl) rfl) rfl) rfl) 29 (pb 7 (pb 31 (pb 30 (put_in (t := 29) (put_size (put_size z)) rfl) rfl) rfl) rfl) 30 (pb 7 (pb 31 (put_in (t := 30) (put_size (put_size (put_size z))) rfl) rfl) rfl) 31 (pb 7 (put_in (t := 31) (put_size (put_size (put_size (put_size z)))) rfl) rfl) 7 (put_in (t := 7) (put_size (put_size (put_size (put_size (put_size z))))) rfl) fun fa fw z q ow s0 s4 s5 s29 s30 s31 s7 => ?_; refine wl_value (v := nv) (want0 rfl) (xassign rfl s29) ?_; refine wl_store ow 0 0 (want0 rfl) rfl rfl (pb 6 s7 rfl) (pb 6 s30 rfl) (by kernel_rfl) rfl rfl rfl fun fw ow => ?_
    refine wl_value (v := .bool false) (want0 rfl) (xassign rfl (pb 6 s31 rfl)) ?_; refine gt6 (put_size (put_size z)) (put_def (put_def q)) ow 0 (pb 8 (pb 6 s0 rfl) rfl) 4 (pb 8 (pb 6 s4 rfl) rfl) 5 (pb 8 (pb 6 s5 rfl) rfl) 7 (pb 8 (pb 6 s7 rfl) rfl) 6 (pb 8 (put_in (t := 6) z rfl) rfl) 8 (put_in (t := 8) (put_size z) rfl) fun fa fw z q ow s0 s4 s5 s7 s6 s8 => ?_; refine wt hK11 ?_; refine sq fun hK12 => ?_; refine sq fun hK13 => ?_
    refine ro [yV _, yV _] 2 38 z q ow (
      mvS s8 rfl rfl rfl rfl <|
      aS (fun hk bs hd => xnot rfl (dp hd 0 rfl)) rfl <|
      arm0) fun fa fw bs hv ap z q ow => ?_
    obtain ⟨s0, s4, s5, s7, s6⟩ := b5 bs s0 s4 s5 s7 s6; have s33 := gv hv 1 rfl rfl; refine wt hK13 ?_; refine wp_cond_true (s33) ?_; refine sq fun hK14 => ?_
    refine ro [yV (aggV x)] 1 38 z q ow (
      aS (fun hk bs hd => xloadN 3 rfl (by kernel_rfl) (by kernel_rfl) (bg bs s7) ((ow.keep hk).box 0 rfl) (Nat.le_of_ble_eq_true rfl) rfl) rfl <|
      arm0) fun fa fw bs hv ap z q ow => ?_
    obtain ⟨s0, s4, s5, s6⟩ := b4 bs s0 s4 s5 s6; have s34 := gv hv 0 rfl rfl; refine ws ow 1 0 s4 s34 fun fw ow => ?_; refine wl_value (v := .int .i64 0) (want0 rfl) (xassign rfl rfl) ?_; refine gp3 z q ow s0 s4 s6 fun fa fw z q ow s0 s4 s6 s5 => ?_; refine wt hK14 ?_; refine wp_ret ?_; refine then_r ?_; refine resultsL (v := .tuple #[aggV x, .int .i64 0]) rfl (.cons (res_cell (n := 3) _ s4 (by kernel_rfl) (by kernel_rfl) (ow.box 1 rfl) (Nat.le_of_ble_eq_true rfl) rfl) (.cons (res_tmp s5) .nil)) rfl q ?_; exact ⟨ret_pair13 (v13_err (by omega) (by rw [h2]; rfl) hval hfst), ow.kept⟩
  have ow := ow.join hown; clear hk hown; obtain ⟨A2, n2, rfl⟩ := row_slice (ow.row 0 rfl); obtain ⟨b1, off1, rfl⟩ : ∃ b off, A2 = some ⟨b, off, none⟩ := (RowC.of_own (ow.row 0 rfl)).1.some (Nat.zero_lt_succ _); have hn0 : isE (vNum v) = false := none_1 hfst; have r0 := num_range hn0 s_v.1; have i0 : i64 (vNum v).n := ⟨by omega, by omega⟩; refine wl_value (v := .tuple #[.slice (some ⟨b1, off1, none⟩) 1 n2, aggV x, .bool true]) (want0 rfl) (xmove rfl (put_in (t := 28) z rfl)) ?_; refine wl_value (v := .slice (some ⟨b1, off1, none⟩) 1 n2) (want0 rfl) (xextract rfl (put_in (t := 26) (put_size z) rfl) rfl) ?_; refine wl_value (v := aggV x) (want0 rfl) (xextract rfl (pb 29 (put_in (t := 26) (put_size z) rfl) rfl) rfl) ?_; refine wl_value (v := .bool true) (want0 rfl) (xextract rfl (pb 30 (pb 29 (put_in (t := 26) (put_size z) rfl) rfl) rfl) rfl) ?_; refine wl_newP ow (want0 rfl) (xalloc (b := .cells #[.int .u8 0, .int .i64 0, .string ⟨[].toArray⟩] 25 (0, 0)) rfl (by kernel_rfl)) fun gb3 fw ow => ?_; refine gt7 (put_size (put_size (put_size (put_size (put_size (put_size z)))))) (put_def (put_def (put_def (put_def (put_def (put_def q)))))) ow 0 (pb 7 (pb 31 (pb 30 (pb 29 (pb 26 (pb 28 s0 rfl) rfl) rfl) rfl) rfl) rfl) 4 (pb 7 (pb 31 (pb 30 (pb 29 (pb 26 (pb 28 s4 rfl) rfl) rfl) rfl) rfl) rfl) 5 (pb 7 (pb 31 (pb 30 (pb 29 (pb 26 (pb 28 s5 rfl) rfl) rfl) rfl) rfl) rfl) 29 (pb 7 (pb 31 (pb 30 (put_in (t := 29) (put_size (put_size z)) rfl) rfl) rfl) rfl) 30 (pb 7 (pb 31 (put_in (t := 30) (put_size (put_size (put_size z))) rfl) rfl) rfl) 31 (pb 7 (put_in (t := 31) (put_size (put_size (put_size (put_size z)))) rfl) rfl) 7 (put_in (t := 7) (put_size (put_size (put_size (put_size (put_size z))))) rfl) fun fa fw z q ow s0 s4 s5 s29 s30 s31 s7 => ?_
  refine wl_value (v := .slice (some ⟨b1, off1, none⟩) 1 n2) (want0 rfl) (xassign rfl s29) ?_; refine wl_store ow 0 0 (want0 rfl) rfl rfl (pb 6 s7 rfl) (pb 6 s30 rfl) (by kernel_rfl) rfl rfl rfl fun fw ow => ?_; refine wl_value (v := .bool true) (want0 rfl) (xassign rfl (pb 6 s31 rfl)) ?_; refine gt6 (put_size (put_size z)) (put_def (put_def q)) ow 0 (pb 8 (pb 6 s0 rfl) rfl) 4 (pb 8 (pb 6 s4 rfl) rfl) 5 (pb 8 (pb 6 s5 rfl) rfl) 7 (pb 8 (pb 6 s7 rfl) rfl) 6 (pb 8 (put_in (t := 6) z rfl) rfl) 8 (put_in (t := 8) (put_size z) rfl) fun fa fw z q ow s0 s4 s5 s7 s6 s8 => ?_; refine wt hK11 ?_; refine sq fun hK15 => ?_; refine sq fun hK16 => ?_
  refine ro [yV _, yV _] 2 38 z q ow (
    mvS s8 rfl rfl rfl rfl <|
    aS (fun hk bs hd => xnot rfl (dp hd 0 rfl)) rfl <|
    arm0) fun fa fw bs hv ap z q ow => ?_
  obtain ⟨s0, s4, s5, s7, s6⟩ := b5 bs s0 s4 s5 s7 s6; have s33 := gv hv 1 rfl rfl; refine wt hK16 ?_; refine wp_cond_false (s33) ?_; refine wp_skip ?_; refine tn hK15 ?_; refine sq fun hK17 => ?_
  refine ro [yV _, yV _, yV (aggV (val13 fn (vNum v).n 0))] 3 38 z q ow (
    mvS s0 rfl rfl rfl rfl <|
    mvS s6 rfl rfl rfl rfl <|
    aC (fun hk bs hd => xcall2 rfl (dp hd 0 rfl) (dp hd 1 rfl) (en_louvreref13_value _ _)) (fun hk bs hd => rvalue13_1 fn (vNum v).n b1 off1 n2 _ (RowC.of_own ((ow.keep hk).row 1 rfl)).1 (by omega) (by omega) h2 r0) rfl <|
    arm0) fun fa fw bs hv ap z q ow => ?_
  obtain ⟨s4, s5⟩ := b2 bs s4 s5; have s37 := gv hv 2 rfl rfl; refine ws ow 2 0 s4 s37 fun fw ow => ?_; refine wl_value (v := .int .i64 0) (want0 rfl) (xassign rfl rfl) ?_; refine gp1 z q ow s4 fun fa fw z q ow s4 s5 => ?_; refine wt hK17 ?_; refine wp_ret ?_; refine resultsL (v := .tuple #[aggV (val13 fn (vNum v).n 0), .int .i64 0]) rfl (.cons (res_cell (n := 3) _ s4 (by kernel_rfl) (by kernel_rfl) (ow.box 2 rfl) (Nat.le_of_ble_eq_true rfl) rfl) (.cons (res_tmp s5) .nil)) rfl q ?_; exact ⟨ret_pair13 (c13_val1 (by omega) h2 hval hfst), ow.kept⟩
theorem rcall13_any (fn : Nat) (A : Option Addr) (cap : Nat) (l : List Vl) (w : World) (hr : RowV w A l) (hs : ∀ v ∈ l, Small v) (hl : l.length ≤ 1000000) :
    Calls Tryz.prog 28 #[.int .u8 fn, .slice A l.length cap] w fun e w' => e = .returned (.tuple #[aggV (vCall13 fn l).1, .int .i64 (vCall13 fn l).2]) ∧ Kept w w' := by
  cases h2 : two13 fn with
  | true => exact rcall13_two fn A cap l w hr hs h2
  | false => exact rcall13_one fn A cap l w hr hs h2
set_option maxHeartbeats 4000000 in
theorem rjoin13_any (a b : Vl) (w : World) (ha : Small a) (hb : Small b) :
    Calls Tryz.prog 80 #[aggV a, aggV b] w fun e w' => e = .returned (aggV (cat13 a b)) ∧ Kept w w' := by
  have la := txt_len a ha; have lb := txt_len b hb; go_enter Tryz.func80, Tryz.ntmps80; refine sq fun hK1 => ?_
  refine ro [yNew w.heap.size (.cells #[.int .u8 a.k, .int .i64 a.n, .string ⟨a.t.toArray⟩] 25 (0, 0)), yNew w.heap.size (.cells #[.int .u8 b.k, .int .i64 b.n, .string ⟨b.t.toArray⟩] 25 (0, 0)), yNew w.heap.size (.cells #[.int .u8 0, .int .i64 0, .string ⟨[].toArray⟩] 25 (0, 0))] 3 34 rfl rfl (Own.start w) (
    aP (fun hk bs hd => xbox rfl (bs.get 0 rfl rfl) (by kernel_rfl)) rfl <|
    aP (fun hk bs hd => xbox rfl (bs.get 1 rfl rfl) (by kernel_rfl)) rfl <|
    aP (fun hk bs hd => xalloc rfl (by kernel_rfl)) rfl <|
    arm0) fun fa fw bs hv ap z q ov => ?_
  obtain ⟨gb1, s2, bgb1, hgb1⟩ := gotP hv 0 rfl rfl rfl; have ov := ov.cons hgb1 (Nat.le_trans (Own.start w).kept.size bgb1) ((Own.start w).below bgb1); obtain ⟨gb2, s3, bgb2, hgb2⟩ := gotP hv 1 rfl rfl rfl; have ov := ov.cons hgb2 (Nat.le_trans (Own.start w).kept.size bgb2) (ne_cons (apartP ap 0 1 rfl rfl rfl s2 rfl s3 rfl) ((Own.start w).below bgb2)); obtain ⟨gb3, s4, bgb3, hgb3⟩ := gotP hv 2 rfl rfl rfl; have ov := ov.cons hgb3 (Nat.le_trans (Own.start w).kept.size bgb3) (ne_cons (apartP ap 1 2 rfl rfl rfl s3 rfl s4 rfl) (ne_cons (apartP ap 0 2 rfl rfl rfl s2 rfl s4 rfl) ((Own.start w).below bgb3))); have ow := ov; refine wt hK1 ?_; refine sq fun hK2 => ?_
  refine ro [yV (aggV a), yV (aggV (vTxt a)), yV (aggV b), yV (aggV (vTxt b)), yNew fw.heap.size (.cells #[.int .u8 0, .int .i64 0, .string ⟨[].toArray⟩] 25 (0, 0)), yNew fw.heap.size (.cells #[.int .u8 0, .int .i64 0, .string ⟨[].toArray⟩] 25 (0, 0))] 6 34 z q ow (
    aS (fun hk bs hd => xloadN 3 rfl (by kernel_rfl) (by kernel_rfl) (bg bs s2) ((ow.keep hk).box 2 rfl) (Nat.le_of_ble_eq_true rfl) rfl) rfl <|
    aC (fun hk bs hd => xcall1 rfl (dp hd 0 rfl) (en_louvreref05_ToText _ _)) (fun hk bs hd => rtotxt_any a _ ha.1 ha.2) rfl <|
    aS (fun hk bs hd => xloadN 3 rfl (by kernel_rfl) (by kernel_rfl) (bg bs s3) ((ow.keep hk).box 1 rfl) (Nat.le_of_ble_eq_true rfl) rfl) rfl <|
    aC (fun hk bs hd => xcall1 rfl (dp hd 2 rfl) (en_louvreref05_ToText _ _)) (fun hk bs hd => rtotxt_any b _ hb.1 hb.2) rfl <|
    aP (fun hk bs hd => xalloc rfl (by kernel_rfl)) rfl <|
    aP (fun hk bs hd => xalloc rfl (by kernel_rfl)) rfl <|
    arm0) fun fa fw bs hv ap z q ov => ?_
  have s4 := bg bs s4; have s8 := gv hv 1 rfl rfl; have s10 := gv hv 3 rfl rfl; obtain ⟨gb4, s5, bgb4, hgb4⟩ := gotP hv 4 rfl rfl rfl; have ov := ov.cons hgb4 (Nat.le_trans ow.kept.size bgb4) (ow.below bgb4); obtain ⟨gb5, s6, bgb5, hgb5⟩ := gotP hv 5 rfl rfl rfl; have ov := ov.cons hgb5 (Nat.le_trans ow.kept.size bgb5) (ne_cons (apartP ap 4 5 rfl rfl rfl s5 rfl s6 rfl) (ow.below bgb5)); have ow := ov; refine ws ow 1 0 s5 s8 fun fw ow => ?_; refine ws ow 0 0 s6 s10 fun fw ow => ?_; refine wt hK2 ?_; refine sq fun hK3 => ?_; refine sq fun hK4 => ?_
  refine ro [yV (.pointer (some ⟨gb4, 0, none⟩)), yV _, yV _] 3 34 z q ow (
    aS (fun hk bs hd => xfieldAddr rfl (bg bs s5) (by kernel_rfl)) rfl <|
    aS (fun hk bs hd => xloadB rfl (by kernel_rfl) (dp hd 0 rfl) ((ow.keep hk).box 1 rfl) rfl) rfl <|
    aS (fun hk bs hd => xeqi rfl (dp hd 1 rfl) rfl) rfl <|
    arm0) fun fa fw bs hv ap z q ow => ?_
  obtain ⟨s4, s5, s6⟩ := b3 bs s4 s5 s6; have s13 := gv hv 2 rfl rfl; refine wt hK4 ?_
  by_cases hc1 : ((vTxt a).k : Int) = (4 : Int)
  · refine ct s13 ((decide_eq_true_iff).2 hc1) ?_
    have ea : isE (vTxt a) = true := isE_yes hc1; refine sq fun hK5 => ?_
    refine ro [yV (aggV (vTxt a))] 1 34 z q ow (
      aS (fun hk bs hd => xloadN 3 rfl (by kernel_rfl) (by kernel_rfl) (bg bs s5) ((ow.keep hk).box 1 rfl) (Nat.le_of_ble_eq_true rfl) rfl) rfl <|
      arm0) fun fa fw bs hv ap z q ow => ?_
    obtain ⟨s4, s5, s6⟩ := b3 bs s4 s5 s6; have s14 := gv hv 0 rfl rfl; refine ws ow 2 0 s4 s14 fun fw ow => ?_; refine wt hK5 ?_; refine wp_ret ?_; refine then_r ?_; refine rs3 s4 (ow.box 2 rfl) q ?_; exact ⟨congrArg (fun v => Ending.returned (aggV v)) (show _ = cat13 a b by unfold cat13; rw [if_pos ea]), ow.kept⟩
  refine cf s13 (decide_eq_true_iff) hc1 ?_; have ea : isE (vTxt a) = false := isE_no hc1; refine wp_skip ?_; refine tn hK3 ?_; refine sq fun hK6 => ?_; refine sq fun hK7 => ?_
  refine ro [yV (.pointer (some ⟨gb5, 0, none⟩)), yV _, yV _] 3 34 z q ow (
    aS (fun hk bs hd => xfieldAddr rfl (bg bs s6) (by kernel_rfl)) rfl <|
    aS (fun hk bs hd => xloadB rfl (by kernel_rfl) (dp hd 0 rfl) ((ow.keep hk).box 0 rfl) rfl) rfl <|
    aS (fun hk bs hd => xeqi rfl (dp hd 1 rfl) rfl) rfl <|
    arm0) fun fa fw bs hv ap z q ow => ?_
  obtain ⟨s4, s5, s6⟩ := b3 bs s4 s5 s6; have s17 := gv hv 2 rfl rfl; refine wt hK7 ?_
  by_cases hc2 : ((vTxt b).k : Int) = (4 : Int)
  · refine ct s17 ((decide_eq_true_iff).2 hc2) ?_
    have eb : isE (vTxt b) = true := isE_yes hc2; refine sq fun hK8 => ?_
    refine ro [yV (aggV (vTxt b))] 1 34 z q ow (
      aS (fun hk bs hd => xloadN 3 rfl (by kernel_rfl) (by kernel_rfl) (bg bs s6) ((ow.keep hk).box 0 rfl) (Nat.le_of_ble_eq_true rfl) rfl) rfl <|
      arm0) fun fa fw bs hv ap z q ow => ?_
    obtain ⟨s4, s5, s6⟩ := b3 bs s4 s5 s6; have s18 := gv hv 0 rfl rfl; refine ws ow 2 0 s4 s18 fun fw ow => ?_; refine wt hK8 ?_; refine wp_ret ?_; refine then_r ?_; refine rs3 s4 (ow.box 2 rfl) q ?_; exact ⟨congrArg (fun v => Ending.returned (aggV v)) (show _ = cat13 a b by unfold cat13; rw [if_neg (by rw [ea]; decide), if_pos eb]), ow.kept⟩
  refine cf s17 (decide_eq_true_iff) hc2 ?_; have eb : isE (vTxt b) = false := isE_no hc2; refine wp_skip ?_; refine tn hK6 ?_; refine sq fun hK9 => ?_; refine sq fun hK10 => ?_
  refine ro [yV (.pointer (some ⟨gb4, 2, none⟩)), yV _, yV _, yV (.pointer (some ⟨gb5, 2, none⟩)), yV _, yV _, yV (.int .i64 (((((vTxt a).t).length) + (((vTxt b).t).length) : Nat) : Int)), yV _] 8 34 z q ow (
    aS (fun hk bs hd => xfieldAddr rfl (bg bs s5) (by kernel_rfl)) rfl <|
    aS (fun hk bs hd => xloadB rfl (by kernel_rfl) (dp hd 0 rfl) ((ow.keep hk).box 1 rfl) rfl) rfl <|
    aS (fun hk bs hd => xlenS Tryz.underlying9 rfl (dp hd 1 rfl)) rfl <|
    aS (fun hk bs hd => xfieldAddr rfl (bg bs s6) (by kernel_rfl)) rfl <|
    aS (fun hk bs hd => xloadB rfl (by kernel_rfl) (dp hd 3 rfl) ((ow.keep hk).box 0 rfl) rfl) rfl <|
    aS (fun hk bs hd => xlenS Tryz.underlying9 rfl (dp hd 4 rfl)) rfl <|
    aS (fun hk bs hd => xadd (Or.inl rfl) rfl (dp hd 2 rfl) (dp hd 5 rfl) (by omega) (by omega)) rfl <|
    aS (fun hk bs hd => xgtr rfl (dp hd 6 rfl) rfl) rfl <|
    arm0) fun fa fw bs hv ap z q ow => ?_
  obtain ⟨s4, s5, s6⟩ := b3 bs s4 s5 s6; have s26 := gv hv 7 rfl rfl; refine wt hK10 ?_
  by_cases hc3 : (256 : Int) < (((((vTxt a).t).length) + (((vTxt b).t).length) : Nat) : Int)
  · refine ct s26 ((decide_eq_true_iff).2 hc3) ?_
    refine sq fun hK11 => ?_
    refine ro [yV (aggV (vFail 2))] 1 34 z q ow (
      aC (fun hk bs hd => xcall1 rfl rfl (en_louvreref05_Fail _ _)) (fun hk bs hd => rfail_any 2 _) rfl <|
      arm0) fun fa fw bs hv ap z q ow => ?_
    obtain ⟨s4, s5, s6⟩ := b3 bs s4 s5 s6; have s27 := gv hv 0 rfl rfl; refine ws ow 2 0 s4 s27 fun fw ow => ?_; refine wt hK11 ?_; refine wp_ret ?_; refine then_r ?_; refine rs3 s4 (ow.box 2 rfl) q ?_; exact ⟨congrArg (fun v => Ending.returned (aggV v)) (show _ = cat13 a b by unfold cat13; rw [if_neg (by rw [ea]; decide), if_neg (by rw [eb]; decide)]; unfold vText; rw [if_pos (by rw [List.length_append]; omega)]), ow.kept⟩
  refine cf s26 (decide_eq_true_iff) hc3 ?_; refine wp_skip ?_; refine tn hK9 ?_; refine sq fun hK12 => ?_
  refine ro [yV (.pointer (some ⟨gb4, 2, none⟩)), yV _, yV (.pointer (some ⟨gb5, 2, none⟩)), yV _, yV _, yV (aggV (⟨3, 0, ((vTxt a).t) ++ ((vTxt b).t)⟩ : Vl))] 6 34 z q ow (
    aS (fun hk bs hd => xfieldAddr rfl (bg bs s5) (by kernel_rfl)) rfl <|
    aS (fun hk bs hd => xloadB rfl (by kernel_rfl) (dp hd 0 rfl) ((ow.keep hk).box 1 rfl) rfl) rfl <|
    aS (fun hk bs hd => xfieldAddr rfl (bg bs s6) (by kernel_rfl)) rfl <|
    aS (fun hk bs hd => xloadB rfl (by kernel_rfl) (dp hd 2 rfl) ((ow.keep hk).box 0 rfl) rfl) rfl <|
    aS (fun hk bs hd => xcatS rfl (dp hd 1 rfl) (dp hd 3 rfl) (by omega)) rfl <|
    arm (fun aa ww hk bs hd => by
      have d4 : aa.eval (.tmp 32) = .string ⟨(((vTxt a).t) ++ ((vTxt b).t)).toArray⟩ := depX hd 4 rfl; exact stepX_same (v := aggV (⟨3, 0, ((vTxt a).t) ++ ((vTxt b).t)⟩ : Vl)) (want0 rfl) (xbuild (us := #[(0, .int .u8 3), (2, .string ⟨(((vTxt a).t) ++ ((vTxt b).t)).toArray⟩)]) rfl (by simp only [List.map_toArray, List.map_cons, List.map_nil, d4]; rfl) (by kernel_rfl)) rfl rfl
      ) <|
    arm0) fun fa fw bs hv ap z q ow => ?_
  have s4 := bg bs s4; have s33 := gv hv 5 rfl rfl; refine ws ow 2 0 s4 s33 fun fw ow => ?_; refine wt hK12 ?_; refine wp_ret ?_; refine rs3 s4 (ow.box 2 rfl) q ?_; exact ⟨congrArg (fun v => Ending.returned (aggV v)) (show _ = cat13 a b by unfold cat13; rw [if_neg (by rw [ea]; decide), if_neg (by rw [eb]; decide)]; unfold vText; rw [if_neg (by rw [List.length_append]; omega)]), ow.kept⟩
set_option maxHeartbeats 4000000 in
theorem rcompare13_any (op : Int) (a b : Vl) (w : World) (h7 : 7 ≤ op) (h12 : op ≤ 12) (ha : Small a) (hb : Small b) :
    Calls Tryz.prog 81 #[.int .i64 op, aggV a, aggV b] w fun e w' => e = .returned (aggV (cmp13 op a b)) ∧ Kept w w' := by
  go_enter Tryz.func81, Tryz.ntmps81; refine sq fun hK1 => ?_
  refine ro [yNew w.heap.size (.cells #[.int .u8 a.k, .int .i64 a.n, .string ⟨a.t.toArray⟩] 25 (0, 0)), yNew w.heap.size (.cells #[.int .u8 b.k, .int .i64 b.n, .string ⟨b.t.toArray⟩] 25 (0, 0)), yNew w.heap.size (.cells #[.int .u8 0, .int .i64 0, .string ⟨[].toArray⟩] 25 (0, 0))] 3 52 rfl rfl (Own.start w) (
    aP (fun hk bs hd => xbox rfl (bs.get 1 rfl rfl) (by kernel_rfl)) rfl <|
    aP (fun hk bs hd => xbox rfl (bs.get 2 rfl rfl) (by kernel_rfl)) rfl <|
    aP (fun hk bs hd => xalloc rfl (by kernel_rfl)) rfl <|
    arm0) fun fa fw bs hv ap z q ov => ?_
  have s0 := bs.get 0 rfl rfl; obtain ⟨gb1, s4, bgb1, hgb1⟩ := gotP hv 0 rfl rfl rfl; have ov := ov.cons hgb1 (Nat.le_trans (Own.start w).kept.size bgb1) ((Own.start w).below bgb1); obtain ⟨gb2, s5, bgb2, hgb2⟩ := gotP hv 1 rfl rfl rfl; have ov := ov.cons hgb2 (Nat.le_trans (Own.start w).kept.size bgb2) (ne_cons (apartP ap 0 1 rfl rfl rfl s4 rfl s5 rfl) ((Own.start w).below bgb2)); obtain ⟨gb3, s6, bgb3, hgb3⟩ := gotP hv 2 rfl rfl rfl; have ov := ov.cons hgb3 (Nat.le_trans (Own.start w).kept.size bgb3) (ne_cons (apartP ap 1 2 rfl rfl rfl s5 rfl s6 rfl) (ne_cons (apartP ap 0 2 rfl rfl rfl s4 rfl s6 rfl) ((Own.start w).below bgb3))); have ow := ov; refine wt hK1 ?_; refine sq fun hK2 => ?_; refine sq fun hK3 => ?_
  refine ro [yV (.pointer (some ⟨gb1, 0, none⟩)), yV _, yV _] 3 52 z q ow (
    aS (fun hk bs hd => xfieldAddr rfl (bg bs s4) (by kernel_rfl)) rfl <|
    aS (fun hk bs hd => xloadB rfl (by kernel_rfl) (dp hd 0 rfl) ((ow.keep hk).box 2 rfl) rfl) rfl <|
    aS (fun hk bs hd => xeqi rfl (dp hd 1 rfl) rfl) rfl <|
    arm0) fun fa fw bs hv ap z q ow => ?_
  obtain ⟨s0, s4, s5, s6⟩ := b4 bs s0 s4 s5 s6; have s11 := gv hv 2 rfl rfl; refine wt hK3 ?_
  by_cases hc1 : (a.k : Int) = (4 : Int)
  · refine ct s11 ((decide_eq_true_iff).2 hc1) ?_
    have ea : isE (a) = true := isE_yes hc1; refine sq fun hK4 => ?_
    refine ro [yV (aggV a)] 1 52 z q ow (
      aS (fun hk bs hd => xloadN 3 rfl (by kernel_rfl) (by kernel_rfl) (bg bs s4) ((ow.keep hk).box 2 rfl) (Nat.le_of_ble_eq_true rfl) rfl) rfl <|
      arm0) fun fa fw bs hv ap z q ow => ?_
    obtain ⟨s0, s4, s5, s6⟩ := b4 bs s0 s4 s5 s6; have s12 := gv hv 0 rfl rfl; refine ws ow 0 0 s6 s12 fun fw ow => ?_; refine wt hK4 ?_; refine wp_ret ?_; refine then_r ?_; refine rs3 s6 (ow.box 0 rfl) q ?_; exact ⟨congrArg (fun v => Ending.returned (aggV v)) (show a = cmp13 op a b by unfold cmp13; rw [if_pos ea]), ow.kept⟩
  refine cf s11 (decide_eq_true_iff) hc1 ?_; have ea : isE (a) = false := isE_no hc1; refine wp_skip ?_; refine tn hK2 ?_; refine sq fun hK5 => ?_; refine sq fun hK6 => ?_
  refine ro [yV (.pointer (some ⟨gb2, 0, none⟩)), yV _, yV _] 3 52 z q ow (
    aS (fun hk bs hd => xfieldAddr rfl (bg bs s5) (by kernel_rfl)) rfl <|
    aS (fun hk bs hd => xloadB rfl (by kernel_rfl) (dp hd 0 rfl) ((ow.keep hk).box 1 rfl) rfl) rfl <|
    aS (fun hk bs hd => xeqi rfl (dp hd 1 rfl) rfl) rfl <|
    arm0) fun fa fw bs hv ap z q ow => ?_
  obtain ⟨s0, s4, s5, s6⟩ := b4 bs s0 s4 s5 s6; have s15 := gv hv 2 rfl rfl; refine wt hK6 ?_
  by_cases hc2 : (b.k : Int) = (4 : Int)
  · refine ct s15 ((decide_eq_true_iff).2 hc2) ?_
    have eb : isE (b) = true := isE_yes hc2; refine sq fun hK7 => ?_
    refine ro [yV (aggV b)] 1 52 z q ow (
      aS (fun hk bs hd => xloadN 3 rfl (by kernel_rfl) (by kernel_rfl) (bg bs s5) ((ow.keep hk).box 1 rfl) (Nat.le_of_ble_eq_true rfl) rfl) rfl <|
      arm0) fun fa fw bs hv ap z q ow => ?_
    obtain ⟨s0, s4, s5, s6⟩ := b4 bs s0 s4 s5 s6; have s16 := gv hv 0 rfl rfl; refine ws ow 0 0 s6 s16 fun fw ow => ?_; refine wt hK7 ?_; refine wp_ret ?_; refine then_r ?_; refine rs3 s6 (ow.box 0 rfl) q ?_; exact ⟨congrArg (fun v => Ending.returned (aggV v)) (show b = cmp13 op a b by unfold cmp13; rw [if_neg (by rw [ea]; decide), if_pos eb]), ow.kept⟩
  refine cf s15 (decide_eq_true_iff) hc2 ?_; have eb : isE (b) = false := isE_no hc2; refine wp_skip ?_; refine tn hK5 ?_; refine sq fun hK8 => ?_
  refine ro [yV (aggV a), yV (aggV b), yV (.tuple #[.int .i64 ((vCmp a b).1), .int .i64 ((vCmp a b).2)]), yV _, yV _, yV _, yV _, yV _] 8 52 z q ow (
    aS (fun hk bs hd => xloadN 3 rfl (by kernel_rfl) (by kernel_rfl) (bg bs s4) ((ow.keep hk).box 2 rfl) (Nat.le_of_ble_eq_true rfl) rfl) rfl <|
    aS (fun hk bs hd => xloadN 3 rfl (by kernel_rfl) (by kernel_rfl) (bg bs s5) ((ow.keep hk).box 1 rfl) (Nat.le_of_ble_eq_true rfl) rfl) rfl <|
    aC (fun hk bs hd => xcall2 rfl (dp hd 0 rfl) (dp hd 1 rfl) (en_louvreref05_Compare _ _)) (fun hk bs hd => rcompare5_any a b _ ha.1 hb.1 (Nat.le_trans ha.2 (by decide)) (Nat.le_trans hb.2 (by decide))) rfl <|
    mvD 2 rfl rfl rfl rfl rfl rfl <|
    aS (fun hk bs hd => xextract rfl (dp hd 3 rfl) rfl) rfl <|
    aS (fun hk bs hd => xextract rfl (dp hd 3 rfl) rfl) rfl <|
    asD 4 rfl rfl rfl rfl rfl rfl <|
    asD 5 rfl rfl rfl rfl rfl rfl <|
    arm0) fun fa fw bs hv ap z q ow => ?_
  obtain ⟨s0, s6⟩ := b2 bs s0 s6; have s7 := gv hv 6 rfl rfl; refine wt hK8 ?_; refine sq fun hK9 => ?_; refine sq fun hK10 => ?_
  refine ro [yV _] 1 52 z q ow (
    mvS s0 rfl rfl rfl rfl <|
    arm0) fun fa fw bs hv ap z q ow => ?_
  obtain ⟨s6, s7⟩ := b2 bs s6 s7; have s23 := gv hv 0 rfl rfl; refine wt hK10 ?_; refine wp_block ?_; refine sq fun hK11 => ?_
  refine ro [yV _, yV _] 2 52 z q ow (
    aS (fun hk bs hd => xeqi rfl (bg bs s23) rfl) rfl <|
    asD 0 rfl rfl rfl rfl rfl rfl <|
    arm0) fun fa fw bs hv ap z q ow => ?_
  obtain ⟨s6, s7, s23⟩ := b3 bs s6 s7 s23; have s24 := gv hv 1 rfl rfl; refine wt hK11 ?_
  by_cases hc3 : (op : Int) = (7 : Int)
  · refine ct s24 ((decide_eq_true_iff).2 hc3) ?_
    refine sq fun hK12 => ?_
    refine ro [yV _, yV _, yV (aggV (vTruth (decide (((vCmp a b).1 : Int) = (0 : Int)))))] 3 52 z q ow (
      mvS s7 rfl rfl rfl rfl <|
      aS (fun hk bs hd => xeqi rfl (dp hd 0 rfl) rfl) rfl <|
      aC (fun hk bs hd => xcall1 rfl (dp hd 1 rfl) (en_louvreref05_Truth _ _)) (fun hk bs hd => rtruth_any (decide (((vCmp a b).1 : Int) = (0 : Int))) _) rfl <|
      arm0) fun fa fw bs hv ap z q ow => ?_
    obtain ⟨s6, s7⟩ := b2 bs s6 s7; have s28 := gv hv 2 rfl rfl; refine ws ow 0 0 s6 s28 fun fw ow => ?_; refine wt hK12 ?_; refine wp_ret ?_; refine block_r ?_; refine then_r ?_; refine rs3 s6 (ow.box 0 rfl) q ?_; exact ⟨congrArg (fun v => Ending.returned (aggV v)) (show _ = cmp13 op a b by have e : op = 7 := (by omega); subst e; simp [cmp13, ea, eb]), ow.kept⟩
  refine cf s24 (decide_eq_true_iff) hc3 ?_; refine sq fun hK13 => ?_
  refine ro [yV _, yV _] 2 52 z q ow (
    aS (fun hk bs hd => xeqi rfl (bg bs s23) rfl) rfl <|
    asD 0 rfl rfl rfl rfl rfl rfl <|
    arm0) fun fa fw bs hv ap z q ow => ?_
  obtain ⟨s6, s7, s23⟩ := b3 bs s6 s7 s23; have s29 := gv hv 1 rfl rfl; refine wt hK13 ?_
  by_cases hc4 : (op : Int) = (8 : Int)
  · refine ct s29 ((decide_eq_true_iff).2 hc4) ?_
    refine sq fun hK14 => ?_
    refine ro [yV _, yV _, yV (aggV (vTruth (decide (((vCmp a b).1 : Int) ≠ (0 : Int)))))] 3 52 z q ow (
      mvS s7 rfl rfl rfl rfl <|
      aS (fun hk bs hd => xnei rfl (dp hd 0 rfl) rfl) rfl <|
      aC (fun hk bs hd => xcall1 rfl (dp hd 1 rfl) (en_louvreref05_Truth _ _)) (fun hk bs hd => rtruth_any (decide (((vCmp a b).1 : Int) ≠ (0 : Int))) _) rfl <|
      arm0) fun fa fw bs hv ap z q ow => ?_
    obtain ⟨s6, s7⟩ := b2 bs s6 s7; have s33 := gv hv 2 rfl rfl; refine ws ow 0 0 s6 s33 fun fw ow => ?_; refine wt hK14 ?_; refine wp_ret ?_; refine block_r ?_; refine then_r ?_; refine rs3 s6 (ow.box 0 rfl) q ?_; exact ⟨congrArg (fun v => Ending.returned (aggV v)) (show _ = cmp13 op a b by have e : op = 8 := (by omega); subst e; simp [cmp13, ea, eb]), ow.kept⟩
  refine cf s29 (decide_eq_true_iff) hc4 ?_; refine sq fun hK15 => ?_
  refine ro [yV _, yV _] 2 52 z q ow (
    aS (fun hk bs hd => xeqi rfl (bg bs s23) rfl) rfl <|
    asD 0 rfl rfl rfl rfl rfl rfl <|
    arm0) fun fa fw bs hv ap z q ow => ?_
  obtain ⟨s6, s7, s23⟩ := b3 bs s6 s7 s23; have s34 := gv hv 1 rfl rfl; refine wt hK15 ?_
  by_cases hc5 : (op : Int) = (9 : Int)
  · refine ct s34 ((decide_eq_true_iff).2 hc5) ?_
    refine sq fun hK16 => ?_
    refine ro [yV _, yV _, yV (aggV (vTruth (decide (((vCmp a b).1 : Int) < (0 : Int)))))] 3 52 z q ow (
      mvS s7 rfl rfl rfl rfl <|
      aS (fun hk bs hd => xlss rfl (dp hd 0 rfl) rfl) rfl <|
      aC (fun hk bs hd => xcall1 rfl (dp hd 1 rfl) (en_louvreref05_Truth _ _)) (fun hk bs hd => rtruth_any (decide (((vCmp a b).1 : Int) < (0 : Int))) _) rfl <|
      arm0) fun fa fw bs hv ap z q ow => ?_
    obtain ⟨s6, s7⟩ := b2 bs s6 s7; have s38 := gv hv 2 rfl rfl; refine ws ow 0 0 s6 s38 fun fw ow => ?_; refine wt hK16 ?_; refine wp_ret ?_; refine block_r ?_; refine then_r ?_; refine rs3 s6 (ow.box 0 rfl) q ?_; exact ⟨congrArg (fun v => Ending.returned (aggV v)) (show _ = cmp13 op a b by have e : op = 9 := (by omega); subst e; simp [cmp13, ea, eb]), ow.kept⟩
  refine cf s34 (decide_eq_true_iff) hc5 ?_; refine sq fun hK17 => ?_
  refine ro [yV _, yV _] 2 52 z q ow (
    aS (fun hk bs hd => xeqi rfl (bg bs s23) rfl) rfl <|
    asD 0 rfl rfl rfl rfl rfl rfl <|
    arm0) fun fa fw bs hv ap z q ow => ?_
  obtain ⟨s6, s7, s23⟩ := b3 bs s6 s7 s23; have s39 := gv hv 1 rfl rfl; refine wt hK17 ?_
  by_cases hc6 : (op : Int) = (10 : Int)
  · refine ct s39 ((decide_eq_true_iff).2 hc6) ?_
    refine sq fun hK18 => ?_
    refine ro [yV _, yV _, yV (aggV (vTruth (decide (((vCmp a b).1 : Int) ≤ (0 : Int)))))] 3 52 z q ow (
      mvS s7 rfl rfl rfl rfl <|
      aS (fun hk bs hd => xleq rfl (dp hd 0 rfl) rfl) rfl <|
      aC (fun hk bs hd => xcall1 rfl (dp hd 1 rfl) (en_louvreref05_Truth _ _)) (fun hk bs hd => rtruth_any (decide (((vCmp a b).1 : Int) ≤ (0 : Int))) _) rfl <|
      arm0) fun fa fw bs hv ap z q ow => ?_
    obtain ⟨s6, s7⟩ := b2 bs s6 s7; have s43 := gv hv 2 rfl rfl; refine ws ow 0 0 s6 s43 fun fw ow => ?_; refine wt hK18 ?_; refine wp_ret ?_; refine block_r ?_; refine then_r ?_; refine rs3 s6 (ow.box 0 rfl) q ?_; exact ⟨congrArg (fun v => Ending.returned (aggV v)) (show _ = cmp13 op a b by have e : op = 10 := (by omega); subst e; simp [cmp13, ea, eb]), ow.kept⟩
  refine cf s39 (decide_eq_true_iff) hc6 ?_; refine sq fun hK19 => ?_
  refine ro [yV _, yV _] 2 52 z q ow (
    aS (fun hk bs hd => xeqi rfl (bg bs s23) rfl) rfl <|
    asD 0 rfl rfl rfl rfl rfl rfl <|
    arm0) fun fa fw bs hv ap z q ow => ?_
  obtain ⟨s6, s7⟩ := b2 bs s6 s7; have s44 := gv hv 1 rfl rfl; refine wt hK19 ?_
  by_cases hc7 : (op : Int) = (11 : Int)
  · refine ct s44 ((decide_eq_true_iff).2 hc7) ?_
    refine sq fun hK20 => ?_
    refine ro [yV _, yV _, yV (aggV (vTruth (decide ((0 : Int) < ((vCmp a b).1 : Int)))))] 3 52 z q ow (
      mvS s7 rfl rfl rfl rfl <|
      aS (fun hk bs hd => xgtr rfl (dp hd 0 rfl) rfl) rfl <|
      aC (fun hk bs hd => xcall1 rfl (dp hd 1 rfl) (en_louvreref05_Truth _ _)) (fun hk bs hd => rtruth_any (decide ((0 : Int) < ((vCmp a b).1 : Int))) _) rfl <|
      arm0) fun fa fw bs hv ap z q ow => ?_
    obtain ⟨s6, s7⟩ := b2 bs s6 s7; have s48 := gv hv 2 rfl rfl; refine ws ow 0 0 s6 s48 fun fw ow => ?_; refine wt hK20 ?_; refine wp_ret ?_; refine block_r ?_; refine then_r ?_; refine rs3 s6 (ow.box 0 rfl) q ?_; exact ⟨congrArg (fun v => Ending.returned (aggV v)) (show _ = cmp13 op a b by have e : op = 11 := (by omega); subst e; simp [cmp13, ea, eb]), ow.kept⟩
  refine cf s44 (decide_eq_true_iff) hc7 ?_; refine wp_skip ?_; refine block_n ?_; refine tn hK9 ?_; refine sq fun hK21 => ?_
  refine ro [yV _, yV _, yV (aggV (vTruth (decide ((0 : Int) ≤ ((vCmp a b).1 : Int)))))] 3 52 z q ow (
    mvS s7 rfl rfl rfl rfl <|
    aS (fun hk bs hd => xgeq rfl (dp hd 0 rfl) rfl) rfl <|
    aC (fun hk bs hd => xcall1 rfl (dp hd 1 rfl) (en_louvreref05_Truth _ _)) (fun hk bs hd => rtruth_any (decide ((0 : Int) ≤ ((vCmp a b).1 : Int))) _) rfl <|
    arm0) fun fa fw bs hv ap z q ow => ?_
  have s6 := bg bs s6; have s51 := gv hv 2 rfl rfl; refine ws ow 0 0 s6 s51 fun fw ow => ?_; refine wt hK21 ?_; refine wp_ret ?_; refine rs3 s6 (ow.box 0 rfl) q ?_; exact ⟨congrArg (fun v => Ending.returned (aggV v)) (show _ = cmp13 op a b by have e : op = 12 := (by omega); subst e; simp [cmp13, ea, eb]), ow.kept⟩
set_option maxHeartbeats 8000000 in
theorem rbinary13_any (op : Int) (a b : Vl) (w : World) (ha : Small a) (hb : Small b) :
    Calls Tryz.prog 31 #[.int .i64 op, aggV a, aggV b] w fun e w' => e = .returned (.tuple #[aggV (vBin13 op a b).1, .int .i64 (vBin13 op a b).2]) ∧ Kept w w' := by
  have hs := small_ab ha hb; have s_a := ha; have s_b := hb; go_enter Tryz.func31, Tryz.ntmps31; refine sq fun hK1 => ?_
  refine ro [yNew w.heap.size (.cells #[.int .u8 a.k, .int .i64 a.n, .string ⟨a.t.toArray⟩] 25 (0, 0)), yNew w.heap.size (.cells #[.int .u8 b.k, .int .i64 b.n, .string ⟨b.t.toArray⟩] 25 (0, 0)), yNew w.heap.size (.cells #[.int .u8 0, .int .i64 0, .string ⟨[].toArray⟩] 25 (0, 0)), yV _] 4 108 rfl rfl (Own.start w) (
    aP (fun hk bs hd => xbox rfl (bs.get 1 rfl rfl) (by kernel_rfl)) rfl <|
    aP (fun hk bs hd => xbox rfl (bs.get 2 rfl rfl) (by kernel_rfl)) rfl <|
    aP (fun hk bs hd => xalloc rfl (by kernel_rfl)) rfl <|
    aS (fun hk bs hd => xassign rfl rfl) rfl <|
    arm0) fun fa fw bs hv ap z q ov => ?_
  have s0 := bs.get 0 rfl rfl; obtain ⟨gb1, s4, bgb1, hgb1⟩ := gotP hv 0 rfl rfl rfl; have ov := ov.cons hgb1 (Nat.le_trans (Own.start w).kept.size bgb1) ((Own.start w).below bgb1); obtain ⟨gb2, s5, bgb2, hgb2⟩ := gotP hv 1 rfl rfl rfl; have ov := ov.cons hgb2 (Nat.le_trans (Own.start w).kept.size bgb2) (ne_cons (apartP ap 0 1 rfl rfl rfl s4 rfl s5 rfl) ((Own.start w).below bgb2)); obtain ⟨gb3, s6, bgb3, hgb3⟩ := gotP hv 2 rfl rfl rfl; have ov := ov.cons hgb3 (Nat.le_trans (Own.start w).kept.size bgb3) (ne_cons (apartP ap 1 2 rfl rfl rfl s5 rfl s6 rfl) (ne_cons (apartP ap 0 2 rfl rfl rfl s4 rfl s6 rfl) ((Own.start w).below bgb3))); have s7 := gv hv 3 rfl rfl; have ow := ov; refine wt hK1 ?_; refine sq fun hK2 => ?_; refine sq fun hK3 => ?_
  refine ro [yV _, yV _, yV _, yIf (((decide ((op : Int) < (1 : Int))) = false)) (yV (.int .i64 op)), yIf (((decide ((op : Int) < (1 : Int))) = false)) (yV (.bool (decide ((12 : Int) < (op : Int))))), yV _, yV _, yIf ((((decide ((op : Int) < (1 : Int))) || (decide ((12 : Int) < (op : Int)))) = false)) (yV (aggV a)), yIf ((((decide ((op : Int) < (1 : Int))) || (decide ((12 : Int) < (op : Int)))) = false)) (yV (aggV b)), yIf ((((decide ((op : Int) < (1 : Int))) || (decide ((12 : Int) < (op : Int)))) = false)) (ySlice fw.heap.size 2 (rowObj [a, b])), yIf ((((decide ((op : Int) < (1 : Int))) || (decide ((12 : Int) < (op : Int)))) = false)) (yV (.bool ([a, b].all vOk))), yIf ((((decide ((op : Int) < (1 : Int))) || (decide ((12 : Int) < (op : Int)))) = false)) (yV (.bool (!([a, b].all vOk)))), yV _] 13 108 z q ow (
    mvS s0 rfl rfl rfl rfl <|
    aS (fun hk bs hd => xlss rfl (dp hd 0 rfl) rfl) rfl <|
    mvD 1 rfl rfl rfl rfl rfl rfl <|
    arm (fun aa ww hk bs hd => by
      have d2 := dp hd 2 rfl
      by_cases hz : ((decide ((op : Int) < (1 : Int))) = false)
      · exact stepX_same (v := .int .i64 op) (want1 (j := 2) (b := false) rfl (d2.trans (congrArg Value.bool hz))) (xmove rfl (bg bs s0)) ⟨fun _ => rfl, fun c => absurd hz c⟩ rfl
      · exact stepX_skip (wantN (j := 2) (b := false) (b' := true) rfl (d2.trans (congrArg Value.bool ((Bool.not_eq_false _).mp hz))) rfl) ⟨fun c => absurd c hz, fun _ => rfl⟩ rfl
      ) <|
    arm (fun aa ww hk bs hd => by
      have d2 := dp hd 2 rfl; have d3 := dI hd 3 rfl
      by_cases hz : ((decide ((op : Int) < (1 : Int))) = false)
      · exact stepX_same (v := .bool (decide ((12 : Int) < (op : Int)))) (want1 (j := 2) (b := false) rfl (d2.trans (congrArg Value.bool hz))) (xgtr rfl (d3.1 hz) rfl) ⟨fun _ => rfl, fun c => absurd hz c⟩ rfl
      · exact stepX_skip (wantN (j := 2) (b := false) (b' := true) rfl (d2.trans (congrArg Value.bool ((Bool.not_eq_false _).mp hz))) rfl) ⟨fun c => absurd c hz, fun _ => rfl⟩ rfl
      ) <|
    arm (fun aa ww hk bs hd => by
      have d2 := dp hd 2 rfl; have d4 := dI hd 4 rfl; exact stepX_same (v := .bool ((decide ((op : Int) < (1 : Int))) || (decide ((12 : Int) < (op : Int))))) (want0 rfl) (xor_ rfl (d2) rfl (fun hb => d4.1 hb)) rfl rfl
      ) <|
    mvD 5 rfl rfl rfl rfl rfl rfl <|
    arm (fun aa ww hk bs hd => by
      have d6 := dp hd 6 rfl
      by_cases hz : (((decide ((op : Int) < (1 : Int))) || (decide ((12 : Int) < (op : Int)))) = false)
      · exact stepX_same (v := aggV a) (want1 (j := 6) (b := false) rfl (d6.trans (congrArg Value.bool hz))) (xloadN 3 (vs := [.int .u8 a.k, .int .i64 a.n, .string ⟨a.t.toArray⟩]) rfl (by kernel_rfl) (by kernel_rfl) (bg bs s4) ((ow.keep hk).box 2 rfl) (Nat.le_of_ble_eq_true rfl) rfl) ⟨fun _ => rfl, fun c => absurd hz c⟩ rfl
      · exact stepX_skip (wantN (j := 6) (b := false) (b' := true) rfl (d6.trans (congrArg Value.bool ((Bool.not_eq_false _).mp hz))) rfl) ⟨fun c => absurd c hz, fun _ => rfl⟩ rfl
      ) <|
    arm (fun aa ww hk bs hd => by
      have d6 := dp hd 6 rfl
      by_cases hz : (((decide ((op : Int) < (1 : Int))) || (decide ((12 : Int) < (op : Int)))) = false)
      · exact stepX_same (v := aggV b) (want1 (j := 6) (b := false) rfl (d6.trans (congrArg Value.bool hz))) (xloadN 3 (vs := [.int .u8 b.k, .int .i64 b.n, .string ⟨b.t.toArray⟩]) rfl (by kernel_rfl) (by kernel_rfl) (bg bs s5) ((ow.keep hk).box 1 rfl) (Nat.le_of_ble_eq_true rfl) rfl) ⟨fun _ => rfl, fun c => absurd hz c⟩ rfl
      · exact stepX_skip (wantN (j := 6) (b := false) (b' := true) rfl (d6.trans (congrArg Value.bool ((Bool.not_eq_false _).mp hz))) rfl) ⟨fun c => absurd c hz, fun _ => rfl⟩ rfl
      ) <|
    arm (fun aa ww hk bs hd => by
      have d6 := dp hd 6 rfl; have d7 := dI hd 7 rfl; have d8 := dI hd 8 rfl
      by_cases hz : (((decide ((op : Int) < (1 : Int))) || (decide ((12 : Int) < (op : Int)))) = false)
      · exact stepX_value (want1 (j := 6) (b := false) rfl (d6.trans (congrArg Value.bool hz))) (xrow2 rfl (d7.1 hz) (d8.1 hz)) ⟨fun _ => ⟨_, rfl, hk.size, Go.heap_alloc_new _ _⟩, fun c => absurd hz c⟩ ((Kept.refl _).alloc _) rfl
      · exact stepX_skip (wantN (j := 6) (b := false) (b' := true) rfl (d6.trans (congrArg Value.bool ((Bool.not_eq_false _).mp hz))) rfl) ⟨fun c => absurd c hz, fun _ => rfl⟩ rfl
      ) <|
    arm (fun aa ww hk bs hd => by
      have d6 := dp hd 6 rfl; have d9 : ((((decide ((op : Int) < (1 : Int))) || (decide ((12 : Int) < (op : Int)))) = false) → ∃ g, aa.eval (.tmp 20) = .slice (some ⟨g, 0, none⟩) 2 2 ∧ fw.heap.size ≤ g ∧ ww.heap[g]? = some (rowObj [a, b])) ∧ (¬ ((((decide ((op : Int) < (1 : Int))) || (decide ((12 : Int) < (op : Int)))) = false)) → aa.eval (.tmp 20) = undef) := depX hd 9 rfl
      by_cases hz : (((decide ((op : Int) < (1 : Int))) || (decide ((12 : Int) < (op : Int)))) = false)
      · obtain ⟨g9, e9, _, h9⟩ := d9.1 hz
        exact stepX_enter (want1 (j := 6) (b := false) rfl (d6.trans (congrArg Value.bool hz))) (xcall1 (u := .slice (some ⟨g9, 0, none⟩) 2 2) rfl e9 (en_louvreref13_Valid _ _)) ((valid13_any (some ⟨g9, 0, none⟩) 2 [a, b] ww (rowObj_row h9) hs (by simp)).mono fun _ _ ⟨he, hk2⟩ => ⟨_, he, ⟨fun _ => rfl, fun c => absurd hz c⟩, hk2⟩) rfl
      · exact stepX_skip (wantN (j := 6) (b := false) (b' := true) rfl (d6.trans (congrArg Value.bool ((Bool.not_eq_false _).mp hz))) rfl) ⟨fun c => absurd c hz, fun _ => rfl⟩ rfl
      ) <|
    arm (fun aa ww hk bs hd => by
      have d6 := dp hd 6 rfl; have d10 := dI hd 10 rfl
      by_cases hz : (((decide ((op : Int) < (1 : Int))) || (decide ((12 : Int) < (op : Int)))) = false)
      · exact stepX_same (v := .bool (!([a, b].all vOk))) (want1 (j := 6) (b := false) rfl (d6.trans (congrArg Value.bool hz))) (xnot rfl (d10.1 hz)) ⟨fun _ => rfl, fun c => absurd hz c⟩ rfl
      · exact stepX_skip (wantN (j := 6) (b := false) (b' := true) rfl (d6.trans (congrArg Value.bool ((Bool.not_eq_false _).mp hz))) rfl) ⟨fun c => absurd c hz, fun _ => rfl⟩ rfl
      ) <|
    arm (fun aa ww hk bs hd => by
      have d6 := dp hd 6 rfl; have d11 := dI hd 11 rfl; exact stepX_same (v := .bool (((decide ((op : Int) < (1 : Int))) || (decide ((12 : Int) < (op : Int)))) || (!([a, b].all vOk)))) (want0 rfl) (xor_ rfl (d6) rfl (fun hb => d11.1 hb)) rfl rfl
      ) <|
    arm0) fun fa fw bs hv ap z q ow => ?_
  obtain ⟨s0, s4, s5, s6, s7⟩ := b5 bs s0 s4 s5 s6 s7; have s23 := gv hv 12 rfl rfl; refine wt hK3 ?_
  by_cases hc1 : (((op : Int) < (1 : Int)) ∨ ((12 : Int) < (op : Int))) ∨ (¬ (([a, b].all vOk) = true))
  · refine ct s23 ((bor (bor (decide_eq_true_iff) (decide_eq_true_iff)) (bnot (Iff.rfl))).2 hc1) ?_
    have hbad : op < 1 ∨ 12 < op ∨ [a, b].all vOk = false := by rcases hc1 with h | h; omega; exact Or.inr (Or.inr (by simpa using h))
    refine sq fun hK4 => ?_
    refine ro [yV (aggV (⟨0, 0, []⟩ : Vl))] 1 108 z q ow (
      aS (fun hk bs hd => xbuild (us := #[]) rfl (by simp) (by kernel_rfl)) rfl <|
      arm0) fun fa fw bs hv ap z q ow => ?_
    obtain ⟨s0, s4, s5, s6, s7⟩ := b5 bs s0 s4 s5 s6 s7; have s24 := gv hv 0 rfl rfl; refine ws ow 0 0 s6 s24 fun fw ow => ?_; refine wl_value (v := .int .i64 2) (want0 rfl) (xassign rfl rfl) ?_; refine gp4 z q ow s0 s4 s5 s6 fun fa fw z q ow s0 s4 s5 s6 s7 => ?_; refine wt hK4 ?_; refine wp_ret ?_; refine then_r ?_; refine resultsL (v := .tuple #[aggV (⟨0, 0, []⟩ : Vl), .int .i64 2]) rfl (.cons (res_cell (n := 3) _ s6 (by kernel_rfl) (by kernel_rfl) (ow.box 0 rfl) (Nat.le_of_ble_eq_true rfl) rfl) (.cons (res_tmp s7) .nil)) rfl q ?_; exact ⟨ret_pair13 (b13_arg hbad), ow.kept⟩
  refine cf s23 (bor (bor (decide_eq_true_iff) (decide_eq_true_iff)) (bnot (Iff.rfl))) hc1 ?_; have hop : 1 ≤ op ∧ op ≤ 12 := by omega
  have hval : [a, b].all vOk = true := by cases e : [a, b].all vOk with
    | true => rfl
    | false => exact absurd (Or.inr (by rw [e]; decide)) hc1
  refine wp_skip ?_; refine tn hK2 ?_; refine sq fun hK5 => ?_; refine sq fun hK6 => ?_
  refine ro [yV _, yV _] 2 108 z q ow (
    mvS s0 rfl rfl rfl rfl <|
    aS (fun hk bs hd => xeqi rfl (dp hd 0 rfl) rfl) rfl <|
    arm0) fun fa fw bs hv ap z q ow => ?_
  obtain ⟨s0, s4, s5, s6, s7⟩ := b5 bs s0 s4 s5 s6 s7; have s26 := gv hv 1 rfl rfl; refine wt hK6 ?_
  by_cases hc2 : (op : Int) = (6 : Int)
  · refine ct s26 ((decide_eq_true_iff).2 hc2) ?_
    refine sq fun hK7 => ?_
    refine ro [yV (aggV a), yV (aggV b), yV (aggV (cat13 a b))] 3 108 z q ow (
      aS (fun hk bs hd => xloadN 3 rfl (by kernel_rfl) (by kernel_rfl) (bg bs s4) ((ow.keep hk).box 2 rfl) (Nat.le_of_ble_eq_true rfl) rfl) rfl <|
      aS (fun hk bs hd => xloadN 3 rfl (by kernel_rfl) (by kernel_rfl) (bg bs s5) ((ow.keep hk).box 1 rfl) (Nat.le_of_ble_eq_true rfl) rfl) rfl <|
      aC (fun hk bs hd => xcall2 rfl (dp hd 0 rfl) (dp hd 1 rfl) (en_louvreref13_join _ _)) (fun hk bs hd => rjoin13_any a b _ ha hb) rfl <|
      arm0) fun fa fw bs hv ap z q ow => ?_
    obtain ⟨s0, s4, s5, s6, s7⟩ := b5 bs s0 s4 s5 s6 s7; have s29 := gv hv 2 rfl rfl; refine ws ow 0 0 s6 s29 fun fw ow => ?_; refine wl_value (v := .int .i64 0) (want0 rfl) (xassign rfl rfl) ?_; refine gp4 z q ow s0 s4 s5 s6 fun fa fw z q ow s0 s4 s5 s6 s7 => ?_; refine wt hK7 ?_; refine wp_ret ?_; refine then_r ?_; refine resultsL (v := .tuple #[aggV (cat13 a b), .int .i64 0]) rfl (.cons (res_cell (n := 3) _ s6 (by kernel_rfl) (by kernel_rfl) (ow.box 0 rfl) (Nat.le_of_ble_eq_true rfl) rfl) (.cons (res_tmp s7) .nil)) rfl q ?_; exact ⟨ret_pair13 (b13_cat (by omega) hval), ow.kept⟩
  refine cf s26 (decide_eq_true_iff) hc2 ?_; refine wp_skip ?_; refine tn hK5 ?_; refine sq fun hK8 => ?_; refine sq fun hK9 => ?_
  refine ro [yV _, yV _] 2 108 z q ow (
    mvS s0 rfl rfl rfl rfl <|
    aS (fun hk bs hd => xgeq rfl (dp hd 0 rfl) rfl) rfl <|
    arm0) fun fa fw bs hv ap z q ow => ?_
  obtain ⟨s0, s4, s5, s6, s7⟩ := b5 bs s0 s4 s5 s6 s7; have s31 := gv hv 1 rfl rfl; refine wt hK9 ?_
  by_cases hc3 : (7 : Int) ≤ (op : Int)
  · refine ct s31 ((decide_eq_true_iff).2 hc3) ?_
    refine sq fun hK10 => ?_
    refine ro [yV _, yV (aggV a), yV (aggV b), yV (aggV (cmp13 op a b))] 4 108 z q ow (
      mvS s0 rfl rfl rfl rfl <|
      aS (fun hk bs hd => xloadN 3 rfl (by kernel_rfl) (by kernel_rfl) (bg bs s4) ((ow.keep hk).box 2 rfl) (Nat.le_of_ble_eq_true rfl) rfl) rfl <|
      aS (fun hk bs hd => xloadN 3 rfl (by kernel_rfl) (by kernel_rfl) (bg bs s5) ((ow.keep hk).box 1 rfl) (Nat.le_of_ble_eq_true rfl) rfl) rfl <|
      aC (fun hk bs hd => xcall3 rfl (dp hd 0 rfl) (dp hd 1 rfl) (dp hd 2 rfl) (en_louvreref13_compare _ _)) (fun hk bs hd => rcompare13_any op a b _ (by omega) (by omega) ha hb) rfl <|
      arm0) fun fa fw bs hv ap z q ow => ?_
    obtain ⟨s0, s4, s5, s6, s7⟩ := b5 bs s0 s4 s5 s6 s7; have s35 := gv hv 3 rfl rfl; refine ws ow 0 0 s6 s35 fun fw ow => ?_; refine wl_value (v := .int .i64 0) (want0 rfl) (xassign rfl rfl) ?_; refine gp4 z q ow s0 s4 s5 s6 fun fa fw z q ow s0 s4 s5 s6 s7 => ?_; refine wt hK10 ?_; refine wp_ret ?_; refine then_r ?_; refine resultsL (v := .tuple #[aggV (cmp13 op a b), .int .i64 0]) rfl (.cons (res_cell (n := 3) _ s6 (by kernel_rfl) (by kernel_rfl) (ow.box 0 rfl) (Nat.le_of_ble_eq_true rfl) rfl) (.cons (res_tmp s7) .nil)) rfl q ?_; exact ⟨ret_pair13 (b13_cmp (by omega) (by omega) hval), ow.kept⟩
  refine cf s31 (decide_eq_true_iff) hc3 ?_; refine wp_skip ?_; refine tn hK8 ?_; refine sq fun hK11 => ?_
  refine ro [yV (aggV a), yV (aggV b), ySlice fw.heap.size 2 (rowObj [a, b])] 3 108 z q ow (
    aS (fun hk bs hd => xloadN 3 rfl (by kernel_rfl) (by kernel_rfl) (bg bs s4) ((ow.keep hk).box 2 rfl) (Nat.le_of_ble_eq_true rfl) rfl) rfl <|
    aS (fun hk bs hd => xloadN 3 rfl (by kernel_rfl) (by kernel_rfl) (bg bs s5) ((ow.keep hk).box 1 rfl) (Nat.le_of_ble_eq_true rfl) rfl) rfl <|
    arm (fun aa ww hk bs hd => by
      have d0 := dp hd 0 rfl; have d1 := dp hd 1 rfl; exact stepX_new _ (want0 rfl) (xrow2 rfl (d0) (d1)) ⟨_, rfl, hk.size, Go.heap_alloc_new _ _⟩ ((Kept.refl _).alloc _) rfl (Nat.le_refl _)
      ) <|
    arm0) fun fa fw bs hv ap z q ov => ?_
  obtain ⟨s0, s6, s7⟩ := b3 bs s0 s6 s7; obtain ⟨gb4, s39, bgb4, hgb4⟩ := gotL hv 2 rfl rfl rfl; have ov := ov.cons hgb4 (Nat.le_trans ow.kept.size bgb4) (ow.below bgb4); have ow := ov; refine wl_enter (want0 rfl) (xcall1 (u := .slice (some ⟨gb4, 0, none⟩) 2 2) rfl s39 (en_louvreref13_Numbers _ _)) ((rnumbers13_any gb4 0 2 [a, b] _ (rowObj_row (ow.get 0 rfl)) hs (by simp)).mono ?_); rintro _ fw ⟨nv, x, ok, rfl, hk, hcv⟩; refine ⟨_, rfl, ?_⟩; rcases hcv with ⟨rfl, hfst⟩ | ⟨rfl, hfst, hown⟩
  · skip
    have ow := ow.keep hk; clear hk; refine wl_value (v := .tuple #[nv, aggV x, .bool false]) (want0 rfl) (xmove rfl (put_in (t := 40) z rfl)) ?_; refine wl_value (v := nv) (want0 rfl) (xextract rfl (put_in (t := 36) (put_size z) rfl) rfl) ?_; refine wl_value (v := aggV x) (want0 rfl) (xextract rfl (pb 41 (put_in (t := 36) (put_size z) rfl) rfl) rfl) ?_; refine wl_value (v := .bool false) (want0 rfl) (xextract rfl (pb 42 (pb 41 (put_in (t := 36) (put_size z) rfl) rfl) rfl) rfl) ?_; refine wl_newP ow (want0 rfl) (xalloc (b := .cells #[.int .u8 0, .int .i64 0, .string ⟨[].toArray⟩] 25 (0, 0)) rfl (by kernel_rfl)) fun gb5 fw ow => ?_; refine gt7 (put_size (put_size (put_size (put_size (put_size (put_size z)))))) (put_def (put_def (put_def (put_def (put_def (put_def q)))))) ow 0 (pb 9 (pb 43 (pb 42 (pb 41 (pb 36 (pb 40 s0 rfl) rfl) rfl) rfl) rfl) rfl) 6 (pb 9 (pb 43 (pb 42 (pb 41 (pb 36 (pb 40 s6 rfl) rfl) rfl) rfl) rfl) rfl) 7 (pb 9 (pb 43 (pb 42 (pb 41 (pb 36 (pb 40 s7 rfl) rfl) rfl) rfl) rfl) rfl) 41 (pb 9 (pb 43 (pb 42 (put_in (t := 41) (put_size (put_size z)) rfl) rfl) rfl) rfl) 42 (pb 9 (pb 43 (put_in (t := 42) (put_size (put_size (put_size z))) rfl) rfl) rfl) 43 (pb 9 (put_in (t := 43) (put_size (put_size (put_size (put_size z)))) rfl) rfl) 9 (put_in (t := 9) (put_size (put_size (put_size (put_size (put_size z))))) rfl) fun fa fw z q ow s0 s6 s7 s41 s42 s43 s9 => ?_; refine wl_value (v := nv) (want0 rfl) (xassign rfl s41) ?_; refine wl_store ow 0 0 (want0 rfl) rfl rfl (pb 8 s9 rfl) (pb 8 s42 rfl) (by kernel_rfl) rfl rfl rfl fun fw ow => ?_
    refine wl_value (v := .bool false) (want0 rfl) (xassign rfl (pb 8 s43 rfl)) ?_; refine gt6 (put_size (put_size z)) (put_def (put_def q)) ow 0 (pb 10 (pb 8 s0 rfl) rfl) 6 (pb 10 (pb 8 s6 rfl) rfl) 7 (pb 10 (pb 8 s7 rfl) rfl) 9 (pb 10 (pb 8 s9 rfl) rfl) 8 (pb 10 (put_in (t := 8) z rfl) rfl) 10 (put_in (t := 10) (put_size z) rfl) fun fa fw z q ow s0 s6 s7 s9 s8 s10 => ?_; refine wt hK11 ?_; refine sq fun hK12 => ?_; refine sq fun hK13 => ?_
    refine ro [yV _, yV _] 2 108 z q ow (
      mvS s10 rfl rfl rfl rfl <|
      aS (fun hk bs hd => xnot rfl (dp hd 0 rfl)) rfl <|
      arm0) fun fa fw bs hv ap z q ow => ?_
    obtain ⟨s0, s6, s7, s9, s8⟩ := b5 bs s0 s6 s7 s9 s8; have s45 := gv hv 1 rfl rfl; refine wt hK13 ?_; refine wp_cond_true (s45) ?_; refine sq fun hK14 => ?_
    refine ro [yV (aggV x)] 1 108 z q ow (
      aS (fun hk bs hd => xloadN 3 rfl (by kernel_rfl) (by kernel_rfl) (bg bs s9) ((ow.keep hk).box 0 rfl) (Nat.le_of_ble_eq_true rfl) rfl) rfl <|
      arm0) fun fa fw bs hv ap z q ow => ?_
    obtain ⟨s0, s6, s7, s8⟩ := b4 bs s0 s6 s7 s8; have s46 := gv hv 0 rfl rfl; refine ws ow 2 0 s6 s46 fun fw ow => ?_; refine wl_value (v := .int .i64 0) (want0 rfl) (xassign rfl rfl) ?_; refine gp3 z q ow s0 s6 s8 fun fa fw z q ow s0 s6 s8 s7 => ?_; refine wt hK14 ?_; refine wp_ret ?_; refine then_r ?_; refine resultsL (v := .tuple #[aggV x, .int .i64 0]) rfl (.cons (res_cell (n := 3) _ s6 (by kernel_rfl) (by kernel_rfl) (ow.box 2 rfl) (Nat.le_of_ble_eq_true rfl) rfl) (.cons (res_tmp s7) .nil)) rfl q ?_; exact ⟨ret_pair13 (b13_err (by omega) (by omega) hval hfst), ow.kept⟩
  have ow := ow.join hown; clear hk hown; obtain ⟨A2, n2, rfl⟩ := row_slice (ow.row 0 rfl); obtain ⟨b1, off1, rfl⟩ : ∃ b off, A2 = some ⟨b, off, none⟩ := (RowC.of_own (ow.row 0 rfl)).1.some (Nat.zero_lt_succ _); have hn0 : isE (vNum a) = false := none_1 hfst; have r0 := num_range hn0 s_a.1; have i0 : i64 (vNum a).n := ⟨by omega, by omega⟩; have hn1 : isE (vNum b) = false := none_2 hfst; have r1 := num_range hn1 s_b.1; have i1 : i64 (vNum b).n := ⟨by omega, by omega⟩; refine wl_value (v := .tuple #[.slice (some ⟨b1, off1, none⟩) 2 n2, aggV x, .bool true]) (want0 rfl) (xmove rfl (put_in (t := 40) z rfl)) ?_; refine wl_value (v := .slice (some ⟨b1, off1, none⟩) 2 n2) (want0 rfl) (xextract rfl (put_in (t := 36) (put_size z) rfl) rfl) ?_; refine wl_value (v := aggV x) (want0 rfl) (xextract rfl (pb 41 (put_in (t := 36) (put_size z) rfl) rfl) rfl) ?_; refine wl_value (v := .bool true) (want0 rfl) (xextract rfl (pb 42 (pb 41 (put_in (t := 36) (put_size z) rfl) rfl) rfl) rfl) ?_; refine wl_newP ow (want0 rfl) (xalloc (b := .cells #[.int .u8 0, .int .i64 0, .string ⟨[].toArray⟩] 25 (0, 0)) rfl (by kernel_rfl)) fun gb6 fw ow => ?_; refine gt7 (put_size (put_size (put_size (put_size (put_size (put_size z)))))) (put_def (put_def (put_def (put_def (put_def (put_def q)))))) ow 0 (pb 9 (pb 43 (pb 42 (pb 41 (pb 36 (pb 40 s0 rfl) rfl) rfl) rfl) rfl) rfl) 6 (pb 9 (pb 43 (pb 42 (pb 41 (pb 36 (pb 40 s6 rfl) rfl) rfl) rfl) rfl) rfl) 7 (pb 9 (pb 43 (pb 42 (pb 41 (pb 36 (pb 40 s7 rfl) rfl) rfl) rfl) rfl) rfl) 41 (pb 9 (pb 43 (pb 42 (put_in (t := 41) (put_size (put_size z)) rfl) rfl) rfl) rfl) 42 (pb 9 (pb 43 (put_in (t := 42) (put_size (put_size (put_size z))) rfl) rfl) rfl) 43 (pb 9 (put_in (t := 43) (put_size (put_size (put_size (put_size z)))) rfl) rfl) 9 (put_in (t := 9) (put_size (put_size (put_size (put_size (put_size z))))) rfl) fun fa fw z q ow s0 s6 s7 s41 s42 s43 s9 => ?_
  refine wl_value (v := .slice (some ⟨b1, off1, none⟩) 2 n2) (want0 rfl) (xassign rfl s41) ?_; refine wl_store ow 0 0 (want0 rfl) rfl rfl (pb 8 s9 rfl) (pb 8 s42 rfl) (by kernel_rfl) rfl rfl rfl fun fw ow => ?_; refine wl_value (v := .bool true) (want0 rfl) (xassign rfl (pb 8 s43 rfl)) ?_; refine gt6 (put_size (put_size z)) (put_def (put_def q)) ow 0 (pb 10 (pb 8 s0 rfl) rfl) 6 (pb 10 (pb 8 s6 rfl) rfl) 7 (pb 10 (pb 8 s7 rfl) rfl) 9 (pb 10 (pb 8 s9 rfl) rfl) 8 (pb 10 (put_in (t := 8) z rfl) rfl) 10 (put_in (t := 10) (put_size z) rfl) fun fa fw z q ow s0 s6 s7 s9 s8 s10 => ?_; refine wt hK11 ?_; refine sq fun hK15 => ?_; refine sq fun hK16 => ?_
  refine ro [yV _, yV _] 2 108 z q ow (
    mvS s10 rfl rfl rfl rfl <|
    aS (fun hk bs hd => xnot rfl (dp hd 0 rfl)) rfl <|
    arm0) fun fa fw bs hv ap z q ow => ?_
  obtain ⟨s0, s6, s7, s9, s8⟩ := b5 bs s0 s6 s7 s9 s8; have s45 := gv hv 1 rfl rfl; refine wt hK16 ?_; refine wp_cond_false (s45) ?_; refine wp_skip ?_; refine tn hK15 ?_; refine sq fun hK17 => ?_; refine sq fun hK18 => ?_
  refine ro [yV _] 1 108 z q ow (
    mvS s0 rfl rfl rfl rfl <|
    arm0) fun fa fw bs hv ap z q ow => ?_
  obtain ⟨s6, s7, s8⟩ := b3 bs s6 s7 s8; have s47 := gv hv 0 rfl rfl; refine wt hK18 ?_; refine wp_block ?_; refine sq fun hK19 => ?_
  refine ro [yV _, yV _] 2 108 z q ow (
    aS (fun hk bs hd => xeqi rfl (bg bs s47) rfl) rfl <|
    asD 0 rfl rfl rfl rfl rfl rfl <|
    arm0) fun fa fw bs hv ap z q ow => ?_
  obtain ⟨s6, s7, s8, s47⟩ := b4 bs s6 s7 s8 s47; have s48 := gv hv 1 rfl rfl; refine wt hK19 ?_
  by_cases hc4 : (op : Int) = (1 : Int)
  · refine ct s48 ((decide_eq_true_iff).2 hc4) ?_
    refine sq fun hK20 => ?_
    refine ro [yV _, yV _, yV _, yV _, yV _, yV _, yV (.tuple #[.int .i64 ((dSum [((vNum a).n), ((vNum b).n)]).1), .bool ((dSum [((vNum a).n), ((vNum b).n)]).2)]), yV _, yV _, yV (aggV (vRes ((dSum [((vNum a).n), ((vNum b).n)]).1, (dSum [((vNum a).n), ((vNum b).n)]).2)))] 10 108 z q ow (
      mvS s8 rfl rfl rfl rfl <|
      aS (fun hk bs hd => xindexAddr (u := .slice (some ⟨b1, off1, none⟩) 2 n2) (z := .int .i64 ((0 : Nat) : Int)) rfl (dp hd 0 rfl) rfl (run_place1 Tryz.underlying72 (by kernel_rfl) (Nat.le_of_ble_eq_true rfl))) rfl <|
      aS (fun hk bs hd => xloadC rfl (by kernel_rfl) (dp hd 1 rfl) (((RowC.of_own ((ow.keep hk).row 1 rfl)).1).at_ (k := 0) rfl)) rfl <|
      mvS s8 rfl rfl rfl rfl <|
      aS (fun hk bs hd => xindexAddr (u := .slice (some ⟨b1, off1, none⟩) 2 n2) (z := .int .i64 ((1 : Nat) : Int)) rfl (dp hd 3 rfl) rfl (run_place1 Tryz.underlying72 (by kernel_rfl) (Nat.le_of_ble_eq_true rfl))) rfl <|
      aS (fun hk bs hd => xloadC rfl (by kernel_rfl) (dp hd 4 rfl) (((RowC.of_own ((ow.keep hk).row 1 rfl)).1).at_ (k := 1) rfl)) rfl <|
      aC (fun hk bs hd => xcall2 rfl (dp hd 2 rfl) (dp hd 5 rfl) (en_louvreref01_Add _ _)) (fun hk bs hd => radd2_any ((vNum a).n) ((vNum b).n) _ (by assumption) (by assumption)) rfl <|
      aS (fun hk bs hd => xextract rfl (dp hd 6 rfl) rfl) rfl <|
      aS (fun hk bs hd => xextract rfl (dp hd 6 rfl) rfl) rfl <|
      aC (fun hk bs hd => xcall2 rfl (dp hd 7 rfl) (dp hd 8 rfl) (en_louvreref13_number _ _)) (fun hk bs hd => rnumber13_any ((dSum [((vNum a).n), ((vNum b).n)]).1) ((dSum [((vNum a).n), ((vNum b).n)]).2) _ (fun _ => by first | exact fit_i64 _ | exact dMul_i64 _ _ | exact dQuo_i64 _ _)) rfl <|
      arm0) fun fa fw bs hv ap z q ow => ?_
    obtain ⟨s6, s7, s8⟩ := b3 bs s6 s7 s8; have s59 := gv hv 9 rfl rfl; refine ws ow 3 0 s6 s59 fun fw ow => ?_; refine wl_value (v := .int .i64 0) (want0 rfl) (xassign rfl rfl) ?_; refine gp2 z q ow s6 s8 fun fa fw z q ow s6 s8 s7 => ?_; refine wt hK20 ?_; refine wp_ret ?_; refine block_r ?_; refine then_r ?_; refine resultsL (v := .tuple #[aggV (vRes ((dSum [((vNum a).n), ((vNum b).n)]).1, (dSum [((vNum a).n), ((vNum b).n)]).2)), .int .i64 0]) rfl (.cons (res_cell (n := 3) _ s6 (by kernel_rfl) (by kernel_rfl) (ow.box 3 rfl) (Nat.le_of_ble_eq_true rfl) rfl) (.cons (res_tmp s7) .nil)) rfl q ?_; exact ⟨ret_pair13 ((b13_val (by omega) (by omega) hval hfst).trans (congrArg (fun z => (z, (0 : Int))) (show arith13 op (vNum a).n (vNum b).n = vRes ((dSum [((vNum a).n), ((vNum b).n)]).1, (dSum [((vNum a).n), ((vNum b).n)]).2) by have e : op = 1 := (by omega); subst e; rfl))), ow.kept⟩
  refine cf s48 (decide_eq_true_iff) hc4 ?_; refine sq fun hK21 => ?_
  refine ro [yV _, yV _] 2 108 z q ow (
    aS (fun hk bs hd => xeqi rfl (bg bs s47) rfl) rfl <|
    asD 0 rfl rfl rfl rfl rfl rfl <|
    arm0) fun fa fw bs hv ap z q ow => ?_
  obtain ⟨s6, s7, s8, s47⟩ := b4 bs s6 s7 s8 s47; have s60 := gv hv 1 rfl rfl; refine wt hK21 ?_
  by_cases hc5 : (op : Int) = (2 : Int)
  · refine ct s60 ((decide_eq_true_iff).2 hc5) ?_
    refine sq fun hK22 => ?_
    refine ro [yV _, yV _, yV _, yV _, yV _, yV _, yV (.tuple #[.int .i64 ((fit (((vNum a).n) - ((vNum b).n))).1), .bool ((fit (((vNum a).n) - ((vNum b).n))).2)]), yV _, yV _, yV (aggV (vRes ((fit (((vNum a).n) - ((vNum b).n))).1, (fit (((vNum a).n) - ((vNum b).n))).2)))] 10 108 z q ow (
      mvS s8 rfl rfl rfl rfl <|
      aS (fun hk bs hd => xindexAddr (u := .slice (some ⟨b1, off1, none⟩) 2 n2) (z := .int .i64 ((0 : Nat) : Int)) rfl (dp hd 0 rfl) rfl (run_place1 Tryz.underlying72 (by kernel_rfl) (Nat.le_of_ble_eq_true rfl))) rfl <|
      aS (fun hk bs hd => xloadC rfl (by kernel_rfl) (dp hd 1 rfl) (((RowC.of_own ((ow.keep hk).row 1 rfl)).1).at_ (k := 0) rfl)) rfl <|
      mvS s8 rfl rfl rfl rfl <|
      aS (fun hk bs hd => xindexAddr (u := .slice (some ⟨b1, off1, none⟩) 2 n2) (z := .int .i64 ((1 : Nat) : Int)) rfl (dp hd 3 rfl) rfl (run_place1 Tryz.underlying72 (by kernel_rfl) (Nat.le_of_ble_eq_true rfl))) rfl <|
      aS (fun hk bs hd => xloadC rfl (by kernel_rfl) (dp hd 4 rfl) (((RowC.of_own ((ow.keep hk).row 1 rfl)).1).at_ (k := 1) rfl)) rfl <|
      aC (fun hk bs hd => xcall2 rfl (dp hd 2 rfl) (dp hd 5 rfl) (en_louvreref01_Sub _ _)) (fun hk bs hd => rsub_any ((vNum a).n) ((vNum b).n) _ (by assumption) (by assumption)) rfl <|
      aS (fun hk bs hd => xextract rfl (dp hd 6 rfl) rfl) rfl <|
      aS (fun hk bs hd => xextract rfl (dp hd 6 rfl) rfl) rfl <|
      aC (fun hk bs hd => xcall2 rfl (dp hd 7 rfl) (dp hd 8 rfl) (en_louvreref13_number _ _)) (fun hk bs hd => rnumber13_any ((fit (((vNum a).n) - ((vNum b).n))).1) ((fit (((vNum a).n) - ((vNum b).n))).2) _ (fun _ => by first | exact fit_i64 _ | exact dMul_i64 _ _ | exact dQuo_i64 _ _)) rfl <|
      arm0) fun fa fw bs hv ap z q ow => ?_
    obtain ⟨s6, s7, s8⟩ := b3 bs s6 s7 s8; have s71 := gv hv 9 rfl rfl; refine ws ow 3 0 s6 s71 fun fw ow => ?_; refine wl_value (v := .int .i64 0) (want0 rfl) (xassign rfl rfl) ?_; refine gp2 z q ow s6 s8 fun fa fw z q ow s6 s8 s7 => ?_; refine wt hK22 ?_; refine wp_ret ?_; refine block_r ?_; refine then_r ?_; refine resultsL (v := .tuple #[aggV (vRes ((fit (((vNum a).n) - ((vNum b).n))).1, (fit (((vNum a).n) - ((vNum b).n))).2)), .int .i64 0]) rfl (.cons (res_cell (n := 3) _ s6 (by kernel_rfl) (by kernel_rfl) (ow.box 3 rfl) (Nat.le_of_ble_eq_true rfl) rfl) (.cons (res_tmp s7) .nil)) rfl q ?_; exact ⟨ret_pair13 ((b13_val (by omega) (by omega) hval hfst).trans (congrArg (fun z => (z, (0 : Int))) (show arith13 op (vNum a).n (vNum b).n = vRes ((fit (((vNum a).n) - ((vNum b).n))).1, (fit (((vNum a).n) - ((vNum b).n))).2) by have e : op = 2 := (by omega); subst e; rfl))), ow.kept⟩
  refine cf s60 (decide_eq_true_iff) hc5 ?_; refine sq fun hK23 => ?_
  refine ro [yV _, yV _] 2 108 z q ow (
    aS (fun hk bs hd => xeqi rfl (bg bs s47) rfl) rfl <|
    asD 0 rfl rfl rfl rfl rfl rfl <|
    arm0) fun fa fw bs hv ap z q ow => ?_
  obtain ⟨s6, s7, s8, s47⟩ := b4 bs s6 s7 s8 s47; have s72 := gv hv 1 rfl rfl; refine wt hK23 ?_
  by_cases hc6 : (op : Int) = (3 : Int)
  · refine ct s72 ((decide_eq_true_iff).2 hc6) ?_
    refine sq fun hK24 => ?_
    refine ro [yV _, yV _, yV _, yV _, yV _, yV _, yV (.tuple #[.int .i64 ((dMul ((vNum a).n) ((vNum b).n)).1), .bool ((dMul ((vNum a).n) ((vNum b).n)).2)]), yV _, yV _, yV (aggV (vRes ((dMul ((vNum a).n) ((vNum b).n)).1, (dMul ((vNum a).n) ((vNum b).n)).2)))] 10 108 z q ow (
      mvS s8 rfl rfl rfl rfl <|
      aS (fun hk bs hd => xindexAddr (u := .slice (some ⟨b1, off1, none⟩) 2 n2) (z := .int .i64 ((0 : Nat) : Int)) rfl (dp hd 0 rfl) rfl (run_place1 Tryz.underlying72 (by kernel_rfl) (Nat.le_of_ble_eq_true rfl))) rfl <|
      aS (fun hk bs hd => xloadC rfl (by kernel_rfl) (dp hd 1 rfl) (((RowC.of_own ((ow.keep hk).row 1 rfl)).1).at_ (k := 0) rfl)) rfl <|
      mvS s8 rfl rfl rfl rfl <|
      aS (fun hk bs hd => xindexAddr (u := .slice (some ⟨b1, off1, none⟩) 2 n2) (z := .int .i64 ((1 : Nat) : Int)) rfl (dp hd 3 rfl) rfl (run_place1 Tryz.underlying72 (by kernel_rfl) (Nat.le_of_ble_eq_true rfl))) rfl <|
      aS (fun hk bs hd => xloadC rfl (by kernel_rfl) (dp hd 4 rfl) (((RowC.of_own ((ow.keep hk).row 1 rfl)).1).at_ (k := 1) rfl)) rfl <|
      aC (fun hk bs hd => xcall2 rfl (dp hd 2 rfl) (dp hd 5 rfl) (en_louvreref01_Mul _ _)) (fun hk bs hd => rmul_any ((vNum a).n) ((vNum b).n) _ (by assumption) (by assumption)) rfl <|
      aS (fun hk bs hd => xextract rfl (dp hd 6 rfl) rfl) rfl <|
      aS (fun hk bs hd => xextract rfl (dp hd 6 rfl) rfl) rfl <|
      aC (fun hk bs hd => xcall2 rfl (dp hd 7 rfl) (dp hd 8 rfl) (en_louvreref13_number _ _)) (fun hk bs hd => rnumber13_any ((dMul ((vNum a).n) ((vNum b).n)).1) ((dMul ((vNum a).n) ((vNum b).n)).2) _ (fun _ => by first | exact fit_i64 _ | exact dMul_i64 _ _ | exact dQuo_i64 _ _)) rfl <|
      arm0) fun fa fw bs hv ap z q ow => ?_
    obtain ⟨s6, s7, s8⟩ := b3 bs s6 s7 s8; have s83 := gv hv 9 rfl rfl; refine ws ow 3 0 s6 s83 fun fw ow => ?_; refine wl_value (v := .int .i64 0) (want0 rfl) (xassign rfl rfl) ?_; refine gp2 z q ow s6 s8 fun fa fw z q ow s6 s8 s7 => ?_; refine wt hK24 ?_; refine wp_ret ?_; refine block_r ?_; refine then_r ?_; refine resultsL (v := .tuple #[aggV (vRes ((dMul ((vNum a).n) ((vNum b).n)).1, (dMul ((vNum a).n) ((vNum b).n)).2)), .int .i64 0]) rfl (.cons (res_cell (n := 3) _ s6 (by kernel_rfl) (by kernel_rfl) (ow.box 3 rfl) (Nat.le_of_ble_eq_true rfl) rfl) (.cons (res_tmp s7) .nil)) rfl q ?_; exact ⟨ret_pair13 ((b13_val (by omega) (by omega) hval hfst).trans (congrArg (fun z => (z, (0 : Int))) (show arith13 op (vNum a).n (vNum b).n = vRes ((dMul ((vNum a).n) ((vNum b).n)).1, (dMul ((vNum a).n) ((vNum b).n)).2) by have e : op = 3 := (by omega); subst e; rfl))), ow.kept⟩
  refine cf s72 (decide_eq_true_iff) hc6 ?_; refine sq fun hK25 => ?_
  refine ro [yV _, yV _] 2 108 z q ow (
    aS (fun hk bs hd => xeqi rfl (bg bs s47) rfl) rfl <|
    asD 0 rfl rfl rfl rfl rfl rfl <|
    arm0) fun fa fw bs hv ap z q ow => ?_
  obtain ⟨s6, s7, s8⟩ := b3 bs s6 s7 s8; have s84 := gv hv 1 rfl rfl; refine wt hK25 ?_
  by_cases hc7 : (op : Int) = (4 : Int)
  · refine ct s84 ((decide_eq_true_iff).2 hc7) ?_
    refine sq fun hK26 => ?_; refine sq fun hK27 => ?_
    refine ro [yV _, yV _, yV _, yV _] 4 108 z q ow (
      mvS s8 rfl rfl rfl rfl <|
      aS (fun hk bs hd => xindexAddr (u := .slice (some ⟨b1, off1, none⟩) 2 n2) (z := .int .i64 ((1 : Nat) : Int)) rfl (dp hd 0 rfl) rfl (run_place1 Tryz.underlying72 (by kernel_rfl) (Nat.le_of_ble_eq_true rfl))) rfl <|
      aS (fun hk bs hd => xloadC rfl (by kernel_rfl) (dp hd 1 rfl) (((RowC.of_own ((ow.keep hk).row 1 rfl)).1).at_ (k := 1) rfl)) rfl <|
      aS (fun hk bs hd => xeqi rfl (dp hd 2 rfl) rfl) rfl <|
      arm0) fun fa fw bs hv ap z q ow => ?_
    obtain ⟨s6, s7, s8⟩ := b3 bs s6 s7 s8; have s89 := gv hv 3 rfl rfl; refine wt hK27 ?_
    by_cases hc8 : ((vNum b).n : Int) = (0 : Int)
    · refine ct s89 ((decide_eq_true_iff).2 hc8) ?_
      refine sq fun hK28 => ?_
      refine ro [yV (aggV (vFail 1))] 1 108 z q ow (
        aC (fun hk bs hd => xcall1 rfl rfl (en_louvreref05_Fail _ _)) (fun hk bs hd => rfail_any 1 _) rfl <|
        arm0) fun fa fw bs hv ap z q ow => ?_
      obtain ⟨s6, s7, s8⟩ := b3 bs s6 s7 s8; have s90 := gv hv 0 rfl rfl; refine ws ow 3 0 s6 s90 fun fw ow => ?_; refine wl_value (v := .int .i64 0) (want0 rfl) (xassign rfl rfl) ?_; refine gp2 z q ow s6 s8 fun fa fw z q ow s6 s8 s7 => ?_; refine wt hK28 ?_; refine wp_ret ?_; refine then_r ?_; refine block_r ?_; refine then_r ?_; refine resultsL (v := .tuple #[aggV (vFail 1), .int .i64 0]) rfl (.cons (res_cell (n := 3) _ s6 (by kernel_rfl) (by kernel_rfl) (ow.box 3 rfl) (Nat.le_of_ble_eq_true rfl) rfl) (.cons (res_tmp s7) .nil)) rfl q ?_; exact ⟨ret_pair13 ((b13_val (by omega) (by omega) hval hfst).trans (congrArg (fun z => (z, (0 : Int))) (show arith13 op (vNum a).n (vNum b).n = vFail 1 by have e : op = 4 := (by omega); subst e; show arith13 4 _ _ = _; unfold arith13; rw [if_neg (by decide), if_neg (by decide), if_neg (by decide), if_pos rfl, if_pos (by omega)]))), ow.kept⟩
    refine cf s89 (decide_eq_true_iff) hc8 ?_; refine wp_skip ?_; refine tn hK26 ?_; refine sq fun hK29 => ?_
    refine ro [yV _, yV _, yV _, yV _, yV _, yV _, yV (.tuple #[.int .i64 ((dQuo ((vNum a).n) ((vNum b).n)).1), .bool ((dQuo ((vNum a).n) ((vNum b).n)).2)]), yV _, yV _, yV (aggV (vRes ((dQuo ((vNum a).n) ((vNum b).n)).1, (dQuo ((vNum a).n) ((vNum b).n)).2)))] 10 108 z q ow (
      mvS s8 rfl rfl rfl rfl <|
      aS (fun hk bs hd => xindexAddr (u := .slice (some ⟨b1, off1, none⟩) 2 n2) (z := .int .i64 ((0 : Nat) : Int)) rfl (dp hd 0 rfl) rfl (run_place1 Tryz.underlying72 (by kernel_rfl) (Nat.le_of_ble_eq_true rfl))) rfl <|
      aS (fun hk bs hd => xloadC rfl (by kernel_rfl) (dp hd 1 rfl) (((RowC.of_own ((ow.keep hk).row 1 rfl)).1).at_ (k := 0) rfl)) rfl <|
      mvS s8 rfl rfl rfl rfl <|
      aS (fun hk bs hd => xindexAddr (u := .slice (some ⟨b1, off1, none⟩) 2 n2) (z := .int .i64 ((1 : Nat) : Int)) rfl (dp hd 3 rfl) rfl (run_place1 Tryz.underlying72 (by kernel_rfl) (Nat.le_of_ble_eq_true rfl))) rfl <|
      aS (fun hk bs hd => xloadC rfl (by kernel_rfl) (dp hd 4 rfl) (((RowC.of_own ((ow.keep hk).row 1 rfl)).1).at_ (k := 1) rfl)) rfl <|
      aC (fun hk bs hd => xcall2 rfl (dp hd 2 rfl) (dp hd 5 rfl) (en_louvreref01_Quo _ _)) (fun hk bs hd => rquo_any ((vNum a).n) ((vNum b).n) _ (by assumption) (by assumption)) rfl <|
      aS (fun hk bs hd => xextract rfl (dp hd 6 rfl) rfl) rfl <|
      aS (fun hk bs hd => xextract rfl (dp hd 6 rfl) rfl) rfl <|
      aC (fun hk bs hd => xcall2 rfl (dp hd 7 rfl) (dp hd 8 rfl) (en_louvreref13_number _ _)) (fun hk bs hd => rnumber13_any ((dQuo ((vNum a).n) ((vNum b).n)).1) ((dQuo ((vNum a).n) ((vNum b).n)).2) _ (fun _ => by first | exact fit_i64 _ | exact dMul_i64 _ _ | exact dQuo_i64 _ _)) rfl <|
      arm0) fun fa fw bs hv ap z q ow => ?_
    obtain ⟨s6, s7, s8⟩ := b3 bs s6 s7 s8; have s100 := gv hv 9 rfl rfl; refine ws ow 3 0 s6 s100 fun fw ow => ?_; refine wl_value (v := .int .i64 0) (want0 rfl) (xassign rfl rfl) ?_; refine gp2 z q ow s6 s8 fun fa fw z q ow s6 s8 s7 => ?_; refine wt hK29 ?_; refine wp_ret ?_; refine block_r ?_; refine then_r ?_; refine resultsL (v := .tuple #[aggV (vRes ((dQuo ((vNum a).n) ((vNum b).n)).1, (dQuo ((vNum a).n) ((vNum b).n)).2)), .int .i64 0]) rfl (.cons (res_cell (n := 3) _ s6 (by kernel_rfl) (by kernel_rfl) (ow.box 3 rfl) (Nat.le_of_ble_eq_true rfl) rfl) (.cons (res_tmp s7) .nil)) rfl q ?_; exact ⟨ret_pair13 ((b13_val (by omega) (by omega) hval hfst).trans (congrArg (fun z => (z, (0 : Int))) (show arith13 op (vNum a).n (vNum b).n = vRes ((dQuo ((vNum a).n) ((vNum b).n)).1, (dQuo ((vNum a).n) ((vNum b).n)).2) by have e : op = 4 := (by omega); subst e; show arith13 4 _ _ = _; unfold arith13; rw [if_neg (by decide), if_neg (by decide), if_neg (by decide), if_pos rfl, if_neg (by omega)]))), ow.kept⟩
  refine cf s84 (decide_eq_true_iff) hc7 ?_; refine wp_skip ?_; refine block_n ?_; refine tn hK17 ?_; refine sq fun hK30 => ?_
  refine ro [yV _, yV _, yV _, yV _, yV _, yV _, yV (aggV (pow13 ((vNum a).n) ((vNum b).n)))] 7 108 z q ow (
    mvS s8 rfl rfl rfl rfl <|
    aS (fun hk bs hd => xindexAddr (u := .slice (some ⟨b1, off1, none⟩) 2 n2) (z := .int .i64 ((0 : Nat) : Int)) rfl (dp hd 0 rfl) rfl (run_place1 Tryz.underlying72 (by kernel_rfl) (Nat.le_of_ble_eq_true rfl))) rfl <|
    aS (fun hk bs hd => xloadC rfl (by kernel_rfl) (dp hd 1 rfl) (((RowC.of_own ((ow.keep hk).row 1 rfl)).1).at_ (k := 0) rfl)) rfl <|
    mvS s8 rfl rfl rfl rfl <|
    aS (fun hk bs hd => xindexAddr (u := .slice (some ⟨b1, off1, none⟩) 2 n2) (z := .int .i64 ((1 : Nat) : Int)) rfl (dp hd 3 rfl) rfl (run_place1 Tryz.underlying72 (by kernel_rfl) (Nat.le_of_ble_eq_true rfl))) rfl <|
    aS (fun hk bs hd => xloadC rfl (by kernel_rfl) (dp hd 4 rfl) (((RowC.of_own ((ow.keep hk).row 1 rfl)).1).at_ (k := 1) rfl)) rfl <|
    aC (fun hk bs hd => xcall2 rfl (dp hd 2 rfl) (dp hd 5 rfl) (en_louvreref13_power _ _)) (fun hk bs hd => rpower13_any ((vNum a).n) ((vNum b).n) _ (by assumption) (by assumption)) rfl <|
    arm0) fun fa fw bs hv ap z q ow => ?_
  obtain ⟨s6, s7⟩ := b2 bs s6 s7; have s107 := gv hv 6 rfl rfl; refine ws ow 3 0 s6 s107 fun fw ow => ?_; refine wl_value (v := .int .i64 0) (want0 rfl) (xassign rfl rfl) ?_; refine gp1 z q ow s6 fun fa fw z q ow s6 s7 => ?_; refine wt hK30 ?_; refine wp_ret ?_; refine resultsL (v := .tuple #[aggV (pow13 ((vNum a).n) ((vNum b).n)), .int .i64 0]) rfl (.cons (res_cell (n := 3) _ s6 (by kernel_rfl) (by kernel_rfl) (ow.box 3 rfl) (Nat.le_of_ble_eq_true rfl) rfl) (.cons (res_tmp s7) .nil)) rfl q ?_; exact ⟨ret_pair13 ((b13_val (by omega) (by omega) hval hfst).trans (congrArg (fun z => (z, (0 : Int))) (show arith13 op (vNum a).n (vNum b).n = pow13 ((vNum a).n) ((vNum b).n) by have e : op = 5 := (by omega); subst e; rfl))), ow.kept⟩
set_option maxHeartbeats 4000000 in
theorem rneg13_any (a : Vl) (w : World) (ha : Small a) :
    Calls Tryz.prog 33 #[aggV a] w fun e w' => e = .returned (aggV (vNeg13 a)) ∧ Kept w w' := by
  go_enter Tryz.func33, Tryz.ntmps33; refine sq fun hK1 => ?_
  refine ro [yNew w.heap.size (.cells #[.int .u8 a.k, .int .i64 a.n, .string ⟨a.t.toArray⟩] 25 (0, 0)), yNew w.heap.size (.cells #[.int .u8 0, .int .i64 0, .string ⟨[].toArray⟩] 25 (0, 0))] 2 16 rfl rfl (Own.start w) (
    aP (fun hk bs hd => xbox rfl (bs.get 0 rfl rfl) (by kernel_rfl)) rfl <|
    aP (fun hk bs hd => xalloc rfl (by kernel_rfl)) rfl <|
    arm0) fun fa fw bs hv ap z q ov => ?_
  obtain ⟨gb1, s1, bgb1, hgb1⟩ := gotP hv 0 rfl rfl rfl; have ov := ov.cons hgb1 (Nat.le_trans (Own.start w).kept.size bgb1) ((Own.start w).below bgb1); obtain ⟨gb2, s2, bgb2, hgb2⟩ := gotP hv 1 rfl rfl rfl; have ov := ov.cons hgb2 (Nat.le_trans (Own.start w).kept.size bgb2) (ne_cons (apartP ap 0 1 rfl rfl rfl s1 rfl s2 rfl) ((Own.start w).below bgb2)); have ow := ov; refine wt hK1 ?_; refine sq fun hK2 => ?_
  refine ro [yV (aggV a), yV (aggV (vNum a)), yNew fw.heap.size (.cells #[.int .u8 0, .int .i64 0, .string ⟨[].toArray⟩] 25 (0, 0))] 3 16 z q ow (
    aS (fun hk bs hd => xloadN 3 rfl (by kernel_rfl) (by kernel_rfl) (bg bs s1) ((ow.keep hk).box 1 rfl) (Nat.le_of_ble_eq_true rfl) rfl) rfl <|
    aC (fun hk bs hd => xcall1 rfl (dp hd 0 rfl) (en_louvreref05_ToNumber _ _)) (fun hk bs hd => rtonum_any a _ ha.1 ha.2) rfl <|
    aP (fun hk bs hd => xalloc rfl (by kernel_rfl)) rfl <|
    arm0) fun fa fw bs hv ap z q ov => ?_
  have s2 := bg bs s2; have s5 := gv hv 1 rfl rfl; obtain ⟨gb3, s3, bgb3, hgb3⟩ := gotP hv 2 rfl rfl rfl; have ov := ov.cons hgb3 (Nat.le_trans ow.kept.size bgb3) (ow.below bgb3); have ow := ov; refine ws ow 0 0 s3 s5 fun fw ow => ?_; refine wt hK2 ?_; refine sq fun hK3 => ?_; refine sq fun hK4 => ?_
  refine ro [yV (.pointer (some ⟨gb3, 0, none⟩)), yV _, yV _] 3 16 z q ow (
    aS (fun hk bs hd => xfieldAddr rfl (bg bs s3) (by kernel_rfl)) rfl <|
    aS (fun hk bs hd => xloadB rfl (by kernel_rfl) (dp hd 0 rfl) ((ow.keep hk).box 0 rfl) rfl) rfl <|
    aS (fun hk bs hd => xeqi rfl (dp hd 1 rfl) rfl) rfl <|
    arm0) fun fa fw bs hv ap z q ow => ?_
  obtain ⟨s2, s3⟩ := b2 bs s2 s3; have s8 := gv hv 2 rfl rfl; refine wt hK4 ?_
  by_cases hc1 : ((vNum a).k : Int) = (4 : Int)
  · refine ct s8 ((decide_eq_true_iff).2 hc1) ?_
    have ea : isE (vNum a) = true := isE_yes hc1; refine sq fun hK5 => ?_
    refine ro [yV (aggV (vNum a))] 1 16 z q ow (
      aS (fun hk bs hd => xloadN 3 rfl (by kernel_rfl) (by kernel_rfl) (bg bs s3) ((ow.keep hk).box 0 rfl) (Nat.le_of_ble_eq_true rfl) rfl) rfl <|
      arm0) fun fa fw bs hv ap z q ow => ?_
    obtain ⟨s2, s3⟩ := b2 bs s2 s3; have s9 := gv hv 0 rfl rfl; refine ws ow 1 0 s2 s9 fun fw ow => ?_; refine wt hK5 ?_; refine wp_ret ?_; refine then_r ?_; refine rs3 s2 (ow.box 1 rfl) q ?_; exact ⟨congrArg (fun v => Ending.returned (aggV v)) (show _ = vNeg13 a by unfold vNeg13; rw [if_pos ea]), ow.kept⟩
  refine cf s8 (decide_eq_true_iff) hc1 ?_; have ea : isE (vNum a) = false := isE_no hc1; have ra := num_range ea ha.1; have ia : i64 (vNum a).n := ⟨by omega, by omega⟩; have im : i64 1000000 := ⟨by decide, by decide⟩; refine wp_skip ?_; refine tn hK3 ?_; refine sq fun hK6 => ?_
  refine ro [yV (.pointer (some ⟨gb3, 1, none⟩)), yV _, yV (.tuple #[.int .i64 ((dNeg ((vNum a).n)).1), .bool ((dNeg ((vNum a).n)).2)]), yV _, yV _, yV (aggV (vRes ((dNeg ((vNum a).n)).1, (dNeg ((vNum a).n)).2)))] 6 16 z q ow (
    aS (fun hk bs hd => xfieldAddr rfl (bg bs s3) (by kernel_rfl)) rfl <|
    aS (fun hk bs hd => xloadB rfl (by kernel_rfl) (dp hd 0 rfl) ((ow.keep hk).box 0 rfl) rfl) rfl <|
    aC (fun hk bs hd => xcall1 rfl (dp hd 1 rfl) (en_louvreref01_Neg _ _)) (fun hk bs hd => rneg_any ((vNum a).n) _ (by assumption)) rfl <|
    aS (fun hk bs hd => xextract rfl (dp hd 2 rfl) rfl) rfl <|
    aS (fun hk bs hd => xextract rfl (dp hd 2 rfl) rfl) rfl <|
    aC (fun hk bs hd => xcall2 rfl (dp hd 3 rfl) (dp hd 4 rfl) (en_louvreref13_number _ _)) (fun hk bs hd => rnumber13_any ((dNeg ((vNum a).n)).1) ((dNeg ((vNum a).n)).2) _ (fun _ => by first | exact fit_i64 _ | exact dQuo_i64 _ _)) rfl <|
    arm0) fun fa fw bs hv ap z q ow => ?_
  have s2 := bg bs s2; have s15 := gv hv 5 rfl rfl; refine ws ow 1 0 s2 s15 fun fw ow => ?_; refine wt hK6 ?_; refine wp_ret ?_; refine rs3 s2 (ow.box 1 rfl) q ?_; exact ⟨congrArg (fun v => Ending.returned (aggV v)) (show _ = vNeg13 a by unfold vNeg13; rw [if_neg (by rw [ea]; decide)]), ow.kept⟩
set_option maxHeartbeats 4000000 in
theorem rpercent13_any (a : Vl) (w : World) (ha : Small a) :
    Calls Tryz.prog 35 #[aggV a] w fun e w' => e = .returned (aggV (vPct13 a)) ∧ Kept w w' := by
  go_enter Tryz.func35, Tryz.ntmps35; refine sq fun hK1 => ?_
  refine ro [yNew w.heap.size (.cells #[.int .u8 a.k, .int .i64 a.n, .string ⟨a.t.toArray⟩] 25 (0, 0)), yNew w.heap.size (.cells #[.int .u8 0, .int .i64 0, .string ⟨[].toArray⟩] 25 (0, 0))] 2 16 rfl rfl (Own.start w) (
    aP (fun hk bs hd => xbox rfl (bs.get 0 rfl rfl) (by kernel_rfl)) rfl <|
    aP (fun hk bs hd => xalloc rfl (by kernel_rfl)) rfl <|
    arm0) fun fa fw bs hv ap z q ov => ?_
  obtain ⟨gb1, s1, bgb1, hgb1⟩ := gotP hv 0 rfl rfl rfl; have ov := ov.cons hgb1 (Nat.le_trans (Own.start w).kept.size bgb1) ((Own.start w).below bgb1); obtain ⟨gb2, s2, bgb2, hgb2⟩ := gotP hv 1 rfl rfl rfl; have ov := ov.cons hgb2 (Nat.le_trans (Own.start w).kept.size bgb2) (ne_cons (apartP ap 0 1 rfl rfl rfl s1 rfl s2 rfl) ((Own.start w).below bgb2)); have ow := ov; refine wt hK1 ?_; refine sq fun hK2 => ?_
  refine ro [yV (aggV a), yV (aggV (vNum a)), yNew fw.heap.size (.cells #[.int .u8 0, .int .i64 0, .string ⟨[].toArray⟩] 25 (0, 0))] 3 16 z q ow (
    aS (fun hk bs hd => xloadN 3 rfl (by kernel_rfl) (by kernel_rfl) (bg bs s1) ((ow.keep hk).box 1 rfl) (Nat.le_of_ble_eq_true rfl) rfl) rfl <|
    aC (fun hk bs hd => xcall1 rfl (dp hd 0 rfl) (en_louvreref05_ToNumber _ _)) (fun hk bs hd => rtonum_any a _ ha.1 ha.2) rfl <|
    aP (fun hk bs hd => xalloc rfl (by kernel_rfl)) rfl <|
    arm0) fun fa fw bs hv ap z q ov => ?_
  have s2 := bg bs s2; have s5 := gv hv 1 rfl rfl; obtain ⟨gb3, s3, bgb3, hgb3⟩ := gotP hv 2 rfl rfl rfl; have ov := ov.cons hgb3 (Nat.le_trans ow.kept.size bgb3) (ow.below bgb3); have ow := ov; refine ws ow 0 0 s3 s5 fun fw ow => ?_; refine wt hK2 ?_; refine sq fun hK3 => ?_; refine sq fun hK4 => ?_
  refine ro [yV (.pointer (some ⟨gb3, 0, none⟩)), yV _, yV _] 3 16 z q ow (
    aS (fun hk bs hd => xfieldAddr rfl (bg bs s3) (by kernel_rfl)) rfl <|
    aS (fun hk bs hd => xloadB rfl (by kernel_rfl) (dp hd 0 rfl) ((ow.keep hk).box 0 rfl) rfl) rfl <|
    aS (fun hk bs hd => xeqi rfl (dp hd 1 rfl) rfl) rfl <|
    arm0) fun fa fw bs hv ap z q ow => ?_
  obtain ⟨s2, s3⟩ := b2 bs s2 s3; have s8 := gv hv 2 rfl rfl; refine wt hK4 ?_
  by_cases hc1 : ((vNum a).k : Int) = (4 : Int)
  · refine ct s8 ((decide_eq_true_iff).2 hc1) ?_
    have ea : isE (vNum a) = true := isE_yes hc1; refine sq fun hK5 => ?_
    refine ro [yV (aggV (vNum a))] 1 16 z q ow (
      aS (fun hk bs hd => xloadN 3 rfl (by kernel_rfl) (by kernel_rfl) (bg bs s3) ((ow.keep hk).box 0 rfl) (Nat.le_of_ble_eq_true rfl) rfl) rfl <|
      arm0) fun fa fw bs hv ap z q ow => ?_
    obtain ⟨s2, s3⟩ := b2 bs s2 s3; have s9 := gv hv 0 rfl rfl; refine ws ow 1 0 s2 s9 fun fw ow => ?_; refine wt hK5 ?_; refine wp_ret ?_; refine then_r ?_; refine rs3 s2 (ow.box 1 rfl) q ?_; exact ⟨congrArg (fun v => Ending.returned (aggV v)) (show _ = vPct13 a by unfold vPct13; rw [if_pos ea]), ow.kept⟩
  refine cf s8 (decide_eq_true_iff) hc1 ?_; have ea : isE (vNum a) = false := isE_no hc1; have ra := num_range ea ha.1; have ia : i64 (vNum a).n := ⟨by omega, by omega⟩; have im : i64 1000000 := ⟨by decide, by decide⟩; refine wp_skip ?_; refine tn hK3 ?_; refine sq fun hK6 => ?_
  refine ro [yV (.pointer (some ⟨gb3, 1, none⟩)), yV _, yV (.tuple #[.int .i64 ((dQuo ((vNum a).n) 1000000).1), .bool ((dQuo ((vNum a).n) 1000000).2)]), yV _, yV _, yV (aggV (vRes ((dQuo ((vNum a).n) 1000000).1, (dQuo ((vNum a).n) 1000000).2)))] 6 16 z q ow (
    aS (fun hk bs hd => xfieldAddr rfl (bg bs s3) (by kernel_rfl)) rfl <|
    aS (fun hk bs hd => xloadB rfl (by kernel_rfl) (dp hd 0 rfl) ((ow.keep hk).box 0 rfl) rfl) rfl <|
    aC (fun hk bs hd => xcall2 rfl (dp hd 1 rfl) rfl (en_louvreref01_Quo _ _)) (fun hk bs hd => rquo_any ((vNum a).n) 1000000 _ (by assumption) (by assumption)) rfl <|
    aS (fun hk bs hd => xextract rfl (dp hd 2 rfl) rfl) rfl <|
    aS (fun hk bs hd => xextract rfl (dp hd 2 rfl) rfl) rfl <|
    aC (fun hk bs hd => xcall2 rfl (dp hd 3 rfl) (dp hd 4 rfl) (en_louvreref13_number _ _)) (fun hk bs hd => rnumber13_any ((dQuo ((vNum a).n) 1000000).1) ((dQuo ((vNum a).n) 1000000).2) _ (fun _ => by first | exact fit_i64 _ | exact dQuo_i64 _ _)) rfl <|
    arm0) fun fa fw bs hv ap z q ow => ?_
  have s2 := bg bs s2; have s15 := gv hv 5 rfl rfl; refine ws ow 1 0 s2 s15 fun fw ow => ?_; refine wt hK6 ?_; refine wp_ret ?_; refine rs3 s2 (ow.box 1 rfl) q ?_; exact ⟨congrArg (fun v => Ending.returned (aggV v)) (show _ = vPct13 a by unfold vPct13; rw [if_neg (by rw [ea]; decide)]), ow.kept⟩
end Go.Proofs.YtbpkfnoenkoabaaGreatDoor
