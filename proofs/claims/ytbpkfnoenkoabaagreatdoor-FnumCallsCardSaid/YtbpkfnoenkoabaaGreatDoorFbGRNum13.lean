/- Layer 13: the reference's functions (printed by wip/mkrnum13.py). -/
import Derived.Test.YtbpkfnoenkoabaaGreatDoorFbGNum13b
import Derived.Test.YtbpkfnoenkoabaaGreatDoorFbMixAT
import Derived.Test.YtbpkfnoenkoabaaGreatDoorFbBunC
import Derived.Test.YtbpkfnoenkoabaaGreatDoorFbBunV
import Derived.Test.YtbpkfnoenkoabaaGreatDoorFbMixAV
namespace Go.Proofs.YtbpkfnoenkoabaaGreatDoor
set_option linter.unusedVariables false
set_option linter.unusedSimpArgs false
open Go.RowKit Lv
set_option maxRecDepth 100000
def RNumOut (w : World) (l : List Vl) (e : Ending) (w' : World) : Prop := ∃ nv x ok, e = .returned (.tuple #[nv, aggV x, .bool ok]) ∧ Kept w w' ∧ ((ok = false ∧ firstE (l.map vNum) = some x) ∨ (ok = true ∧ firstE (l.map vNum) = none ∧ Own w [Th.row w.heap.size 2 1 nv ((l.map fun v => (vNum v).n).map numV).length ((l.map fun v => (vNum v).n).map numV)] w'))
theorem nextN13 {l : List Vl} {k : Nat} (hk : k < l.length) : ((l.take (k + 1)).map fun v => (vNum v).n).map numV = ((l.take k).map fun v => (vNum v).n).map numV ++ [numV (vNum (l.getD k blankV)).n] := by
  rw [List.take_succ_eq_append_getElem hk, List.map_append, List.map_append, show l.getD k blankV = l[k] by simp [List.getD, hk]]; rfl
theorem firstN_next {l : List Vl} {k : Nat} (hk : k < l.length) (h : firstE ((l.take k).map vNum) = none) (he : isE (vNum (l.getD k blankV)) = false) : firstE ((l.take (k + 1)).map vNum) = none := by
  rw [List.take_succ_eq_append_getElem hk, List.map_append, List.map_cons, List.map_nil, firstE_snoc', h, ← show l.getD k blankV = l[k] by simp [List.getD, hk], he]; rfl
theorem firstE_app {l m : List Vl} {x : Vl} (h : firstE l = some x) : firstE (l ++ m) = some x := by
  unfold firstE at h ⊢
  rw [List.find?_append, h]; rfl
theorem firstN_more {l : List Vl} {k : Nat} (hk : k < l.length) (h : firstE ((l.take k).map vNum) = none) (he : isE (vNum (l.getD k blankV)) = true) : firstE (l.map vNum) = some (vNum (l.getD k blankV)) := by
  have e : l.map vNum = (l.take (k + 1)).map vNum ++ (l.drop (k + 1)).map vNum := by rw [← List.map_append, List.take_append_drop]
  rw [e]
  apply firstE_app
  rw [List.take_succ_eq_append_getElem hk, List.map_append, List.map_cons, List.map_nil, firstE_snoc', h, ← show l.getD k blankV = l[k] by simp [List.getD, hk], he]; rfl
theorem Own.one {w0 w : World} {s : Th} {H : List Th} (h : Own w0 (s :: H) w) : Own w0 [s] w := h.sub (by simp)
theorem mod13_m1 {x y : Int} (h : y = -1) : (0 : Int) = mod13 x y := by
  subst h
  have e : x.tmod (-1) = 0 := by rw [Int.tmod_neg]; exact Int.tmod_one x
  unfold mod13
  rw [if_neg (by rw [e]; simp), e]
theorem two13_yes {fn : Nat} (h : two13 fn = true) : fn = 5 ∨ fn = 6 ∨ fn = 7 := by unfold two13 at h; simpa using h
theorem two13_no {fn : Nat} (h : two13 fn = false) : fn ≠ 5 ∧ fn ≠ 6 ∧ fn ≠ 7 := by unfold two13 at h; simpa using h
theorem sqrt13 (x : Int) : vRes ((dSqrt x).1, (dSqrt x).2) = if x < 0 then vFail 3 else vRes (dSqrt x) := by
  by_cases h : x < 0
  · rw [if_pos h]; unfold dSqrt; rw [if_pos h]; rfl
  · rw [if_neg h]
set_option maxHeartbeats 2000000 in
theorem arity13_any (fn : Nat) (h1 : 1 ≤ fn) (h2 : fn ≤ 8) (w : World) : Calls Tryz.prog 144 #[.int .u8 fn] w fun e w' => e = .returned (.tuple #[.int .i64 (if two13 fn then 2 else 1 : Nat), .int .i64 (if two13 fn then 2 else 1 : Nat)]) ∧ Kept w w' := by
  rcases (show fn = 1 ∨ fn = 2 ∨ fn = 3 ∨ fn = 4 ∨ fn = 5 ∨ fn = 6 ∨ fn = 7 ∨ fn = 8 by omega) with rfl | rfl | rfl | rfl | rfl | rfl | rfl | rfl
  all_goals
    go_enter Tryz.func144, Tryz.ntmps144
    go_wp2_with fail
    go_ret2
    exact ⟨rfl, (by repeat (first | with_reducible (first | exact Kept.refl _ | apply Kept.drew | apply Kept.drewN | apply Kept.alloc) | (with_reducible refine Kept.setCellX ?_ ?_ _; focus (first | (simp; done) | (simp; omega))) | with_reducible refine Kept.trans ?_ (by assumption)))⟩
theorem count13n_any (fn : Nat) (h1 : 1 ≤ fn) (h2 : fn ≤ 8) (n : Nat) (w : World) : Calls Tryz.prog 62 #[.int .u8 fn, .int .i64 n] w fun e w' => e = .returned (.bool (decide (n = (if two13 fn then 2 else 1)))) ∧ Kept w w' := by
  have AR := Lib.hid (fun w => arity13_any fn h1 h2 w)
  generalize (if two13 fn then 2 else 1 : Nat) = lo at *
  clear h1 h2
  by_cases c : lo ≤ n
  · by_cases d : n ≤ lo
    · have EF : Hid (decide (n = lo) = true) := decide_eq_true (by omega)
      go_enter Tryz.func62, Tryz.ntmps62
      go_wp2_with fail
      refine (AR.out _).mono ?_
      rintro e w' ⟨rfl, k1⟩
      go_wp2_with fail
      go_ret
      exact ⟨ret_bool EF.out.symm, k1⟩
    · have EF : Hid (decide (n = lo) = false) := decide_eq_false (by omega)
      have d' : lo < n := by omega
      go_enter Tryz.func62, Tryz.ntmps62
      go_wp2_with fail
      refine (AR.out _).mono ?_
      rintro e w' ⟨rfl, k1⟩
      go_wp2_with fail
      go_ret
      exact ⟨ret_bool EF.out.symm, k1⟩
  · have EF : Hid (decide (n = lo) = false) := decide_eq_false (by omega)
    have d' : n < lo := by omega
    go_enter Tryz.func62, Tryz.ntmps62
    go_wp2_with fail
    refine (AR.out _).mono ?_
    rintro e w' ⟨rfl, k1⟩
    go_wp2_with fail
    go_ret
    exact ⟨ret_bool EF.out.symm, k1⟩
theorem en_louvreref01_Floor (args : Array Value) (w : World) : (callFunc 161 args).run Tryz.prog w = .ok (.enter 161 args) w := by go_simp
theorem en_louvreref01_Power (args : Array Value) (w : World) : (callFunc 183 args).run Tryz.prog w = .ok (.enter 183 args) w := by go_simp
theorem en_louvreref01_Round (args : Array Value) (w : World) : (callFunc 163 args).run Tryz.prog w = .ok (.enter 163 args) w := by go_simp
theorem en_louvreref01_Sqrt (args : Array Value) (w : World) : (callFunc 165 args).run Tryz.prog w = .ok (.enter 165 args) w := by go_simp
theorem en_louvreref01_Trunc (args : Array Value) (w : World) : (callFunc 162 args).run Tryz.prog w = .ok (.enter 162 args) w := by go_simp
theorem en_louvreref05_Fail (args : Array Value) (w : World) : (callFunc 86 args).run Tryz.prog w = .ok (.enter 86 args) w := by go_simp
theorem en_louvreref05_Make (args : Array Value) (w : World) : (callFunc 96 args).run Tryz.prog w = .ok (.enter 96 args) w := by go_simp
theorem en_louvreref05_ToNumber (args : Array Value) (w : World) : (callFunc 91 args).run Tryz.prog w = .ok (.enter 91 args) w := by go_simp
theorem en_louvreref13_Count (args : Array Value) (w : World) : (callFunc 62 args).run Tryz.prog w = .ok (.enter 62 args) w := by go_simp
theorem en_louvreref13_Numbers (args : Array Value) (w : World) : (callFunc 73 args).run Tryz.prog w = .ok (.enter 73 args) w := by go_simp
theorem en_louvreref13_Valid (args : Array Value) (w : World) : (callFunc 63 args).run Tryz.prog w = .ok (.enter 63 args) w := by go_simp
theorem en_louvreref13_mod (args : Array Value) (w : World) : (callFunc 164 args).run Tryz.prog w = .ok (.enter 164 args) w := by go_simp
theorem en_louvreref13_number (args : Array Value) (w : World) : (callFunc 82 args).run Tryz.prog w = .ok (.enter 82 args) w := by go_simp
theorem en_louvreref13_power (args : Array Value) (w : World) : (callFunc 88 args).run Tryz.prog w = .ok (.enter 88 args) w := by go_simp
theorem en_louvreref13_sign (args : Array Value) (w : World) : (callFunc 160 args).run Tryz.prog w = .ok (.enter 160 args) w := by go_simp
theorem en_louvreref13_value (args : Array Value) (w : World) : (callFunc 74 args).run Tryz.prog w = .ok (.enter 74 args) w := by go_simp
set_option maxHeartbeats 4000000 in
theorem rnumber13_any (n : Int) (b : Bool) (w : World) (hn : b = true → i64 n) :
    Calls Tryz.prog 82 #[.int .i64 n, .bool b] w fun e w' => e = .returned (aggV (vRes (n, b))) ∧ Kept w w' := by
  go_enter Tryz.func82, Tryz.ntmps82
  refine wp_seq_k fun K1 hK1 => ?_
  refine rgn [yNew w.heap.size (.cells #[.int .u8 0, .int .i64 0, .string ⟨[].toArray⟩] 25 (0, 0))] 1 10 rfl (by kernel_rfl) (by kernel_rfl) (
    armP (wn rfl) (fun aa ww hk bs hd => xalloc rfl (by kernel_rfl)) rfl <|
    arm0) fun fa fw hk bs hv ap => ?_
  obtain ⟨z, q, ov⟩ := aft hk bs rfl rfl (Own.start w)
  have s0 := bs.get 0 rfl rfl
  have s1 := bs.get 1 rfl rfl
  obtain ⟨gb1, s4, bgb1, hgb1⟩ := gotP hv 0 rfl rfl rfl
  have ov := ov.cons hgb1 (Nat.le_trans (Own.start w).kept.size bgb1) ((Own.start w).below bgb1)
  have ow := ov
  clear hv ap bs hk ov
  refine wl_then (hK1 _ _ ?_)
  try clear hK1 K1
  refine wp_seq_k fun K2 hK2 => ?_
  refine wp_seq_k fun K3 hK3 => ?_
  refine rgn [yV _, yV _] 2 10 z (by kernel_rfl) (by kernel_rfl) (
    mvS s1 rfl rfl rfl rfl <|
    armS (wn rfl) (fun aa ww hk bs hd => xnot rfl (dep hd 0 rfl rfl rfl)) rfl <|
    arm0) fun fa fw hk bs hv ap => ?_
  obtain ⟨z, q, ov⟩ := aft hk bs z q ow
  have s0 := bs.get 0 rfl s0
  have s4 := bs.get 4 rfl s4
  have s6 := got hv 1 rfl rfl rfl
  have ow := ov
  clear hv ap bs hk ov
  refine wl_then (hK3 _ _ ?_)
  try clear hK3 K3
  by_cases hc1 : ¬ (b = true)
  · refine wp_cond_true (s6.trans (congrArg Value.bool ((bnot (Iff.rfl)).2 hc1))) ?_
    have hb : b = false := by simpa using hc1
    refine wp_seq_k fun K4 hK4 => ?_
    refine rgn [yV (aggV (vFail 3))] 1 10 z (by kernel_rfl) (by kernel_rfl) (
      armC (wn rfl) (fun aa ww hk bs hd => xcall1 rfl rfl (en_louvreref05_Fail _ _)) (fun aa ww hk bs hd => rfail_any 3 ww) rfl <|
      arm0) fun fa fw hk bs hv ap => ?_
    obtain ⟨z, q, ov⟩ := aft hk bs z q ow
    have s0 := bs.get 0 rfl s0
    have s4 := bs.get 4 rfl s4
    have s7 := got hv 0 rfl rfl rfl
    have ow := ov
    clear hv ap bs hk ov
    refine wl_store ow 0 0 (want0 rfl) rfl rfl s4 s7 (by kernel_rfl) rfl rfl rfl fun fw ow => ?_
    refine wl_then (hK4 _ _ ?_)
    try clear hK4 K4
    refine wp_ret ?_
    refine then_r ?_
    refine results_one rfl (res_cell (n := 3) _ s4 (by kernel_rfl) (by kernel_rfl) (ow.box 0 rfl) (Nat.le_of_ble_eq_true rfl) rfl) q ?_
    exact ⟨congrArg (fun v => Ending.returned (aggV v)) (show _ = vRes (n, b) by unfold vRes; rw [hb]; rfl), ow.kept⟩
  refine wp_cond_false (s6.trans (congrArg Value.bool (Bool.eq_false_iff.2 (fun c => hc1 ((bnot (Iff.rfl)).1 c))))) ?_
  have hb : b = true := by simpa using hc1
  refine wp_skip ?_
  refine then_n (hK2 _ _ ?_)
  try clear hK2 K2
  refine wp_seq_k fun K5 hK5 => ?_
  refine rgn [yV _, yV (aggV (vMake n))] 2 10 z (by kernel_rfl) (by kernel_rfl) (
    mvS s0 rfl rfl rfl rfl <|
    armC (wn rfl) (fun aa ww hk bs hd => xcall1 rfl (dep hd 0 rfl rfl rfl) (en_louvreref05_Make _ _)) (fun aa ww hk bs hd => rmake_any n ww (hn hb).1 (hn hb).2) rfl <|
    arm0) fun fa fw hk bs hv ap => ?_
  obtain ⟨z, q, ov⟩ := aft hk bs z q ow
  have s4 := bs.get 4 rfl s4
  have s9 := got hv 1 rfl rfl rfl
  have ow := ov
  clear hv ap bs hk ov
  refine wl_store ow 0 0 (want0 rfl) rfl rfl s4 s9 (by kernel_rfl) rfl rfl rfl fun fw ow => ?_
  refine wl_then (hK5 _ _ ?_)
  try clear hK5 K5
  refine wp_ret ?_
  refine results_one rfl (res_cell (n := 3) _ s4 (by kernel_rfl) (by kernel_rfl) (ow.box 0 rfl) (Nat.le_of_ble_eq_true rfl) rfl) q ?_
  exact ⟨congrArg (fun v => Ending.returned (aggV v)) (show _ = vRes (n, b) by unfold vRes; rw [hb]; rfl), ow.kept⟩
set_option maxHeartbeats 4000000 in
theorem rsign13_any (x : Int) (w : World) :
    Calls Tryz.prog 160 #[.int .i64 x] w fun e w' => e = .returned (.int .i64 (sgn13 x * 10000)) ∧ Kept w w' := by
  go_enter Tryz.func160, Tryz.ntmps160
  refine wp_seq_k fun K1 hK1 => ?_
  refine rgn [yV _] 1 7 rfl (by kernel_rfl) (by kernel_rfl) (
    armS (wn rfl) (fun aa ww hk bs hd => xassign rfl rfl) rfl <|
    arm0) fun fa fw hk bs hv ap => ?_
  obtain ⟨z, q, ov⟩ := aft hk bs rfl rfl (Own.start w)
  have s0 := bs.get 0 rfl rfl
  have s2 := got hv 0 rfl rfl rfl
  have ow := ov
  clear hv ap bs hk ov
  refine wl_then (hK1 _ _ ?_)
  try clear hK1 K1
  refine wp_seq_k fun K2 hK2 => ?_
  refine wp_seq_k fun K3 hK3 => ?_
  refine rgn [yV _, yV _] 2 7 z (by kernel_rfl) (by kernel_rfl) (
    mvS s0 rfl rfl rfl rfl <|
    armS (wn rfl) (fun aa ww hk bs hd => xgtr rfl (dep hd 0 rfl rfl rfl) rfl) rfl <|
    arm0) fun fa fw hk bs hv ap => ?_
  obtain ⟨z, q, ov⟩ := aft hk bs z q ow
  have s0 := bs.get 0 rfl s0
  have s2 := bs.get 2 rfl s2
  have s4 := got hv 1 rfl rfl rfl
  have ow := ov
  clear hv ap bs hk ov
  refine wl_then (hK3 _ _ ?_)
  try clear hK3 K3
  by_cases hc1 : (0 : Int) < (x : Int)
  · refine wp_cond_true (s4.trans (congrArg Value.bool ((decide_eq_true_iff).2 hc1))) ?_
    refine wp_seq_k fun K4 hK4 => ?_
    refine rgn [yV _] 1 7 z (by kernel_rfl) (by kernel_rfl) (
      armS (wn rfl) (fun aa ww hk bs hd => xassign rfl rfl) rfl <|
      arm0) fun fa fw hk bs hv ap => ?_
    obtain ⟨z, q, ov⟩ := aft hk bs z q ow
    have s0 := bs.get 0 rfl s0
    have s2 := got hv 0 rfl rfl rfl
    have ow := ov
    clear hv ap bs hk ov
    refine wl_then (hK4 _ _ ?_)
    try clear hK4 K4
    refine wp_ret ?_
    refine then_r ?_
    refine results_one rfl (res_tmp s2) q ?_
    exact ⟨(congrArg (fun n => Ending.returned (.int .i64 n)) (show _ = sgn13 x * 10000 by unfold sgn13; (repeat' split) <;> omega)), ow.kept⟩
  refine wp_cond_false (s4.trans (congrArg Value.bool (Bool.eq_false_iff.2 (fun c => hc1 ((decide_eq_true_iff).1 c))))) ?_
  refine wp_skip ?_
  refine then_n (hK2 _ _ ?_)
  try clear hK2 K2
  refine wp_seq_k fun K5 hK5 => ?_
  refine wp_seq_k fun K6 hK6 => ?_
  refine rgn [yV _, yV _] 2 7 z (by kernel_rfl) (by kernel_rfl) (
    mvS s0 rfl rfl rfl rfl <|
    armS (wn rfl) (fun aa ww hk bs hd => xlss rfl (dep hd 0 rfl rfl rfl) rfl) rfl <|
    arm0) fun fa fw hk bs hv ap => ?_
  obtain ⟨z, q, ov⟩ := aft hk bs z q ow
  have s2 := bs.get 2 rfl s2
  have s6 := got hv 1 rfl rfl rfl
  have ow := ov
  clear hv ap bs hk ov
  refine wl_then (hK6 _ _ ?_)
  try clear hK6 K6
  by_cases hc2 : (x : Int) < (0 : Int)
  · refine wp_cond_true (s6.trans (congrArg Value.bool ((decide_eq_true_iff).2 hc2))) ?_
    refine wp_seq_k fun K7 hK7 => ?_
    refine rgn [yV _] 1 7 z (by kernel_rfl) (by kernel_rfl) (
      armS (wn rfl) (fun aa ww hk bs hd => xassign rfl rfl) rfl <|
      arm0) fun fa fw hk bs hv ap => ?_
    obtain ⟨z, q, ov⟩ := aft hk bs z q ow
    have s2 := got hv 0 rfl rfl rfl
    have ow := ov
    clear hv ap bs hk ov
    refine wl_then (hK7 _ _ ?_)
    try clear hK7 K7
    refine wp_ret ?_
    refine then_r ?_
    refine results_one rfl (res_tmp s2) q ?_
    exact ⟨(congrArg (fun n => Ending.returned (.int .i64 n)) (show _ = sgn13 x * 10000 by unfold sgn13; (repeat' split) <;> omega)), ow.kept⟩
  refine wp_cond_false (s6.trans (congrArg Value.bool (Bool.eq_false_iff.2 (fun c => hc2 ((decide_eq_true_iff).1 c))))) ?_
  refine wp_skip ?_
  refine then_n (hK5 _ _ ?_)
  try clear hK5 K5
  refine wp_seq_k fun K8 hK8 => ?_
  refine rgn [yV _] 1 7 z (by kernel_rfl) (by kernel_rfl) (
    armS (wn rfl) (fun aa ww hk bs hd => xassign rfl rfl) rfl <|
    arm0) fun fa fw hk bs hv ap => ?_
  obtain ⟨z, q, ov⟩ := aft hk bs z q ow
  have s2 := got hv 0 rfl rfl rfl
  have ow := ov
  clear hv ap bs hk ov
  refine wl_then (hK8 _ _ ?_)
  try clear hK8 K8
  refine wp_ret ?_
  refine results_one rfl (res_tmp s2) q ?_
  exact ⟨(congrArg (fun n => Ending.returned (.int .i64 n)) (show _ = sgn13 x * 10000 by unfold sgn13; (repeat' split) <;> omega)), ow.kept⟩
set_option maxHeartbeats 4000000 in
theorem rpower13_any (x n : Int) (w : World) (hx : i64 x) (hn : i64 n) :
    Calls Tryz.prog 88 #[.int .i64 x, .int .i64 n] w fun e w' => e = .returned (aggV (pow13 x n)) ∧ Kept w w' := by
  have hq := tdiv_in hn
  have h1 := hn.1
  have h2 := hn.2
  go_enter Tryz.func88, Tryz.ntmps88
  refine wp_seq_k fun K1 hK1 => ?_
  refine rgn [yNew w.heap.size (.cells #[.int .u8 0, .int .i64 0, .string ⟨[].toArray⟩] 25 (0, 0))] 1 23 rfl (by kernel_rfl) (by kernel_rfl) (
    armP (wn rfl) (fun aa ww hk bs hd => xalloc rfl (by kernel_rfl)) rfl <|
    arm0) fun fa fw hk bs hv ap => ?_
  obtain ⟨z, q, ov⟩ := aft hk bs rfl rfl (Own.start w)
  have s0 := bs.get 0 rfl rfl
  have s1 := bs.get 1 rfl rfl
  obtain ⟨gb1, s4, bgb1, hgb1⟩ := gotP hv 0 rfl rfl rfl
  have ov := ov.cons hgb1 (Nat.le_trans (Own.start w).kept.size bgb1) ((Own.start w).below bgb1)
  have ow := ov
  clear hv ap bs hk ov
  refine wl_then (hK1 _ _ ?_)
  try clear hK1 K1
  refine wp_seq_k fun K2 hK2 => ?_
  refine wp_seq_k fun K3 hK3 => ?_
  refine rgn [yV _, yV _, yV _] 3 23 z (by kernel_rfl) (by kernel_rfl) (
    mvS s1 rfl rfl rfl rfl <|
    armS (wn rfl) (fun aa ww hk bs hd => xrem (Or.inr rfl) rfl (dep hd 0 rfl rfl rfl) rfl (by omega) (by omega) (by omega)) rfl <|
    armS (wn rfl) (fun aa ww hk bs hd => xnei rfl (dep hd 1 rfl rfl rfl) rfl) rfl <|
    arm0) fun fa fw hk bs hv ap => ?_
  obtain ⟨z, q, ov⟩ := aft hk bs z q ow
  have s0 := bs.get 0 rfl s0
  have s1 := bs.get 1 rfl s1
  have s4 := bs.get 4 rfl s4
  have s7 := got hv 2 rfl rfl rfl
  have ow := ov
  clear hv ap bs hk ov
  refine wl_then (hK3 _ _ ?_)
  try clear hK3 K3
  by_cases hc1 : (Int.tmod n 10000 : Int) ≠ (0 : Int)
  · refine wp_cond_true (s7.trans (congrArg Value.bool ((decide_eq_true_iff).2 hc1))) ?_
    refine wp_seq_k fun K4 hK4 => ?_
    refine rgn [yV (aggV (vFail 3))] 1 23 z (by kernel_rfl) (by kernel_rfl) (
      armC (wn rfl) (fun aa ww hk bs hd => xcall1 rfl rfl (en_louvreref05_Fail _ _)) (fun aa ww hk bs hd => rfail_any 3 ww) rfl <|
      arm0) fun fa fw hk bs hv ap => ?_
    obtain ⟨z, q, ov⟩ := aft hk bs z q ow
    have s0 := bs.get 0 rfl s0
    have s1 := bs.get 1 rfl s1
    have s4 := bs.get 4 rfl s4
    have s8 := got hv 0 rfl rfl rfl
    have ow := ov
    clear hv ap bs hk ov
    refine wl_store ow 0 0 (want0 rfl) rfl rfl s4 s8 (by kernel_rfl) rfl rfl rfl fun fw ow => ?_
    refine wl_then (hK4 _ _ ?_)
    try clear hK4 K4
    refine wp_ret ?_
    refine then_r ?_
    refine results_one rfl (res_cell (n := 3) _ s4 (by kernel_rfl) (by kernel_rfl) (ow.box 0 rfl) (Nat.le_of_ble_eq_true rfl) rfl) q ?_
    exact ⟨congrArg (fun v => Ending.returned (aggV v)) (show _ = pow13 x n by unfold pow13; rw [if_pos (by omega)]), ow.kept⟩
  refine wp_cond_false (s7.trans (congrArg Value.bool (Bool.eq_false_iff.2 (fun c => hc1 ((decide_eq_true_iff).1 c))))) ?_
  refine wp_skip ?_
  refine then_n (hK2 _ _ ?_)
  try clear hK2 K2
  refine wp_seq_k fun K5 hK5 => ?_
  refine wp_seq_k fun K6 hK6 => ?_
  refine rgn [yV _, yV _, yV _, yIf (((decide ((x : Int) = (0 : Int))) = true)) (yV (.int .i64 n)), yIf (((decide ((x : Int) = (0 : Int))) = true)) (yV (.bool (decide ((n : Int) < (0 : Int))))), yV _] 6 23 z (by kernel_rfl) (by kernel_rfl) (
    mvS s0 rfl rfl rfl rfl <|
    armS (wn rfl) (fun aa ww hk bs hd => xeqi rfl (dep hd 0 rfl rfl rfl) rfl) rfl <|
    mvD 1 rfl rfl rfl rfl rfl rfl <|
    arm (fun aa ww hk bs hd => by
      have d2 : aa.eval (.tmp 11) = .bool (decide ((x : Int) = (0 : Int))) := depX hd 2 rfl
      by_cases hz : ((decide ((x : Int) = (0 : Int))) = true)
      · exact stepX_same (v := .int .i64 n) (want1 (j := 2) (b := true) rfl (d2.trans (congrArg Value.bool hz))) (xmove rfl (bs.get 1 rfl s1)) ⟨fun _ => rfl, fun c => absurd hz c⟩ rfl
      · exact stepX_skip (wantN (j := 2) (b := true) (b' := false) rfl (d2.trans (congrArg Value.bool (Bool.eq_false_iff.2 hz))) rfl) ⟨fun c => absurd c hz, fun _ => rfl⟩ rfl
      ) <|
    arm (fun aa ww hk bs hd => by
      have d2 : aa.eval (.tmp 11) = .bool (decide ((x : Int) = (0 : Int))) := depX hd 2 rfl
      have d3 : (((decide ((x : Int) = (0 : Int))) = true) → aa.eval (.tmp 12) = .int .i64 n) ∧ (¬ (((decide ((x : Int) = (0 : Int))) = true)) → aa.eval (.tmp 12) = undef) := depX hd 3 rfl
      by_cases hz : ((decide ((x : Int) = (0 : Int))) = true)
      · exact stepX_same (v := .bool (decide ((n : Int) < (0 : Int)))) (want1 (j := 2) (b := true) rfl (d2.trans (congrArg Value.bool hz))) (xlss rfl (d3.1 hz) rfl) ⟨fun _ => rfl, fun c => absurd hz c⟩ rfl
      · exact stepX_skip (wantN (j := 2) (b := true) (b' := false) rfl (d2.trans (congrArg Value.bool (Bool.eq_false_iff.2 hz))) rfl) ⟨fun c => absurd c hz, fun _ => rfl⟩ rfl
      ) <|
    arm (fun aa ww hk bs hd => by
      have d2 : aa.eval (.tmp 11) = .bool (decide ((x : Int) = (0 : Int))) := depX hd 2 rfl
      have d4 : (((decide ((x : Int) = (0 : Int))) = true) → aa.eval (.tmp 13) = .bool (decide ((n : Int) < (0 : Int)))) ∧ (¬ (((decide ((x : Int) = (0 : Int))) = true)) → aa.eval (.tmp 13) = undef) := depX hd 4 rfl
      exact stepX_same (v := .bool ((decide ((x : Int) = (0 : Int))) && (decide ((n : Int) < (0 : Int))))) (want0 rfl) (xand rfl (d2) (fun hb => d4.1 hb) rfl) rfl rfl
      ) <|
    arm0) fun fa fw hk bs hv ap => ?_
  obtain ⟨z, q, ov⟩ := aft hk bs z q ow
  have s0 := bs.get 0 rfl s0
  have s1 := bs.get 1 rfl s1
  have s4 := bs.get 4 rfl s4
  have s14 := got hv 5 rfl rfl rfl
  have ow := ov
  clear hv ap bs hk ov
  refine wl_then (hK6 _ _ ?_)
  try clear hK6 K6
  by_cases hc2 : ((x : Int) = (0 : Int)) ∧ ((n : Int) < (0 : Int))
  · refine wp_cond_true (s14.trans (congrArg Value.bool ((band (decide_eq_true_iff) (decide_eq_true_iff)).2 hc2))) ?_
    refine wp_seq_k fun K7 hK7 => ?_
    refine rgn [yV (aggV (vFail 1))] 1 23 z (by kernel_rfl) (by kernel_rfl) (
      armC (wn rfl) (fun aa ww hk bs hd => xcall1 rfl rfl (en_louvreref05_Fail _ _)) (fun aa ww hk bs hd => rfail_any 1 ww) rfl <|
      arm0) fun fa fw hk bs hv ap => ?_
    obtain ⟨z, q, ov⟩ := aft hk bs z q ow
    have s0 := bs.get 0 rfl s0
    have s1 := bs.get 1 rfl s1
    have s4 := bs.get 4 rfl s4
    have s15 := got hv 0 rfl rfl rfl
    have ow := ov
    clear hv ap bs hk ov
    refine wl_store ow 0 0 (want0 rfl) rfl rfl s4 s15 (by kernel_rfl) rfl rfl rfl fun fw ow => ?_
    refine wl_then (hK7 _ _ ?_)
    try clear hK7 K7
    refine wp_ret ?_
    refine then_r ?_
    refine results_one rfl (res_cell (n := 3) _ s4 (by kernel_rfl) (by kernel_rfl) (ow.box 0 rfl) (Nat.le_of_ble_eq_true rfl) rfl) q ?_
    exact ⟨congrArg (fun v => Ending.returned (aggV v)) (show _ = pow13 x n by unfold pow13; rw [if_neg (by omega), if_pos (by omega)]), ow.kept⟩
  refine wp_cond_false (s14.trans (congrArg Value.bool (Bool.eq_false_iff.2 (fun c => hc2 ((band (decide_eq_true_iff) (decide_eq_true_iff)).1 c))))) ?_
  refine wp_skip ?_
  refine then_n (hK5 _ _ ?_)
  try clear hK5 K5
  refine wp_seq_k fun K8 hK8 => ?_
  refine rgn [yV _, yV _, yV _, yV (.tuple #[.int .i64 ((dPow x (Int.tdiv n 10000)).1), .bool ((dPow x (Int.tdiv n 10000)).2)]), yV _, yV _, yV (aggV (vRes ((dPow x (Int.tdiv n 10000)).1, (dPow x (Int.tdiv n 10000)).2)))] 7 23 z (by kernel_rfl) (by kernel_rfl) (
    mvS s0 rfl rfl rfl rfl <|
    mvS s1 rfl rfl rfl rfl <|
    armS (wn rfl) (fun aa ww hk bs hd => xquo (Or.inr rfl) rfl (dep hd 1 rfl rfl rfl) rfl (by omega) (by omega) (by omega)) rfl <|
    armC (wn rfl) (fun aa ww hk bs hd => xcall2 rfl (dep hd 0 rfl rfl rfl) (dep hd 2 rfl rfl rfl) (en_louvreref01_Power _ _)) (fun aa ww hk bs hd => rpower_any x (Int.tdiv n 10000) ww (by assumption) (by assumption)) rfl <|
    armS (wn rfl) (fun aa ww hk bs hd => xextract rfl (dep hd 3 rfl rfl rfl) rfl) rfl <|
    armS (wn rfl) (fun aa ww hk bs hd => xextract rfl (dep hd 3 rfl rfl rfl) rfl) rfl <|
    armC (wn rfl) (fun aa ww hk bs hd => xcall2 rfl (dep hd 4 rfl rfl rfl) (dep hd 5 rfl rfl rfl) (en_louvreref13_number _ _)) (fun aa ww hk bs hd => rnumber13_any ((dPow x (Int.tdiv n 10000)).1) ((dPow x (Int.tdiv n 10000)).2) ww (fun _ => dPow_i64 _ _)) rfl <|
    arm0) fun fa fw hk bs hv ap => ?_
  obtain ⟨z, q, ov⟩ := aft hk bs z q ow
  have s4 := bs.get 4 rfl s4
  have s22 := got hv 6 rfl rfl rfl
  have ow := ov
  clear hv ap bs hk ov
  refine wl_store ow 0 0 (want0 rfl) rfl rfl s4 s22 (by kernel_rfl) rfl rfl rfl fun fw ow => ?_
  refine wl_then (hK8 _ _ ?_)
  try clear hK8 K8
  refine wp_ret ?_
  refine results_one rfl (res_cell (n := 3) _ s4 (by kernel_rfl) (by kernel_rfl) (ow.box 0 rfl) (Nat.le_of_ble_eq_true rfl) rfl) q ?_
  exact ⟨congrArg (fun v => Ending.returned (aggV v)) (show _ = pow13 x n by unfold pow13; rw [if_neg (by omega), if_neg (by omega)]), ow.kept⟩
set_option maxHeartbeats 4000000 in
theorem rmod13_any (x y : Int) (w : World) (hx : -9223372036854775807 ≤ x ∧ x ≤ 9223372036854775807) (hy : -9223372036854775807 ≤ y ∧ y ≤ 9223372036854775807) (h0 : y ≠ 0) :
    Calls Tryz.prog 164 #[.int .i64 x, .int .i64 y] w fun e w' => e = .returned (.int .i64 (mod13 x y)) ∧ Kept w w' := by
  go_enter Tryz.func164, Tryz.ntmps164
  refine wp_seq_k fun K1 hK1 => ?_
  refine rgn [yV _] 1 24 rfl (by kernel_rfl) (by kernel_rfl) (
    armS (wn rfl) (fun aa ww hk bs hd => xassign rfl rfl) rfl <|
    arm0) fun fa fw hk bs hv ap => ?_
  obtain ⟨z, q, ov⟩ := aft hk bs rfl rfl (Own.start w)
  have s0 := bs.get 0 rfl rfl
  have s1 := bs.get 1 rfl rfl
  have s4 := got hv 0 rfl rfl rfl
  have ow := ov
  clear hv ap bs hk ov
  refine wl_then (hK1 _ _ ?_)
  try clear hK1 K1
  refine wp_seq_k fun K2 hK2 => ?_
  refine wp_seq_k fun K3 hK3 => ?_
  refine rgn [yV _, yV _] 2 24 z (by kernel_rfl) (by kernel_rfl) (
    mvS s1 rfl rfl rfl rfl <|
    armS (wn rfl) (fun aa ww hk bs hd => xeqi rfl (dep hd 0 rfl rfl rfl) rfl) rfl <|
    arm0) fun fa fw hk bs hv ap => ?_
  obtain ⟨z, q, ov⟩ := aft hk bs z q ow
  have s0 := bs.get 0 rfl s0
  have s1 := bs.get 1 rfl s1
  have s4 := bs.get 4 rfl s4
  have s7 := got hv 1 rfl rfl rfl
  have ow := ov
  clear hv ap bs hk ov
  refine wl_then (hK3 _ _ ?_)
  try clear hK3 K3
  by_cases hc1 : (y : Int) = ((-1) : Int)
  · refine wp_cond_true (s7.trans (congrArg Value.bool ((decide_eq_true_iff).2 hc1))) ?_
    refine wp_seq_k fun K4 hK4 => ?_
    refine rgn [yV _] 1 24 z (by kernel_rfl) (by kernel_rfl) (
      armS (wn rfl) (fun aa ww hk bs hd => xassign rfl rfl) rfl <|
      arm0) fun fa fw hk bs hv ap => ?_
    obtain ⟨z, q, ov⟩ := aft hk bs z q ow
    have s0 := bs.get 0 rfl s0
    have s1 := bs.get 1 rfl s1
    have s4 := got hv 0 rfl rfl rfl
    have ow := ov
    clear hv ap bs hk ov
    refine wl_then (hK4 _ _ ?_)
    try clear hK4 K4
    refine wp_ret ?_
    refine then_r ?_
    refine results_one rfl (res_tmp s4) q ?_
    exact ⟨(congrArg (fun n => Ending.returned (.int .i64 n)) (mod13_m1 (by omega))), ow.kept⟩
  refine wp_cond_false (s7.trans (congrArg Value.bool (Bool.eq_false_iff.2 (fun c => hc1 ((decide_eq_true_iff).1 c))))) ?_
  refine wp_skip ?_
  refine then_n (hK2 _ _ ?_)
  try clear hK2 K2
  refine wp_seq_k fun K5 hK5 => ?_
  refine rgn [yV _, yV _, yV _, yV _] 4 24 z (by kernel_rfl) (by kernel_rfl) (
    mvS s0 rfl rfl rfl rfl <|
    mvS s1 rfl rfl rfl rfl <|
    armS (wn rfl) (fun aa ww hk bs hd => xremZ (Or.inr rfl) rfl (n := x) (m := y) (dep hd 0 rfl rfl rfl) (dep hd 1 rfl rfl rfl) h0 (by omega) (by omega)) rfl <|
    asD 2 rfl rfl rfl rfl rfl rfl <|
    arm0) fun fa fw hk bs hv ap => ?_
  obtain ⟨z, q, ov⟩ := aft hk bs z q ow
  have s1 := bs.get 1 rfl s1
  have s4 := bs.get 4 rfl s4
  have s5 := got hv 3 rfl rfl rfl
  have ow := ov
  clear hv ap bs hk ov
  refine wl_then (hK5 _ _ ?_)
  try clear hK5 K5
  refine wp_seq_k fun K6 hK6 => ?_
  refine wp_seq_k fun K7 hK7 => ?_
  refine rgn [yV _, yV _, yV _, yIf (((decide ((Int.tmod x y : Int) ≠ (0 : Int))) = true)) (yV (.int .i64 (Int.tmod x y))), yIf (((decide ((Int.tmod x y : Int) ≠ (0 : Int))) = true)) (yV (.bool (decide ((Int.tmod x y : Int) < (0 : Int))))), yIf (((decide ((Int.tmod x y : Int) ≠ (0 : Int))) = true)) (yV (.int .i64 y)), yIf (((decide ((Int.tmod x y : Int) ≠ (0 : Int))) = true)) (yV (.bool (decide ((y : Int) < (0 : Int))))), yIf (((decide ((Int.tmod x y : Int) ≠ (0 : Int))) = true)) (yV (.bool ((decide ((Int.tmod x y : Int) < (0 : Int))) != (decide ((y : Int) < (0 : Int)))))), yV _] 9 24 z (by kernel_rfl) (by kernel_rfl) (
    mvS s5 rfl rfl rfl rfl <|
    armS (wn rfl) (fun aa ww hk bs hd => xnei rfl (dep hd 0 rfl rfl rfl) rfl) rfl <|
    mvD 1 rfl rfl rfl rfl rfl rfl <|
    arm (fun aa ww hk bs hd => by
      have d2 : aa.eval (.tmp 13) = .bool (decide ((Int.tmod x y : Int) ≠ (0 : Int))) := depX hd 2 rfl
      by_cases hz : ((decide ((Int.tmod x y : Int) ≠ (0 : Int))) = true)
      · exact stepX_same (v := .int .i64 (Int.tmod x y)) (want1 (j := 2) (b := true) rfl (d2.trans (congrArg Value.bool hz))) (xmove rfl (bs.get 5 rfl s5)) ⟨fun _ => rfl, fun c => absurd hz c⟩ rfl
      · exact stepX_skip (wantN (j := 2) (b := true) (b' := false) rfl (d2.trans (congrArg Value.bool (Bool.eq_false_iff.2 hz))) rfl) ⟨fun c => absurd c hz, fun _ => rfl⟩ rfl
      ) <|
    arm (fun aa ww hk bs hd => by
      have d2 : aa.eval (.tmp 13) = .bool (decide ((Int.tmod x y : Int) ≠ (0 : Int))) := depX hd 2 rfl
      have d3 : (((decide ((Int.tmod x y : Int) ≠ (0 : Int))) = true) → aa.eval (.tmp 14) = .int .i64 (Int.tmod x y)) ∧ (¬ (((decide ((Int.tmod x y : Int) ≠ (0 : Int))) = true)) → aa.eval (.tmp 14) = undef) := depX hd 3 rfl
      by_cases hz : ((decide ((Int.tmod x y : Int) ≠ (0 : Int))) = true)
      · exact stepX_same (v := .bool (decide ((Int.tmod x y : Int) < (0 : Int)))) (want1 (j := 2) (b := true) rfl (d2.trans (congrArg Value.bool hz))) (xlss rfl (d3.1 hz) rfl) ⟨fun _ => rfl, fun c => absurd hz c⟩ rfl
      · exact stepX_skip (wantN (j := 2) (b := true) (b' := false) rfl (d2.trans (congrArg Value.bool (Bool.eq_false_iff.2 hz))) rfl) ⟨fun c => absurd c hz, fun _ => rfl⟩ rfl
      ) <|
    arm (fun aa ww hk bs hd => by
      have d2 : aa.eval (.tmp 13) = .bool (decide ((Int.tmod x y : Int) ≠ (0 : Int))) := depX hd 2 rfl
      by_cases hz : ((decide ((Int.tmod x y : Int) ≠ (0 : Int))) = true)
      · exact stepX_same (v := .int .i64 y) (want1 (j := 2) (b := true) rfl (d2.trans (congrArg Value.bool hz))) (xmove rfl (bs.get 1 rfl s1)) ⟨fun _ => rfl, fun c => absurd hz c⟩ rfl
      · exact stepX_skip (wantN (j := 2) (b := true) (b' := false) rfl (d2.trans (congrArg Value.bool (Bool.eq_false_iff.2 hz))) rfl) ⟨fun c => absurd c hz, fun _ => rfl⟩ rfl
      ) <|
    arm (fun aa ww hk bs hd => by
      have d2 : aa.eval (.tmp 13) = .bool (decide ((Int.tmod x y : Int) ≠ (0 : Int))) := depX hd 2 rfl
      have d5 : (((decide ((Int.tmod x y : Int) ≠ (0 : Int))) = true) → aa.eval (.tmp 16) = .int .i64 y) ∧ (¬ (((decide ((Int.tmod x y : Int) ≠ (0 : Int))) = true)) → aa.eval (.tmp 16) = undef) := depX hd 5 rfl
      by_cases hz : ((decide ((Int.tmod x y : Int) ≠ (0 : Int))) = true)
      · exact stepX_same (v := .bool (decide ((y : Int) < (0 : Int)))) (want1 (j := 2) (b := true) rfl (d2.trans (congrArg Value.bool hz))) (xlss rfl (d5.1 hz) rfl) ⟨fun _ => rfl, fun c => absurd hz c⟩ rfl
      · exact stepX_skip (wantN (j := 2) (b := true) (b' := false) rfl (d2.trans (congrArg Value.bool (Bool.eq_false_iff.2 hz))) rfl) ⟨fun c => absurd c hz, fun _ => rfl⟩ rfl
      ) <|
    arm (fun aa ww hk bs hd => by
      have d2 : aa.eval (.tmp 13) = .bool (decide ((Int.tmod x y : Int) ≠ (0 : Int))) := depX hd 2 rfl
      have d4 : (((decide ((Int.tmod x y : Int) ≠ (0 : Int))) = true) → aa.eval (.tmp 15) = .bool (decide ((Int.tmod x y : Int) < (0 : Int)))) ∧ (¬ (((decide ((Int.tmod x y : Int) ≠ (0 : Int))) = true)) → aa.eval (.tmp 15) = undef) := depX hd 4 rfl
      have d6 : (((decide ((Int.tmod x y : Int) ≠ (0 : Int))) = true) → aa.eval (.tmp 17) = .bool (decide ((y : Int) < (0 : Int)))) ∧ (¬ (((decide ((Int.tmod x y : Int) ≠ (0 : Int))) = true)) → aa.eval (.tmp 17) = undef) := depX hd 6 rfl
      by_cases hz : ((decide ((Int.tmod x y : Int) ≠ (0 : Int))) = true)
      · exact stepX_same (v := .bool ((decide ((Int.tmod x y : Int) < (0 : Int))) != (decide ((y : Int) < (0 : Int))))) (want1 (j := 2) (b := true) rfl (d2.trans (congrArg Value.bool hz))) (xneB rfl (d4.1 hz) (d6.1 hz)) ⟨fun _ => rfl, fun c => absurd hz c⟩ rfl
      · exact stepX_skip (wantN (j := 2) (b := true) (b' := false) rfl (d2.trans (congrArg Value.bool (Bool.eq_false_iff.2 hz))) rfl) ⟨fun c => absurd c hz, fun _ => rfl⟩ rfl
      ) <|
    arm (fun aa ww hk bs hd => by
      have d2 : aa.eval (.tmp 13) = .bool (decide ((Int.tmod x y : Int) ≠ (0 : Int))) := depX hd 2 rfl
      have d7 : (((decide ((Int.tmod x y : Int) ≠ (0 : Int))) = true) → aa.eval (.tmp 18) = .bool ((decide ((Int.tmod x y : Int) < (0 : Int))) != (decide ((y : Int) < (0 : Int))))) ∧ (¬ (((decide ((Int.tmod x y : Int) ≠ (0 : Int))) = true)) → aa.eval (.tmp 18) = undef) := depX hd 7 rfl
      exact stepX_same (v := .bool ((decide ((Int.tmod x y : Int) ≠ (0 : Int))) && ((decide ((Int.tmod x y : Int) < (0 : Int))) != (decide ((y : Int) < (0 : Int)))))) (want0 rfl) (xand rfl (d2) (fun hb => d7.1 hb) rfl) rfl rfl
      ) <|
    arm0) fun fa fw hk bs hv ap => ?_
  obtain ⟨z, q, ov⟩ := aft hk bs z q ow
  have s1 := bs.get 1 rfl s1
  have s4 := bs.get 4 rfl s4
  have s5 := bs.get 5 rfl s5
  have s19 := got hv 8 rfl rfl rfl
  have ow := ov
  clear hv ap bs hk ov
  refine wl_then (hK7 _ _ ?_)
  try clear hK7 K7
  by_cases hc2 : ((Int.tmod x y : Int) ≠ (0 : Int)) ∧ (((decide ((Int.tmod x y : Int) < (0 : Int))) != (decide ((y : Int) < (0 : Int)))) = true)
  · refine wp_cond_true (s19.trans (congrArg Value.bool ((band (decide_eq_true_iff) (Iff.rfl)).2 hc2))) ?_
    have hm := hc2
    refine rgn [yV _, yV _, yV _] 3 24 z (by kernel_rfl) (by kernel_rfl) (
      mvS s5 rfl rfl rfl rfl <|
      mvS s1 rfl rfl rfl rfl <|
      armS (wn rfl) (fun aa ww hk bs hd => xadd (Or.inr rfl) rfl (dep hd 0 rfl rfl rfl) (dep hd 1 rfl rfl rfl) (mod13_sum hx hy hm).1 (mod13_sum hx hy hm).2) rfl <|
      arm0) fun fa fw hk bs hv ap => ?_
    obtain ⟨z, q, ov⟩ := aft hk bs z q ow
    have s4 := bs.get 4 rfl s4
    have s5 := bs.get 5 rfl s5
    have s22 := got hv 2 rfl rfl rfl
    have ow := ov
    clear hv ap bs hk ov
    refine wl_value (v := .int .i64 ((Int.tmod x y) + y)) (want0 rfl) (xassign rfl s22) ?_
    refine gt2 (put_size z) (put_def q) ow 4 (pb 5 s4 rfl) 5 (put_in (t := 5) z rfl) fun fa fw z q ow s4 s5 => ?_
    refine wl_then (hK6 _ _ ?_)
    try clear hK6 K6
    refine wp_seq_k fun K8 hK8 => ?_
    refine rgn [yV _, yV _] 2 24 z (by kernel_rfl) (by kernel_rfl) (
      mvS s5 rfl rfl rfl rfl <|
      asD 0 rfl rfl rfl rfl rfl rfl <|
      arm0) fun fa fw hk bs hv ap => ?_
    obtain ⟨z, q, ov⟩ := aft hk bs z q ow
    have s4 := got hv 1 rfl rfl rfl
    have ow := ov
    clear hv ap bs hk ov
    refine wl_then (hK8 _ _ ?_)
    try clear hK8 K8
    refine wp_ret ?_
    refine results_one rfl (res_tmp s4) q ?_
    exact ⟨(congrArg (fun n => Ending.returned (.int .i64 n)) (mod13_pos hm)), ow.kept⟩
  refine wp_cond_false (s19.trans (congrArg Value.bool (Bool.eq_false_iff.2 (fun c => hc2 ((band (decide_eq_true_iff) (Iff.rfl)).1 c))))) ?_
  have hm := hc2
  refine wp_skip ?_
  refine then_n (hK6 _ _ ?_)
  try clear hK6 K6
  refine wp_seq_k fun K9 hK9 => ?_
  refine rgn [yV _, yV _] 2 24 z (by kernel_rfl) (by kernel_rfl) (
    mvS s5 rfl rfl rfl rfl <|
    asD 0 rfl rfl rfl rfl rfl rfl <|
    arm0) fun fa fw hk bs hv ap => ?_
  obtain ⟨z, q, ov⟩ := aft hk bs z q ow
  have s4 := got hv 1 rfl rfl rfl
  have ow := ov
  clear hv ap bs hk ov
  refine wl_then (hK9 _ _ ?_)
  try clear hK9 K9
  refine wp_ret ?_
  refine results_one rfl (res_tmp s4) q ?_
  exact ⟨(congrArg (fun n => Ending.returned (.int .i64 n)) (mod13_neg hm)), ow.kept⟩
set_option maxHeartbeats 4000000 in
theorem rnumbers13_any (b0 off0 cap : Nat) (l : List Vl) (w : World) (hr : RowV w (some ⟨b0, off0, none⟩) l) (hs : ∀ v ∈ l, Small v) (hl : l.length ≤ 1000000) :
    Calls Tryz.prog 73 #[.slice (some ⟨b0, off0, none⟩) l.length cap] w fun e w' => RNumOut w l e w' := by
  go_enter Tryz.func73, Tryz.ntmps73
  refine wp_seq_k fun K1 hK1 => ?_
  refine rgn [yV _, yNew w.heap.size (.cells #[.int .u8 0, .int .i64 0, .string ⟨[].toArray⟩] 25 (0, 0)), yV _] 3 30 rfl (by kernel_rfl) (by kernel_rfl) (
    armS (wn rfl) (fun aa ww hk bs hd => xassign rfl rfl) rfl <|
    armP (wn rfl) (fun aa ww hk bs hd => xalloc rfl (by kernel_rfl)) rfl <|
    armS (wn rfl) (fun aa ww hk bs hd => xassign rfl rfl) rfl <|
    arm0) fun fa fw hk bs hv ap => ?_
  obtain ⟨z, q, ov⟩ := aft hk bs rfl rfl (Own.start w)
  have s0 := bs.get 0 rfl rfl
  have s2 := got hv 0 rfl rfl rfl
  obtain ⟨gb1, s3, bgb1, hgb1⟩ := gotP hv 1 rfl rfl rfl
  have ov := ov.cons hgb1 (Nat.le_trans (Own.start w).kept.size bgb1) ((Own.start w).below bgb1)
  have s4 := got hv 2 rfl rfl rfl
  have ow := ov
  clear hv ap bs hk ov
  refine wl_then (hK1 _ _ ?_)
  try clear hK1 K1
  refine wp_seq_k fun K2 hK2 => ?_
  refine rgn [yV _] 1 30 z (by kernel_rfl) (by kernel_rfl) (
    armS (wn rfl) (fun aa ww hk bs hd => xassign rfl rfl) rfl <|
    arm0) fun fa fw hk bs hv ap => ?_
  obtain ⟨z, q, ov⟩ := aft hk bs z q ow
  have s0 := bs.get 0 rfl s0
  have s2 := bs.get 2 rfl s2
  have s3 := bs.get 3 rfl s3
  have s4 := bs.get 4 rfl s4
  have s5 := got hv 0 rfl rfl rfl
  have ow := ov
  clear hv ap bs hk ov
  refine wl_then (hK2 _ _ ?_)
  try clear hK2 K2
  refine wp_seq_k fun K3 hK3 => ?_
  refine wp_seq_k fun K4 hK4 => ?_
  refine rgn [yV _] 1 30 z (by kernel_rfl) (by kernel_rfl) (
    armS (wn rfl) (fun aa ww hk bs hd => xassign rfl rfl) rfl <|
    arm0) fun fa fw hk bs hv ap => ?_
  obtain ⟨z, q, ov⟩ := aft hk bs z q ow
  have s0 := bs.get 0 rfl s0
  have s2 := bs.get 2 rfl s2
  have s3 := bs.get 3 rfl s3
  have s4 := bs.get 4 rfl s4
  have s5 := bs.get 5 rfl s5
  have s6 := got hv 0 rfl rfl rfl
  have ow := ov
  clear hv ap bs hk ov
  refine wl_then (hK4 _ _ ?_)
  try clear hK4 K4
  refine wp_block ?_
  refine wp_loop_g (fun (k : Nat) fr u => ∃ (va : Value), (k ≤ l.length) ∧ (firstE ((l.take k).map vNum) = none) ∧ fr.tmps.size = 30 ∧ fr.defers = [] ∧ Own w [Th.row w.heap.size 2 1 va ((((l.take k).map fun v => (vNum v).n).map numV).length) (((l.take k).map fun v => (vNum v).n).map numV), Th.obj gb1 (.cells #[.int .u8 0, .int .i64 0, .string ⟨[].toArray⟩] 25 (0, 0))] u ∧ fr.eval (.tmp 0) = .slice (some ⟨b0, off0, none⟩) l.length cap ∧ fr.eval (.tmp 3) = .pointer (some ⟨gb1, 0, none⟩) ∧ fr.eval (.tmp 5) = va ∧ fr.eval (.tmp 6) = .int .i64 (k : Int)) (fun k => l.length - k) 0 ⟨(.slice none 0 0), (Nat.zero_le _), rfl, z, q, (ow.nil 2 1), s0, s3, s5, s6⟩ (fun k b_ u_ hI => ?_)
  revert b_ u_; intro fa fw hI
  obtain ⟨va, hk, hfe, z, q, ow, s0, s3, s5, s6⟩ := hI
  refine wp_seq_k fun K5 hK5 => ?_
  refine wp_seq_k fun K6 hK6 => ?_
  refine rgn [yV _, yV _, yV _, yV _] 4 30 z (by kernel_rfl) (by kernel_rfl) (
    mvS s6 rfl rfl rfl rfl <|
    mvS s0 rfl rfl rfl rfl <|
    armS (wn rfl) (fun aa ww hk bs hd => xlen Tryz.underlying22 rfl (dep hd 1 rfl rfl rfl)) rfl <|
    armS (wn rfl) (fun aa ww hk bs hd => xlss rfl (dep hd 0 rfl rfl rfl) (dep hd 2 rfl rfl rfl)) rfl <|
    arm0) fun fa fw hk bs hv ap => ?_
  obtain ⟨z, q, ov⟩ := aft hk bs z q ow
  have s0 := bs.get 0 rfl s0
  have s3 := bs.get 3 rfl s3
  have s5 := bs.get 5 rfl s5
  have s6 := bs.get 6 rfl s6
  have s11 := got hv 3 rfl rfl rfl
  have ow := ov
  clear hv ap bs hk ov
  refine wl_then (hK6 _ _ ?_)
  try clear hK6 K6
  by_cases hc1 : (k : Int) < ((l.length : Nat) : Int)
  · refine wp_cond_true (s11.trans (congrArg Value.bool ((decide_eq_true_iff).2 hc1))) ?_
    refine wp_skip ?_
    refine then_n (hK5 _ _ ?_)
    try clear hK5 K5
    refine wp_seq_k fun K7 hK7 => ?_
    refine wp_block ?_
    refine wp_seq_k fun K8 hK8 => ?_
    have hlt : k < l.length := by omega
    have hsk : Small (l.getD k blankV) := hs _ (by rw [show l.getD k blankV = l[k] by simp [List.getD, hlt]]; exact List.getElem_mem hlt)
    refine rgn [yV _, yV _, yV _, yV (aggV (l.getD k blankV)), yV (aggV (vNum (l.getD k blankV))), yNew fw.heap.size (.cells #[.int .u8 0, .int .i64 0, .string ⟨[].toArray⟩] 25 (0, 0))] 6 30 z (by kernel_rfl) (by kernel_rfl) (
      mvS s0 rfl rfl rfl rfl <|
      mvS s6 rfl rfl rfl rfl <|
      armS (wn rfl) (fun aa ww hk bs hd => xplaceV rfl (k := k) (dep hd 0 rfl rfl rfl) (dep hd 1 rfl rfl rfl) hlt) rfl <|
      armS (wn rfl) (fun aa ww hk bs hd => xatV rfl (l := l) (k := k) (dep hd 2 rfl rfl rfl) (hr.kept (ow.keep hk).kept) hlt) rfl <|
      armC (wn rfl) (fun aa ww hk bs hd => xcall1 rfl (dep hd 3 rfl rfl rfl) (en_louvreref05_ToNumber _ _)) (fun aa ww hk bs hd => rtonum_any (l.getD k blankV) ww hsk.1 hsk.2) rfl <|
      armP (wn rfl) (fun aa ww hk bs hd => xalloc rfl (by kernel_rfl)) rfl <|
      arm0) fun fa fw hk bs hv ap => ?_
    obtain ⟨z, q, ov⟩ := aft hk bs z q ow
    have s0 := bs.get 0 rfl s0
    have s3 := bs.get 3 rfl s3
    have s5 := bs.get 5 rfl s5
    have s6 := bs.get 6 rfl s6
    have s18 := got hv 4 rfl rfl rfl
    obtain ⟨gb2, s7, bgb2, hgb2⟩ := gotP hv 5 rfl rfl rfl
    have ov := ov.cons hgb2 (Nat.le_trans ow.kept.size bgb2) (ow.below bgb2)
    have ow := ov
    clear hv ap bs hk ov
    refine wl_store ow 0 0 (want0 rfl) rfl rfl s7 s18 (by kernel_rfl) rfl rfl rfl fun fw ow => ?_
    refine wl_then (hK8 _ _ ?_)
    try clear hK8 K8
    refine wp_seq_k fun K9 hK9 => ?_
    refine wp_seq_k fun K10 hK10 => ?_
    refine rgn [yV (.pointer (some ⟨gb2, 0, none⟩)), yV _, yV _] 3 30 z (by kernel_rfl) (by kernel_rfl) (
      armS (wn rfl) (fun aa ww hk bs hd => xfieldAddr rfl (bs.get 7 rfl s7) (by kernel_rfl)) rfl <|
      armS (wn rfl) (fun aa ww hk bs hd => xloadB rfl (by kernel_rfl) (dep hd 0 rfl rfl rfl) ((ow.keep hk).box 0 rfl) rfl) rfl <|
      armS (wn rfl) (fun aa ww hk bs hd => xeqi rfl (dep hd 1 rfl rfl rfl) rfl) rfl <|
      arm0) fun fa fw hk bs hv ap => ?_
    obtain ⟨z, q, ov⟩ := aft hk bs z q ow
    have s0 := bs.get 0 rfl s0
    have s3 := bs.get 3 rfl s3
    have s5 := bs.get 5 rfl s5
    have s6 := bs.get 6 rfl s6
    have s7 := bs.get 7 rfl s7
    have s21 := got hv 2 rfl rfl rfl
    have ow := ov
    clear hv ap bs hk ov
    refine wl_then (hK10 _ _ ?_)
    try clear hK10 K10
    by_cases hc2 : ((vNum (l.getD k blankV)).k : Int) = (4 : Int)
    · refine wp_cond_true (s21.trans (congrArg Value.bool ((decide_eq_true_iff).2 hc2))) ?_
      have hye : isE (vNum (l.getD k blankV)) = true := isE_yes hc2
      refine wp_seq_k fun K11 hK11 => ?_
      refine rgn [yV (aggV (vNum (l.getD k blankV))), yV _] 2 30 z (by kernel_rfl) (by kernel_rfl) (
        armS (wn rfl) (fun aa ww hk bs hd => xloadN 3 rfl (by kernel_rfl) (by kernel_rfl) (bs.get 7 rfl s7) ((ow.keep hk).box 0 rfl) (Nat.le_of_ble_eq_true rfl) rfl) rfl <|
        armS (wn rfl) (fun aa ww hk bs hd => xassign rfl rfl) rfl <|
        arm0) fun fa fw hk bs hv ap => ?_
      obtain ⟨z, q, ov⟩ := aft hk bs z q ow
      have s0 := bs.get 0 rfl s0
      have s3 := bs.get 3 rfl s3
      have s5 := bs.get 5 rfl s5
      have s6 := bs.get 6 rfl s6
      have s7 := bs.get 7 rfl s7
      have s22 := got hv 0 rfl rfl rfl
      have s2 := got hv 1 rfl rfl rfl
      have ow := ov
      clear hv ap bs hk ov
      refine wl_store ow 2 0 (want0 rfl) rfl rfl s3 s22 (by kernel_rfl) rfl rfl rfl fun fw ow => ?_
      refine wl_value (v := .bool false) (want0 rfl) (xassign rfl rfl) ?_
      refine gt7 (put_size z) (put_def q) ow 0 (pb 4 s0 rfl) 3 (pb 4 s3 rfl) 5 (pb 4 s5 rfl) 6 (pb 4 s6 rfl) 7 (pb 4 s7 rfl) 2 (pb 4 s2 rfl) 4 (put_in (t := 4) z rfl) fun fa fw z q ow s0 s3 s5 s6 s7 s2 s4 => ?_
      refine wl_then (hK11 _ _ ?_)
      try clear hK11 K11
      refine wp_ret ?_
      refine then_r ?_
      refine block_r ?_
      refine then_r ?_
      refine then_r ?_
      refine block_r ?_
      refine then_r ?_
      refine resultsL (v := .tuple #[.slice none 0 0, aggV (vNum (l.getD k blankV)), .bool false]) rfl (.cons (res_tmp s2) (.cons (res_cell (n := 3) _ s3 (by kernel_rfl) (by kernel_rfl) (ow.box 2 rfl) (Nat.le_of_ble_eq_true rfl) rfl) (.cons (res_tmp s4) .nil))) rfl q ?_
      exact ⟨_, vNum (l.getD k blankV), false, rfl, ow.kept, Or.inl ⟨rfl, firstN_more hlt hfe hye⟩⟩
    refine wp_cond_false (s21.trans (congrArg Value.bool (Bool.eq_false_iff.2 (fun c => hc2 ((decide_eq_true_iff).1 c))))) ?_
    have hne : isE (vNum (l.getD k blankV)) = false := isE_no hc2
    refine wp_skip ?_
    refine then_n (hK9 _ _ ?_)
    try clear hK9 K9
    refine rgn [yV _, yV (.pointer (some ⟨gb2, 1, none⟩)), yV _, ySlice fw.heap.size 1 (.cells #[.int .i64 ((vNum (l.getD k blankV)).n)] 2 (0, 0))] 4 30 z (by kernel_rfl) (by kernel_rfl) (
      mvS s5 rfl rfl rfl rfl <|
      armS (wn rfl) (fun aa ww hk bs hd => xfieldAddr rfl (bs.get 7 rfl s7) (by kernel_rfl)) rfl <|
      armS (wn rfl) (fun aa ww hk bs hd => xloadB rfl (by kernel_rfl) (dep hd 1 rfl rfl rfl) ((ow.keep hk).box 0 rfl) rfl) rfl <|
      arm (fun aa ww hk bs hd => by
        have d2 : aa.eval (.tmp 25) = .int .i64 ((vNum (l.getD k blankV)).n) := depX hd 2 rfl
        exact stepX_new _ (want0 rfl) (xbuildSlice (us := #[(0, .int .i64 ((vNum (l.getD k blankV)).n))]) (b := .cells #[.int .i64 ((vNum (l.getD k blankV)).n)] 2 (0, 0)) rfl (by simp only [List.map_toArray, List.map_cons, List.map_nil, d2]) (by kernel_rfl)) ⟨_, rfl, hk.size, Go.heap_alloc_new _ _⟩ ((Kept.refl _).alloc _) rfl (Nat.le_refl _)
        ) <|
      arm0) fun fa fw hk bs hv ap => ?_
    obtain ⟨z, q, ov⟩ := aft hk bs z q ow
    have s0 := bs.get 0 rfl s0
    have s3 := bs.get 3 rfl s3
    have s5 := bs.get 5 rfl s5
    have s6 := bs.get 6 rfl s6
    have s23 := got hv 0 rfl rfl rfl
    obtain ⟨gb3, s26, bgb3, hgb3⟩ := gotL hv 3 rfl rfl rfl
    have ov := ov.cons hgb3 (Nat.le_trans ow.kept.size bgb3) (ow.below bgb3)
    have ow := ov
    clear hv ap bs hk ov
    refine wl_appendC (by_ := 8) (want0 rfl) (l := ((l.take k).map fun v => (vNum v).n).map numV) (u := (numV ((vNum (l.getD k blankV)).n))) rfl Tryz.underlying72 (info_one _ _ _ (by kernel_rfl) rfl) s23 s26 (ow.row 2 rfl) (ow.get 0 rfl) rfl (by simp only [List.length_map, List.length_take]; omega) (by decide) ow.kept.size (fun vr1 fw1 ho hg hb => ?_)
    have ow := ow.turn 2 rfl (t' := Th.row w.heap.size 2 1 vr1 ((((l.take k).map fun v => (vNum v).n).map numV ++ [(numV ((vNum (l.getD k blankV)).n))]).length) (((l.take k).map fun v => (vNum v).n).map numV ++ [(numV ((vNum (l.getD k blankV)).n))])) ho hg (turn_new hb)
    clear ho hg hb
    refine wl_value (v := vr1) (want0 rfl) (xassign rfl (put_in (t := 27) z rfl)) ?_
    refine gt4 (put_size (put_size z)) (put_def (put_def q)) ow 0 (pb 5 (pb 27 s0 rfl) rfl) 3 (pb 5 (pb 27 s3 rfl) rfl) 6 (pb 5 (pb 27 s6 rfl) rfl) 5 (put_in (t := 5) (put_size z) rfl) fun fa fw z q ow s0 s3 s6 s5 => ?_
    refine wl_end ?_
    refine block_n ?_
    refine then_n (hK7 _ _ ?_)
    try clear hK7 K7
    refine rgn [yV _, yV (.int .i64 ((k + 1 : Nat) : Int))] 2 30 z (by kernel_rfl) (by kernel_rfl) (
      mvS s6 rfl rfl rfl rfl <|
      armS (wn rfl) (fun aa ww hk bs hd => xadd (Or.inl rfl) rfl (dep hd 0 rfl rfl rfl) rfl (by omega) (by omega)) rfl <|
      arm0) fun fa fw hk bs hv ap => ?_
    obtain ⟨z, q, ov⟩ := aft hk bs z q ow
    have s0 := bs.get 0 rfl s0
    have s3 := bs.get 3 rfl s3
    have s6 := bs.get 6 rfl s6
    have s5 := bs.get 5 rfl s5
    have s13 := got hv 1 rfl rfl rfl
    have ow := ov
    clear hv ap bs hk ov
    refine wl_value (v := .int .i64 ((k + 1 : Nat) : Int)) (want0 rfl) (xassign rfl s13) ?_
    refine gt4 (put_size z) (put_def q) ow 0 (pb 6 s0 rfl) 3 (pb 6 s3 rfl) 5 (pb 6 s5 rfl) 6 (put_in (t := 6) z rfl) fun fa fw z q ow s0 s3 s5 s6 => ?_
    refine wl_end ?_
    exact then_n ⟨(k + 1), ⟨vr1, hlt, (firstN_next hlt hfe hne), z, q, (by rw [nextN13 hlt]; exact ow.tail.tail), s0, s3, s5, s6⟩, (show l.length - (k + 1) < l.length - k by omega)⟩
  refine wp_cond_false (s11.trans (congrArg Value.bool (Bool.eq_false_iff.2 (fun c => hc1 ((decide_eq_true_iff).1 c))))) ?_
  refine wp_exit ?_
  refine then_e ?_
  refine then_e ?_
  refine block_hit ?_
  refine then_n (hK3 _ _ ?_)
  try clear hK3 K3
  refine wp_seq_k fun K12 hK12 => ?_
  refine rgn [yV _, yV (aggV (⟨0, 0, []⟩ : Vl)), yV _] 3 30 z (by kernel_rfl) (by kernel_rfl) (
    mvS s5 rfl rfl rfl rfl <|
    armS (wn rfl) (fun aa ww hk bs hd => xbuild (us := #[]) rfl (by simp) (by kernel_rfl)) rfl <|
    asD 0 rfl rfl rfl rfl rfl rfl <|
    arm0) fun fa fw hk bs hv ap => ?_
  obtain ⟨z, q, ov⟩ := aft hk bs z q ow
  have s3 := bs.get 3 rfl s3
  have s29 := got hv 1 rfl rfl rfl
  have s2 := got hv 2 rfl rfl rfl
  have ow := ov
  clear hv ap bs hk ov
  refine wl_store ow 1 0 (want0 rfl) rfl rfl s3 s29 (by kernel_rfl) rfl rfl rfl fun fw ow => ?_
  refine wl_value (v := .bool true) (want0 rfl) (xassign rfl rfl) ?_
  refine gt3 (put_size z) (put_def q) ow 3 (pb 4 s3 rfl) 2 (pb 4 s2 rfl) 4 (put_in (t := 4) z rfl) fun fa fw z q ow s3 s2 s4 => ?_
  refine wl_then (hK12 _ _ ?_)
  try clear hK12 K12
  refine wp_ret ?_
  refine resultsL (v := .tuple #[va, aggV (⟨0, 0, []⟩ : Vl), .bool true]) rfl (.cons (res_tmp s2) (.cons (res_cell (n := 3) _ s3 (by kernel_rfl) (by kernel_rfl) (ow.box 1 rfl) (Nat.le_of_ble_eq_true rfl) rfl) (.cons (res_tmp s4) .nil))) rfl q ?_
  have hkl : k = l.length := by omega
  subst hkl
  rw [List.take_length] at hfe
  have oo := Own.one ow
  rw [List.take_length] at oo
  exact ⟨_, (⟨0, 0, []⟩ : Vl), true, rfl, ow.kept, Or.inr ⟨rfl, hfe, oo⟩⟩
set_option maxHeartbeats 4000000 in
theorem rvalue13_1 (fn : Nat) (x : Int) (nb no cn : Nat) (w : World) (hn : RowC w (some ⟨nb, no, none⟩) [.int .i64 x]) (h1 : 1 ≤ fn) (h2 : fn ≤ 8) (ht : two13 fn = false) (hx : -9223372036854775807 ≤ x ∧ x ≤ 9223372036854775807) :
    Calls Tryz.prog 74 #[.int .u8 fn, .slice (some ⟨nb, no, none⟩) 1 cn] w fun e w' => e = .returned (aggV (val13 fn x 0)) ∧ Kept w w' := by
  have ix : i64 x := ⟨by omega, by omega⟩
  have it : i64 (dTrunc x) := dTrunc_in ix
  have sg := sgn13_in x
  have it1 := it.1
  have it2 := it.2
  have nt : fn ≠ 5 ∧ fn ≠ 6 ∧ fn ≠ 7 := two13_no ht
  go_enter Tryz.func74, Tryz.ntmps74
  refine wp_seq_k fun K1 hK1 => ?_
  refine rgn [yNew w.heap.size (.cells #[.int .u8 0, .int .i64 0, .string ⟨[].toArray⟩] 25 (0, 0))] 1 74 rfl (by kernel_rfl) (by kernel_rfl) (
    armP (wn rfl) (fun aa ww hk bs hd => xalloc rfl (by kernel_rfl)) rfl <|
    arm0) fun fa fw hk bs hv ap => ?_
  obtain ⟨z, q, ov⟩ := aft hk bs rfl rfl (Own.start w)
  have s0 := bs.get 0 rfl rfl
  have s1 := bs.get 1 rfl rfl
  obtain ⟨gb1, s4, bgb1, hgb1⟩ := gotP hv 0 rfl rfl rfl
  have ov := ov.cons hgb1 (Nat.le_trans (Own.start w).kept.size bgb1) ((Own.start w).below bgb1)
  have ow := ov
  clear hv ap bs hk ov
  refine wl_then (hK1 _ _ ?_)
  try clear hK1 K1
  refine wp_seq_k fun K2 hK2 => ?_
  refine rgn [yV _, yV _, yV _, yV _] 4 74 z (by kernel_rfl) (by kernel_rfl) (
    mvS s1 rfl rfl rfl rfl <|
    armS (wn rfl) (fun aa ww hk bs hd => xindexAddr (u := .slice (some ⟨nb, no, none⟩) 1 cn) (z := .int .i64 ((0 : Nat) : Int)) rfl (dep hd 0 rfl rfl rfl) rfl (run_place1 Tryz.underlying72 (by kernel_rfl) (by omega))) rfl <|
    armS (wn rfl) (fun aa ww hk bs hd => xloadC rfl (by kernel_rfl) (dep hd 1 rfl rfl rfl) ((hn.kept (ow.keep hk).kept).at_ (k := 0) rfl)) rfl <|
    asD 2 rfl rfl rfl rfl rfl rfl <|
    arm0) fun fa fw hk bs hv ap => ?_
  obtain ⟨z, q, ov⟩ := aft hk bs z q ow
  have s0 := bs.get 0 rfl s0
  have s1 := bs.get 1 rfl s1
  have s4 := bs.get 4 rfl s4
  have s5 := got hv 3 rfl rfl rfl
  have ow := ov
  clear hv ap bs hk ov
  refine wl_then (hK2 _ _ ?_)
  try clear hK2 K2
  refine wp_seq_k fun K3 hK3 => ?_
  refine wp_seq_k fun K4 hK4 => ?_
  refine rgn [yV _] 1 74 z (by kernel_rfl) (by kernel_rfl) (
    mvS s0 rfl rfl rfl rfl <|
    arm0) fun fa fw hk bs hv ap => ?_
  obtain ⟨z, q, ov⟩ := aft hk bs z q ow
  have s1 := bs.get 1 rfl s1
  have s4 := bs.get 4 rfl s4
  have s5 := bs.get 5 rfl s5
  have s10 := got hv 0 rfl rfl rfl
  have ow := ov
  clear hv ap bs hk ov
  refine wl_then (hK4 _ _ ?_)
  try clear hK4 K4
  refine wp_block ?_
  refine wp_seq_k fun K5 hK5 => ?_
  refine rgn [yV _, yV _] 2 74 z (by kernel_rfl) (by kernel_rfl) (
    armS (wn rfl) (fun aa ww hk bs hd => xeqi rfl (bs.get 10 rfl s10) rfl) rfl <|
    asD 0 rfl rfl rfl rfl rfl rfl <|
    arm0) fun fa fw hk bs hv ap => ?_
  obtain ⟨z, q, ov⟩ := aft hk bs z q ow
  have s1 := bs.get 1 rfl s1
  have s4 := bs.get 4 rfl s4
  have s5 := bs.get 5 rfl s5
  have s10 := bs.get 10 rfl s10
  have s11 := got hv 1 rfl rfl rfl
  have ow := ov
  clear hv ap bs hk ov
  refine wl_then (hK5 _ _ ?_)
  try clear hK5 K5
  by_cases hc1 : (fn : Int) = (1 : Int)
  · refine wp_cond_true (s11.trans (congrArg Value.bool ((decide_eq_true_iff).2 hc1))) ?_
    refine wp_seq_k fun K6 hK6 => ?_
    refine rgn [yV _, yV _, yV _, yV _, yV (aggV (vMake (max x (-x))))] 5 74 z (by kernel_rfl) (by kernel_rfl) (
      mvS s5 rfl rfl rfl rfl <|
      mvS s5 rfl rfl rfl rfl <|
      armS (wn rfl) (fun aa ww hk bs hd => xneg (Or.inr rfl) rfl (n := x) (dep hd 1 rfl rfl rfl) (by omega) (by omega)) rfl <|
      armS (wn rfl) (fun aa ww hk bs hd => xmaxI rfl (Or.inr rfl) (dep hd 0 rfl rfl rfl) (dep hd 2 rfl rfl rfl)) rfl <|
      armC (wn rfl) (fun aa ww hk bs hd => xcall1 rfl (dep hd 3 rfl rfl rfl) (en_louvreref05_Make _ _)) (fun aa ww hk bs hd => rmake_any (max x (-x)) ww (by omega) (by omega)) rfl <|
      arm0) fun fa fw hk bs hv ap => ?_
    obtain ⟨z, q, ov⟩ := aft hk bs z q ow
    have s4 := bs.get 4 rfl s4
    have s5 := bs.get 5 rfl s5
    have s17 := got hv 4 rfl rfl rfl
    have ow := ov
    clear hv ap bs hk ov
    refine wl_store ow 0 0 (want0 rfl) rfl rfl s4 s17 (by kernel_rfl) rfl rfl rfl fun fw ow => ?_
    refine wl_then (hK6 _ _ ?_)
    try clear hK6 K6
    refine wp_ret ?_
    refine block_r ?_
    refine then_r ?_
    refine results_one rfl (res_cell (n := 3) _ s4 (by kernel_rfl) (by kernel_rfl) (ow.box 0 rfl) (Nat.le_of_ble_eq_true rfl) rfl) q ?_
    exact ⟨congrArg (fun v => Ending.returned (aggV v)) (show _ = val13 fn x 0 by have e : fn = 1 := (by omega); subst e; rfl), ow.kept⟩
  refine wp_cond_false (s11.trans (congrArg Value.bool (Bool.eq_false_iff.2 (fun c => hc1 ((decide_eq_true_iff).1 c))))) ?_
  refine wp_seq_k fun K7 hK7 => ?_
  refine rgn [yV _, yV _] 2 74 z (by kernel_rfl) (by kernel_rfl) (
    armS (wn rfl) (fun aa ww hk bs hd => xeqi rfl (bs.get 10 rfl s10) rfl) rfl <|
    asD 0 rfl rfl rfl rfl rfl rfl <|
    arm0) fun fa fw hk bs hv ap => ?_
  obtain ⟨z, q, ov⟩ := aft hk bs z q ow
  have s1 := bs.get 1 rfl s1
  have s4 := bs.get 4 rfl s4
  have s5 := bs.get 5 rfl s5
  have s10 := bs.get 10 rfl s10
  have s18 := got hv 1 rfl rfl rfl
  have ow := ov
  clear hv ap bs hk ov
  refine wl_then (hK7 _ _ ?_)
  try clear hK7 K7
  by_cases hc2 : (fn : Int) = (2 : Int)
  · refine wp_cond_true (s18.trans (congrArg Value.bool ((decide_eq_true_iff).2 hc2))) ?_
    refine wp_seq_k fun K8 hK8 => ?_
    refine rgn [yV _, yV (.int .i64 (sgn13 x * 10000)), yV (aggV (vMake (sgn13 x * 10000)))] 3 74 z (by kernel_rfl) (by kernel_rfl) (
      mvS s5 rfl rfl rfl rfl <|
      armC (wn rfl) (fun aa ww hk bs hd => xcall1 rfl (dep hd 0 rfl rfl rfl) (en_louvreref13_sign _ _)) (fun aa ww hk bs hd => rsign13_any x ww) rfl <|
      armC (wn rfl) (fun aa ww hk bs hd => xcall1 rfl (dep hd 1 rfl rfl rfl) (en_louvreref05_Make _ _)) (fun aa ww hk bs hd => rmake_any (sgn13 x * 10000) ww (by omega) (by omega)) rfl <|
      arm0) fun fa fw hk bs hv ap => ?_
    obtain ⟨z, q, ov⟩ := aft hk bs z q ow
    have s4 := bs.get 4 rfl s4
    have s5 := bs.get 5 rfl s5
    have s22 := got hv 2 rfl rfl rfl
    have ow := ov
    clear hv ap bs hk ov
    refine wl_store ow 0 0 (want0 rfl) rfl rfl s4 s22 (by kernel_rfl) rfl rfl rfl fun fw ow => ?_
    refine wl_then (hK8 _ _ ?_)
    try clear hK8 K8
    refine wp_ret ?_
    refine block_r ?_
    refine then_r ?_
    refine results_one rfl (res_cell (n := 3) _ s4 (by kernel_rfl) (by kernel_rfl) (ow.box 0 rfl) (Nat.le_of_ble_eq_true rfl) rfl) q ?_
    exact ⟨congrArg (fun v => Ending.returned (aggV v)) (show _ = val13 fn x 0 by have e : fn = 2 := (by omega); subst e; rfl), ow.kept⟩
  refine wp_cond_false (s18.trans (congrArg Value.bool (Bool.eq_false_iff.2 (fun c => hc2 ((decide_eq_true_iff).1 c))))) ?_
  refine wp_seq_k fun K9 hK9 => ?_
  refine rgn [yV _, yV _] 2 74 z (by kernel_rfl) (by kernel_rfl) (
    armS (wn rfl) (fun aa ww hk bs hd => xeqi rfl (bs.get 10 rfl s10) rfl) rfl <|
    asD 0 rfl rfl rfl rfl rfl rfl <|
    arm0) fun fa fw hk bs hv ap => ?_
  obtain ⟨z, q, ov⟩ := aft hk bs z q ow
  have s1 := bs.get 1 rfl s1
  have s4 := bs.get 4 rfl s4
  have s5 := bs.get 5 rfl s5
  have s10 := bs.get 10 rfl s10
  have s23 := got hv 1 rfl rfl rfl
  have ow := ov
  clear hv ap bs hk ov
  refine wl_then (hK9 _ _ ?_)
  try clear hK9 K9
  by_cases hc3 : (fn : Int) = (3 : Int)
  · refine wp_cond_true (s23.trans (congrArg Value.bool ((decide_eq_true_iff).2 hc3))) ?_
    refine wp_seq_k fun K10 hK10 => ?_
    refine rgn [yV _, yV (.tuple #[.int .i64 ((dFloor x).1), .bool ((dFloor x).2)]), yV _, yV _, yV (aggV (vRes ((dFloor x).1, (dFloor x).2)))] 5 74 z (by kernel_rfl) (by kernel_rfl) (
      mvS s5 rfl rfl rfl rfl <|
      armC (wn rfl) (fun aa ww hk bs hd => xcall1 rfl (dep hd 0 rfl rfl rfl) (en_louvreref01_Floor _ _)) (fun aa ww hk bs hd => rfloor_any x ww (by assumption)) rfl <|
      armS (wn rfl) (fun aa ww hk bs hd => xextract rfl (dep hd 1 rfl rfl rfl) rfl) rfl <|
      armS (wn rfl) (fun aa ww hk bs hd => xextract rfl (dep hd 1 rfl rfl rfl) rfl) rfl <|
      armC (wn rfl) (fun aa ww hk bs hd => xcall2 rfl (dep hd 2 rfl rfl rfl) (dep hd 3 rfl rfl rfl) (en_louvreref13_number _ _)) (fun aa ww hk bs hd => rnumber13_any ((dFloor x).1) ((dFloor x).2) ww (fun _ => by first | exact dFloor_i64 ix | exact dRound_i64 | exact dSqrt_in ix)) rfl <|
      arm0) fun fa fw hk bs hv ap => ?_
    obtain ⟨z, q, ov⟩ := aft hk bs z q ow
    have s4 := bs.get 4 rfl s4
    have s5 := bs.get 5 rfl s5
    have s29 := got hv 4 rfl rfl rfl
    have ow := ov
    clear hv ap bs hk ov
    refine wl_store ow 0 0 (want0 rfl) rfl rfl s4 s29 (by kernel_rfl) rfl rfl rfl fun fw ow => ?_
    refine wl_then (hK10 _ _ ?_)
    try clear hK10 K10
    refine wp_ret ?_
    refine block_r ?_
    refine then_r ?_
    refine results_one rfl (res_cell (n := 3) _ s4 (by kernel_rfl) (by kernel_rfl) (ow.box 0 rfl) (Nat.le_of_ble_eq_true rfl) rfl) q ?_
    exact ⟨congrArg (fun v => Ending.returned (aggV v)) (show _ = val13 fn x 0 by have e : fn = 3 := (by omega); subst e; rfl), ow.kept⟩
  refine wp_cond_false (s23.trans (congrArg Value.bool (Bool.eq_false_iff.2 (fun c => hc3 ((decide_eq_true_iff).1 c))))) ?_
  refine wp_seq_k fun K11 hK11 => ?_
  refine rgn [yV _, yV _] 2 74 z (by kernel_rfl) (by kernel_rfl) (
    armS (wn rfl) (fun aa ww hk bs hd => xeqi rfl (bs.get 10 rfl s10) rfl) rfl <|
    asD 0 rfl rfl rfl rfl rfl rfl <|
    arm0) fun fa fw hk bs hv ap => ?_
  obtain ⟨z, q, ov⟩ := aft hk bs z q ow
  have s1 := bs.get 1 rfl s1
  have s4 := bs.get 4 rfl s4
  have s5 := bs.get 5 rfl s5
  have s10 := bs.get 10 rfl s10
  have s30 := got hv 1 rfl rfl rfl
  have ow := ov
  clear hv ap bs hk ov
  refine wl_then (hK11 _ _ ?_)
  try clear hK11 K11
  by_cases hc4 : (fn : Int) = (4 : Int)
  · refine wp_cond_true (s30.trans (congrArg Value.bool ((decide_eq_true_iff).2 hc4))) ?_
    refine wp_seq_k fun K12 hK12 => ?_
    refine rgn [yV _, yV (.int .i64 (dTrunc x)), yV (aggV (vMake (dTrunc x)))] 3 74 z (by kernel_rfl) (by kernel_rfl) (
      mvS s5 rfl rfl rfl rfl <|
      armC (wn rfl) (fun aa ww hk bs hd => xcall1 rfl (dep hd 0 rfl rfl rfl) (en_louvreref01_Trunc _ _)) (fun aa ww hk bs hd => same_kept (rtrunc_any x ww (by assumption))) rfl <|
      armC (wn rfl) (fun aa ww hk bs hd => xcall1 rfl (dep hd 1 rfl rfl rfl) (en_louvreref05_Make _ _)) (fun aa ww hk bs hd => rmake_any (dTrunc x) ww (by omega) (by omega)) rfl <|
      arm0) fun fa fw hk bs hv ap => ?_
    obtain ⟨z, q, ov⟩ := aft hk bs z q ow
    have s4 := bs.get 4 rfl s4
    have s5 := bs.get 5 rfl s5
    have s34 := got hv 2 rfl rfl rfl
    have ow := ov
    clear hv ap bs hk ov
    refine wl_store ow 0 0 (want0 rfl) rfl rfl s4 s34 (by kernel_rfl) rfl rfl rfl fun fw ow => ?_
    refine wl_then (hK12 _ _ ?_)
    try clear hK12 K12
    refine wp_ret ?_
    refine block_r ?_
    refine then_r ?_
    refine results_one rfl (res_cell (n := 3) _ s4 (by kernel_rfl) (by kernel_rfl) (ow.box 0 rfl) (Nat.le_of_ble_eq_true rfl) rfl) q ?_
    exact ⟨congrArg (fun v => Ending.returned (aggV v)) (show _ = val13 fn x 0 by have e : fn = 4 := (by omega); subst e; rfl), ow.kept⟩
  refine wp_cond_false (s30.trans (congrArg Value.bool (Bool.eq_false_iff.2 (fun c => hc4 ((decide_eq_true_iff).1 c))))) ?_
  refine wp_seq_k fun K13 hK13 => ?_
  refine rgn [yV _, yV _] 2 74 z (by kernel_rfl) (by kernel_rfl) (
    armS (wn rfl) (fun aa ww hk bs hd => xeqi rfl (bs.get 10 rfl s10) rfl) rfl <|
    asD 0 rfl rfl rfl rfl rfl rfl <|
    arm0) fun fa fw hk bs hv ap => ?_
  obtain ⟨z, q, ov⟩ := aft hk bs z q ow
  have s1 := bs.get 1 rfl s1
  have s4 := bs.get 4 rfl s4
  have s5 := bs.get 5 rfl s5
  have s10 := bs.get 10 rfl s10
  have s35 := got hv 1 rfl rfl rfl
  have ow := ov
  clear hv ap bs hk ov
  refine wl_then (hK13 _ _ ?_)
  try clear hK13 K13
  by_cases hc5 : (fn : Int) = (5 : Int)
  · refine wp_cond_true (s35.trans (congrArg Value.bool ((decide_eq_true_iff).2 hc5))) ?_
    refine wp_seq_k fun K14 hK14 => ?_
    exact absurd nt (by omega)
  refine wp_cond_false (s35.trans (congrArg Value.bool (Bool.eq_false_iff.2 (fun c => hc5 ((decide_eq_true_iff).1 c))))) ?_
  refine wp_seq_k fun K15 hK15 => ?_
  refine rgn [yV _, yV _] 2 74 z (by kernel_rfl) (by kernel_rfl) (
    armS (wn rfl) (fun aa ww hk bs hd => xeqi rfl (bs.get 10 rfl s10) rfl) rfl <|
    asD 0 rfl rfl rfl rfl rfl rfl <|
    arm0) fun fa fw hk bs hv ap => ?_
  obtain ⟨z, q, ov⟩ := aft hk bs z q ow
  have s1 := bs.get 1 rfl s1
  have s4 := bs.get 4 rfl s4
  have s5 := bs.get 5 rfl s5
  have s10 := bs.get 10 rfl s10
  have s49 := got hv 1 rfl rfl rfl
  have ow := ov
  clear hv ap bs hk ov
  refine wl_then (hK15 _ _ ?_)
  try clear hK15 K15
  by_cases hc6 : (fn : Int) = (6 : Int)
  · refine wp_cond_true (s49.trans (congrArg Value.bool ((decide_eq_true_iff).2 hc6))) ?_
    refine wp_seq_k fun K16 hK16 => ?_
    refine wp_seq_k fun K17 hK17 => ?_
    exact absurd nt (by omega)
  refine wp_cond_false (s49.trans (congrArg Value.bool (Bool.eq_false_iff.2 (fun c => hc6 ((decide_eq_true_iff).1 c))))) ?_
  refine wp_seq_k fun K18 hK18 => ?_
  refine rgn [yV _, yV _] 2 74 z (by kernel_rfl) (by kernel_rfl) (
    armS (wn rfl) (fun aa ww hk bs hd => xeqi rfl (bs.get 10 rfl s10) rfl) rfl <|
    asD 0 rfl rfl rfl rfl rfl rfl <|
    arm0) fun fa fw hk bs hv ap => ?_
  obtain ⟨z, q, ov⟩ := aft hk bs z q ow
  have s1 := bs.get 1 rfl s1
  have s4 := bs.get 4 rfl s4
  have s5 := bs.get 5 rfl s5
  have s62 := got hv 1 rfl rfl rfl
  have ow := ov
  clear hv ap bs hk ov
  refine wl_then (hK18 _ _ ?_)
  try clear hK18 K18
  by_cases hc7 : (fn : Int) = (7 : Int)
  · refine wp_cond_true (s62.trans (congrArg Value.bool ((decide_eq_true_iff).2 hc7))) ?_
    refine wp_seq_k fun K19 hK19 => ?_
    exact absurd nt (by omega)
  refine wp_cond_false (s62.trans (congrArg Value.bool (Bool.eq_false_iff.2 (fun c => hc7 ((decide_eq_true_iff).1 c))))) ?_
  refine wp_skip ?_
  refine block_n ?_
  refine then_n (hK3 _ _ ?_)
  try clear hK3 K3
  refine wp_seq_k fun K20 hK20 => ?_
  refine rgn [yV _, yV (.tuple #[.int .i64 ((dSqrt x).1), .bool ((dSqrt x).2)]), yV _, yV _, yV (aggV (vRes ((dSqrt x).1, (dSqrt x).2)))] 5 74 z (by kernel_rfl) (by kernel_rfl) (
    mvS s5 rfl rfl rfl rfl <|
    armC (wn rfl) (fun aa ww hk bs hd => xcall1 rfl (dep hd 0 rfl rfl rfl) (en_louvreref01_Sqrt _ _)) (fun aa ww hk bs hd => rsqrt_any x ww (by assumption)) rfl <|
    armS (wn rfl) (fun aa ww hk bs hd => xextract rfl (dep hd 1 rfl rfl rfl) rfl) rfl <|
    armS (wn rfl) (fun aa ww hk bs hd => xextract rfl (dep hd 1 rfl rfl rfl) rfl) rfl <|
    armC (wn rfl) (fun aa ww hk bs hd => xcall2 rfl (dep hd 2 rfl rfl rfl) (dep hd 3 rfl rfl rfl) (en_louvreref13_number _ _)) (fun aa ww hk bs hd => rnumber13_any ((dSqrt x).1) ((dSqrt x).2) ww (fun _ => by first | exact dFloor_i64 ix | exact dRound_i64 | exact dSqrt_in ix)) rfl <|
    arm0) fun fa fw hk bs hv ap => ?_
  obtain ⟨z, q, ov⟩ := aft hk bs z q ow
  have s4 := bs.get 4 rfl s4
  have s73 := got hv 4 rfl rfl rfl
  have ow := ov
  clear hv ap bs hk ov
  refine wl_store ow 0 0 (want0 rfl) rfl rfl s4 s73 (by kernel_rfl) rfl rfl rfl fun fw ow => ?_
  refine wl_then (hK20 _ _ ?_)
  try clear hK20 K20
  refine wp_ret ?_
  refine results_one rfl (res_cell (n := 3) _ s4 (by kernel_rfl) (by kernel_rfl) (ow.box 0 rfl) (Nat.le_of_ble_eq_true rfl) rfl) q ?_
  exact ⟨congrArg (fun v => Ending.returned (aggV v)) (show _ = val13 fn x 0 by have e : fn = 8 := (by omega); subst e; exact sqrt13 x), ow.kept⟩
set_option maxHeartbeats 4000000 in
theorem rvalue13_2 (fn : Nat) (x y : Int) (nb no cn : Nat) (w : World) (hn : RowC w (some ⟨nb, no, none⟩) [.int .i64 x, .int .i64 y]) (h1 : 1 ≤ fn) (h2 : fn ≤ 8) (ht : two13 fn = true) (hx : -9223372036854775807 ≤ x ∧ x ≤ 9223372036854775807) (hy : -9223372036854775807 ≤ y ∧ y ≤ 9223372036854775807) :
    Calls Tryz.prog 74 #[.int .u8 fn, .slice (some ⟨nb, no, none⟩) 2 cn] w fun e w' => e = .returned (aggV (val13 fn x y)) ∧ Kept w w' := by
  have ix : i64 x := ⟨by omega, by omega⟩
  have it : i64 (dTrunc x) := dTrunc_in ix
  have sg := sgn13_in x
  have it1 := it.1
  have it2 := it.2
  have nt : fn = 5 ∨ fn = 6 ∨ fn = 7 := two13_yes ht
  have iy : i64 y := ⟨by omega, by omega⟩
  have im := mod13_in hx hy
  have im1 := im.1
  have im2 := im.2
  have ir : i64 (min (max (Int.tdiv y 10000) (-20)) 4) := ⟨by omega, by omega⟩
  go_enter Tryz.func74, Tryz.ntmps74
  refine wp_seq_k fun K1 hK1 => ?_
  refine rgn [yNew w.heap.size (.cells #[.int .u8 0, .int .i64 0, .string ⟨[].toArray⟩] 25 (0, 0))] 1 74 rfl (by kernel_rfl) (by kernel_rfl) (
    armP (wn rfl) (fun aa ww hk bs hd => xalloc rfl (by kernel_rfl)) rfl <|
    arm0) fun fa fw hk bs hv ap => ?_
  obtain ⟨z, q, ov⟩ := aft hk bs rfl rfl (Own.start w)
  have s0 := bs.get 0 rfl rfl
  have s1 := bs.get 1 rfl rfl
  obtain ⟨gb1, s4, bgb1, hgb1⟩ := gotP hv 0 rfl rfl rfl
  have ov := ov.cons hgb1 (Nat.le_trans (Own.start w).kept.size bgb1) ((Own.start w).below bgb1)
  have ow := ov
  clear hv ap bs hk ov
  refine wl_then (hK1 _ _ ?_)
  try clear hK1 K1
  refine wp_seq_k fun K2 hK2 => ?_
  refine rgn [yV _, yV _, yV _, yV _] 4 74 z (by kernel_rfl) (by kernel_rfl) (
    mvS s1 rfl rfl rfl rfl <|
    armS (wn rfl) (fun aa ww hk bs hd => xindexAddr (u := .slice (some ⟨nb, no, none⟩) 2 cn) (z := .int .i64 ((0 : Nat) : Int)) rfl (dep hd 0 rfl rfl rfl) rfl (run_place1 Tryz.underlying72 (by kernel_rfl) (by omega))) rfl <|
    armS (wn rfl) (fun aa ww hk bs hd => xloadC rfl (by kernel_rfl) (dep hd 1 rfl rfl rfl) ((hn.kept (ow.keep hk).kept).at_ (k := 0) rfl)) rfl <|
    asD 2 rfl rfl rfl rfl rfl rfl <|
    arm0) fun fa fw hk bs hv ap => ?_
  obtain ⟨z, q, ov⟩ := aft hk bs z q ow
  have s0 := bs.get 0 rfl s0
  have s1 := bs.get 1 rfl s1
  have s4 := bs.get 4 rfl s4
  have s5 := got hv 3 rfl rfl rfl
  have ow := ov
  clear hv ap bs hk ov
  refine wl_then (hK2 _ _ ?_)
  try clear hK2 K2
  refine wp_seq_k fun K3 hK3 => ?_
  refine wp_seq_k fun K4 hK4 => ?_
  refine rgn [yV _] 1 74 z (by kernel_rfl) (by kernel_rfl) (
    mvS s0 rfl rfl rfl rfl <|
    arm0) fun fa fw hk bs hv ap => ?_
  obtain ⟨z, q, ov⟩ := aft hk bs z q ow
  have s1 := bs.get 1 rfl s1
  have s4 := bs.get 4 rfl s4
  have s5 := bs.get 5 rfl s5
  have s10 := got hv 0 rfl rfl rfl
  have ow := ov
  clear hv ap bs hk ov
  refine wl_then (hK4 _ _ ?_)
  try clear hK4 K4
  refine wp_block ?_
  refine wp_seq_k fun K5 hK5 => ?_
  refine rgn [yV _, yV _] 2 74 z (by kernel_rfl) (by kernel_rfl) (
    armS (wn rfl) (fun aa ww hk bs hd => xeqi rfl (bs.get 10 rfl s10) rfl) rfl <|
    asD 0 rfl rfl rfl rfl rfl rfl <|
    arm0) fun fa fw hk bs hv ap => ?_
  obtain ⟨z, q, ov⟩ := aft hk bs z q ow
  have s1 := bs.get 1 rfl s1
  have s4 := bs.get 4 rfl s4
  have s5 := bs.get 5 rfl s5
  have s10 := bs.get 10 rfl s10
  have s11 := got hv 1 rfl rfl rfl
  have ow := ov
  clear hv ap bs hk ov
  refine wl_then (hK5 _ _ ?_)
  try clear hK5 K5
  by_cases hc1 : (fn : Int) = (1 : Int)
  · refine wp_cond_true (s11.trans (congrArg Value.bool ((decide_eq_true_iff).2 hc1))) ?_
    refine wp_seq_k fun K6 hK6 => ?_
    refine rgn [yV _, yV _, yV _, yV _, yV (aggV (vMake (max x (-x))))] 5 74 z (by kernel_rfl) (by kernel_rfl) (
      mvS s5 rfl rfl rfl rfl <|
      mvS s5 rfl rfl rfl rfl <|
      armS (wn rfl) (fun aa ww hk bs hd => xneg (Or.inr rfl) rfl (n := x) (dep hd 1 rfl rfl rfl) (by omega) (by omega)) rfl <|
      armS (wn rfl) (fun aa ww hk bs hd => xmaxI rfl (Or.inr rfl) (dep hd 0 rfl rfl rfl) (dep hd 2 rfl rfl rfl)) rfl <|
      armC (wn rfl) (fun aa ww hk bs hd => xcall1 rfl (dep hd 3 rfl rfl rfl) (en_louvreref05_Make _ _)) (fun aa ww hk bs hd => rmake_any (max x (-x)) ww (by omega) (by omega)) rfl <|
      arm0) fun fa fw hk bs hv ap => ?_
    obtain ⟨z, q, ov⟩ := aft hk bs z q ow
    have s4 := bs.get 4 rfl s4
    have s5 := bs.get 5 rfl s5
    have s17 := got hv 4 rfl rfl rfl
    have ow := ov
    clear hv ap bs hk ov
    refine wl_store ow 0 0 (want0 rfl) rfl rfl s4 s17 (by kernel_rfl) rfl rfl rfl fun fw ow => ?_
    refine wl_then (hK6 _ _ ?_)
    try clear hK6 K6
    refine wp_ret ?_
    refine block_r ?_
    refine then_r ?_
    refine results_one rfl (res_cell (n := 3) _ s4 (by kernel_rfl) (by kernel_rfl) (ow.box 0 rfl) (Nat.le_of_ble_eq_true rfl) rfl) q ?_
    exact ⟨congrArg (fun v => Ending.returned (aggV v)) (show _ = val13 fn x y by have e : fn = 1 := (by omega); subst e; rfl), ow.kept⟩
  refine wp_cond_false (s11.trans (congrArg Value.bool (Bool.eq_false_iff.2 (fun c => hc1 ((decide_eq_true_iff).1 c))))) ?_
  refine wp_seq_k fun K7 hK7 => ?_
  refine rgn [yV _, yV _] 2 74 z (by kernel_rfl) (by kernel_rfl) (
    armS (wn rfl) (fun aa ww hk bs hd => xeqi rfl (bs.get 10 rfl s10) rfl) rfl <|
    asD 0 rfl rfl rfl rfl rfl rfl <|
    arm0) fun fa fw hk bs hv ap => ?_
  obtain ⟨z, q, ov⟩ := aft hk bs z q ow
  have s1 := bs.get 1 rfl s1
  have s4 := bs.get 4 rfl s4
  have s5 := bs.get 5 rfl s5
  have s10 := bs.get 10 rfl s10
  have s18 := got hv 1 rfl rfl rfl
  have ow := ov
  clear hv ap bs hk ov
  refine wl_then (hK7 _ _ ?_)
  try clear hK7 K7
  by_cases hc2 : (fn : Int) = (2 : Int)
  · refine wp_cond_true (s18.trans (congrArg Value.bool ((decide_eq_true_iff).2 hc2))) ?_
    refine wp_seq_k fun K8 hK8 => ?_
    refine rgn [yV _, yV (.int .i64 (sgn13 x * 10000)), yV (aggV (vMake (sgn13 x * 10000)))] 3 74 z (by kernel_rfl) (by kernel_rfl) (
      mvS s5 rfl rfl rfl rfl <|
      armC (wn rfl) (fun aa ww hk bs hd => xcall1 rfl (dep hd 0 rfl rfl rfl) (en_louvreref13_sign _ _)) (fun aa ww hk bs hd => rsign13_any x ww) rfl <|
      armC (wn rfl) (fun aa ww hk bs hd => xcall1 rfl (dep hd 1 rfl rfl rfl) (en_louvreref05_Make _ _)) (fun aa ww hk bs hd => rmake_any (sgn13 x * 10000) ww (by omega) (by omega)) rfl <|
      arm0) fun fa fw hk bs hv ap => ?_
    obtain ⟨z, q, ov⟩ := aft hk bs z q ow
    have s4 := bs.get 4 rfl s4
    have s5 := bs.get 5 rfl s5
    have s22 := got hv 2 rfl rfl rfl
    have ow := ov
    clear hv ap bs hk ov
    refine wl_store ow 0 0 (want0 rfl) rfl rfl s4 s22 (by kernel_rfl) rfl rfl rfl fun fw ow => ?_
    refine wl_then (hK8 _ _ ?_)
    try clear hK8 K8
    refine wp_ret ?_
    refine block_r ?_
    refine then_r ?_
    refine results_one rfl (res_cell (n := 3) _ s4 (by kernel_rfl) (by kernel_rfl) (ow.box 0 rfl) (Nat.le_of_ble_eq_true rfl) rfl) q ?_
    exact ⟨congrArg (fun v => Ending.returned (aggV v)) (show _ = val13 fn x y by have e : fn = 2 := (by omega); subst e; rfl), ow.kept⟩
  refine wp_cond_false (s18.trans (congrArg Value.bool (Bool.eq_false_iff.2 (fun c => hc2 ((decide_eq_true_iff).1 c))))) ?_
  refine wp_seq_k fun K9 hK9 => ?_
  refine rgn [yV _, yV _] 2 74 z (by kernel_rfl) (by kernel_rfl) (
    armS (wn rfl) (fun aa ww hk bs hd => xeqi rfl (bs.get 10 rfl s10) rfl) rfl <|
    asD 0 rfl rfl rfl rfl rfl rfl <|
    arm0) fun fa fw hk bs hv ap => ?_
  obtain ⟨z, q, ov⟩ := aft hk bs z q ow
  have s1 := bs.get 1 rfl s1
  have s4 := bs.get 4 rfl s4
  have s5 := bs.get 5 rfl s5
  have s10 := bs.get 10 rfl s10
  have s23 := got hv 1 rfl rfl rfl
  have ow := ov
  clear hv ap bs hk ov
  refine wl_then (hK9 _ _ ?_)
  try clear hK9 K9
  by_cases hc3 : (fn : Int) = (3 : Int)
  · refine wp_cond_true (s23.trans (congrArg Value.bool ((decide_eq_true_iff).2 hc3))) ?_
    refine wp_seq_k fun K10 hK10 => ?_
    refine rgn [yV _, yV (.tuple #[.int .i64 ((dFloor x).1), .bool ((dFloor x).2)]), yV _, yV _, yV (aggV (vRes ((dFloor x).1, (dFloor x).2)))] 5 74 z (by kernel_rfl) (by kernel_rfl) (
      mvS s5 rfl rfl rfl rfl <|
      armC (wn rfl) (fun aa ww hk bs hd => xcall1 rfl (dep hd 0 rfl rfl rfl) (en_louvreref01_Floor _ _)) (fun aa ww hk bs hd => rfloor_any x ww (by assumption)) rfl <|
      armS (wn rfl) (fun aa ww hk bs hd => xextract rfl (dep hd 1 rfl rfl rfl) rfl) rfl <|
      armS (wn rfl) (fun aa ww hk bs hd => xextract rfl (dep hd 1 rfl rfl rfl) rfl) rfl <|
      armC (wn rfl) (fun aa ww hk bs hd => xcall2 rfl (dep hd 2 rfl rfl rfl) (dep hd 3 rfl rfl rfl) (en_louvreref13_number _ _)) (fun aa ww hk bs hd => rnumber13_any ((dFloor x).1) ((dFloor x).2) ww (fun _ => by first | exact dFloor_i64 ix | exact dRound_i64 | exact dSqrt_in ix)) rfl <|
      arm0) fun fa fw hk bs hv ap => ?_
    obtain ⟨z, q, ov⟩ := aft hk bs z q ow
    have s4 := bs.get 4 rfl s4
    have s5 := bs.get 5 rfl s5
    have s29 := got hv 4 rfl rfl rfl
    have ow := ov
    clear hv ap bs hk ov
    refine wl_store ow 0 0 (want0 rfl) rfl rfl s4 s29 (by kernel_rfl) rfl rfl rfl fun fw ow => ?_
    refine wl_then (hK10 _ _ ?_)
    try clear hK10 K10
    refine wp_ret ?_
    refine block_r ?_
    refine then_r ?_
    refine results_one rfl (res_cell (n := 3) _ s4 (by kernel_rfl) (by kernel_rfl) (ow.box 0 rfl) (Nat.le_of_ble_eq_true rfl) rfl) q ?_
    exact ⟨congrArg (fun v => Ending.returned (aggV v)) (show _ = val13 fn x y by have e : fn = 3 := (by omega); subst e; rfl), ow.kept⟩
  refine wp_cond_false (s23.trans (congrArg Value.bool (Bool.eq_false_iff.2 (fun c => hc3 ((decide_eq_true_iff).1 c))))) ?_
  refine wp_seq_k fun K11 hK11 => ?_
  refine rgn [yV _, yV _] 2 74 z (by kernel_rfl) (by kernel_rfl) (
    armS (wn rfl) (fun aa ww hk bs hd => xeqi rfl (bs.get 10 rfl s10) rfl) rfl <|
    asD 0 rfl rfl rfl rfl rfl rfl <|
    arm0) fun fa fw hk bs hv ap => ?_
  obtain ⟨z, q, ov⟩ := aft hk bs z q ow
  have s1 := bs.get 1 rfl s1
  have s4 := bs.get 4 rfl s4
  have s5 := bs.get 5 rfl s5
  have s10 := bs.get 10 rfl s10
  have s30 := got hv 1 rfl rfl rfl
  have ow := ov
  clear hv ap bs hk ov
  refine wl_then (hK11 _ _ ?_)
  try clear hK11 K11
  by_cases hc4 : (fn : Int) = (4 : Int)
  · refine wp_cond_true (s30.trans (congrArg Value.bool ((decide_eq_true_iff).2 hc4))) ?_
    refine wp_seq_k fun K12 hK12 => ?_
    refine rgn [yV _, yV (.int .i64 (dTrunc x)), yV (aggV (vMake (dTrunc x)))] 3 74 z (by kernel_rfl) (by kernel_rfl) (
      mvS s5 rfl rfl rfl rfl <|
      armC (wn rfl) (fun aa ww hk bs hd => xcall1 rfl (dep hd 0 rfl rfl rfl) (en_louvreref01_Trunc _ _)) (fun aa ww hk bs hd => same_kept (rtrunc_any x ww (by assumption))) rfl <|
      armC (wn rfl) (fun aa ww hk bs hd => xcall1 rfl (dep hd 1 rfl rfl rfl) (en_louvreref05_Make _ _)) (fun aa ww hk bs hd => rmake_any (dTrunc x) ww (by omega) (by omega)) rfl <|
      arm0) fun fa fw hk bs hv ap => ?_
    obtain ⟨z, q, ov⟩ := aft hk bs z q ow
    have s4 := bs.get 4 rfl s4
    have s5 := bs.get 5 rfl s5
    have s34 := got hv 2 rfl rfl rfl
    have ow := ov
    clear hv ap bs hk ov
    refine wl_store ow 0 0 (want0 rfl) rfl rfl s4 s34 (by kernel_rfl) rfl rfl rfl fun fw ow => ?_
    refine wl_then (hK12 _ _ ?_)
    try clear hK12 K12
    refine wp_ret ?_
    refine block_r ?_
    refine then_r ?_
    refine results_one rfl (res_cell (n := 3) _ s4 (by kernel_rfl) (by kernel_rfl) (ow.box 0 rfl) (Nat.le_of_ble_eq_true rfl) rfl) q ?_
    exact ⟨congrArg (fun v => Ending.returned (aggV v)) (show _ = val13 fn x y by have e : fn = 4 := (by omega); subst e; rfl), ow.kept⟩
  refine wp_cond_false (s30.trans (congrArg Value.bool (Bool.eq_false_iff.2 (fun c => hc4 ((decide_eq_true_iff).1 c))))) ?_
  refine wp_seq_k fun K13 hK13 => ?_
  refine rgn [yV _, yV _] 2 74 z (by kernel_rfl) (by kernel_rfl) (
    armS (wn rfl) (fun aa ww hk bs hd => xeqi rfl (bs.get 10 rfl s10) rfl) rfl <|
    asD 0 rfl rfl rfl rfl rfl rfl <|
    arm0) fun fa fw hk bs hv ap => ?_
  obtain ⟨z, q, ov⟩ := aft hk bs z q ow
  have s1 := bs.get 1 rfl s1
  have s4 := bs.get 4 rfl s4
  have s5 := bs.get 5 rfl s5
  have s10 := bs.get 10 rfl s10
  have s35 := got hv 1 rfl rfl rfl
  have ow := ov
  clear hv ap bs hk ov
  refine wl_then (hK13 _ _ ?_)
  try clear hK13 K13
  by_cases hc5 : (fn : Int) = (5 : Int)
  · refine wp_cond_true (s35.trans (congrArg Value.bool ((decide_eq_true_iff).2 hc5))) ?_
    refine wp_seq_k fun K14 hK14 => ?_
    refine rgn [yV _, yV _, yV _, yV _, yV _, yV _, yV _] 7 74 z (by kernel_rfl) (by kernel_rfl) (
      mvS s1 rfl rfl rfl rfl <|
      armS (wn rfl) (fun aa ww hk bs hd => xindexAddr (u := .slice (some ⟨nb, no, none⟩) 2 cn) (z := .int .i64 ((1 : Nat) : Int)) rfl (dep hd 0 rfl rfl rfl) rfl (run_place1 Tryz.underlying72 (by kernel_rfl) (by omega))) rfl <|
      armS (wn rfl) (fun aa ww hk bs hd => xloadC rfl (by kernel_rfl) (dep hd 1 rfl rfl rfl) ((hn.kept (ow.keep hk).kept).at_ (k := 1) rfl)) rfl <|
      armS (wn rfl) (fun aa ww hk bs hd => xquo (Or.inr rfl) rfl (dep hd 2 rfl rfl rfl) rfl (by decide) (by omega) (by omega)) rfl <|
      armS (wn rfl) (fun aa ww hk bs hd => xmaxI rfl (Or.inr rfl) (dep hd 3 rfl rfl rfl) rfl) rfl <|
      armS (wn rfl) (fun aa ww hk bs hd => xminI rfl (Or.inr rfl) (dep hd 4 rfl rfl rfl) rfl) rfl <|
      asD 5 rfl rfl rfl rfl rfl rfl <|
      arm0) fun fa fw hk bs hv ap => ?_
    obtain ⟨z, q, ov⟩ := aft hk bs z q ow
    have s4 := bs.get 4 rfl s4
    have s5 := bs.get 5 rfl s5
    have s6 := got hv 6 rfl rfl rfl
    have ow := ov
    clear hv ap bs hk ov
    refine wl_then (hK14 _ _ ?_)
    try clear hK14 K14
    refine wp_seq_k fun K15 hK15 => ?_
    refine rgn [yV _, yV _, yV (.tuple #[.int .i64 ((dRound x (min (max (Int.tdiv y 10000) (-20)) 4)).1), .bool ((dRound x (min (max (Int.tdiv y 10000) (-20)) 4)).2)]), yV _, yV _, yV (aggV (vRes ((dRound x (min (max (Int.tdiv y 10000) (-20)) 4)).1, (dRound x (min (max (Int.tdiv y 10000) (-20)) 4)).2)))] 6 74 z (by kernel_rfl) (by kernel_rfl) (
      mvS s5 rfl rfl rfl rfl <|
      mvS s6 rfl rfl rfl rfl <|
      armC (wn rfl) (fun aa ww hk bs hd => xcall2 rfl (dep hd 0 rfl rfl rfl) (dep hd 1 rfl rfl rfl) (en_louvreref01_Round _ _)) (fun aa ww hk bs hd => rround_any x (min (max (Int.tdiv y 10000) (-20)) 4) ww (by assumption) (by assumption)) rfl <|
      armS (wn rfl) (fun aa ww hk bs hd => xextract rfl (dep hd 2 rfl rfl rfl) rfl) rfl <|
      armS (wn rfl) (fun aa ww hk bs hd => xextract rfl (dep hd 2 rfl rfl rfl) rfl) rfl <|
      armC (wn rfl) (fun aa ww hk bs hd => xcall2 rfl (dep hd 3 rfl rfl rfl) (dep hd 4 rfl rfl rfl) (en_louvreref13_number _ _)) (fun aa ww hk bs hd => rnumber13_any ((dRound x (min (max (Int.tdiv y 10000) (-20)) 4)).1) ((dRound x (min (max (Int.tdiv y 10000) (-20)) 4)).2) ww (fun _ => by first | exact dFloor_i64 ix | exact dRound_i64 | exact dSqrt_in ix)) rfl <|
      arm0) fun fa fw hk bs hv ap => ?_
    obtain ⟨z, q, ov⟩ := aft hk bs z q ow
    have s4 := bs.get 4 rfl s4
    have s5 := bs.get 5 rfl s5
    have s48 := got hv 5 rfl rfl rfl
    have ow := ov
    clear hv ap bs hk ov
    refine wl_store ow 0 0 (want0 rfl) rfl rfl s4 s48 (by kernel_rfl) rfl rfl rfl fun fw ow => ?_
    refine wl_then (hK15 _ _ ?_)
    try clear hK15 K15
    refine wp_ret ?_
    refine block_r ?_
    refine then_r ?_
    refine results_one rfl (res_cell (n := 3) _ s4 (by kernel_rfl) (by kernel_rfl) (ow.box 0 rfl) (Nat.le_of_ble_eq_true rfl) rfl) q ?_
    exact ⟨congrArg (fun v => Ending.returned (aggV v)) (show _ = val13 fn x y by have e : fn = 5 := (by omega); subst e; rfl), ow.kept⟩
  refine wp_cond_false (s35.trans (congrArg Value.bool (Bool.eq_false_iff.2 (fun c => hc5 ((decide_eq_true_iff).1 c))))) ?_
  refine wp_seq_k fun K16 hK16 => ?_
  refine rgn [yV _, yV _] 2 74 z (by kernel_rfl) (by kernel_rfl) (
    armS (wn rfl) (fun aa ww hk bs hd => xeqi rfl (bs.get 10 rfl s10) rfl) rfl <|
    asD 0 rfl rfl rfl rfl rfl rfl <|
    arm0) fun fa fw hk bs hv ap => ?_
  obtain ⟨z, q, ov⟩ := aft hk bs z q ow
  have s1 := bs.get 1 rfl s1
  have s4 := bs.get 4 rfl s4
  have s5 := bs.get 5 rfl s5
  have s10 := bs.get 10 rfl s10
  have s49 := got hv 1 rfl rfl rfl
  have ow := ov
  clear hv ap bs hk ov
  refine wl_then (hK16 _ _ ?_)
  try clear hK16 K16
  by_cases hc6 : (fn : Int) = (6 : Int)
  · refine wp_cond_true (s49.trans (congrArg Value.bool ((decide_eq_true_iff).2 hc6))) ?_
    refine wp_seq_k fun K17 hK17 => ?_
    refine wp_seq_k fun K18 hK18 => ?_
    refine rgn [yV _, yV _, yV _, yV _] 4 74 z (by kernel_rfl) (by kernel_rfl) (
      mvS s1 rfl rfl rfl rfl <|
      armS (wn rfl) (fun aa ww hk bs hd => xindexAddr (u := .slice (some ⟨nb, no, none⟩) 2 cn) (z := .int .i64 ((1 : Nat) : Int)) rfl (dep hd 0 rfl rfl rfl) rfl (run_place1 Tryz.underlying72 (by kernel_rfl) (by omega))) rfl <|
      armS (wn rfl) (fun aa ww hk bs hd => xloadC rfl (by kernel_rfl) (dep hd 1 rfl rfl rfl) ((hn.kept (ow.keep hk).kept).at_ (k := 1) rfl)) rfl <|
      armS (wn rfl) (fun aa ww hk bs hd => xeqi rfl (dep hd 2 rfl rfl rfl) rfl) rfl <|
      arm0) fun fa fw hk bs hv ap => ?_
    obtain ⟨z, q, ov⟩ := aft hk bs z q ow
    have s1 := bs.get 1 rfl s1
    have s4 := bs.get 4 rfl s4
    have s5 := bs.get 5 rfl s5
    have s54 := got hv 3 rfl rfl rfl
    have ow := ov
    clear hv ap bs hk ov
    refine wl_then (hK18 _ _ ?_)
    try clear hK18 K18
    by_cases hc7 : (y : Int) = (0 : Int)
    · refine wp_cond_true (s54.trans (congrArg Value.bool ((decide_eq_true_iff).2 hc7))) ?_
      refine wp_seq_k fun K19 hK19 => ?_
      refine rgn [yV (aggV (vFail 1))] 1 74 z (by kernel_rfl) (by kernel_rfl) (
        armC (wn rfl) (fun aa ww hk bs hd => xcall1 rfl rfl (en_louvreref05_Fail _ _)) (fun aa ww hk bs hd => rfail_any 1 ww) rfl <|
        arm0) fun fa fw hk bs hv ap => ?_
      obtain ⟨z, q, ov⟩ := aft hk bs z q ow
      have s1 := bs.get 1 rfl s1
      have s4 := bs.get 4 rfl s4
      have s5 := bs.get 5 rfl s5
      have s55 := got hv 0 rfl rfl rfl
      have ow := ov
      clear hv ap bs hk ov
      refine wl_store ow 0 0 (want0 rfl) rfl rfl s4 s55 (by kernel_rfl) rfl rfl rfl fun fw ow => ?_
      refine wl_then (hK19 _ _ ?_)
      try clear hK19 K19
      refine wp_ret ?_
      refine then_r ?_
      refine block_r ?_
      refine then_r ?_
      refine results_one rfl (res_cell (n := 3) _ s4 (by kernel_rfl) (by kernel_rfl) (ow.box 0 rfl) (Nat.le_of_ble_eq_true rfl) rfl) q ?_
      exact ⟨congrArg (fun v => Ending.returned (aggV v)) (show _ = val13 fn x y by have e : fn = 6 := (by omega); subst e; show _ = if y = 0 then _ else _; rw [if_pos (by omega)]), ow.kept⟩
    refine wp_cond_false (s54.trans (congrArg Value.bool (Bool.eq_false_iff.2 (fun c => hc7 ((decide_eq_true_iff).1 c))))) ?_
    refine wp_skip ?_
    refine then_n (hK17 _ _ ?_)
    try clear hK17 K17
    refine wp_seq_k fun K20 hK20 => ?_
    refine rgn [yV _, yV _, yV _, yV _, yV (.int .i64 (mod13 x y)), yV (aggV (vMake (mod13 x y)))] 6 74 z (by kernel_rfl) (by kernel_rfl) (
      mvS s5 rfl rfl rfl rfl <|
      mvS s1 rfl rfl rfl rfl <|
      armS (wn rfl) (fun aa ww hk bs hd => xindexAddr (u := .slice (some ⟨nb, no, none⟩) 2 cn) (z := .int .i64 ((1 : Nat) : Int)) rfl (dep hd 1 rfl rfl rfl) rfl (run_place1 Tryz.underlying72 (by kernel_rfl) (by omega))) rfl <|
      armS (wn rfl) (fun aa ww hk bs hd => xloadC rfl (by kernel_rfl) (dep hd 2 rfl rfl rfl) ((hn.kept (ow.keep hk).kept).at_ (k := 1) rfl)) rfl <|
      armC (wn rfl) (fun aa ww hk bs hd => xcall2 rfl (dep hd 0 rfl rfl rfl) (dep hd 3 rfl rfl rfl) (en_louvreref13_mod _ _)) (fun aa ww hk bs hd => rmod13_any x y ww hx hy (by omega)) rfl <|
      armC (wn rfl) (fun aa ww hk bs hd => xcall1 rfl (dep hd 4 rfl rfl rfl) (en_louvreref05_Make _ _)) (fun aa ww hk bs hd => rmake_any (mod13 x y) ww (by omega) (by omega)) rfl <|
      arm0) fun fa fw hk bs hv ap => ?_
    obtain ⟨z, q, ov⟩ := aft hk bs z q ow
    have s4 := bs.get 4 rfl s4
    have s5 := bs.get 5 rfl s5
    have s61 := got hv 5 rfl rfl rfl
    have ow := ov
    clear hv ap bs hk ov
    refine wl_store ow 0 0 (want0 rfl) rfl rfl s4 s61 (by kernel_rfl) rfl rfl rfl fun fw ow => ?_
    refine wl_then (hK20 _ _ ?_)
    try clear hK20 K20
    refine wp_ret ?_
    refine block_r ?_
    refine then_r ?_
    refine results_one rfl (res_cell (n := 3) _ s4 (by kernel_rfl) (by kernel_rfl) (ow.box 0 rfl) (Nat.le_of_ble_eq_true rfl) rfl) q ?_
    exact ⟨congrArg (fun v => Ending.returned (aggV v)) (show _ = val13 fn x y by have e : fn = 6 := (by omega); subst e; show _ = if y = 0 then _ else _; rw [if_neg (by omega)]), ow.kept⟩
  refine wp_cond_false (s49.trans (congrArg Value.bool (Bool.eq_false_iff.2 (fun c => hc6 ((decide_eq_true_iff).1 c))))) ?_
  refine wp_seq_k fun K21 hK21 => ?_
  refine rgn [yV _, yV _] 2 74 z (by kernel_rfl) (by kernel_rfl) (
    armS (wn rfl) (fun aa ww hk bs hd => xeqi rfl (bs.get 10 rfl s10) rfl) rfl <|
    asD 0 rfl rfl rfl rfl rfl rfl <|
    arm0) fun fa fw hk bs hv ap => ?_
  obtain ⟨z, q, ov⟩ := aft hk bs z q ow
  have s1 := bs.get 1 rfl s1
  have s4 := bs.get 4 rfl s4
  have s5 := bs.get 5 rfl s5
  have s62 := got hv 1 rfl rfl rfl
  have ow := ov
  clear hv ap bs hk ov
  refine wl_then (hK21 _ _ ?_)
  try clear hK21 K21
  by_cases hc8 : (fn : Int) = (7 : Int)
  · refine wp_cond_true (s62.trans (congrArg Value.bool ((decide_eq_true_iff).2 hc8))) ?_
    refine wp_seq_k fun K22 hK22 => ?_
    refine rgn [yV _, yV _, yV _, yV _, yV (aggV (pow13 x y))] 5 74 z (by kernel_rfl) (by kernel_rfl) (
      mvS s5 rfl rfl rfl rfl <|
      mvS s1 rfl rfl rfl rfl <|
      armS (wn rfl) (fun aa ww hk bs hd => xindexAddr (u := .slice (some ⟨nb, no, none⟩) 2 cn) (z := .int .i64 ((1 : Nat) : Int)) rfl (dep hd 1 rfl rfl rfl) rfl (run_place1 Tryz.underlying72 (by kernel_rfl) (by omega))) rfl <|
      armS (wn rfl) (fun aa ww hk bs hd => xloadC rfl (by kernel_rfl) (dep hd 2 rfl rfl rfl) ((hn.kept (ow.keep hk).kept).at_ (k := 1) rfl)) rfl <|
      armC (wn rfl) (fun aa ww hk bs hd => xcall2 rfl (dep hd 0 rfl rfl rfl) (dep hd 3 rfl rfl rfl) (en_louvreref13_power _ _)) (fun aa ww hk bs hd => rpower13_any x y ww (by assumption) (by assumption)) rfl <|
      arm0) fun fa fw hk bs hv ap => ?_
    obtain ⟨z, q, ov⟩ := aft hk bs z q ow
    have s4 := bs.get 4 rfl s4
    have s5 := bs.get 5 rfl s5
    have s68 := got hv 4 rfl rfl rfl
    have ow := ov
    clear hv ap bs hk ov
    refine wl_store ow 0 0 (want0 rfl) rfl rfl s4 s68 (by kernel_rfl) rfl rfl rfl fun fw ow => ?_
    refine wl_then (hK22 _ _ ?_)
    try clear hK22 K22
    refine wp_ret ?_
    refine block_r ?_
    refine then_r ?_
    refine results_one rfl (res_cell (n := 3) _ s4 (by kernel_rfl) (by kernel_rfl) (ow.box 0 rfl) (Nat.le_of_ble_eq_true rfl) rfl) q ?_
    exact ⟨congrArg (fun v => Ending.returned (aggV v)) (show _ = val13 fn x y by have e : fn = 7 := (by omega); subst e; rfl), ow.kept⟩
  refine wp_cond_false (s62.trans (congrArg Value.bool (Bool.eq_false_iff.2 (fun c => hc8 ((decide_eq_true_iff).1 c))))) ?_
  refine wp_skip ?_
  refine block_n ?_
  refine then_n (hK3 _ _ ?_)
  try clear hK3 K3
  refine wp_seq_k fun K23 hK23 => ?_
  refine rgn [yV _, yV (.tuple #[.int .i64 ((dSqrt x).1), .bool ((dSqrt x).2)]), yV _, yV _, yV (aggV (vRes ((dSqrt x).1, (dSqrt x).2)))] 5 74 z (by kernel_rfl) (by kernel_rfl) (
    mvS s5 rfl rfl rfl rfl <|
    armC (wn rfl) (fun aa ww hk bs hd => xcall1 rfl (dep hd 0 rfl rfl rfl) (en_louvreref01_Sqrt _ _)) (fun aa ww hk bs hd => rsqrt_any x ww (by assumption)) rfl <|
    armS (wn rfl) (fun aa ww hk bs hd => xextract rfl (dep hd 1 rfl rfl rfl) rfl) rfl <|
    armS (wn rfl) (fun aa ww hk bs hd => xextract rfl (dep hd 1 rfl rfl rfl) rfl) rfl <|
    armC (wn rfl) (fun aa ww hk bs hd => xcall2 rfl (dep hd 2 rfl rfl rfl) (dep hd 3 rfl rfl rfl) (en_louvreref13_number _ _)) (fun aa ww hk bs hd => rnumber13_any ((dSqrt x).1) ((dSqrt x).2) ww (fun _ => by first | exact dFloor_i64 ix | exact dRound_i64 | exact dSqrt_in ix)) rfl <|
    arm0) fun fa fw hk bs hv ap => ?_
  obtain ⟨z, q, ov⟩ := aft hk bs z q ow
  have s4 := bs.get 4 rfl s4
  have s73 := got hv 4 rfl rfl rfl
  have ow := ov
  clear hv ap bs hk ov
  refine wl_store ow 0 0 (want0 rfl) rfl rfl s4 s73 (by kernel_rfl) rfl rfl rfl fun fw ow => ?_
  refine wl_then (hK23 _ _ ?_)
  try clear hK23 K23
  refine wp_ret ?_
  refine results_one rfl (res_cell (n := 3) _ s4 (by kernel_rfl) (by kernel_rfl) (ow.box 0 rfl) (Nat.le_of_ble_eq_true rfl) rfl) q ?_
  exact ⟨congrArg (fun v => Ending.returned (aggV v)) (show _ = val13 fn x y by have e : fn = 8 := (by omega); subst e; exact sqrt13 x), ow.kept⟩
set_option maxHeartbeats 8000000 in
theorem rcall13_two (fn : Nat) (A : Option Addr) (cap : Nat) (l : List Vl) (w : World) (hr : RowV w A l) (hs : ∀ v ∈ l, Small v) (h2 : two13 fn = true) :
    Calls Tryz.prog 28 #[.int .u8 fn, .slice A l.length cap] w fun e w' => e = .returned (.tuple #[aggV (vCall13 fn l).1, .int .i64 (vCall13 fn l).2]) ∧ Kept w w' := by
  go_enter Tryz.func28, Tryz.ntmps28
  refine wp_seq_k fun K1 hK1 => ?_
  refine rgn [yNew w.heap.size (.cells #[.int .u8 0, .int .i64 0, .string ⟨[].toArray⟩] 25 (0, 0)), yV _] 2 38 rfl (by kernel_rfl) (by kernel_rfl) (
    armP (wn rfl) (fun aa ww hk bs hd => xalloc rfl (by kernel_rfl)) rfl <|
    armS (wn rfl) (fun aa ww hk bs hd => xassign rfl rfl) rfl <|
    arm0) fun fa fw hk bs hv ap => ?_
  obtain ⟨z, q, ov⟩ := aft hk bs rfl rfl (Own.start w)
  have s0 := bs.get 0 rfl rfl
  have s1 := bs.get 1 rfl rfl
  obtain ⟨gb1, s4, bgb1, hgb1⟩ := gotP hv 0 rfl rfl rfl
  have ov := ov.cons hgb1 (Nat.le_trans (Own.start w).kept.size bgb1) ((Own.start w).below bgb1)
  have s5 := got hv 1 rfl rfl rfl
  have ow := ov
  clear hv ap bs hk ov
  refine wl_then (hK1 _ _ ?_)
  try clear hK1 K1
  refine wp_seq_k fun K2 hK2 => ?_
  refine wp_seq_k fun K3 hK3 => ?_
  refine rgn [yV _, yV _, yV _, yIf (((decide ((fn : Int) < (1 : Int))) = false)) (yV (.int .u8 (fn : Int))), yIf (((decide ((fn : Int) < (1 : Int))) = false)) (yV (.bool (decide ((8 : Int) < (fn : Int))))), yV _] 6 38 z (by kernel_rfl) (by kernel_rfl) (
    mvS s0 rfl rfl rfl rfl <|
    armS (wn rfl) (fun aa ww hk bs hd => xlss rfl (dep hd 0 rfl rfl rfl) rfl) rfl <|
    mvD 1 rfl rfl rfl rfl rfl rfl <|
    arm (fun aa ww hk bs hd => by
      have d2 : aa.eval (.tmp 11) = .bool (decide ((fn : Int) < (1 : Int))) := depX hd 2 rfl
      by_cases hz : ((decide ((fn : Int) < (1 : Int))) = false)
      · exact stepX_same (v := .int .u8 (fn : Int)) (want1 (j := 2) (b := false) rfl (d2.trans (congrArg Value.bool hz))) (xmove rfl (bs.get 0 rfl s0)) ⟨fun _ => rfl, fun c => absurd hz c⟩ rfl
      · exact stepX_skip (wantN (j := 2) (b := false) (b' := true) rfl (d2.trans (congrArg Value.bool ((Bool.not_eq_false _).mp hz))) rfl) ⟨fun c => absurd c hz, fun _ => rfl⟩ rfl
      ) <|
    arm (fun aa ww hk bs hd => by
      have d2 : aa.eval (.tmp 11) = .bool (decide ((fn : Int) < (1 : Int))) := depX hd 2 rfl
      have d3 : (((decide ((fn : Int) < (1 : Int))) = false) → aa.eval (.tmp 12) = .int .u8 (fn : Int)) ∧ (¬ (((decide ((fn : Int) < (1 : Int))) = false)) → aa.eval (.tmp 12) = undef) := depX hd 3 rfl
      by_cases hz : ((decide ((fn : Int) < (1 : Int))) = false)
      · exact stepX_same (v := .bool (decide ((8 : Int) < (fn : Int)))) (want1 (j := 2) (b := false) rfl (d2.trans (congrArg Value.bool hz))) (xgtr rfl (d3.1 hz) rfl) ⟨fun _ => rfl, fun c => absurd hz c⟩ rfl
      · exact stepX_skip (wantN (j := 2) (b := false) (b' := true) rfl (d2.trans (congrArg Value.bool ((Bool.not_eq_false _).mp hz))) rfl) ⟨fun c => absurd c hz, fun _ => rfl⟩ rfl
      ) <|
    arm (fun aa ww hk bs hd => by
      have d2 : aa.eval (.tmp 11) = .bool (decide ((fn : Int) < (1 : Int))) := depX hd 2 rfl
      have d4 : (((decide ((fn : Int) < (1 : Int))) = false) → aa.eval (.tmp 13) = .bool (decide ((8 : Int) < (fn : Int)))) ∧ (¬ (((decide ((fn : Int) < (1 : Int))) = false)) → aa.eval (.tmp 13) = undef) := depX hd 4 rfl
      exact stepX_same (v := .bool ((decide ((fn : Int) < (1 : Int))) || (decide ((8 : Int) < (fn : Int))))) (want0 rfl) (xor_ rfl (d2) rfl (fun hb => d4.1 hb)) rfl rfl
      ) <|
    arm0) fun fa fw hk bs hv ap => ?_
  obtain ⟨z, q, ov⟩ := aft hk bs z q ow
  have s0 := bs.get 0 rfl s0
  have s1 := bs.get 1 rfl s1
  have s4 := bs.get 4 rfl s4
  have s5 := bs.get 5 rfl s5
  have s14 := got hv 5 rfl rfl rfl
  have ow := ov
  clear hv ap bs hk ov
  refine wl_then (hK3 _ _ ?_)
  try clear hK3 K3
  by_cases hc1 : ((fn : Int) < (1 : Int)) ∨ ((8 : Int) < (fn : Int))
  · refine wp_cond_true (s14.trans (congrArg Value.bool ((bor (decide_eq_true_iff) (decide_eq_true_iff)).2 hc1))) ?_
    refine wp_seq_k fun K4 hK4 => ?_
    refine rgn [yV (aggV (⟨0, 0, []⟩ : Vl))] 1 38 z (by kernel_rfl) (by kernel_rfl) (
      armS (wn rfl) (fun aa ww hk bs hd => xbuild (us := #[]) rfl (by simp) (by kernel_rfl)) rfl <|
      arm0) fun fa fw hk bs hv ap => ?_
    obtain ⟨z, q, ov⟩ := aft hk bs z q ow
    have s0 := bs.get 0 rfl s0
    have s1 := bs.get 1 rfl s1
    have s4 := bs.get 4 rfl s4
    have s5 := bs.get 5 rfl s5
    have s15 := got hv 0 rfl rfl rfl
    have ow := ov
    clear hv ap bs hk ov
    refine wl_store ow 0 0 (want0 rfl) rfl rfl s4 s15 (by kernel_rfl) rfl rfl rfl fun fw ow => ?_
    refine wl_value (v := .int .i64 10) (want0 rfl) (xassign rfl rfl) ?_
    refine gt4 (put_size z) (put_def q) ow 0 (pb 5 s0 rfl) 1 (pb 5 s1 rfl) 4 (pb 5 s4 rfl) 5 (put_in (t := 5) z rfl) fun fa fw z q ow s0 s1 s4 s5 => ?_
    refine wl_then (hK4 _ _ ?_)
    try clear hK4 K4
    refine wp_ret ?_
    refine then_r ?_
    refine resultsL (v := .tuple #[aggV (⟨0, 0, []⟩ : Vl), .int .i64 10]) rfl (.cons (res_cell (n := 3) _ s4 (by kernel_rfl) (by kernel_rfl) (ow.box 0 rfl) (Nat.le_of_ble_eq_true rfl) rfl) (.cons (res_tmp s5) .nil)) rfl q ?_
    exact ⟨ret_pair13 (v13_name (by omega)), ow.kept⟩
  refine wp_cond_false (s14.trans (congrArg Value.bool (Bool.eq_false_iff.2 (fun c => hc1 ((bor (decide_eq_true_iff) (decide_eq_true_iff)).1 c))))) ?_
  refine wp_skip ?_
  refine then_n (hK2 _ _ ?_)
  try clear hK2 K2
  refine wp_seq_k fun K5 hK5 => ?_
  refine wp_seq_k fun K6 hK6 => ?_
  refine rgn [yV _, yV _, yV _, yV (.bool (decide (l.length = 2))), yV _] 5 38 z (by kernel_rfl) (by kernel_rfl) (
    mvS s0 rfl rfl rfl rfl <|
    mvS s1 rfl rfl rfl rfl <|
    armS (wn rfl) (fun aa ww hk bs hd => xlen Tryz.underlying22 rfl (dep hd 1 rfl rfl rfl)) rfl <|
    armC (wn rfl) (fun aa ww hk bs hd => xcall2 rfl (dep hd 0 rfl rfl rfl) (dep hd 2 rfl rfl rfl) (en_louvreref13_Count _ _)) (fun aa ww hk bs hd => (by have h := count13n_any fn (by omega) (by omega) l.length ww; rw [h2] at h; exact h)) rfl <|
    armS (wn rfl) (fun aa ww hk bs hd => xnot rfl (dep hd 3 rfl rfl rfl)) rfl <|
    arm0) fun fa fw hk bs hv ap => ?_
  obtain ⟨z, q, ov⟩ := aft hk bs z q ow
  have s0 := bs.get 0 rfl s0
  have s1 := bs.get 1 rfl s1
  have s4 := bs.get 4 rfl s4
  have s5 := bs.get 5 rfl s5
  have s20 := got hv 4 rfl rfl rfl
  have ow := ov
  clear hv ap bs hk ov
  refine wl_then (hK6 _ _ ?_)
  try clear hK6 K6
  by_cases hc2 : ¬ (l.length = 2)
  · refine wp_cond_true (s20.trans (congrArg Value.bool ((bnot (decide_eq_true_iff)).2 hc2))) ?_
    have hlen : ¬ (l.length = 2) := by simpa using hc2
    refine wp_seq_k fun K7 hK7 => ?_
    refine rgn [yV (aggV (⟨0, 0, []⟩ : Vl))] 1 38 z (by kernel_rfl) (by kernel_rfl) (
      armS (wn rfl) (fun aa ww hk bs hd => xbuild (us := #[]) rfl (by simp) (by kernel_rfl)) rfl <|
      arm0) fun fa fw hk bs hv ap => ?_
    obtain ⟨z, q, ov⟩ := aft hk bs z q ow
    have s0 := bs.get 0 rfl s0
    have s1 := bs.get 1 rfl s1
    have s4 := bs.get 4 rfl s4
    have s5 := bs.get 5 rfl s5
    have s21 := got hv 0 rfl rfl rfl
    have ow := ov
    clear hv ap bs hk ov
    refine wl_store ow 0 0 (want0 rfl) rfl rfl s4 s21 (by kernel_rfl) rfl rfl rfl fun fw ow => ?_
    refine wl_value (v := .int .i64 11) (want0 rfl) (xassign rfl rfl) ?_
    refine gt4 (put_size z) (put_def q) ow 0 (pb 5 s0 rfl) 1 (pb 5 s1 rfl) 4 (pb 5 s4 rfl) 5 (put_in (t := 5) z rfl) fun fa fw z q ow s0 s1 s4 s5 => ?_
    refine wl_then (hK7 _ _ ?_)
    try clear hK7 K7
    refine wp_ret ?_
    refine then_r ?_
    refine resultsL (v := .tuple #[aggV (⟨0, 0, []⟩ : Vl), .int .i64 11]) rfl (.cons (res_cell (n := 3) _ s4 (by kernel_rfl) (by kernel_rfl) (ow.box 0 rfl) (Nat.le_of_ble_eq_true rfl) rfl) (.cons (res_tmp s5) .nil)) rfl q ?_
    exact ⟨ret_pair13 (v13_count (by omega) (by rw [h2]; exact hlen)), ow.kept⟩
  refine wp_cond_false (s20.trans (congrArg Value.bool (Bool.eq_false_iff.2 (fun c => hc2 ((bnot (decide_eq_true_iff)).1 c))))) ?_
  have hlen : l.length = 2 := by simpa using hc2
  refine wp_skip ?_
  refine then_n (hK5 _ _ ?_)
  try clear hK5 K5
  refine wp_seq_k fun K8 hK8 => ?_
  refine wp_seq_k fun K9 hK9 => ?_
  obtain ⟨v, u, rfl⟩ := len_two hlen
  obtain ⟨b0, off0, rfl, _⟩ := hr 0 (Nat.zero_lt_succ _)
  have s_v : Small v := hs _ (by simp)
  have s_u : Small u := hs _ (by simp)
  refine rgn [yV _, yV (.bool ([v, u].all vOk)), yV _] 3 38 z (by kernel_rfl) (by kernel_rfl) (
    mvS s1 rfl rfl rfl rfl <|
    armC (wn rfl) (fun aa ww hk bs hd => xcall1 rfl (dep hd 0 rfl rfl rfl) (en_louvreref13_Valid _ _)) (fun aa ww hk bs hd => valid13_any (some ⟨b0, off0, none⟩) cap [v, u] ww (hr.kept (ow.keep hk).kept) hs (by simp)) rfl <|
    armS (wn rfl) (fun aa ww hk bs hd => xnot rfl (dep hd 1 rfl rfl rfl)) rfl <|
    arm0) fun fa fw hk bs hv ap => ?_
  obtain ⟨z, q, ov⟩ := aft hk bs z q ow
  have s0 := bs.get 0 rfl s0
  have s1 := bs.get 1 rfl s1
  have s4 := bs.get 4 rfl s4
  have s5 := bs.get 5 rfl s5
  have s24 := got hv 2 rfl rfl rfl
  have ow := ov
  clear hv ap bs hk ov
  refine wl_then (hK9 _ _ ?_)
  try clear hK9 K9
  by_cases hc3 : ¬ (([v, u].all vOk) = true)
  · refine wp_cond_true (s24.trans (congrArg Value.bool ((bnot (Iff.rfl)).2 hc3))) ?_
    have hval : [v, u].all vOk = false := by simpa using hc3
    refine wp_seq_k fun K10 hK10 => ?_
    refine rgn [yV (aggV (⟨0, 0, []⟩ : Vl))] 1 38 z (by kernel_rfl) (by kernel_rfl) (
      armS (wn rfl) (fun aa ww hk bs hd => xbuild (us := #[]) rfl (by simp) (by kernel_rfl)) rfl <|
      arm0) fun fa fw hk bs hv ap => ?_
    obtain ⟨z, q, ov⟩ := aft hk bs z q ow
    have s0 := bs.get 0 rfl s0
    have s1 := bs.get 1 rfl s1
    have s4 := bs.get 4 rfl s4
    have s5 := bs.get 5 rfl s5
    have s25 := got hv 0 rfl rfl rfl
    have ow := ov
    clear hv ap bs hk ov
    refine wl_store ow 0 0 (want0 rfl) rfl rfl s4 s25 (by kernel_rfl) rfl rfl rfl fun fw ow => ?_
    refine wl_value (v := .int .i64 2) (want0 rfl) (xassign rfl rfl) ?_
    refine gt4 (put_size z) (put_def q) ow 0 (pb 5 s0 rfl) 1 (pb 5 s1 rfl) 4 (pb 5 s4 rfl) 5 (put_in (t := 5) z rfl) fun fa fw z q ow s0 s1 s4 s5 => ?_
    refine wl_then (hK10 _ _ ?_)
    try clear hK10 K10
    refine wp_ret ?_
    refine then_r ?_
    refine resultsL (v := .tuple #[aggV (⟨0, 0, []⟩ : Vl), .int .i64 2]) rfl (.cons (res_cell (n := 3) _ s4 (by kernel_rfl) (by kernel_rfl) (ow.box 0 rfl) (Nat.le_of_ble_eq_true rfl) rfl) (.cons (res_tmp s5) .nil)) rfl q ?_
    exact ⟨ret_pair13 (v13_arg (by omega) (by rw [h2]; rfl) hval), ow.kept⟩
  refine wp_cond_false (s24.trans (congrArg Value.bool (Bool.eq_false_iff.2 (fun c => hc3 ((bnot (Iff.rfl)).1 c))))) ?_
  have hval : [v, u].all vOk = true := by simpa using hc3
  refine wp_skip ?_
  refine then_n (hK8 _ _ ?_)
  try clear hK8 K8
  refine wp_seq_k fun K11 hK11 => ?_
  refine rgn [yV _] 1 38 z (by kernel_rfl) (by kernel_rfl) (
    mvS s1 rfl rfl rfl rfl <|
    arm0) fun fa fw hk bs hv ap => ?_
  obtain ⟨z, q, ov⟩ := aft hk bs z q ow
  have s0 := bs.get 0 rfl s0
  have s4 := bs.get 4 rfl s4
  have s5 := bs.get 5 rfl s5
  have s27 := got hv 0 rfl rfl rfl
  have ow := ov
  clear hv ap bs hk ov
  refine wl_enter (want0 rfl) (xcall1 (u := .slice (some ⟨b0, off0, none⟩) 2 cap) rfl s27 (en_louvreref13_Numbers _ _)) ((rnumbers13_any b0 off0 cap [v, u] _ (hr.kept ow.kept) hs (by simp)).mono ?_)
  rintro _ fw ⟨nv, x, ok, rfl, hk, hcv⟩
  refine ⟨_, rfl, ?_⟩
  rcases hcv with ⟨rfl, hfst⟩ | ⟨rfl, hfst, hown⟩
  · skip
    have ow := ow.keep hk
    clear hk
    refine wl_value (v := .tuple #[nv, aggV x, .bool false]) (want0 rfl) (xmove rfl (put_in (t := 28) z rfl)) ?_
    refine wl_value (v := nv) (want0 rfl) (xextract rfl (put_in (t := 26) (put_size z) rfl) rfl) ?_
    refine wl_value (v := aggV x) (want0 rfl) (xextract rfl (pb 29 (put_in (t := 26) (put_size z) rfl) rfl) rfl) ?_
    refine wl_value (v := .bool false) (want0 rfl) (xextract rfl (pb 30 (pb 29 (put_in (t := 26) (put_size z) rfl) rfl) rfl) rfl) ?_
    refine wl_newP ow (want0 rfl) (xalloc (b := .cells #[.int .u8 0, .int .i64 0, .string ⟨[].toArray⟩] 25 (0, 0)) rfl (by kernel_rfl)) fun gb2 fw ow => ?_
    refine gt7 (put_size (put_size (put_size (put_size (put_size (put_size z)))))) (put_def (put_def (put_def (put_def (put_def (put_def q)))))) ow 0 (pb 7 (pb 31 (pb 30 (pb 29 (pb 26 (pb 28 s0 rfl) rfl) rfl) rfl) rfl) rfl) 4 (pb 7 (pb 31 (pb 30 (pb 29 (pb 26 (pb 28 s4 rfl) rfl) rfl) rfl) rfl) rfl) 5 (pb 7 (pb 31 (pb 30 (pb 29 (pb 26 (pb 28 s5 rfl) rfl) rfl) rfl) rfl) rfl) 29 (pb 7 (pb 31 (pb 30 (put_in (t := 29) (put_size (put_size z)) rfl) rfl) rfl) rfl) 30 (pb 7 (pb 31 (put_in (t := 30) (put_size (put_size (put_size z))) rfl) rfl) rfl) 31 (pb 7 (put_in (t := 31) (put_size (put_size (put_size (put_size z)))) rfl) rfl) 7 (put_in (t := 7) (put_size (put_size (put_size (put_size (put_size z))))) rfl) fun fa fw z q ow s0 s4 s5 s29 s30 s31 s7 => ?_
    refine wl_value (v := nv) (want0 rfl) (xassign rfl s29) ?_
    refine wl_store ow 0 0 (want0 rfl) rfl rfl (pb 6 s7 rfl) (pb 6 s30 rfl) (by kernel_rfl) rfl rfl rfl fun fw ow => ?_
    refine wl_value (v := .bool false) (want0 rfl) (xassign rfl (pb 6 s31 rfl)) ?_
    refine gt6 (put_size (put_size z)) (put_def (put_def q)) ow 0 (pb 8 (pb 6 s0 rfl) rfl) 4 (pb 8 (pb 6 s4 rfl) rfl) 5 (pb 8 (pb 6 s5 rfl) rfl) 7 (pb 8 (pb 6 s7 rfl) rfl) 6 (pb 8 (put_in (t := 6) z rfl) rfl) 8 (put_in (t := 8) (put_size z) rfl) fun fa fw z q ow s0 s4 s5 s7 s6 s8 => ?_
    refine wl_then (hK11 _ _ ?_)
    try clear hK11 K11
    refine wp_seq_k fun K12 hK12 => ?_
    refine wp_seq_k fun K13 hK13 => ?_
    refine rgn [yV _, yV _] 2 38 z (by kernel_rfl) (by kernel_rfl) (
      mvS s8 rfl rfl rfl rfl <|
      armS (wn rfl) (fun aa ww hk bs hd => xnot rfl (dep hd 0 rfl rfl rfl)) rfl <|
      arm0) fun fa fw hk bs hv ap => ?_
    obtain ⟨z, q, ov⟩ := aft hk bs z q ow
    have s0 := bs.get 0 rfl s0
    have s4 := bs.get 4 rfl s4
    have s5 := bs.get 5 rfl s5
    have s7 := bs.get 7 rfl s7
    have s6 := bs.get 6 rfl s6
    have s33 := got hv 1 rfl rfl rfl
    have ow := ov
    clear hv ap bs hk ov
    refine wl_then (hK13 _ _ ?_)
    try clear hK13 K13
    refine wp_cond_true (s33) ?_
    refine wp_seq_k fun K14 hK14 => ?_
    refine rgn [yV (aggV x)] 1 38 z (by kernel_rfl) (by kernel_rfl) (
      armS (wn rfl) (fun aa ww hk bs hd => xloadN 3 rfl (by kernel_rfl) (by kernel_rfl) (bs.get 7 rfl s7) ((ow.keep hk).box 0 rfl) (Nat.le_of_ble_eq_true rfl) rfl) rfl <|
      arm0) fun fa fw hk bs hv ap => ?_
    obtain ⟨z, q, ov⟩ := aft hk bs z q ow
    have s0 := bs.get 0 rfl s0
    have s4 := bs.get 4 rfl s4
    have s5 := bs.get 5 rfl s5
    have s6 := bs.get 6 rfl s6
    have s34 := got hv 0 rfl rfl rfl
    have ow := ov
    clear hv ap bs hk ov
    refine wl_store ow 1 0 (want0 rfl) rfl rfl s4 s34 (by kernel_rfl) rfl rfl rfl fun fw ow => ?_
    refine wl_value (v := .int .i64 0) (want0 rfl) (xassign rfl rfl) ?_
    refine gt4 (put_size z) (put_def q) ow 0 (pb 5 s0 rfl) 4 (pb 5 s4 rfl) 6 (pb 5 s6 rfl) 5 (put_in (t := 5) z rfl) fun fa fw z q ow s0 s4 s6 s5 => ?_
    refine wl_then (hK14 _ _ ?_)
    try clear hK14 K14
    refine wp_ret ?_
    refine then_r ?_
    refine resultsL (v := .tuple #[aggV x, .int .i64 0]) rfl (.cons (res_cell (n := 3) _ s4 (by kernel_rfl) (by kernel_rfl) (ow.box 1 rfl) (Nat.le_of_ble_eq_true rfl) rfl) (.cons (res_tmp s5) .nil)) rfl q ?_
    exact ⟨ret_pair13 (v13_err (by omega) (by rw [h2]; rfl) hval hfst), ow.kept⟩
  have ow := ow.join hown
  clear hk hown
  obtain ⟨A2, n2, rfl⟩ := row_slice (ow.row 0 rfl)
  obtain ⟨b1, off1, rfl⟩ : ∃ b off, A2 = some ⟨b, off, none⟩ := (RowC.of_own (ow.row 0 rfl)).1.some (Nat.zero_lt_succ _)
  have hn0 : isE (vNum v) = false := none_1 hfst
  have r0 := num_range hn0 s_v.1
  have i0 : i64 (vNum v).n := ⟨by omega, by omega⟩
  have hn1 : isE (vNum u) = false := none_2 hfst
  have r1 := num_range hn1 s_u.1
  have i1 : i64 (vNum u).n := ⟨by omega, by omega⟩
  refine wl_value (v := .tuple #[.slice (some ⟨b1, off1, none⟩) 2 n2, aggV x, .bool true]) (want0 rfl) (xmove rfl (put_in (t := 28) z rfl)) ?_
  refine wl_value (v := .slice (some ⟨b1, off1, none⟩) 2 n2) (want0 rfl) (xextract rfl (put_in (t := 26) (put_size z) rfl) rfl) ?_
  refine wl_value (v := aggV x) (want0 rfl) (xextract rfl (pb 29 (put_in (t := 26) (put_size z) rfl) rfl) rfl) ?_
  refine wl_value (v := .bool true) (want0 rfl) (xextract rfl (pb 30 (pb 29 (put_in (t := 26) (put_size z) rfl) rfl) rfl) rfl) ?_
  refine wl_newP ow (want0 rfl) (xalloc (b := .cells #[.int .u8 0, .int .i64 0, .string ⟨[].toArray⟩] 25 (0, 0)) rfl (by kernel_rfl)) fun gb3 fw ow => ?_
  refine gt7 (put_size (put_size (put_size (put_size (put_size (put_size z)))))) (put_def (put_def (put_def (put_def (put_def (put_def q)))))) ow 0 (pb 7 (pb 31 (pb 30 (pb 29 (pb 26 (pb 28 s0 rfl) rfl) rfl) rfl) rfl) rfl) 4 (pb 7 (pb 31 (pb 30 (pb 29 (pb 26 (pb 28 s4 rfl) rfl) rfl) rfl) rfl) rfl) 5 (pb 7 (pb 31 (pb 30 (pb 29 (pb 26 (pb 28 s5 rfl) rfl) rfl) rfl) rfl) rfl) 29 (pb 7 (pb 31 (pb 30 (put_in (t := 29) (put_size (put_size z)) rfl) rfl) rfl) rfl) 30 (pb 7 (pb 31 (put_in (t := 30) (put_size (put_size (put_size z))) rfl) rfl) rfl) 31 (pb 7 (put_in (t := 31) (put_size (put_size (put_size (put_size z)))) rfl) rfl) 7 (put_in (t := 7) (put_size (put_size (put_size (put_size (put_size z))))) rfl) fun fa fw z q ow s0 s4 s5 s29 s30 s31 s7 => ?_
  refine wl_value (v := .slice (some ⟨b1, off1, none⟩) 2 n2) (want0 rfl) (xassign rfl s29) ?_
  refine wl_store ow 0 0 (want0 rfl) rfl rfl (pb 6 s7 rfl) (pb 6 s30 rfl) (by kernel_rfl) rfl rfl rfl fun fw ow => ?_
  refine wl_value (v := .bool true) (want0 rfl) (xassign rfl (pb 6 s31 rfl)) ?_
  refine gt6 (put_size (put_size z)) (put_def (put_def q)) ow 0 (pb 8 (pb 6 s0 rfl) rfl) 4 (pb 8 (pb 6 s4 rfl) rfl) 5 (pb 8 (pb 6 s5 rfl) rfl) 7 (pb 8 (pb 6 s7 rfl) rfl) 6 (pb 8 (put_in (t := 6) z rfl) rfl) 8 (put_in (t := 8) (put_size z) rfl) fun fa fw z q ow s0 s4 s5 s7 s6 s8 => ?_
  refine wl_then (hK11 _ _ ?_)
  try clear hK11 K11
  refine wp_seq_k fun K15 hK15 => ?_
  refine wp_seq_k fun K16 hK16 => ?_
  refine rgn [yV _, yV _] 2 38 z (by kernel_rfl) (by kernel_rfl) (
    mvS s8 rfl rfl rfl rfl <|
    armS (wn rfl) (fun aa ww hk bs hd => xnot rfl (dep hd 0 rfl rfl rfl)) rfl <|
    arm0) fun fa fw hk bs hv ap => ?_
  obtain ⟨z, q, ov⟩ := aft hk bs z q ow
  have s0 := bs.get 0 rfl s0
  have s4 := bs.get 4 rfl s4
  have s5 := bs.get 5 rfl s5
  have s7 := bs.get 7 rfl s7
  have s6 := bs.get 6 rfl s6
  have s33 := got hv 1 rfl rfl rfl
  have ow := ov
  clear hv ap bs hk ov
  refine wl_then (hK16 _ _ ?_)
  try clear hK16 K16
  refine wp_cond_false (s33) ?_
  refine wp_skip ?_
  refine then_n (hK15 _ _ ?_)
  try clear hK15 K15
  refine wp_seq_k fun K17 hK17 => ?_
  refine rgn [yV _, yV _, yV (aggV (val13 fn (vNum v).n (vNum u).n))] 3 38 z (by kernel_rfl) (by kernel_rfl) (
    mvS s0 rfl rfl rfl rfl <|
    mvS s6 rfl rfl rfl rfl <|
    armC (wn rfl) (fun aa ww hk bs hd => xcall2 rfl (dep hd 0 rfl rfl rfl) (dep hd 1 rfl rfl rfl) (en_louvreref13_value _ _)) (fun aa ww hk bs hd => rvalue13_2 fn (vNum v).n (vNum u).n b1 off1 n2 _ (RowC.of_own ((ow.keep hk).row 1 rfl)).1 (by omega) (by omega) h2 r0 r1) rfl <|
    arm0) fun fa fw hk bs hv ap => ?_
  obtain ⟨z, q, ov⟩ := aft hk bs z q ow
  have s4 := bs.get 4 rfl s4
  have s5 := bs.get 5 rfl s5
  have s37 := got hv 2 rfl rfl rfl
  have ow := ov
  clear hv ap bs hk ov
  refine wl_store ow 2 0 (want0 rfl) rfl rfl s4 s37 (by kernel_rfl) rfl rfl rfl fun fw ow => ?_
  refine wl_value (v := .int .i64 0) (want0 rfl) (xassign rfl rfl) ?_
  refine gt2 (put_size z) (put_def q) ow 4 (pb 5 s4 rfl) 5 (put_in (t := 5) z rfl) fun fa fw z q ow s4 s5 => ?_
  refine wl_then (hK17 _ _ ?_)
  try clear hK17 K17
  refine wp_ret ?_
  refine resultsL (v := .tuple #[aggV (val13 fn (vNum v).n (vNum u).n), .int .i64 0]) rfl (.cons (res_cell (n := 3) _ s4 (by kernel_rfl) (by kernel_rfl) (ow.box 2 rfl) (Nat.le_of_ble_eq_true rfl) rfl) (.cons (res_tmp s5) .nil)) rfl q ?_
  exact ⟨ret_pair13 (c13_val2 (by omega) h2 hval hfst), ow.kept⟩
set_option maxHeartbeats 8000000 in
theorem rcall13_one (fn : Nat) (A : Option Addr) (cap : Nat) (l : List Vl) (w : World) (hr : RowV w A l) (hs : ∀ v ∈ l, Small v) (h2 : two13 fn = false) :
    Calls Tryz.prog 28 #[.int .u8 fn, .slice A l.length cap] w fun e w' => e = .returned (.tuple #[aggV (vCall13 fn l).1, .int .i64 (vCall13 fn l).2]) ∧ Kept w w' := by
  go_enter Tryz.func28, Tryz.ntmps28
  refine wp_seq_k fun K1 hK1 => ?_
  refine rgn [yNew w.heap.size (.cells #[.int .u8 0, .int .i64 0, .string ⟨[].toArray⟩] 25 (0, 0)), yV _] 2 38 rfl (by kernel_rfl) (by kernel_rfl) (
    armP (wn rfl) (fun aa ww hk bs hd => xalloc rfl (by kernel_rfl)) rfl <|
    armS (wn rfl) (fun aa ww hk bs hd => xassign rfl rfl) rfl <|
    arm0) fun fa fw hk bs hv ap => ?_
  obtain ⟨z, q, ov⟩ := aft hk bs rfl rfl (Own.start w)
  have s0 := bs.get 0 rfl rfl
  have s1 := bs.get 1 rfl rfl
  obtain ⟨gb1, s4, bgb1, hgb1⟩ := gotP hv 0 rfl rfl rfl
  have ov := ov.cons hgb1 (Nat.le_trans (Own.start w).kept.size bgb1) ((Own.start w).below bgb1)
  have s5 := got hv 1 rfl rfl rfl
  have ow := ov
  clear hv ap bs hk ov
  refine wl_then (hK1 _ _ ?_)
  try clear hK1 K1
  refine wp_seq_k fun K2 hK2 => ?_
  refine wp_seq_k fun K3 hK3 => ?_
  refine rgn [yV _, yV _, yV _, yIf (((decide ((fn : Int) < (1 : Int))) = false)) (yV (.int .u8 (fn : Int))), yIf (((decide ((fn : Int) < (1 : Int))) = false)) (yV (.bool (decide ((8 : Int) < (fn : Int))))), yV _] 6 38 z (by kernel_rfl) (by kernel_rfl) (
    mvS s0 rfl rfl rfl rfl <|
    armS (wn rfl) (fun aa ww hk bs hd => xlss rfl (dep hd 0 rfl rfl rfl) rfl) rfl <|
    mvD 1 rfl rfl rfl rfl rfl rfl <|
    arm (fun aa ww hk bs hd => by
      have d2 : aa.eval (.tmp 11) = .bool (decide ((fn : Int) < (1 : Int))) := depX hd 2 rfl
      by_cases hz : ((decide ((fn : Int) < (1 : Int))) = false)
      · exact stepX_same (v := .int .u8 (fn : Int)) (want1 (j := 2) (b := false) rfl (d2.trans (congrArg Value.bool hz))) (xmove rfl (bs.get 0 rfl s0)) ⟨fun _ => rfl, fun c => absurd hz c⟩ rfl
      · exact stepX_skip (wantN (j := 2) (b := false) (b' := true) rfl (d2.trans (congrArg Value.bool ((Bool.not_eq_false _).mp hz))) rfl) ⟨fun c => absurd c hz, fun _ => rfl⟩ rfl
      ) <|
    arm (fun aa ww hk bs hd => by
      have d2 : aa.eval (.tmp 11) = .bool (decide ((fn : Int) < (1 : Int))) := depX hd 2 rfl
      have d3 : (((decide ((fn : Int) < (1 : Int))) = false) → aa.eval (.tmp 12) = .int .u8 (fn : Int)) ∧ (¬ (((decide ((fn : Int) < (1 : Int))) = false)) → aa.eval (.tmp 12) = undef) := depX hd 3 rfl
      by_cases hz : ((decide ((fn : Int) < (1 : Int))) = false)
      · exact stepX_same (v := .bool (decide ((8 : Int) < (fn : Int)))) (want1 (j := 2) (b := false) rfl (d2.trans (congrArg Value.bool hz))) (xgtr rfl (d3.1 hz) rfl) ⟨fun _ => rfl, fun c => absurd hz c⟩ rfl
      · exact stepX_skip (wantN (j := 2) (b := false) (b' := true) rfl (d2.trans (congrArg Value.bool ((Bool.not_eq_false _).mp hz))) rfl) ⟨fun c => absurd c hz, fun _ => rfl⟩ rfl
      ) <|
    arm (fun aa ww hk bs hd => by
      have d2 : aa.eval (.tmp 11) = .bool (decide ((fn : Int) < (1 : Int))) := depX hd 2 rfl
      have d4 : (((decide ((fn : Int) < (1 : Int))) = false) → aa.eval (.tmp 13) = .bool (decide ((8 : Int) < (fn : Int)))) ∧ (¬ (((decide ((fn : Int) < (1 : Int))) = false)) → aa.eval (.tmp 13) = undef) := depX hd 4 rfl
      exact stepX_same (v := .bool ((decide ((fn : Int) < (1 : Int))) || (decide ((8 : Int) < (fn : Int))))) (want0 rfl) (xor_ rfl (d2) rfl (fun hb => d4.1 hb)) rfl rfl
      ) <|
    arm0) fun fa fw hk bs hv ap => ?_
  obtain ⟨z, q, ov⟩ := aft hk bs z q ow
  have s0 := bs.get 0 rfl s0
  have s1 := bs.get 1 rfl s1
  have s4 := bs.get 4 rfl s4
  have s5 := bs.get 5 rfl s5
  have s14 := got hv 5 rfl rfl rfl
  have ow := ov
  clear hv ap bs hk ov
  refine wl_then (hK3 _ _ ?_)
  try clear hK3 K3
  by_cases hc1 : ((fn : Int) < (1 : Int)) ∨ ((8 : Int) < (fn : Int))
  · refine wp_cond_true (s14.trans (congrArg Value.bool ((bor (decide_eq_true_iff) (decide_eq_true_iff)).2 hc1))) ?_
    refine wp_seq_k fun K4 hK4 => ?_
    refine rgn [yV (aggV (⟨0, 0, []⟩ : Vl))] 1 38 z (by kernel_rfl) (by kernel_rfl) (
      armS (wn rfl) (fun aa ww hk bs hd => xbuild (us := #[]) rfl (by simp) (by kernel_rfl)) rfl <|
      arm0) fun fa fw hk bs hv ap => ?_
    obtain ⟨z, q, ov⟩ := aft hk bs z q ow
    have s0 := bs.get 0 rfl s0
    have s1 := bs.get 1 rfl s1
    have s4 := bs.get 4 rfl s4
    have s5 := bs.get 5 rfl s5
    have s15 := got hv 0 rfl rfl rfl
    have ow := ov
    clear hv ap bs hk ov
    refine wl_store ow 0 0 (want0 rfl) rfl rfl s4 s15 (by kernel_rfl) rfl rfl rfl fun fw ow => ?_
    refine wl_value (v := .int .i64 10) (want0 rfl) (xassign rfl rfl) ?_
    refine gt4 (put_size z) (put_def q) ow 0 (pb 5 s0 rfl) 1 (pb 5 s1 rfl) 4 (pb 5 s4 rfl) 5 (put_in (t := 5) z rfl) fun fa fw z q ow s0 s1 s4 s5 => ?_
    refine wl_then (hK4 _ _ ?_)
    try clear hK4 K4
    refine wp_ret ?_
    refine then_r ?_
    refine resultsL (v := .tuple #[aggV (⟨0, 0, []⟩ : Vl), .int .i64 10]) rfl (.cons (res_cell (n := 3) _ s4 (by kernel_rfl) (by kernel_rfl) (ow.box 0 rfl) (Nat.le_of_ble_eq_true rfl) rfl) (.cons (res_tmp s5) .nil)) rfl q ?_
    exact ⟨ret_pair13 (v13_name (by omega)), ow.kept⟩
  refine wp_cond_false (s14.trans (congrArg Value.bool (Bool.eq_false_iff.2 (fun c => hc1 ((bor (decide_eq_true_iff) (decide_eq_true_iff)).1 c))))) ?_
  refine wp_skip ?_
  refine then_n (hK2 _ _ ?_)
  try clear hK2 K2
  refine wp_seq_k fun K5 hK5 => ?_
  refine wp_seq_k fun K6 hK6 => ?_
  refine rgn [yV _, yV _, yV _, yV (.bool (decide (l.length = 1))), yV _] 5 38 z (by kernel_rfl) (by kernel_rfl) (
    mvS s0 rfl rfl rfl rfl <|
    mvS s1 rfl rfl rfl rfl <|
    armS (wn rfl) (fun aa ww hk bs hd => xlen Tryz.underlying22 rfl (dep hd 1 rfl rfl rfl)) rfl <|
    armC (wn rfl) (fun aa ww hk bs hd => xcall2 rfl (dep hd 0 rfl rfl rfl) (dep hd 2 rfl rfl rfl) (en_louvreref13_Count _ _)) (fun aa ww hk bs hd => (by have h := count13n_any fn (by omega) (by omega) l.length ww; rw [h2] at h; exact h)) rfl <|
    armS (wn rfl) (fun aa ww hk bs hd => xnot rfl (dep hd 3 rfl rfl rfl)) rfl <|
    arm0) fun fa fw hk bs hv ap => ?_
  obtain ⟨z, q, ov⟩ := aft hk bs z q ow
  have s0 := bs.get 0 rfl s0
  have s1 := bs.get 1 rfl s1
  have s4 := bs.get 4 rfl s4
  have s5 := bs.get 5 rfl s5
  have s20 := got hv 4 rfl rfl rfl
  have ow := ov
  clear hv ap bs hk ov
  refine wl_then (hK6 _ _ ?_)
  try clear hK6 K6
  by_cases hc2 : ¬ (l.length = 1)
  · refine wp_cond_true (s20.trans (congrArg Value.bool ((bnot (decide_eq_true_iff)).2 hc2))) ?_
    have hlen : ¬ (l.length = 1) := by simpa using hc2
    refine wp_seq_k fun K7 hK7 => ?_
    refine rgn [yV (aggV (⟨0, 0, []⟩ : Vl))] 1 38 z (by kernel_rfl) (by kernel_rfl) (
      armS (wn rfl) (fun aa ww hk bs hd => xbuild (us := #[]) rfl (by simp) (by kernel_rfl)) rfl <|
      arm0) fun fa fw hk bs hv ap => ?_
    obtain ⟨z, q, ov⟩ := aft hk bs z q ow
    have s0 := bs.get 0 rfl s0
    have s1 := bs.get 1 rfl s1
    have s4 := bs.get 4 rfl s4
    have s5 := bs.get 5 rfl s5
    have s21 := got hv 0 rfl rfl rfl
    have ow := ov
    clear hv ap bs hk ov
    refine wl_store ow 0 0 (want0 rfl) rfl rfl s4 s21 (by kernel_rfl) rfl rfl rfl fun fw ow => ?_
    refine wl_value (v := .int .i64 11) (want0 rfl) (xassign rfl rfl) ?_
    refine gt4 (put_size z) (put_def q) ow 0 (pb 5 s0 rfl) 1 (pb 5 s1 rfl) 4 (pb 5 s4 rfl) 5 (put_in (t := 5) z rfl) fun fa fw z q ow s0 s1 s4 s5 => ?_
    refine wl_then (hK7 _ _ ?_)
    try clear hK7 K7
    refine wp_ret ?_
    refine then_r ?_
    refine resultsL (v := .tuple #[aggV (⟨0, 0, []⟩ : Vl), .int .i64 11]) rfl (.cons (res_cell (n := 3) _ s4 (by kernel_rfl) (by kernel_rfl) (ow.box 0 rfl) (Nat.le_of_ble_eq_true rfl) rfl) (.cons (res_tmp s5) .nil)) rfl q ?_
    exact ⟨ret_pair13 (v13_count (by omega) (by rw [h2]; exact hlen)), ow.kept⟩
  refine wp_cond_false (s20.trans (congrArg Value.bool (Bool.eq_false_iff.2 (fun c => hc2 ((bnot (decide_eq_true_iff)).1 c))))) ?_
  have hlen : l.length = 1 := by simpa using hc2
  refine wp_skip ?_
  refine then_n (hK5 _ _ ?_)
  try clear hK5 K5
  refine wp_seq_k fun K8 hK8 => ?_
  refine wp_seq_k fun K9 hK9 => ?_
  obtain ⟨v, rfl⟩ := len_one hlen
  obtain ⟨b0, off0, rfl, _⟩ := hr 0 (Nat.zero_lt_succ _)
  have s_v : Small v := hs _ (by simp)
  refine rgn [yV _, yV (.bool ([v].all vOk)), yV _] 3 38 z (by kernel_rfl) (by kernel_rfl) (
    mvS s1 rfl rfl rfl rfl <|
    armC (wn rfl) (fun aa ww hk bs hd => xcall1 rfl (dep hd 0 rfl rfl rfl) (en_louvreref13_Valid _ _)) (fun aa ww hk bs hd => valid13_any (some ⟨b0, off0, none⟩) cap [v] ww (hr.kept (ow.keep hk).kept) hs (by simp)) rfl <|
    armS (wn rfl) (fun aa ww hk bs hd => xnot rfl (dep hd 1 rfl rfl rfl)) rfl <|
    arm0) fun fa fw hk bs hv ap => ?_
  obtain ⟨z, q, ov⟩ := aft hk bs z q ow
  have s0 := bs.get 0 rfl s0
  have s1 := bs.get 1 rfl s1
  have s4 := bs.get 4 rfl s4
  have s5 := bs.get 5 rfl s5
  have s24 := got hv 2 rfl rfl rfl
  have ow := ov
  clear hv ap bs hk ov
  refine wl_then (hK9 _ _ ?_)
  try clear hK9 K9
  by_cases hc3 : ¬ (([v].all vOk) = true)
  · refine wp_cond_true (s24.trans (congrArg Value.bool ((bnot (Iff.rfl)).2 hc3))) ?_
    have hval : [v].all vOk = false := by simpa using hc3
    refine wp_seq_k fun K10 hK10 => ?_
    refine rgn [yV (aggV (⟨0, 0, []⟩ : Vl))] 1 38 z (by kernel_rfl) (by kernel_rfl) (
      armS (wn rfl) (fun aa ww hk bs hd => xbuild (us := #[]) rfl (by simp) (by kernel_rfl)) rfl <|
      arm0) fun fa fw hk bs hv ap => ?_
    obtain ⟨z, q, ov⟩ := aft hk bs z q ow
    have s0 := bs.get 0 rfl s0
    have s1 := bs.get 1 rfl s1
    have s4 := bs.get 4 rfl s4
    have s5 := bs.get 5 rfl s5
    have s25 := got hv 0 rfl rfl rfl
    have ow := ov
    clear hv ap bs hk ov
    refine wl_store ow 0 0 (want0 rfl) rfl rfl s4 s25 (by kernel_rfl) rfl rfl rfl fun fw ow => ?_
    refine wl_value (v := .int .i64 2) (want0 rfl) (xassign rfl rfl) ?_
    refine gt4 (put_size z) (put_def q) ow 0 (pb 5 s0 rfl) 1 (pb 5 s1 rfl) 4 (pb 5 s4 rfl) 5 (put_in (t := 5) z rfl) fun fa fw z q ow s0 s1 s4 s5 => ?_
    refine wl_then (hK10 _ _ ?_)
    try clear hK10 K10
    refine wp_ret ?_
    refine then_r ?_
    refine resultsL (v := .tuple #[aggV (⟨0, 0, []⟩ : Vl), .int .i64 2]) rfl (.cons (res_cell (n := 3) _ s4 (by kernel_rfl) (by kernel_rfl) (ow.box 0 rfl) (Nat.le_of_ble_eq_true rfl) rfl) (.cons (res_tmp s5) .nil)) rfl q ?_
    exact ⟨ret_pair13 (v13_arg (by omega) (by rw [h2]; rfl) hval), ow.kept⟩
  refine wp_cond_false (s24.trans (congrArg Value.bool (Bool.eq_false_iff.2 (fun c => hc3 ((bnot (Iff.rfl)).1 c))))) ?_
  have hval : [v].all vOk = true := by simpa using hc3
  refine wp_skip ?_
  refine then_n (hK8 _ _ ?_)
  try clear hK8 K8
  refine wp_seq_k fun K11 hK11 => ?_
  refine rgn [yV _] 1 38 z (by kernel_rfl) (by kernel_rfl) (
    mvS s1 rfl rfl rfl rfl <|
    arm0) fun fa fw hk bs hv ap => ?_
  obtain ⟨z, q, ov⟩ := aft hk bs z q ow
  have s0 := bs.get 0 rfl s0
  have s4 := bs.get 4 rfl s4
  have s5 := bs.get 5 rfl s5
  have s27 := got hv 0 rfl rfl rfl
  have ow := ov
  clear hv ap bs hk ov
  refine wl_enter (want0 rfl) (xcall1 (u := .slice (some ⟨b0, off0, none⟩) 1 cap) rfl s27 (en_louvreref13_Numbers _ _)) ((rnumbers13_any b0 off0 cap [v] _ (hr.kept ow.kept) hs (by simp)).mono ?_)
  rintro _ fw ⟨nv, x, ok, rfl, hk, hcv⟩
  refine ⟨_, rfl, ?_⟩
  rcases hcv with ⟨rfl, hfst⟩ | ⟨rfl, hfst, hown⟩
  · skip
    have ow := ow.keep hk
    clear hk
    refine wl_value (v := .tuple #[nv, aggV x, .bool false]) (want0 rfl) (xmove rfl (put_in (t := 28) z rfl)) ?_
    refine wl_value (v := nv) (want0 rfl) (xextract rfl (put_in (t := 26) (put_size z) rfl) rfl) ?_
    refine wl_value (v := aggV x) (want0 rfl) (xextract rfl (pb 29 (put_in (t := 26) (put_size z) rfl) rfl) rfl) ?_
    refine wl_value (v := .bool false) (want0 rfl) (xextract rfl (pb 30 (pb 29 (put_in (t := 26) (put_size z) rfl) rfl) rfl) rfl) ?_
    refine wl_newP ow (want0 rfl) (xalloc (b := .cells #[.int .u8 0, .int .i64 0, .string ⟨[].toArray⟩] 25 (0, 0)) rfl (by kernel_rfl)) fun gb2 fw ow => ?_
    refine gt7 (put_size (put_size (put_size (put_size (put_size (put_size z)))))) (put_def (put_def (put_def (put_def (put_def (put_def q)))))) ow 0 (pb 7 (pb 31 (pb 30 (pb 29 (pb 26 (pb 28 s0 rfl) rfl) rfl) rfl) rfl) rfl) 4 (pb 7 (pb 31 (pb 30 (pb 29 (pb 26 (pb 28 s4 rfl) rfl) rfl) rfl) rfl) rfl) 5 (pb 7 (pb 31 (pb 30 (pb 29 (pb 26 (pb 28 s5 rfl) rfl) rfl) rfl) rfl) rfl) 29 (pb 7 (pb 31 (pb 30 (put_in (t := 29) (put_size (put_size z)) rfl) rfl) rfl) rfl) 30 (pb 7 (pb 31 (put_in (t := 30) (put_size (put_size (put_size z))) rfl) rfl) rfl) 31 (pb 7 (put_in (t := 31) (put_size (put_size (put_size (put_size z)))) rfl) rfl) 7 (put_in (t := 7) (put_size (put_size (put_size (put_size (put_size z))))) rfl) fun fa fw z q ow s0 s4 s5 s29 s30 s31 s7 => ?_
    refine wl_value (v := nv) (want0 rfl) (xassign rfl s29) ?_
    refine wl_store ow 0 0 (want0 rfl) rfl rfl (pb 6 s7 rfl) (pb 6 s30 rfl) (by kernel_rfl) rfl rfl rfl fun fw ow => ?_
    refine wl_value (v := .bool false) (want0 rfl) (xassign rfl (pb 6 s31 rfl)) ?_
    refine gt6 (put_size (put_size z)) (put_def (put_def q)) ow 0 (pb 8 (pb 6 s0 rfl) rfl) 4 (pb 8 (pb 6 s4 rfl) rfl) 5 (pb 8 (pb 6 s5 rfl) rfl) 7 (pb 8 (pb 6 s7 rfl) rfl) 6 (pb 8 (put_in (t := 6) z rfl) rfl) 8 (put_in (t := 8) (put_size z) rfl) fun fa fw z q ow s0 s4 s5 s7 s6 s8 => ?_
    refine wl_then (hK11 _ _ ?_)
    try clear hK11 K11
    refine wp_seq_k fun K12 hK12 => ?_
    refine wp_seq_k fun K13 hK13 => ?_
    refine rgn [yV _, yV _] 2 38 z (by kernel_rfl) (by kernel_rfl) (
      mvS s8 rfl rfl rfl rfl <|
      armS (wn rfl) (fun aa ww hk bs hd => xnot rfl (dep hd 0 rfl rfl rfl)) rfl <|
      arm0) fun fa fw hk bs hv ap => ?_
    obtain ⟨z, q, ov⟩ := aft hk bs z q ow
    have s0 := bs.get 0 rfl s0
    have s4 := bs.get 4 rfl s4
    have s5 := bs.get 5 rfl s5
    have s7 := bs.get 7 rfl s7
    have s6 := bs.get 6 rfl s6
    have s33 := got hv 1 rfl rfl rfl
    have ow := ov
    clear hv ap bs hk ov
    refine wl_then (hK13 _ _ ?_)
    try clear hK13 K13
    refine wp_cond_true (s33) ?_
    refine wp_seq_k fun K14 hK14 => ?_
    refine rgn [yV (aggV x)] 1 38 z (by kernel_rfl) (by kernel_rfl) (
      armS (wn rfl) (fun aa ww hk bs hd => xloadN 3 rfl (by kernel_rfl) (by kernel_rfl) (bs.get 7 rfl s7) ((ow.keep hk).box 0 rfl) (Nat.le_of_ble_eq_true rfl) rfl) rfl <|
      arm0) fun fa fw hk bs hv ap => ?_
    obtain ⟨z, q, ov⟩ := aft hk bs z q ow
    have s0 := bs.get 0 rfl s0
    have s4 := bs.get 4 rfl s4
    have s5 := bs.get 5 rfl s5
    have s6 := bs.get 6 rfl s6
    have s34 := got hv 0 rfl rfl rfl
    have ow := ov
    clear hv ap bs hk ov
    refine wl_store ow 1 0 (want0 rfl) rfl rfl s4 s34 (by kernel_rfl) rfl rfl rfl fun fw ow => ?_
    refine wl_value (v := .int .i64 0) (want0 rfl) (xassign rfl rfl) ?_
    refine gt4 (put_size z) (put_def q) ow 0 (pb 5 s0 rfl) 4 (pb 5 s4 rfl) 6 (pb 5 s6 rfl) 5 (put_in (t := 5) z rfl) fun fa fw z q ow s0 s4 s6 s5 => ?_
    refine wl_then (hK14 _ _ ?_)
    try clear hK14 K14
    refine wp_ret ?_
    refine then_r ?_
    refine resultsL (v := .tuple #[aggV x, .int .i64 0]) rfl (.cons (res_cell (n := 3) _ s4 (by kernel_rfl) (by kernel_rfl) (ow.box 1 rfl) (Nat.le_of_ble_eq_true rfl) rfl) (.cons (res_tmp s5) .nil)) rfl q ?_
    exact ⟨ret_pair13 (v13_err (by omega) (by rw [h2]; rfl) hval hfst), ow.kept⟩
  have ow := ow.join hown
  clear hk hown
  obtain ⟨A2, n2, rfl⟩ := row_slice (ow.row 0 rfl)
  obtain ⟨b1, off1, rfl⟩ : ∃ b off, A2 = some ⟨b, off, none⟩ := (RowC.of_own (ow.row 0 rfl)).1.some (Nat.zero_lt_succ _)
  have hn0 : isE (vNum v) = false := none_1 hfst
  have r0 := num_range hn0 s_v.1
  have i0 : i64 (vNum v).n := ⟨by omega, by omega⟩
  refine wl_value (v := .tuple #[.slice (some ⟨b1, off1, none⟩) 1 n2, aggV x, .bool true]) (want0 rfl) (xmove rfl (put_in (t := 28) z rfl)) ?_
  refine wl_value (v := .slice (some ⟨b1, off1, none⟩) 1 n2) (want0 rfl) (xextract rfl (put_in (t := 26) (put_size z) rfl) rfl) ?_
  refine wl_value (v := aggV x) (want0 rfl) (xextract rfl (pb 29 (put_in (t := 26) (put_size z) rfl) rfl) rfl) ?_
  refine wl_value (v := .bool true) (want0 rfl) (xextract rfl (pb 30 (pb 29 (put_in (t := 26) (put_size z) rfl) rfl) rfl) rfl) ?_
  refine wl_newP ow (want0 rfl) (xalloc (b := .cells #[.int .u8 0, .int .i64 0, .string ⟨[].toArray⟩] 25 (0, 0)) rfl (by kernel_rfl)) fun gb3 fw ow => ?_
  refine gt7 (put_size (put_size (put_size (put_size (put_size (put_size z)))))) (put_def (put_def (put_def (put_def (put_def (put_def q)))))) ow 0 (pb 7 (pb 31 (pb 30 (pb 29 (pb 26 (pb 28 s0 rfl) rfl) rfl) rfl) rfl) rfl) 4 (pb 7 (pb 31 (pb 30 (pb 29 (pb 26 (pb 28 s4 rfl) rfl) rfl) rfl) rfl) rfl) 5 (pb 7 (pb 31 (pb 30 (pb 29 (pb 26 (pb 28 s5 rfl) rfl) rfl) rfl) rfl) rfl) 29 (pb 7 (pb 31 (pb 30 (put_in (t := 29) (put_size (put_size z)) rfl) rfl) rfl) rfl) 30 (pb 7 (pb 31 (put_in (t := 30) (put_size (put_size (put_size z))) rfl) rfl) rfl) 31 (pb 7 (put_in (t := 31) (put_size (put_size (put_size (put_size z)))) rfl) rfl) 7 (put_in (t := 7) (put_size (put_size (put_size (put_size (put_size z))))) rfl) fun fa fw z q ow s0 s4 s5 s29 s30 s31 s7 => ?_
  refine wl_value (v := .slice (some ⟨b1, off1, none⟩) 1 n2) (want0 rfl) (xassign rfl s29) ?_
  refine wl_store ow 0 0 (want0 rfl) rfl rfl (pb 6 s7 rfl) (pb 6 s30 rfl) (by kernel_rfl) rfl rfl rfl fun fw ow => ?_
  refine wl_value (v := .bool true) (want0 rfl) (xassign rfl (pb 6 s31 rfl)) ?_
  refine gt6 (put_size (put_size z)) (put_def (put_def q)) ow 0 (pb 8 (pb 6 s0 rfl) rfl) 4 (pb 8 (pb 6 s4 rfl) rfl) 5 (pb 8 (pb 6 s5 rfl) rfl) 7 (pb 8 (pb 6 s7 rfl) rfl) 6 (pb 8 (put_in (t := 6) z rfl) rfl) 8 (put_in (t := 8) (put_size z) rfl) fun fa fw z q ow s0 s4 s5 s7 s6 s8 => ?_
  refine wl_then (hK11 _ _ ?_)
  try clear hK11 K11
  refine wp_seq_k fun K15 hK15 => ?_
  refine wp_seq_k fun K16 hK16 => ?_
  refine rgn [yV _, yV _] 2 38 z (by kernel_rfl) (by kernel_rfl) (
    mvS s8 rfl rfl rfl rfl <|
    armS (wn rfl) (fun aa ww hk bs hd => xnot rfl (dep hd 0 rfl rfl rfl)) rfl <|
    arm0) fun fa fw hk bs hv ap => ?_
  obtain ⟨z, q, ov⟩ := aft hk bs z q ow
  have s0 := bs.get 0 rfl s0
  have s4 := bs.get 4 rfl s4
  have s5 := bs.get 5 rfl s5
  have s7 := bs.get 7 rfl s7
  have s6 := bs.get 6 rfl s6
  have s33 := got hv 1 rfl rfl rfl
  have ow := ov
  clear hv ap bs hk ov
  refine wl_then (hK16 _ _ ?_)
  try clear hK16 K16
  refine wp_cond_false (s33) ?_
  refine wp_skip ?_
  refine then_n (hK15 _ _ ?_)
  try clear hK15 K15
  refine wp_seq_k fun K17 hK17 => ?_
  refine rgn [yV _, yV _, yV (aggV (val13 fn (vNum v).n 0))] 3 38 z (by kernel_rfl) (by kernel_rfl) (
    mvS s0 rfl rfl rfl rfl <|
    mvS s6 rfl rfl rfl rfl <|
    armC (wn rfl) (fun aa ww hk bs hd => xcall2 rfl (dep hd 0 rfl rfl rfl) (dep hd 1 rfl rfl rfl) (en_louvreref13_value _ _)) (fun aa ww hk bs hd => rvalue13_1 fn (vNum v).n b1 off1 n2 _ (RowC.of_own ((ow.keep hk).row 1 rfl)).1 (by omega) (by omega) h2 r0) rfl <|
    arm0) fun fa fw hk bs hv ap => ?_
  obtain ⟨z, q, ov⟩ := aft hk bs z q ow
  have s4 := bs.get 4 rfl s4
  have s5 := bs.get 5 rfl s5
  have s37 := got hv 2 rfl rfl rfl
  have ow := ov
  clear hv ap bs hk ov
  refine wl_store ow 2 0 (want0 rfl) rfl rfl s4 s37 (by kernel_rfl) rfl rfl rfl fun fw ow => ?_
  refine wl_value (v := .int .i64 0) (want0 rfl) (xassign rfl rfl) ?_
  refine gt2 (put_size z) (put_def q) ow 4 (pb 5 s4 rfl) 5 (put_in (t := 5) z rfl) fun fa fw z q ow s4 s5 => ?_
  refine wl_then (hK17 _ _ ?_)
  try clear hK17 K17
  refine wp_ret ?_
  refine resultsL (v := .tuple #[aggV (val13 fn (vNum v).n 0), .int .i64 0]) rfl (.cons (res_cell (n := 3) _ s4 (by kernel_rfl) (by kernel_rfl) (ow.box 2 rfl) (Nat.le_of_ble_eq_true rfl) rfl) (.cons (res_tmp s5) .nil)) rfl q ?_
  exact ⟨ret_pair13 (c13_val1 (by omega) h2 hval hfst), ow.kept⟩
theorem rcall13_any (fn : Nat) (A : Option Addr) (cap : Nat) (l : List Vl) (w : World) (hr : RowV w A l) (hs : ∀ v ∈ l, Small v) (hl : l.length ≤ 1000000) :
    Calls Tryz.prog 28 #[.int .u8 fn, .slice A l.length cap] w fun e w' => e = .returned (.tuple #[aggV (vCall13 fn l).1, .int .i64 (vCall13 fn l).2]) ∧ Kept w w' := by
  cases h2 : two13 fn with
  | true => exact rcall13_two fn A cap l w hr hs h2
  | false => exact rcall13_one fn A cap l w hr hs h2
end Go.Proofs.YtbpkfnoenkoabaaGreatDoor
