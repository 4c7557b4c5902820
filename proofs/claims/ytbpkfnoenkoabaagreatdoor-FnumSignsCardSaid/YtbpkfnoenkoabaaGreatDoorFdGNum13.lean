/- Layer 13: functions of numbers and operators: the program's (printed by wip/mknum13.py). -/
import Derived.Test.YtbpkfnoenkoabaaGreatDoorFdMixAO
import Derived.Test.YtbpkfnoenkoabaaGreatDoorFdBunC
import Derived.Test.YtbpkfnoenkoabaaGreatDoorFdMixAP
namespace Go.Proofs.YtbpkfnoenkoabaaGreatDoor
set_option linter.unusedVariables false
set_option linter.unusedSimpArgs false
open Go.RowKit Lv
set_option maxRecDepth 100000
theorem two13_or (fn : Nat) : ((decide ((fn : Int) = (5 : Int)) || decide ((fn : Int) = (6 : Int))) || decide ((fn : Int) = (7 : Int))) = two13 fn := by
  unfold two13
  rw [Bool.eq_iff_iff]
  simp only [Bool.or_eq_true, decide_eq_true_eq]
  omega
theorem chk_no13 {v : Vl} (h : vChk v ≠ (0 : Int)) : vOk v = false := by
  unfold vChk at h
  cases e : vOk v with
  | false => rfl
  | true => rw [e] at h; exact absurd rfl h
theorem chk_ok13 {v : Vl} (h : ¬ (vChk v ≠ (0 : Int))) : vOk v = true := by
  unfold vChk at h
  cases e : vOk v with
  | true => rfl
  | false => rw [e] at h; exact absurd (by decide) h
theorem all_no {l : List Vl} {k : Nat} (hk : k < l.length) (h : vOk (l.getD k blankV) = false) : l.all vOk = false := by
  rw [List.all_eq_false]
  exact ⟨l[k], List.getElem_mem hk, by rw [← show l.getD k blankV = l[k] by simp [List.getD, hk], h]; decide⟩
theorem all_yes {l : List Vl} (h : ∀ j, j < l.length → vOk (l.getD j blankV) = true) : l.all vOk = true := by
  rw [List.all_eq_true]
  intro v hv
  obtain ⟨j, hj, e⟩ := List.getElem_of_mem hv
  have := h j hj
  rwa [show l.getD j blankV = l[j] by simp [List.getD, hj], e] at this
theorem ret_pair13 {p : Vl × Int} {x : Vl} {c : Int} (h : p = (x, c)) : Ending.returned (.tuple #[aggV x, .int .i64 c]) = .returned (.tuple #[aggV p.1, .int .i64 p.2]) := by rw [h]
def NumOut (w0 : World) (l : List Vl) (gx gy : Nat) (T : List Th) (n : Int × Int) (e : Ending) (w' : World) : Prop := ∃ x ok, e = .returned (.tuple #[aggV x, .bool ok]) ∧ ((ok = false ∧ firstE (l.map vNum) = some x ∧ Own w0 T w') ∨ (ok = true ∧ firstE (l.map vNum) = none ∧ Own w0 (Th.obj gy (.cells #[.int .i64 n.2] 2 (0, 0)) :: Th.obj gx (.cells #[.int .i64 n.1] 2 (0, 0)) :: T) w'))
theorem none_1 {v : Vl} {l : List Vl} (h : firstE ((v :: l).map vNum) = none) : isE (vNum v) = false := by
  cases e : isE (vNum v) with
  | false => rfl
  | true => rw [List.map_cons, first_hit e] at h; cases h
theorem none_2 {v u : Vl} {l : List Vl} (h : firstE ((v :: u :: l).map vNum) = none) : isE (vNum u) = false := by
  have e := none_1 h
  rw [List.map_cons, first_miss e] at h
  exact none_1 h
theorem c13_val2 {fn : Nat} {v u : Vl} (h1 : ¬ (fn < 1 ∨ 8 < fn)) (h2 : two13 fn = true) (hv : [v, u].all vOk = true) (he : firstE ([v, u].map vNum) = none) : vCall13 fn [v, u] = (val13 fn (vNum v).n (vNum u).n, 0) := by
  rw [v13_val h1 (by rw [h2]; rfl) hv he, h2]; rfl
theorem c13_val1 {fn : Nat} {v : Vl} (h1 : ¬ (fn < 1 ∨ 8 < fn)) (h2 : two13 fn = false) (hv : [v].all vOk = true) (he : firstE ([v].map vNum) = none) : vCall13 fn [v] = (val13 fn (vNum v).n 0, 0) := by
  rw [v13_val h1 (by rw [h2]; rfl) hv he, h2]; rfl
theorem dSqrt_in {x : Int} (h : i64 x) : i64 (dSqrt x).1 := by
  unfold dSqrt
  split
  · exact ⟨by decide, by decide⟩
  · have := root_le h (by omega)
    exact ⟨by show (-9223372036854775808 : Int) ≤ (root x : Int); omega, by show (root x : Int) ≤ 9223372036854775807; omega⟩
theorem xsliceTo3 {a : Act} {w : World} {o : Oper} {T e : TypeId} (hu : Tryz.prog.underlying T = some (.slice e)) (hz : (sizeOf e).run Tryz.prog w = .ok 1 w) {x y : Operand} (ho : o.op = .slice T x none (some y) none) {b n cap h : Nat} (hx : a.eval x = .slice (some ⟨b, 0, none⟩) n cap) (hy : a.eval y = .int .i64 h) (hh : h ≤ cap) : (execOp a.eval o).run Tryz.prog w = .ok (.value (.slice (some ⟨b, 0, none⟩) h cap)) w := by
  have := xsliceTo hu hz ho hx hy hh
  rwa [fz_some] at this
theorem en_dec_Floor (args : Array Value) (w : World) : (callFunc 155 args).run Tryz.prog w = .ok (.enter 155 args) w := by go_simp
theorem en_dec_Power (args : Array Value) (w : World) : (callFunc 232 args).run Tryz.prog w = .ok (.enter 232 args) w := by go_simp
theorem en_dec_Round (args : Array Value) (w : World) : (callFunc 156 args).run Tryz.prog w = .ok (.enter 156 args) w := by go_simp
theorem en_dec_Sqrt (args : Array Value) (w : World) : (callFunc 159 args).run Tryz.prog w = .ok (.enter 159 args) w := by go_simp
theorem en_dec_Trunc (args : Array Value) (w : World) : (callFunc 131 args).run Tryz.prog w = .ok (.enter 131 args) w := by go_simp
theorem en_fnum_mod (args : Array Value) (w : World) : (callFunc 157 args).run Tryz.prog w = .ok (.enter 157 args) w := by go_simp
theorem en_fnum_numbers (args : Array Value) (w : World) : (callFunc 71 args).run Tryz.prog w = .ok (.enter 71 args) w := by go_simp
theorem en_fnum_power (args : Array Value) (w : World) : (callFunc 158 args).run Tryz.prog w = .ok (.enter 158 args) w := by go_simp
theorem en_fnum_result (args : Array Value) (w : World) : (callFunc 89 args).run Tryz.prog w = .ok (.enter 89 args) w := by go_simp
theorem en_fnum_sign (args : Array Value) (w : World) : (callFunc 154 args).run Tryz.prog w = .ok (.enter 154 args) w := by go_simp
theorem en_fnum_two (args : Array Value) (w : World) : (callFunc 69 args).run Tryz.prog w = .ok (.enter 69 args) w := by go_simp
theorem en_fnum_valid (args : Array Value) (w : World) : (callFunc 70 args).run Tryz.prog w = .ok (.enter 70 args) w := by go_simp
theorem en_fnum_value (args : Array Value) (w : World) : (callFunc 72 args).run Tryz.prog w = .ok (.enter 72 args) w := by go_simp
theorem en_val_Check (args : Array Value) (w : World) : (callFunc 37 args).run Tryz.prog w = .ok (.enter 37 args) w := by go_simp
theorem en_val_Fail (args : Array Value) (w : World) : (callFunc 128 args).run Tryz.prog w = .ok (.enter 128 args) w := by go_simp
theorem en_val_Make (args : Array Value) (w : World) : (callFunc 153 args).run Tryz.prog w = .ok (.enter 153 args) w := by go_simp
theorem en_val_ToNumber (args : Array Value) (w : World) : (callFunc 38 args).run Tryz.prog w = .ok (.enter 38 args) w := by go_simp
set_option maxHeartbeats 4000000 in
theorem result13_any (n : Int) (b : Bool) (w : World) (hn : b = true → i64 n) :
    Calls Tryz.prog 89 #[.int .i64 n, .bool b] w fun e w' => e = .returned (aggV (vRes (n, b))) ∧ Kept w w' := by
  go_enter Tryz.func89, Tryz.ntmps89
  refine wp_seq_k fun K1 hK1 => ?_
  refine rgn [yNew w.heap.size (.cells #[.int .u8 0, .int .i64 0, .string ⟨[].toArray⟩] 25 (0, 0))] 1 10 rfl (by kernel_rfl) (by kernel_rfl) (
    armP (wn rfl) (fun aa ww hk bs hd => xalloc rfl (by kernel_rfl)) rfl <|
    arm0) fun fa fw hk bs hv ap => ?_
  obtain ⟨z, q, ov⟩ := aft hk bs rfl rfl (Own.start w)
  have s0 := bs.get 0 rfl rfl
  have s1 := bs.get 1 rfl rfl
  obtain ⟨gb1, s4, bgb1, hgb1⟩ := gotP hv 0 rfl rfl rfl
  have ov := ov.cons hgb1 (Nat.le_trans (Own.start w).kept.size bgb1) ((Own.start w).below bgb1)
  have ow := ov
  clear hv ap bs hk ov
  refine wl_then (hK1 _ _ ?_)
  try clear hK1 K1
  refine wp_seq_k fun K2 hK2 => ?_
  refine wp_seq_k fun K3 hK3 => ?_
  refine rgn [yV _, yV _] 2 10 z (by kernel_rfl) (by kernel_rfl) (
    mvS s1 rfl rfl rfl rfl <|
    armS (wn rfl) (fun aa ww hk bs hd => xnot rfl (dep hd 0 rfl rfl rfl)) rfl <|
    arm0) fun fa fw hk bs hv ap => ?_
  obtain ⟨z, q, ov⟩ := aft hk bs z q ow
  have s0 := bs.get 0 rfl s0
  have s4 := bs.get 4 rfl s4
  have s6 := got hv 1 rfl rfl rfl
  have ow := ov
  clear hv ap bs hk ov
  refine wl_then (hK3 _ _ ?_)
  try clear hK3 K3
  by_cases hc1 : ¬ (b = true)
  ·refine wp_cond_true (s6.trans (congrArg Value.bool ((bnot (Iff.rfl)).2 hc1))) ?_
   have hb : b = false := by simpa using hc1
   refine wp_seq_k fun K4 hK4 => ?_
   refine rgn [yV (aggV (vFail 3))] 1 10 z (by kernel_rfl) (by kernel_rfl) (
     armC (wn rfl) (fun aa ww hk bs hd => xcall1 rfl rfl (en_val_Fail _ _)) (fun aa ww hk bs hd => vfail_any 3 ww) rfl <|
     arm0) fun fa fw hk bs hv ap => ?_
   obtain ⟨z, q, ov⟩ := aft hk bs z q ow
   have s0 := bs.get 0 rfl s0
   have s4 := bs.get 4 rfl s4
   have s7 := got hv 0 rfl rfl rfl
   have ow := ov
   clear hv ap bs hk ov
   refine wl_store ow 0 0 (want0 rfl) rfl rfl s4 s7 (by kernel_rfl) rfl rfl rfl fun fw ow => ?_
   refine wl_then (hK4 _ _ ?_)
   try clear hK4 K4
   refine wp_ret ?_
   refine then_r ?_
   refine results_one rfl (res_cell (n := 3) _ s4 (by kernel_rfl) (by kernel_rfl) (ow.box 0 rfl) (Nat.le_of_ble_eq_true rfl) rfl) q ?_
   exact ⟨congrArg (fun v => Ending.returned (aggV v)) (show _ = vRes (n, b) by unfold vRes; rw [hb]; rfl), ow.kept⟩
  refine wp_cond_false (s6.trans (congrArg Value.bool (Bool.eq_false_iff.2 (fun c => hc1 ((bnot (Iff.rfl)).1 c))))) ?_
  have hb : b = true := by simpa using hc1
  refine wp_skip ?_
  refine then_n (hK2 _ _ ?_)
  try clear hK2 K2
  refine wp_seq_k fun K5 hK5 => ?_
  refine rgn [yV _, yV (aggV (vMake n))] 2 10 z (by kernel_rfl) (by kernel_rfl) (
    mvS s0 rfl rfl rfl rfl <|
    armC (wn rfl) (fun aa ww hk bs hd => xcall1 rfl (dep hd 0 rfl rfl rfl) (en_val_Make _ _)) (fun aa ww hk bs hd => vmake_any n ww (hn hb).1 (hn hb).2) rfl <|
    arm0) fun fa fw hk bs hv ap => ?_
  obtain ⟨z, q, ov⟩ := aft hk bs z q ow
  have s4 := bs.get 4 rfl s4
  have s9 := got hv 1 rfl rfl rfl
  have ow := ov
  clear hv ap bs hk ov
  refine wl_store ow 0 0 (want0 rfl) rfl rfl s4 s9 (by kernel_rfl) rfl rfl rfl fun fw ow => ?_
  refine wl_then (hK5 _ _ ?_)
  try clear hK5 K5
  refine wp_ret ?_
  refine results_one rfl (res_cell (n := 3) _ s4 (by kernel_rfl) (by kernel_rfl) (ow.box 0 rfl) (Nat.le_of_ble_eq_true rfl) rfl) q ?_
  exact ⟨congrArg (fun v => Ending.returned (aggV v)) (show _ = vRes (n, b) by unfold vRes; rw [hb]; rfl), ow.kept⟩
set_option maxHeartbeats 4000000 in
theorem sign13_any (x : Int) (w : World) :
    Calls Tryz.prog 154 #[.int .i64 x] w fun e w' => e = .returned (.int .i64 (sgn13 x)) ∧ Kept w w' := by
  go_enter Tryz.func154, Tryz.ntmps154
  refine wp_seq_k fun K1 hK1 => ?_
  refine rgn [yV _] 1 9 rfl (by kernel_rfl) (by kernel_rfl) (
    armS (wn rfl) (fun aa ww hk bs hd => xassign rfl rfl) rfl <|
    arm0) fun fa fw hk bs hv ap => ?_
  obtain ⟨z, q, ov⟩ := aft hk bs rfl rfl (Own.start w)
  have s0 := bs.get 0 rfl rfl
  have s2 := got hv 0 rfl rfl rfl
  have ow := ov
  clear hv ap bs hk ov
  refine wl_then (hK1 _ _ ?_)
  try clear hK1 K1
  refine wp_seq_k fun K2 hK2 => ?_
  refine wp_block ?_
  refine wp_seq_k fun K3 hK3 => ?_
  refine rgn [yV _, yV _, yV _] 3 9 z (by kernel_rfl) (by kernel_rfl) (
    mvS s0 rfl rfl rfl rfl <|
    armS (wn rfl) (fun aa ww hk bs hd => xlss rfl (dep hd 0 rfl rfl rfl) rfl) rfl <|
    asD 1 rfl rfl rfl rfl rfl rfl <|
    arm0) fun fa fw hk bs hv ap => ?_
  obtain ⟨z, q, ov⟩ := aft hk bs z q ow
  have s0 := bs.get 0 rfl s0
  have s2 := bs.get 2 rfl s2
  have s3 := got hv 2 rfl rfl rfl
  have ow := ov
  clear hv ap bs hk ov
  refine wl_then (hK3 _ _ ?_)
  try clear hK3 K3
  by_cases hc1 : (x : Int) < (0 : Int)
  ·refine wp_cond_true (s3.trans (congrArg Value.bool ((decide_eq_true_iff).2 hc1))) ?_
   refine wp_seq_k fun K4 hK4 => ?_
   refine rgn [yV _] 1 9 z (by kernel_rfl) (by kernel_rfl) (
     armS (wn rfl) (fun aa ww hk bs hd => xassign rfl rfl) rfl <|
     arm0) fun fa fw hk bs hv ap => ?_
   obtain ⟨z, q, ov⟩ := aft hk bs z q ow
   have s2 := got hv 0 rfl rfl rfl
   have ow := ov
   clear hv ap bs hk ov
   refine wl_then (hK4 _ _ ?_)
   try clear hK4 K4
   refine wp_ret ?_
   refine block_r ?_
   refine then_r ?_
   refine results_one rfl (res_tmp s2) q ?_
   exact ⟨(congrArg (fun n => Ending.returned (.int .i64 n)) (show _ = sgn13 x by unfold sgn13; (repeat' split) <;> omega)), ow.kept⟩
  refine wp_cond_false (s3.trans (congrArg Value.bool (Bool.eq_false_iff.2 (fun c => hc1 ((decide_eq_true_iff).1 c))))) ?_
  refine wp_seq_k fun K5 hK5 => ?_
  refine rgn [yV _, yV _, yV _] 3 9 z (by kernel_rfl) (by kernel_rfl) (
    mvS s0 rfl rfl rfl rfl <|
    armS (wn rfl) (fun aa ww hk bs hd => xgtr rfl (dep hd 0 rfl rfl rfl) rfl) rfl <|
    asD 1 rfl rfl rfl rfl rfl rfl <|
    arm0) fun fa fw hk bs hv ap => ?_
  obtain ⟨z, q, ov⟩ := aft hk bs z q ow
  have s2 := bs.get 2 rfl s2
  have s6 := got hv 2 rfl rfl rfl
  have ow := ov
  clear hv ap bs hk ov
  refine wl_then (hK5 _ _ ?_)
  try clear hK5 K5
  by_cases hc2 : (0 : Int) < (x : Int)
  ·refine wp_cond_true (s6.trans (congrArg Value.bool ((decide_eq_true_iff).2 hc2))) ?_
   refine wp_seq_k fun K6 hK6 => ?_
   refine rgn [yV _] 1 9 z (by kernel_rfl) (by kernel_rfl) (
     armS (wn rfl) (fun aa ww hk bs hd => xassign rfl rfl) rfl <|
     arm0) fun fa fw hk bs hv ap => ?_
   obtain ⟨z, q, ov⟩ := aft hk bs z q ow
   have s2 := got hv 0 rfl rfl rfl
   have ow := ov
   clear hv ap bs hk ov
   refine wl_then (hK6 _ _ ?_)
   try clear hK6 K6
   refine wp_ret ?_
   refine block_r ?_
   refine then_r ?_
   refine results_one rfl (res_tmp s2) q ?_
   exact ⟨(congrArg (fun n => Ending.returned (.int .i64 n)) (show _ = sgn13 x by unfold sgn13; (repeat' split) <;> omega)), ow.kept⟩
  refine wp_cond_false (s6.trans (congrArg Value.bool (Bool.eq_false_iff.2 (fun c => hc2 ((decide_eq_true_iff).1 c))))) ?_
  refine wp_skip ?_
  refine block_n ?_
  refine then_n (hK2 _ _ ?_)
  try clear hK2 K2
  refine wp_seq_k fun K7 hK7 => ?_
  refine rgn [yV _] 1 9 z (by kernel_rfl) (by kernel_rfl) (
    armS (wn rfl) (fun aa ww hk bs hd => xassign rfl rfl) rfl <|
    arm0) fun fa fw hk bs hv ap => ?_
  obtain ⟨z, q, ov⟩ := aft hk bs z q ow
  have s2 := got hv 0 rfl rfl rfl
  have ow := ov
  clear hv ap bs hk ov
  refine wl_then (hK7 _ _ ?_)
  try clear hK7 K7
  refine wp_ret ?_
  refine results_one rfl (res_tmp s2) q ?_
  exact ⟨(congrArg (fun n => Ending.returned (.int .i64 n)) (show _ = sgn13 x by unfold sgn13; (repeat' split) <;> omega)), ow.kept⟩
set_option maxHeartbeats 4000000 in
theorem power13_any (x n : Int) (w : World) (hx : i64 x) (hn : i64 n) :
    Calls Tryz.prog 158 #[.int .i64 x, .int .i64 n] w fun e w' => e = .returned (aggV (pow13 x n)) ∧ Kept w w' := by
  have hq := tdiv_in hn
  have h1 := hn.1
  have h2 := hn.2
  go_enter Tryz.func158, Tryz.ntmps158
  refine wp_seq_k fun K1 hK1 => ?_
  refine rgn [yNew w.heap.size (.cells #[.int .u8 0, .int .i64 0, .string ⟨[].toArray⟩] 25 (0, 0))] 1 25 rfl (by kernel_rfl) (by kernel_rfl) (
    armP (wn rfl) (fun aa ww hk bs hd => xalloc rfl (by kernel_rfl)) rfl <|
    arm0) fun fa fw hk bs hv ap => ?_
  obtain ⟨z, q, ov⟩ := aft hk bs rfl rfl (Own.start w)
  have s0 := bs.get 0 rfl rfl
  have s1 := bs.get 1 rfl rfl
  obtain ⟨gb1, s4, bgb1, hgb1⟩ := gotP hv 0 rfl rfl rfl
  have ov := ov.cons hgb1 (Nat.le_trans (Own.start w).kept.size bgb1) ((Own.start w).below bgb1)
  have ow := ov
  clear hv ap bs hk ov
  refine wl_then (hK1 _ _ ?_)
  try clear hK1 K1
  refine wp_seq_k fun K2 hK2 => ?_
  refine wp_block ?_
  refine wp_seq_k fun K3 hK3 => ?_
  refine rgn [yV _, yV _, yV _, yV _] 4 25 z (by kernel_rfl) (by kernel_rfl) (
    mvS s1 rfl rfl rfl rfl <|
    armS (wn rfl) (fun aa ww hk bs hd => xrem (Or.inr rfl) rfl (dep hd 0 rfl rfl rfl) rfl (by omega) (by omega) (by omega)) rfl <|
    armS (wn rfl) (fun aa ww hk bs hd => xnei rfl (dep hd 1 rfl rfl rfl) rfl) rfl <|
    asD 2 rfl rfl rfl rfl rfl rfl <|
    arm0) fun fa fw hk bs hv ap => ?_
  obtain ⟨z, q, ov⟩ := aft hk bs z q ow
  have s0 := bs.get 0 rfl s0
  have s1 := bs.get 1 rfl s1
  have s4 := bs.get 4 rfl s4
  have s5 := got hv 3 rfl rfl rfl
  have ow := ov
  clear hv ap bs hk ov
  refine wl_then (hK3 _ _ ?_)
  try clear hK3 K3
  by_cases hc1 : (Int.tmod n 10000 : Int) ≠ (0 : Int)
  ·refine wp_cond_true (s5.trans (congrArg Value.bool ((decide_eq_true_iff).2 hc1))) ?_
   refine wp_seq_k fun K4 hK4 => ?_
   refine rgn [yV (aggV (vFail 3))] 1 25 z (by kernel_rfl) (by kernel_rfl) (
     armC (wn rfl) (fun aa ww hk bs hd => xcall1 rfl rfl (en_val_Fail _ _)) (fun aa ww hk bs hd => vfail_any 3 ww) rfl <|
     arm0) fun fa fw hk bs hv ap => ?_
   obtain ⟨z, q, ov⟩ := aft hk bs z q ow
   have s0 := bs.get 0 rfl s0
   have s1 := bs.get 1 rfl s1
   have s4 := bs.get 4 rfl s4
   have s9 := got hv 0 rfl rfl rfl
   have ow := ov
   clear hv ap bs hk ov
   refine wl_store ow 0 0 (want0 rfl) rfl rfl s4 s9 (by kernel_rfl) rfl rfl rfl fun fw ow => ?_
   refine wl_then (hK4 _ _ ?_)
   try clear hK4 K4
   refine wp_ret ?_
   refine block_r ?_
   refine then_r ?_
   refine results_one rfl (res_cell (n := 3) _ s4 (by kernel_rfl) (by kernel_rfl) (ow.box 0 rfl) (Nat.le_of_ble_eq_true rfl) rfl) q ?_
   exact ⟨congrArg (fun v => Ending.returned (aggV v)) (show _ = pow13 x n by unfold pow13; rw [if_pos (by omega)]), ow.kept⟩
  refine wp_cond_false (s5.trans (congrArg Value.bool (Bool.eq_false_iff.2 (fun c => hc1 ((decide_eq_true_iff).1 c))))) ?_
  refine wp_seq_k fun K5 hK5 => ?_
  refine rgn [yV _, yV _, yV _, yIf (((decide ((x : Int) = (0 : Int))) = true)) (yV (.int .i64 n)), yIf (((decide ((x : Int) = (0 : Int))) = true)) (yV (.bool (decide ((n : Int) < (0 : Int))))), yV _, yV _] 7 25 z (by kernel_rfl) (by kernel_rfl) (
    mvS s0 rfl rfl rfl rfl <|
    armS (wn rfl) (fun aa ww hk bs hd => xeqi rfl (dep hd 0 rfl rfl rfl) rfl) rfl <|
    mvD 1 rfl rfl rfl rfl rfl rfl <|
    arm (fun aa ww hk bs hd => by
      have d2 : aa.eval (.tmp 13) = .bool (decide ((x : Int) = (0 : Int))) := depX hd 2 rfl
      by_cases hz : ((decide ((x : Int) = (0 : Int))) = true)
      · exact stepX_same (v := .int .i64 n) (want1 (j := 2) (b := true) rfl (d2.trans (congrArg Value.bool hz))) (xmove rfl (bs.get 1 rfl s1)) ⟨fun _ => rfl, fun c => absurd hz c⟩ rfl
      · exact stepX_skip (wantN (j := 2) (b := true) (b' := false) rfl (d2.trans (congrArg Value.bool (Bool.eq_false_iff.2 hz))) rfl) ⟨fun c => absurd c hz, fun _ => rfl⟩ rfl
      ) <|
    arm (fun aa ww hk bs hd => by
      have d2 : aa.eval (.tmp 13) = .bool (decide ((x : Int) = (0 : Int))) := depX hd 2 rfl
      have d3 : (((decide ((x : Int) = (0 : Int))) = true) → aa.eval (.tmp 14) = .int .i64 n) ∧ (¬ (((decide ((x : Int) = (0 : Int))) = true)) → aa.eval (.tmp 14) = undef) := depX hd 3 rfl
      by_cases hz : ((decide ((x : Int) = (0 : Int))) = true)
      · exact stepX_same (v := .bool (decide ((n : Int) < (0 : Int)))) (want1 (j := 2) (b := true) rfl (d2.trans (congrArg Value.bool hz))) (xlss rfl (d3.1 hz) rfl) ⟨fun _ => rfl, fun c => absurd hz c⟩ rfl
      · exact stepX_skip (wantN (j := 2) (b := true) (b' := false) rfl (d2.trans (congrArg Value.bool (Bool.eq_false_iff.2 hz))) rfl) ⟨fun c => absurd c hz, fun _ => rfl⟩ rfl
      ) <|
    arm (fun aa ww hk bs hd => by
      have d2 : aa.eval (.tmp 13) = .bool (decide ((x : Int) = (0 : Int))) := depX hd 2 rfl
      have d4 : (((decide ((x : Int) = (0 : Int))) = true) → aa.eval (.tmp 15) = .bool (decide ((n : Int) < (0 : Int)))) ∧ (¬ (((decide ((x : Int) = (0 : Int))) = true)) → aa.eval (.tmp 15) = undef) := depX hd 4 rfl
      exact stepX_same (v := .bool ((decide ((x : Int) = (0 : Int))) && (decide ((n : Int) < (0 : Int))))) (want0 rfl) (xand rfl (d2) (fun hb => d4.1 hb) rfl) rfl rfl
      ) <|
    asD 5 rfl rfl rfl rfl rfl rfl <|
    arm0) fun fa fw hk bs hv ap => ?_
  obtain ⟨z, q, ov⟩ := aft hk bs z q ow
  have s0 := bs.get 0 rfl s0
  have s1 := bs.get 1 rfl s1
  have s4 := bs.get 4 rfl s4
  have s10 := got hv 6 rfl rfl rfl
  have ow := ov
  clear hv ap bs hk ov
  refine wl_then (hK5 _ _ ?_)
  try clear hK5 K5
  by_cases hc2 : ((x : Int) = (0 : Int)) ∧ ((n : Int) < (0 : Int))
  ·refine wp_cond_true (s10.trans (congrArg Value.bool ((band (decide_eq_true_iff) (decide_eq_true_iff)).2 hc2))) ?_
   refine wp_seq_k fun K6 hK6 => ?_
   refine rgn [yV (aggV (vFail 1))] 1 25 z (by kernel_rfl) (by kernel_rfl) (
     armC (wn rfl) (fun aa ww hk bs hd => xcall1 rfl rfl (en_val_Fail _ _)) (fun aa ww hk bs hd => vfail_any 1 ww) rfl <|
     arm0) fun fa fw hk bs hv ap => ?_
   obtain ⟨z, q, ov⟩ := aft hk bs z q ow
   have s0 := bs.get 0 rfl s0
   have s1 := bs.get 1 rfl s1
   have s4 := bs.get 4 rfl s4
   have s17 := got hv 0 rfl rfl rfl
   have ow := ov
   clear hv ap bs hk ov
   refine wl_store ow 0 0 (want0 rfl) rfl rfl s4 s17 (by kernel_rfl) rfl rfl rfl fun fw ow => ?_
   refine wl_then (hK6 _ _ ?_)
   try clear hK6 K6
   refine wp_ret ?_
   refine block_r ?_
   refine then_r ?_
   refine results_one rfl (res_cell (n := 3) _ s4 (by kernel_rfl) (by kernel_rfl) (ow.box 0 rfl) (Nat.le_of_ble_eq_true rfl) rfl) q ?_
   exact ⟨congrArg (fun v => Ending.returned (aggV v)) (show _ = pow13 x n by unfold pow13; rw [if_neg (by omega), if_pos (by omega)]), ow.kept⟩
  refine wp_cond_false (s10.trans (congrArg Value.bool (Bool.eq_false_iff.2 (fun c => hc2 ((band (decide_eq_true_iff) (decide_eq_true_iff)).1 c))))) ?_
  refine wp_skip ?_
  refine block_n ?_
  refine then_n (hK2 _ _ ?_)
  try clear hK2 K2
  refine wp_seq_k fun K7 hK7 => ?_
  refine rgn [yV _, yV _, yV _, yV (.tuple #[.int .i64 ((dPow x (Int.tdiv n 10000)).1), .bool ((dPow x (Int.tdiv n 10000)).2)]), yV _, yV _, yV (aggV (vRes ((dPow x (Int.tdiv n 10000)).1, (dPow x (Int.tdiv n 10000)).2)))] 7 25 z (by kernel_rfl) (by kernel_rfl) (
    mvS s0 rfl rfl rfl rfl <|
    mvS s1 rfl rfl rfl rfl <|
    armS (wn rfl) (fun aa ww hk bs hd => xquo (Or.inr rfl) rfl (dep hd 1 rfl rfl rfl) rfl (by omega) (by omega) (by omega)) rfl <|
    armC (wn rfl) (fun aa ww hk bs hd => xcall2 rfl (dep hd 0 rfl rfl rfl) (dep hd 2 rfl rfl rfl) (en_dec_Power _ _)) (fun aa ww hk bs hd => power_any x (Int.tdiv n 10000) ww (by assumption) (by assumption)) rfl <|
    armS (wn rfl) (fun aa ww hk bs hd => xextract rfl (dep hd 3 rfl rfl rfl) rfl) rfl <|
    armS (wn rfl) (fun aa ww hk bs hd => xextract rfl (dep hd 3 rfl rfl rfl) rfl) rfl <|
    armC (wn rfl) (fun aa ww hk bs hd => xcall2 rfl (dep hd 4 rfl rfl rfl) (dep hd 5 rfl rfl rfl) (en_fnum_result _ _)) (fun aa ww hk bs hd => result13_any ((dPow x (Int.tdiv n 10000)).1) ((dPow x (Int.tdiv n 10000)).2) ww (fun _ => dPow_i64 _ _)) rfl <|
    arm0) fun fa fw hk bs hv ap => ?_
  obtain ⟨z, q, ov⟩ := aft hk bs z q ow
  have s4 := bs.get 4 rfl s4
  have s24 := got hv 6 rfl rfl rfl
  have ow := ov
  clear hv ap bs hk ov
  refine wl_store ow 0 0 (want0 rfl) rfl rfl s4 s24 (by kernel_rfl) rfl rfl rfl fun fw ow => ?_
  refine wl_then (hK7 _ _ ?_)
  try clear hK7 K7
  refine wp_ret ?_
  refine results_one rfl (res_cell (n := 3) _ s4 (by kernel_rfl) (by kernel_rfl) (ow.box 0 rfl) (Nat.le_of_ble_eq_true rfl) rfl) q ?_
  exact ⟨congrArg (fun v => Ending.returned (aggV v)) (show _ = pow13 x n by unfold pow13; rw [if_neg (by omega), if_neg (by omega)]), ow.kept⟩
set_option maxHeartbeats 4000000 in
theorem mod13_any (x y : Int) (w : World) (hx : -9223372036854775807 ≤ x ∧ x ≤ 9223372036854775807) (hy : -9223372036854775807 ≤ y ∧ y ≤ 9223372036854775807) (h0 : y ≠ 0) :
    Calls Tryz.prog 157 #[.int .i64 x, .int .i64 y] w fun e w' => e = .returned (.int .i64 (mod13 x y)) ∧ Kept w w' := by
  go_enter Tryz.func157, Tryz.ntmps157
  refine wp_seq_k fun K1 hK1 => ?_
  refine rgn [yV _] 1 22 rfl (by kernel_rfl) (by kernel_rfl) (
    armS (wn rfl) (fun aa ww hk bs hd => xassign rfl rfl) rfl <|
    arm0) fun fa fw hk bs hv ap => ?_
  obtain ⟨z, q, ov⟩ := aft hk bs rfl rfl (Own.start w)
  have s0 := bs.get 0 rfl rfl
  have s1 := bs.get 1 rfl rfl
  have s4 := got hv 0 rfl rfl rfl
  have ow := ov
  clear hv ap bs hk ov
  refine wl_then (hK1 _ _ ?_)
  try clear hK1 K1
  refine wp_seq_k fun K2 hK2 => ?_
  refine rgn [yV _, yV _, yV _, yV _] 4 22 z (by kernel_rfl) (by kernel_rfl) (
    mvS s0 rfl rfl rfl rfl <|
    mvS s1 rfl rfl rfl rfl <|
    armS (wn rfl) (fun aa ww hk bs hd => xremZ (Or.inr rfl) rfl (n := x) (m := y) (dep hd 0 rfl rfl rfl) (dep hd 1 rfl rfl rfl) h0 (by omega) (by omega)) rfl <|
    asD 2 rfl rfl rfl rfl rfl rfl <|
    arm0) fun fa fw hk bs hv ap => ?_
  obtain ⟨z, q, ov⟩ := aft hk bs z q ow
  have s1 := bs.get 1 rfl s1
  have s4 := bs.get 4 rfl s4
  have s5 := got hv 3 rfl rfl rfl
  have ow := ov
  clear hv ap bs hk ov
  refine wl_then (hK2 _ _ ?_)
  try clear hK2 K2
  refine wp_seq_k fun K3 hK3 => ?_
  refine wp_seq_k fun K4 hK4 => ?_
  refine rgn [yV _, yV _, yV _, yIf (((decide ((Int.tmod x y : Int) ≠ (0 : Int))) = true)) (yV (.int .i64 (Int.tmod x y))), yIf (((decide ((Int.tmod x y : Int) ≠ (0 : Int))) = true)) (yV (.bool (decide ((Int.tmod x y : Int) < (0 : Int))))), yIf (((decide ((Int.tmod x y : Int) ≠ (0 : Int))) = true)) (yV (.int .i64 y)), yIf (((decide ((Int.tmod x y : Int) ≠ (0 : Int))) = true)) (yV (.bool (decide ((y : Int) < (0 : Int))))), yIf (((decide ((Int.tmod x y : Int) ≠ (0 : Int))) = true)) (yV (.bool ((decide ((Int.tmod x y : Int) < (0 : Int))) != (decide ((y : Int) < (0 : Int)))))), yV _] 9 22 z (by kernel_rfl) (by kernel_rfl) (
    mvS s5 rfl rfl rfl rfl <|
    armS (wn rfl) (fun aa ww hk bs hd => xnei rfl (dep hd 0 rfl rfl rfl) rfl) rfl <|
    mvD 1 rfl rfl rfl rfl rfl rfl <|
    arm (fun aa ww hk bs hd => by
      have d2 : aa.eval (.tmp 11) = .bool (decide ((Int.tmod x y : Int) ≠ (0 : Int))) := depX hd 2 rfl
      by_cases hz : ((decide ((Int.tmod x y : Int) ≠ (0 : Int))) = true)
      · exact stepX_same (v := .int .i64 (Int.tmod x y)) (want1 (j := 2) (b := true) rfl (d2.trans (congrArg Value.bool hz))) (xmove rfl (bs.get 5 rfl s5)) ⟨fun _ => rfl, fun c => absurd hz c⟩ rfl
      · exact stepX_skip (wantN (j := 2) (b := true) (b' := false) rfl (d2.trans (congrArg Value.bool (Bool.eq_false_iff.2 hz))) rfl) ⟨fun c => absurd c hz, fun _ => rfl⟩ rfl
      ) <|
    arm (fun aa ww hk bs hd => by
      have d2 : aa.eval (.tmp 11) = .bool (decide ((Int.tmod x y : Int) ≠ (0 : Int))) := depX hd 2 rfl
      have d3 : (((decide ((Int.tmod x y : Int) ≠ (0 : Int))) = true) → aa.eval (.tmp 12) = .int .i64 (Int.tmod x y)) ∧ (¬ (((decide ((Int.tmod x y : Int) ≠ (0 : Int))) = true)) → aa.eval (.tmp 12) = undef) := depX hd 3 rfl
      by_cases hz : ((decide ((Int.tmod x y : Int) ≠ (0 : Int))) = true)
      · exact stepX_same (v := .bool (decide ((Int.tmod x y : Int) < (0 : Int)))) (want1 (j := 2) (b := true) rfl (d2.trans (congrArg Value.bool hz))) (xlss rfl (d3.1 hz) rfl) ⟨fun _ => rfl, fun c => absurd hz c⟩ rfl
      · exact stepX_skip (wantN (j := 2) (b := true) (b' := false) rfl (d2.trans (congrArg Value.bool (Bool.eq_false_iff.2 hz))) rfl) ⟨fun c => absurd c hz, fun _ => rfl⟩ rfl
      ) <|
    arm (fun aa ww hk bs hd => by
      have d2 : aa.eval (.tmp 11) = .bool (decide ((Int.tmod x y : Int) ≠ (0 : Int))) := depX hd 2 rfl
      by_cases hz : ((decide ((Int.tmod x y : Int) ≠ (0 : Int))) = true)
      · exact stepX_same (v := .int .i64 y) (want1 (j := 2) (b := true) rfl (d2.trans (congrArg Value.bool hz))) (xmove rfl (bs.get 1 rfl s1)) ⟨fun _ => rfl, fun c => absurd hz c⟩ rfl
      · exact stepX_skip (wantN (j := 2) (b := true) (b' := false) rfl (d2.trans (congrArg Value.bool (Bool.eq_false_iff.2 hz))) rfl) ⟨fun c => absurd c hz, fun _ => rfl⟩ rfl
      ) <|
    arm (fun aa ww hk bs hd => by
      have d2 : aa.eval (.tmp 11) = .bool (decide ((Int.tmod x y : Int) ≠ (0 : Int))) := depX hd 2 rfl
      have d5 : (((decide ((Int.tmod x y : Int) ≠ (0 : Int))) = true) → aa.eval (.tmp 14) = .int .i64 y) ∧ (¬ (((decide ((Int.tmod x y : Int) ≠ (0 : Int))) = true)) → aa.eval (.tmp 14) = undef) := depX hd 5 rfl
      by_cases hz : ((decide ((Int.tmod x y : Int) ≠ (0 : Int))) = true)
      · exact stepX_same (v := .bool (decide ((y : Int) < (0 : Int)))) (want1 (j := 2) (b := true) rfl (d2.trans (congrArg Value.bool hz))) (xlss rfl (d5.1 hz) rfl) ⟨fun _ => rfl, fun c => absurd hz c⟩ rfl
      · exact stepX_skip (wantN (j := 2) (b := true) (b' := false) rfl (d2.trans (congrArg Value.bool (Bool.eq_false_iff.2 hz))) rfl) ⟨fun c => absurd c hz, fun _ => rfl⟩ rfl
      ) <|
    arm (fun aa ww hk bs hd => by
      have d2 : aa.eval (.tmp 11) = .bool (decide ((Int.tmod x y : Int) ≠ (0 : Int))) := depX hd 2 rfl
      have d4 : (((decide ((Int.tmod x y : Int) ≠ (0 : Int))) = true) → aa.eval (.tmp 13) = .bool (decide ((Int.tmod x y : Int) < (0 : Int)))) ∧ (¬ (((decide ((Int.tmod x y : Int) ≠ (0 : Int))) = true)) → aa.eval (.tmp 13) = undef) := depX hd 4 rfl
      have d6 : (((decide ((Int.tmod x y : Int) ≠ (0 : Int))) = true) → aa.eval (.tmp 15) = .bool (decide ((y : Int) < (0 : Int)))) ∧ (¬ (((decide ((Int.tmod x y : Int) ≠ (0 : Int))) = true)) → aa.eval (.tmp 15) = undef) := depX hd 6 rfl
      by_cases hz : ((decide ((Int.tmod x y : Int) ≠ (0 : Int))) = true)
      · exact stepX_same (v := .bool ((decide ((Int.tmod x y : Int) < (0 : Int))) != (decide ((y : Int) < (0 : Int))))) (want1 (j := 2) (b := true) rfl (d2.trans (congrArg Value.bool hz))) (xneB rfl (d4.1 hz) (d6.1 hz)) ⟨fun _ => rfl, fun c => absurd hz c⟩ rfl
      · exact stepX_skip (wantN (j := 2) (b := true) (b' := false) rfl (d2.trans (congrArg Value.bool (Bool.eq_false_iff.2 hz))) rfl) ⟨fun c => absurd c hz, fun _ => rfl⟩ rfl
      ) <|
    arm (fun aa ww hk bs hd => by
      have d2 : aa.eval (.tmp 11) = .bool (decide ((Int.tmod x y : Int) ≠ (0 : Int))) := depX hd 2 rfl
      have d7 : (((decide ((Int.tmod x y : Int) ≠ (0 : Int))) = true) → aa.eval (.tmp 16) = .bool ((decide ((Int.tmod x y : Int) < (0 : Int))) != (decide ((y : Int) < (0 : Int))))) ∧ (¬ (((decide ((Int.tmod x y : Int) ≠ (0 : Int))) = true)) → aa.eval (.tmp 16) = undef) := depX hd 7 rfl
      exact stepX_same (v := .bool ((decide ((Int.tmod x y : Int) ≠ (0 : Int))) && ((decide ((Int.tmod x y : Int) < (0 : Int))) != (decide ((y : Int) < (0 : Int)))))) (want0 rfl) (xand rfl (d2) (fun hb => d7.1 hb) rfl) rfl rfl
      ) <|
    arm0) fun fa fw hk bs hv ap => ?_
  obtain ⟨z, q, ov⟩ := aft hk bs z q ow
  have s1 := bs.get 1 rfl s1
  have s4 := bs.get 4 rfl s4
  have s5 := bs.get 5 rfl s5
  have s17 := got hv 8 rfl rfl rfl
  have ow := ov
  clear hv ap bs hk ov
  refine wl_then (hK4 _ _ ?_)
  try clear hK4 K4
  by_cases hc1 : ((Int.tmod x y : Int) ≠ (0 : Int)) ∧ (((decide ((Int.tmod x y : Int) < (0 : Int))) != (decide ((y : Int) < (0 : Int)))) = true)
  ·refine wp_cond_true (s17.trans (congrArg Value.bool ((band (decide_eq_true_iff) (Iff.rfl)).2 hc1))) ?_
   have hm := hc1
   refine rgn [yV _, yV _, yV _] 3 22 z (by kernel_rfl) (by kernel_rfl) (
     mvS s5 rfl rfl rfl rfl <|
     mvS s1 rfl rfl rfl rfl <|
     armS (wn rfl) (fun aa ww hk bs hd => xadd (Or.inr rfl) rfl (dep hd 0 rfl rfl rfl) (dep hd 1 rfl rfl rfl) (mod13_sum hx hy hm).1 (mod13_sum hx hy hm).2) rfl <|
     arm0) fun fa fw hk bs hv ap => ?_
   obtain ⟨z, q, ov⟩ := aft hk bs z q ow
   have s4 := bs.get 4 rfl s4
   have s5 := bs.get 5 rfl s5
   have s20 := got hv 2 rfl rfl rfl
   have ow := ov
   clear hv ap bs hk ov
   refine wl_value (v := .int .i64 ((Int.tmod x y) + y)) (want0 rfl) (xassign rfl s20) ?_
   refine gt2 (put_size z) (put_def q) ow 4 (pb 5 s4 rfl) 5 (put_in (t := 5) z rfl) fun fa fw z q ow s4 s5 => ?_
   refine wl_then (hK3 _ _ ?_)
   try clear hK3 K3
   refine wp_seq_k fun K5 hK5 => ?_
   refine rgn [yV _, yV _] 2 22 z (by kernel_rfl) (by kernel_rfl) (
     mvS s5 rfl rfl rfl rfl <|
     asD 0 rfl rfl rfl rfl rfl rfl <|
     arm0) fun fa fw hk bs hv ap => ?_
   obtain ⟨z, q, ov⟩ := aft hk bs z q ow
   have s4 := got hv 1 rfl rfl rfl
   have ow := ov
   clear hv ap bs hk ov
   refine wl_then (hK5 _ _ ?_)
   try clear hK5 K5
   refine wp_ret ?_
   refine results_one rfl (res_tmp s4) q ?_
   exact ⟨(congrArg (fun n => Ending.returned (.int .i64 n)) (mod13_pos hm)), ow.kept⟩
  refine wp_cond_false (s17.trans (congrArg Value.bool (Bool.eq_false_iff.2 (fun c => hc1 ((band (decide_eq_true_iff) (Iff.rfl)).1 c))))) ?_
  have hm := hc1
  refine wp_skip ?_
  refine then_n (hK3 _ _ ?_)
  try clear hK3 K3
  refine wp_seq_k fun K6 hK6 => ?_
  refine rgn [yV _, yV _] 2 22 z (by kernel_rfl) (by kernel_rfl) (
    mvS s5 rfl rfl rfl rfl <|
    asD 0 rfl rfl rfl rfl rfl rfl <|
    arm0) fun fa fw hk bs hv ap => ?_
  obtain ⟨z, q, ov⟩ := aft hk bs z q ow
  have s4 := got hv 1 rfl rfl rfl
  have ow := ov
  clear hv ap bs hk ov
  refine wl_then (hK6 _ _ ?_)
  try clear hK6 K6
  refine wp_ret ?_
  refine results_one rfl (res_tmp s4) q ?_
  exact ⟨(congrArg (fun n => Ending.returned (.int .i64 n)) (mod13_neg hm)), ow.kept⟩
set_option maxHeartbeats 4000000 in
theorem two13_any (fn : Nat) (w : World) :
    Calls Tryz.prog 69 #[.int .u8 fn] w fun e w' => e = .returned (.bool (two13 fn)) ∧ Kept w w' := by
  go_enter Tryz.func69, Tryz.ntmps69
  refine wp_seq_k fun K1 hK1 => ?_
  refine rgn [yV _] 1 13 rfl (by kernel_rfl) (by kernel_rfl) (
    armS (wn rfl) (fun aa ww hk bs hd => xassign rfl rfl) rfl <|
    arm0) fun fa fw hk bs hv ap => ?_
  obtain ⟨z, q, ov⟩ := aft hk bs rfl rfl (Own.start w)
  have s0 := bs.get 0 rfl rfl
  have s2 := got hv 0 rfl rfl rfl
  have ow := ov
  clear hv ap bs hk ov
  refine wl_then (hK1 _ _ ?_)
  try clear hK1 K1
  refine wp_seq_k fun K2 hK2 => ?_
  refine rgn [yV _, yV _, yV _, yIf (((decide ((fn : Int) = (5 : Int))) = false)) (yV (.int .u8 (fn : Int))), yIf (((decide ((fn : Int) = (5 : Int))) = false)) (yV (.bool (decide ((fn : Int) = (6 : Int))))), yV _, yV _, yIf ((((decide ((fn : Int) = (5 : Int))) || (decide ((fn : Int) = (6 : Int)))) = false)) (yV (.int .u8 (fn : Int))), yIf ((((decide ((fn : Int) = (5 : Int))) || (decide ((fn : Int) = (6 : Int)))) = false)) (yV (.bool (decide ((fn : Int) = (7 : Int))))), yV _, yV _] 11 13 z (by kernel_rfl) (by kernel_rfl) (
    mvS s0 rfl rfl rfl rfl <|
    armS (wn rfl) (fun aa ww hk bs hd => xeqi rfl (dep hd 0 rfl rfl rfl) rfl) rfl <|
    mvD 1 rfl rfl rfl rfl rfl rfl <|
    arm (fun aa ww hk bs hd => by
      have d2 : aa.eval (.tmp 5) = .bool (decide ((fn : Int) = (5 : Int))) := depX hd 2 rfl
      by_cases hz : ((decide ((fn : Int) = (5 : Int))) = false)
      · exact stepX_same (v := .int .u8 (fn : Int)) (want1 (j := 2) (b := false) rfl (d2.trans (congrArg Value.bool hz))) (xmove rfl (bs.get 0 rfl s0)) ⟨fun _ => rfl, fun c => absurd hz c⟩ rfl
      · exact stepX_skip (wantN (j := 2) (b := false) (b' := true) rfl (d2.trans (congrArg Value.bool ((Bool.not_eq_false _).mp hz))) rfl) ⟨fun c => absurd c hz, fun _ => rfl⟩ rfl
      ) <|
    arm (fun aa ww hk bs hd => by
      have d2 : aa.eval (.tmp 5) = .bool (decide ((fn : Int) = (5 : Int))) := depX hd 2 rfl
      have d3 : (((decide ((fn : Int) = (5 : Int))) = false) → aa.eval (.tmp 6) = .int .u8 (fn : Int)) ∧ (¬ (((decide ((fn : Int) = (5 : Int))) = false)) → aa.eval (.tmp 6) = undef) := depX hd 3 rfl
      by_cases hz : ((decide ((fn : Int) = (5 : Int))) = false)
      · exact stepX_same (v := .bool (decide ((fn : Int) = (6 : Int)))) (want1 (j := 2) (b := false) rfl (d2.trans (congrArg Value.bool hz))) (xeqi rfl (d3.1 hz) rfl) ⟨fun _ => rfl, fun c => absurd hz c⟩ rfl
      · exact stepX_skip (wantN (j := 2) (b := false) (b' := true) rfl (d2.trans (congrArg Value.bool ((Bool.not_eq_false _).mp hz))) rfl) ⟨fun c => absurd c hz, fun _ => rfl⟩ rfl
      ) <|
    arm (fun aa ww hk bs hd => by
      have d2 : aa.eval (.tmp 5) = .bool (decide ((fn : Int) = (5 : Int))) := depX hd 2 rfl
      have d4 : (((decide ((fn : Int) = (5 : Int))) = false) → aa.eval (.tmp 7) = .bool (decide ((fn : Int) = (6 : Int)))) ∧ (¬ (((decide ((fn : Int) = (5 : Int))) = false)) → aa.eval (.tmp 7) = undef) := depX hd 4 rfl
      exact stepX_same (v := .bool ((decide ((fn : Int) = (5 : Int))) || (decide ((fn : Int) = (6 : Int))))) (want0 rfl) (xor_ rfl (d2) rfl (fun hb => d4.1 hb)) rfl rfl
      ) <|
    mvD 5 rfl rfl rfl rfl rfl rfl <|
    arm (fun aa ww hk bs hd => by
      have d6 : aa.eval (.tmp 9) = .bool ((decide ((fn : Int) = (5 : Int))) || (decide ((fn : Int) = (6 : Int)))) := depX hd 6 rfl
      by_cases hz : (((decide ((fn : Int) = (5 : Int))) || (decide ((fn : Int) = (6 : Int)))) = false)
      · exact stepX_same (v := .int .u8 (fn : Int)) (want1 (j := 6) (b := false) rfl (d6.trans (congrArg Value.bool hz))) (xmove rfl (bs.get 0 rfl s0)) ⟨fun _ => rfl, fun c => absurd hz c⟩ rfl
      · exact stepX_skip (wantN (j := 6) (b := false) (b' := true) rfl (d6.trans (congrArg Value.bool ((Bool.not_eq_false _).mp hz))) rfl) ⟨fun c => absurd c hz, fun _ => rfl⟩ rfl
      ) <|
    arm (fun aa ww hk bs hd => by
      have d6 : aa.eval (.tmp 9) = .bool ((decide ((fn : Int) = (5 : Int))) || (decide ((fn : Int) = (6 : Int)))) := depX hd 6 rfl
      have d7 : ((((decide ((fn : Int) = (5 : Int))) || (decide ((fn : Int) = (6 : Int)))) = false) → aa.eval (.tmp 10) = .int .u8 (fn : Int)) ∧ (¬ ((((decide ((fn : Int) = (5 : Int))) || (decide ((fn : Int) = (6 : Int)))) = false)) → aa.eval (.tmp 10) = undef) := depX hd 7 rfl
      by_cases hz : (((decide ((fn : Int) = (5 : Int))) || (decide ((fn : Int) = (6 : Int)))) = false)
      · exact stepX_same (v := .bool (decide ((fn : Int) = (7 : Int)))) (want1 (j := 6) (b := false) rfl (d6.trans (congrArg Value.bool hz))) (xeqi rfl (d7.1 hz) rfl) ⟨fun _ => rfl, fun c => absurd hz c⟩ rfl
      · exact stepX_skip (wantN (j := 6) (b := false) (b' := true) rfl (d6.trans (congrArg Value.bool ((Bool.not_eq_false _).mp hz))) rfl) ⟨fun c => absurd c hz, fun _ => rfl⟩ rfl
      ) <|
    arm (fun aa ww hk bs hd => by
      have d6 : aa.eval (.tmp 9) = .bool ((decide ((fn : Int) = (5 : Int))) || (decide ((fn : Int) = (6 : Int)))) := depX hd 6 rfl
      have d8 : ((((decide ((fn : Int) = (5 : Int))) || (decide ((fn : Int) = (6 : Int)))) = false) → aa.eval (.tmp 11) = .bool (decide ((fn : Int) = (7 : Int)))) ∧ (¬ ((((decide ((fn : Int) = (5 : Int))) || (decide ((fn : Int) = (6 : Int)))) = false)) → aa.eval (.tmp 11) = undef) := depX hd 8 rfl
      exact stepX_same (v := .bool (((decide ((fn : Int) = (5 : Int))) || (decide ((fn : Int) = (6 : Int)))) || (decide ((fn : Int) = (7 : Int))))) (want0 rfl) (xor_ rfl (d6) rfl (fun hb => d8.1 hb)) rfl rfl
      ) <|
    asD 9 rfl rfl rfl rfl rfl rfl <|
    arm0) fun fa fw hk bs hv ap => ?_
  obtain ⟨z, q, ov⟩ := aft hk bs z q ow
  have s2 := got hv 10 rfl rfl rfl
  have ow := ov
  clear hv ap bs hk ov
  refine wl_then (hK2 _ _ ?_)
  try clear hK2 K2
  refine wp_ret ?_
  refine results_one rfl (res_tmp s2) q ?_
  exact ⟨(congrArg (fun b => Ending.returned (.bool b)) (show _ = two13 fn from two13_or fn)), ow.kept⟩
set_option maxHeartbeats 4000000 in
theorem valid13r_any (b0 off0 cap : Nat) (l : List Vl) (w : World) (hr : RowV w (some ⟨b0, off0, none⟩) l) (hs : ∀ v ∈ l, Small v) (hl : l.length ≤ 1000000) :
    Calls Tryz.prog 70 #[.slice (some ⟨b0, off0, none⟩) l.length cap] w fun e w' => e = .returned (.bool (l.all vOk)) ∧ Kept w w' := by
  go_enter Tryz.func70, Tryz.ntmps70
  refine wp_seq_k fun K1 hK1 => ?_
  refine rgn [yV _] 1 15 rfl (by kernel_rfl) (by kernel_rfl) (
    armS (wn rfl) (fun aa ww hk bs hd => xassign rfl rfl) rfl <|
    arm0) fun fa fw hk bs hv ap => ?_
  obtain ⟨z, q, ov⟩ := aft hk bs rfl rfl (Own.start w)
  have s0 := bs.get 0 rfl rfl
  have s2 := got hv 0 rfl rfl rfl
  have ow := ov
  clear hv ap bs hk ov
  refine wl_then (hK1 _ _ ?_)
  try clear hK1 K1
  refine wp_seq_k fun K2 hK2 => ?_
  refine wp_seq_k fun K3 hK3 => ?_
  refine rgn [yV _, yV _, yV _] 3 15 z (by kernel_rfl) (by kernel_rfl) (
    mvS s0 rfl rfl rfl rfl <|
    armS (wn rfl) (fun aa ww hk bs hd => xlen Tryz.underlying22 rfl (dep hd 0 rfl rfl rfl)) rfl <|
    armS (wn rfl) (fun aa ww hk bs hd => xmove rfl rfl) rfl <|
    arm0) fun fa fw hk bs hv ap => ?_
  obtain ⟨z, q, ov⟩ := aft hk bs z q ow
  have s2 := bs.get 2 rfl s2
  have s5 := got hv 0 rfl rfl rfl
  have s6 := got hv 1 rfl rfl rfl
  have s7 := got hv 2 rfl rfl rfl
  have ow := ov
  clear hv ap bs hk ov
  refine wl_then (hK3 _ _ ?_)
  try clear hK3 K3
  refine wp_block ?_
  refine wp_loop_g (fun (k : Nat) fr u => (k ≤ l.length) ∧ (∀ j, j < k → vOk (l.getD j blankV) = true) ∧ fr.tmps.size = 15 ∧ fr.defers = [] ∧ Own w [] u ∧ fr.eval (.tmp 5) = .slice (some ⟨b0, off0, none⟩) l.length cap ∧ fr.eval (.tmp 6) = .int .i64 ((l.length : Nat) : Int) ∧ fr.eval (.tmp 7) = .int .i64 (k : Int)) (fun k => l.length - k) 0 ⟨(Nat.zero_le _), (fun j hj => absurd hj (Nat.not_lt_zero j)), z, q, ow, s5, s6, s7⟩ (fun k b_ u_ hI => ?_)
  revert b_ u_; intro fa fw hI
  obtain ⟨hk, hoks, z, q, ow, s5, s6, s7⟩ := hI
  refine wp_seq_k fun K4 hK4 => ?_
  refine rgn [yV _] 1 15 z (by kernel_rfl) (by kernel_rfl) (
    armS (wn rfl) (fun aa ww hk bs hd => xlss rfl (bs.get 7 rfl s7) (bs.get 6 rfl s6)) rfl <|
    arm0) fun fa fw hk bs hv ap => ?_
  obtain ⟨z, q, ov⟩ := aft hk bs z q ow
  have s5 := bs.get 5 rfl s5
  have s6 := bs.get 6 rfl s6
  have s7 := bs.get 7 rfl s7
  have s8 := got hv 0 rfl rfl rfl
  have ow := ov
  clear hv ap bs hk ov
  refine wl_then (hK4 _ _ ?_)
  try clear hK4 K4
  refine wp_seq_k fun K5 hK5 => ?_
  by_cases hc1 : (k : Int) < ((l.length : Nat) : Int)
  ·refine wp_cond_true (s8.trans (congrArg Value.bool ((decide_eq_true_iff).2 hc1))) ?_
   refine wp_skip ?_
   refine then_n (hK5 _ _ ?_)
   try clear hK5 K5
   refine wp_seq_k fun K6 hK6 => ?_
   refine wp_block ?_
   refine wp_seq_k fun K7 hK7 => ?_
   have hlt : k < l.length := by omega
   have hsk : Small (l.getD k blankV) := hs _ (by rw [show l.getD k blankV = l[k] by simp [List.getD, hlt]]; exact List.getElem_mem hlt)
   refine rgn [yV _, yV (aggV (l.getD k blankV)), yNew fw.heap.size (.cells #[.int .u8 0, .int .i64 0, .string ⟨[].toArray⟩] 25 (0, 0))] 3 15 z (by kernel_rfl) (by kernel_rfl) (
     armS (wn rfl) (fun aa ww hk bs hd => xplaceV rfl (k := k) (bs.get 5 rfl s5) (bs.get 7 rfl s7) hlt) rfl <|
     armS (wn rfl) (fun aa ww hk bs hd => xatV rfl (l := l) (k := k) (dep hd 0 rfl rfl rfl) (hr.kept (ow.keep hk).kept) hlt) rfl <|
     armP (wn rfl) (fun aa ww hk bs hd => xalloc rfl (by kernel_rfl)) rfl <|
     arm0) fun fa fw hk bs hv ap => ?_
   obtain ⟨z, q, ov⟩ := aft hk bs z q ow
   have s5 := bs.get 5 rfl s5
   have s6 := bs.get 6 rfl s6
   have s7 := bs.get 7 rfl s7
   have s10 := got hv 1 rfl rfl rfl
   obtain ⟨gb1, s4, bgb1, hgb1⟩ := gotP hv 2 rfl rfl rfl
   have ov := ov.cons hgb1 (Nat.le_trans ow.kept.size bgb1) (ow.below bgb1)
   have ow := ov
   clear hv ap bs hk ov
   refine wl_store ow 0 0 (want0 rfl) rfl rfl s4 s10 (by kernel_rfl) rfl rfl rfl fun fw ow => ?_
   refine wl_then (hK7 _ _ ?_)
   try clear hK7 K7
   refine wp_seq_k fun K8 hK8 => ?_
   refine rgn [yV (aggV (l.getD k blankV)), yV (.int .i64 (vChk (l.getD k blankV))), yV _] 3 15 z (by kernel_rfl) (by kernel_rfl) (
     armS (wn rfl) (fun aa ww hk bs hd => xloadN 3 rfl (by kernel_rfl) (by kernel_rfl) (bs.get 4 rfl s4) ((ow.keep hk).box 0 rfl) (Nat.le_of_ble_eq_true rfl) rfl) rfl <|
     armC (wn rfl) (fun aa ww hk bs hd => xcall1 rfl (dep hd 0 rfl rfl rfl) (en_val_Check _ _)) (fun aa ww hk bs hd => vcheck5_any (l.getD k blankV) ww hsk.1 (Nat.le_trans hsk.2 (by decide))) rfl <|
     armS (wn rfl) (fun aa ww hk bs hd => xnei rfl (dep hd 1 rfl rfl rfl) rfl) rfl <|
     arm0) fun fa fw hk bs hv ap => ?_
   obtain ⟨z, q, ov⟩ := aft hk bs z q ow
   have s5 := bs.get 5 rfl s5
   have s6 := bs.get 6 rfl s6
   have s7 := bs.get 7 rfl s7
   have s13 := got hv 2 rfl rfl rfl
   have ow := ov
   clear hv ap bs hk ov
   refine wl_then (hK8 _ _ ?_)
   try clear hK8 K8
   by_cases hc2 : (vChk (l.getD k blankV) : Int) ≠ (0 : Int)
   ·refine wp_cond_true (s13.trans (congrArg Value.bool ((decide_eq_true_iff).2 hc2))) ?_
    have hbad : vOk (l.getD k blankV) = false := chk_no13 hc2
    refine wp_seq_k fun K9 hK9 => ?_
    refine rgn [yV _] 1 15 z (by kernel_rfl) (by kernel_rfl) (
      armS (wn rfl) (fun aa ww hk bs hd => xassign rfl rfl) rfl <|
      arm0) fun fa fw hk bs hv ap => ?_
    obtain ⟨z, q, ov⟩ := aft hk bs z q ow
    have s5 := bs.get 5 rfl s5
    have s6 := bs.get 6 rfl s6
    have s7 := bs.get 7 rfl s7
    have s2 := got hv 0 rfl rfl rfl
    have ow := ov
    clear hv ap bs hk ov
    refine wl_then (hK9 _ _ ?_)
    try clear hK9 K9
    refine wp_ret ?_
    refine block_r ?_
    refine then_r ?_
    refine then_r ?_
    refine block_r ?_
    refine then_r ?_
    refine results_one rfl (res_tmp s2) q ?_
    exact ⟨(congrArg (fun b => Ending.returned (.bool b)) (all_no hlt hbad).symm), ow.kept⟩
   refine wp_cond_false (s13.trans (congrArg Value.bool (Bool.eq_false_iff.2 (fun c => hc2 ((decide_eq_true_iff).1 c))))) ?_
   have hok : vOk (l.getD k blankV) = true := chk_ok13 hc2
   refine wp_skip ?_
   refine block_n ?_
   refine then_n (hK6 _ _ ?_)
   try clear hK6 K6
   refine rgn [yV (.int .i64 ((k + 1 : Nat) : Int))] 1 15 z (by kernel_rfl) (by kernel_rfl) (
     armS (wn rfl) (fun aa ww hk bs hd => xadd (Or.inl rfl) rfl (bs.get 7 rfl s7) rfl (by omega) (by omega)) rfl <|
     arm0) fun fa fw hk bs hv ap => ?_
   obtain ⟨z, q, ov⟩ := aft hk bs z q ow
   have s5 := bs.get 5 rfl s5
   have s6 := bs.get 6 rfl s6
   have s7 := bs.get 7 rfl s7
   have s14 := got hv 0 rfl rfl rfl
   have ow := ov
   clear hv ap bs hk ov
   refine wl_value (v := .int .i64 ((k + 1 : Nat) : Int)) (want0 rfl) (xmove rfl s14) ?_
   refine gt3 (put_size z) (put_def q) ow 5 (pb 7 s5 rfl) 6 (pb 7 s6 rfl) 7 (put_in (t := 7) z rfl) fun fa fw z q ow s5 s6 s7 => ?_
   refine wl_end ?_
   exact then_n ⟨(k + 1), ⟨hlt, (fun j hj => (Nat.lt_succ_iff_lt_or_eq.1 hj).elim (hoks j) (fun e => e ▸ hok)), z, q, ow.tail, s5, s6, s7⟩, (show l.length - (k + 1) < l.length - k by omega)⟩
  refine wp_cond_false (s8.trans (congrArg Value.bool (Bool.eq_false_iff.2 (fun c => hc1 ((decide_eq_true_iff).1 c))))) ?_
  refine wp_exit ?_
  refine then_e ?_
  refine then_e ?_
  refine block_hit ?_
  refine then_n (hK2 _ _ ?_)
  try clear hK2 K2
  refine wp_seq_k fun K10 hK10 => ?_
  refine rgn [yV _] 1 15 z (by kernel_rfl) (by kernel_rfl) (
    armS (wn rfl) (fun aa ww hk bs hd => xassign rfl rfl) rfl <|
    arm0) fun fa fw hk bs hv ap => ?_
  obtain ⟨z, q, ov⟩ := aft hk bs z q ow
  have s2 := got hv 0 rfl rfl rfl
  have ow := ov
  clear hv ap bs hk ov
  refine wl_then (hK10 _ _ ?_)
  try clear hK10 K10
  refine wp_ret ?_
  refine results_one rfl (res_tmp s2) q ?_
  exact ⟨(congrArg (fun b => Ending.returned (.bool b)) (all_yes (fun j hj => hoks j (by omega))).symm), ow.kept⟩
set_option maxHeartbeats 4000000 in
theorem numbers13_1 (v : Vl) (b0 off0 cap g gx gy c : Nat) (T : List Th) (w0 w : World) (mx : Int) (HM : Mx w0 mx) (OW : Own w0 ((Th.obj g (.cells #[.pointer (some ⟨gx, 0, none⟩), .pointer (some ⟨gy, 0, none⟩)] 108 (0, 0))) :: (Th.obj gy (.cells #[.int .i64 0] 2 (0, 0))) :: (Th.obj gx (.cells #[.int .i64 0] 2 (0, 0))) :: T) w) (hr : ∀ z_, Own w0 T z_ → RowV z_ (some ⟨b0, off0, none⟩) [v]) (s_v : Small v) :
    Calls Tryz.prog 71 #[.slice (some ⟨b0, off0, none⟩) 1 cap, .slice (some ⟨g, 0, none⟩) 1 c] w fun e w' => NumOut w0 [v] gx gy T ((vNum v).n, 0) e w' := by
  go_enter Tryz.func71, Tryz.ntmps71
  refine wp_seq_k fun K1 hK1 => ?_
  refine rgn [yNew w.heap.size (.cells #[.int .u8 0, .int .i64 0, .string ⟨[].toArray⟩] 25 (0, 0)), yV _] 2 31 rfl (by kernel_rfl) (by kernel_rfl) (
    armP (wn rfl) (fun aa ww hk bs hd => xalloc rfl (by kernel_rfl)) rfl <|
    armS (wn rfl) (fun aa ww hk bs hd => xassign rfl rfl) rfl <|
    arm0) fun fa fw hk bs hv ap => ?_
  obtain ⟨z, q, ov⟩ := aft hk bs rfl rfl OW
  have s0 := bs.get 0 rfl rfl
  have s1 := bs.get 1 rfl rfl
  obtain ⟨gb1, s4, bgb1, hgb1⟩ := gotP hv 0 rfl rfl rfl
  have ov := ov.cons hgb1 (Nat.le_trans OW.kept.size bgb1) (OW.below bgb1)
  have s5 := got hv 1 rfl rfl rfl
  have ow := ov
  clear hv ap bs hk ov
  refine wl_then (hK1 _ _ ?_)
  try clear hK1 K1
  refine wp_seq_k fun K2 hK2 => ?_
  refine wp_seq_k fun K3 hK3 => ?_
  refine rgn [yV _, yV _, yV _] 3 31 z (by kernel_rfl) (by kernel_rfl) (
    mvS s1 rfl rfl rfl rfl <|
    armS (wn rfl) (fun aa ww hk bs hd => xlen Tryz.underlying109 rfl (dep hd 0 rfl rfl rfl)) rfl <|
    armS (wn rfl) (fun aa ww hk bs hd => xmove rfl rfl) rfl <|
    arm0) fun fa fw hk bs hv ap => ?_
  obtain ⟨z, q, ov⟩ := aft hk bs z q ow
  have s0 := bs.get 0 rfl s0
  have s4 := bs.get 4 rfl s4
  have s5 := bs.get 5 rfl s5
  have s9 := got hv 0 rfl rfl rfl
  have s10 := got hv 1 rfl rfl rfl
  have s11 := got hv 2 rfl rfl rfl
  have ow := ov
  clear hv ap bs hk ov
  refine wl_then (hK3 _ _ ?_)
  try clear hK3 K3
  refine wp_block ?_
  refine wp_loop_rounds 2 ?_
  refine rnd1 ?_
  refine wp_seq_k fun K4 hK4 => ?_
  refine rgn [yV (.bool true)] 1 31 z (by kernel_rfl) (by kernel_rfl) (
    armE (wn rfl) (fun aa ww hk bs hd => xlss rfl (bs.get 11 rfl s11) (bs.get 10 rfl s10)) (congrArg Value.bool rfl) rfl <|
    arm0) fun fa fw hk bs hv ap => ?_
  obtain ⟨z, q, ov⟩ := aft hk bs z q ow
  have s0 := bs.get 0 rfl s0
  have s4 := bs.get 4 rfl s4
  have s5 := bs.get 5 rfl s5
  have s9 := bs.get 9 rfl s9
  have s10 := bs.get 10 rfl s10
  have s11 := bs.get 11 rfl s11
  have s12 := got hv 0 rfl rfl rfl
  have ow := ov
  clear hv ap bs hk ov
  refine wl_then (hK4 _ _ ?_)
  try clear hK4 K4
  refine wp_seq_k fun K5 hK5 => ?_
  refine wp_cond_true (s12) ?_
  refine wp_skip ?_
  refine then_n (hK5 _ _ ?_)
  try clear hK5 K5
  refine wp_seq_k fun K6 hK6 => ?_
  refine wp_block ?_
  refine wp_seq_k fun K7 hK7 => ?_
  refine rgn [yV _, yV _, yV _, yV _, yV _] 5 31 z (by kernel_rfl) (by kernel_rfl) (
    mvS s11 rfl rfl rfl rfl <|
    armS (wn rfl) (fun aa ww hk bs hd => xindexAddr (u := .slice (some ⟨g, 0, none⟩) 1 c) (z := .int .i64 0) rfl (bs.get 9 rfl s9) (bs.get 11 rfl s11) (run_place1 (off := 0) (k := 0) Tryz.underlying109 (by kernel_rfl) (by decide))) rfl <|
    armS (wn rfl) (fun aa ww hk bs hd => xloadB rfl (by kernel_rfl) (dep hd 1 rfl rfl rfl) ((ow.keep hk).box 1 rfl) rfl) rfl <|
    asD 0 rfl rfl rfl rfl rfl rfl <|
    asD 2 rfl rfl rfl rfl rfl rfl <|
    arm0) fun fa fw hk bs hv ap => ?_
  obtain ⟨z, q, ov⟩ := aft hk bs z q ow
  have s0 := bs.get 0 rfl s0
  have s4 := bs.get 4 rfl s4
  have s5 := bs.get 5 rfl s5
  have s9 := bs.get 9 rfl s9
  have s10 := bs.get 10 rfl s10
  have s11 := bs.get 11 rfl s11
  have s12 := bs.get 12 rfl s12
  have s13 := got hv 0 rfl rfl rfl
  have s14 := got hv 1 rfl rfl rfl
  have s15 := got hv 2 rfl rfl rfl
  have s6 := got hv 3 rfl rfl rfl
  have s7 := got hv 4 rfl rfl rfl
  have ow := ov
  clear hv ap bs hk ov
  refine wl_then (hK7 _ _ ?_)
  try clear hK7 K7
  refine wp_seq_k fun K8 hK8 => ?_
  refine rgn [yV _, yV _, yV _, yV (aggV v), yV (aggV (vNum v)), yNew fw.heap.size (.cells #[.int .u8 0, .int .i64 0, .string ⟨[].toArray⟩] 25 (0, 0))] 6 31 z (by kernel_rfl) (by kernel_rfl) (
    mvS s0 rfl rfl rfl rfl <|
    mvS s6 rfl rfl rfl rfl <|
    armS (wn rfl) (fun aa ww hk bs hd => xplaceV rfl (k := 0) (dep hd 0 rfl rfl rfl) (dep hd 1 rfl rfl rfl) (Nat.le_of_ble_eq_true rfl)) rfl <|
    armS (wn rfl) (fun aa ww hk bs hd => xatV rfl (l := [v]) (k := 0) (dep hd 2 rfl rfl rfl) (hr _ (ow.keep hk).tail.tail.tail.tail) (Nat.le_of_ble_eq_true rfl)) rfl <|
    armC (wn rfl) (fun aa ww hk bs hd => xcall1 rfl (dep hd 3 rfl rfl rfl) (en_val_ToNumber _ _)) (fun aa ww hk bs hd => tonum_any v ww mx (HM.kept (ow.keep hk).kept) s_v.1 s_v.2) rfl <|
    armP (wn rfl) (fun aa ww hk bs hd => xalloc rfl (by kernel_rfl)) rfl <|
    arm0) fun fa fw hk bs hv ap => ?_
  obtain ⟨z, q, ov⟩ := aft hk bs z q ow
  have s0 := bs.get 0 rfl s0
  have s4 := bs.get 4 rfl s4
  have s5 := bs.get 5 rfl s5
  have s9 := bs.get 9 rfl s9
  have s10 := bs.get 10 rfl s10
  have s11 := bs.get 11 rfl s11
  have s12 := bs.get 12 rfl s12
  have s13 := bs.get 13 rfl s13
  have s14 := bs.get 14 rfl s14
  have s15 := bs.get 15 rfl s15
  have s6 := bs.get 6 rfl s6
  have s7 := bs.get 7 rfl s7
  have s16 := got hv 0 rfl rfl rfl
  have s17 := got hv 1 rfl rfl rfl
  have s18 := got hv 2 rfl rfl rfl
  have s19 := got hv 3 rfl rfl rfl
  have s20 := got hv 4 rfl rfl rfl
  obtain ⟨gb2, s8, bgb2, hgb2⟩ := gotP hv 5 rfl rfl rfl
  have ov := ov.cons hgb2 (Nat.le_trans ow.kept.size bgb2) (ow.below bgb2)
  have ow := ov
  clear hv ap bs hk ov
  refine wl_store ow 0 0 (want0 rfl) rfl rfl s8 s20 (by kernel_rfl) rfl rfl rfl fun fw ow => ?_
  refine wl_then (hK8 _ _ ?_)
  try clear hK8 K8
  refine wp_seq_k fun K9 hK9 => ?_
  refine wp_seq_k fun K10 hK10 => ?_
  refine rgn [yV (.pointer (some ⟨gb2, 0, none⟩)), yV _, yV _] 3 31 z (by kernel_rfl) (by kernel_rfl) (
    armS (wn rfl) (fun aa ww hk bs hd => xfieldAddr rfl (bs.get 8 rfl s8) (by kernel_rfl)) rfl <|
    armS (wn rfl) (fun aa ww hk bs hd => xloadB rfl (by kernel_rfl) (dep hd 0 rfl rfl rfl) ((ow.keep hk).box 0 rfl) rfl) rfl <|
    armS (wn rfl) (fun aa ww hk bs hd => xeqi rfl (dep hd 1 rfl rfl rfl) rfl) rfl <|
    arm0) fun fa fw hk bs hv ap => ?_
  obtain ⟨z, q, ov⟩ := aft hk bs z q ow
  have s0 := bs.get 0 rfl s0
  have s4 := bs.get 4 rfl s4
  have s5 := bs.get 5 rfl s5
  have s9 := bs.get 9 rfl s9
  have s10 := bs.get 10 rfl s10
  have s11 := bs.get 11 rfl s11
  have s12 := bs.get 12 rfl s12
  have s13 := bs.get 13 rfl s13
  have s14 := bs.get 14 rfl s14
  have s15 := bs.get 15 rfl s15
  have s6 := bs.get 6 rfl s6
  have s7 := bs.get 7 rfl s7
  have s16 := bs.get 16 rfl s16
  have s17 := bs.get 17 rfl s17
  have s18 := bs.get 18 rfl s18
  have s19 := bs.get 19 rfl s19
  have s20 := bs.get 20 rfl s20
  have s8 := bs.get 8 rfl s8
  have s21 := got hv 0 rfl rfl rfl
  have s22 := got hv 1 rfl rfl rfl
  have s23 := got hv 2 rfl rfl rfl
  have ow := ov
  clear hv ap bs hk ov
  refine wl_then (hK10 _ _ ?_)
  try clear hK10 K10
  by_cases hc1 : ((vNum v).k : Int) = (4 : Int)
  ·refine wp_cond_true (s23.trans (congrArg Value.bool ((decide_eq_true_iff).2 hc1))) ?_
   have hye0 := isE_yes hc1
   refine wp_seq_k fun K11 hK11 => ?_
   refine rgn [yV (aggV (vNum v))] 1 31 z (by kernel_rfl) (by kernel_rfl) (
     armS (wn rfl) (fun aa ww hk bs hd => xloadN 3 rfl (by kernel_rfl) (by kernel_rfl) (bs.get 8 rfl s8) ((ow.keep hk).box 0 rfl) (Nat.le_of_ble_eq_true rfl) rfl) rfl <|
     arm0) fun fa fw hk bs hv ap => ?_
   obtain ⟨z, q, ov⟩ := aft hk bs z q ow
   have s0 := bs.get 0 rfl s0
   have s4 := bs.get 4 rfl s4
   have s5 := bs.get 5 rfl s5
   have s9 := bs.get 9 rfl s9
   have s10 := bs.get 10 rfl s10
   have s11 := bs.get 11 rfl s11
   have s12 := bs.get 12 rfl s12
   have s13 := bs.get 13 rfl s13
   have s14 := bs.get 14 rfl s14
   have s15 := bs.get 15 rfl s15
   have s6 := bs.get 6 rfl s6
   have s7 := bs.get 7 rfl s7
   have s16 := bs.get 16 rfl s16
   have s17 := bs.get 17 rfl s17
   have s18 := bs.get 18 rfl s18
   have s19 := bs.get 19 rfl s19
   have s20 := bs.get 20 rfl s20
   have s8 := bs.get 8 rfl s8
   have s21 := bs.get 21 rfl s21
   have s22 := bs.get 22 rfl s22
   have s23 := bs.get 23 rfl s23
   have s24 := got hv 0 rfl rfl rfl
   have ow := ov
   clear hv ap bs hk ov
   refine wl_store ow 1 0 (want0 rfl) rfl rfl s4 s24 (by kernel_rfl) rfl rfl rfl fun fw ow => ?_
   refine wl_value (v := .bool false) (want0 rfl) (xassign rfl rfl) ?_
   refine gt22 (put_size z) (put_def q) ow 0 (pb 5 s0 rfl) 4 (pb 5 s4 rfl) 9 (pb 5 s9 rfl) 10 (pb 5 s10 rfl) 11 (pb 5 s11 rfl) 12 (pb 5 s12 rfl) 13 (pb 5 s13 rfl) 14 (pb 5 s14 rfl) 15 (pb 5 s15 rfl) 6 (pb 5 s6 rfl) 7 (pb 5 s7 rfl) 16 (pb 5 s16 rfl) 17 (pb 5 s17 rfl) 18 (pb 5 s18 rfl) 19 (pb 5 s19 rfl) 20 (pb 5 s20 rfl) 8 (pb 5 s8 rfl) 21 (pb 5 s21 rfl) 22 (pb 5 s22 rfl) 23 (pb 5 s23 rfl) 24 (pb 5 s24 rfl) 5 (put_in (t := 5) z rfl) fun fa fw z q ow s0 s4 s9 s10 s11 s12 s13 s14 s15 s6 s7 s16 s17 s18 s19 s20 s8 s21 s22 s23 s24 s5 => ?_
   refine wl_then (hK11 _ _ ?_)
   try clear hK11 K11
   refine wp_ret ?_
   refine then_r ?_
   refine block_r ?_
   refine then_r ?_
   refine then_r ?_
   refine block_r ?_
   refine then_r ?_
   refine resultsL (v := .tuple #[aggV (vNum v), .bool false]) rfl (.cons (res_cell (n := 3) _ s4 (by kernel_rfl) (by kernel_rfl) (ow.box 1 rfl) (Nat.le_of_ble_eq_true rfl) rfl) (.cons (res_tmp s5) .nil)) rfl q ?_
   exact ⟨_, false, rfl, Or.inl ⟨rfl, first_hit hye0, ow.tail.tail.tail.tail.tail⟩⟩
  refine wp_cond_false (s23.trans (congrArg Value.bool (Bool.eq_false_iff.2 (fun c => hc1 ((decide_eq_true_iff).1 c))))) ?_
  have hne0 := isE_no hc1
  refine wp_skip ?_
  refine then_n (hK9 _ _ ?_)
  try clear hK9 K9
  refine rgn [yV _, yV (.pointer (some ⟨gb2, 1, none⟩)), yV _, yV _] 4 31 z (by kernel_rfl) (by kernel_rfl) (
    mvS s7 rfl rfl rfl rfl <|
    armS (wn rfl) (fun aa ww hk bs hd => xfieldAddr rfl (bs.get 8 rfl s8) (by kernel_rfl)) rfl <|
    armS (wn rfl) (fun aa ww hk bs hd => xloadB rfl (by kernel_rfl) (dep hd 1 rfl rfl rfl) ((ow.keep hk).box 0 rfl) rfl) rfl <|
    armS (wn rfl) (fun aa ww hk bs hd => xnilC rfl (dep hd 0 rfl rfl rfl)) rfl <|
    arm0) fun fa fw hk bs hv ap => ?_
  obtain ⟨z, q, ov⟩ := aft hk bs z q ow
  have s0 := bs.get 0 rfl s0
  have s4 := bs.get 4 rfl s4
  have s5 := bs.get 5 rfl s5
  have s9 := bs.get 9 rfl s9
  have s10 := bs.get 10 rfl s10
  have s11 := bs.get 11 rfl s11
  have s12 := bs.get 12 rfl s12
  have s13 := bs.get 13 rfl s13
  have s14 := bs.get 14 rfl s14
  have s15 := bs.get 15 rfl s15
  have s6 := bs.get 6 rfl s6
  have s7 := bs.get 7 rfl s7
  have s16 := bs.get 16 rfl s16
  have s17 := bs.get 17 rfl s17
  have s18 := bs.get 18 rfl s18
  have s19 := bs.get 19 rfl s19
  have s20 := bs.get 20 rfl s20
  have s8 := bs.get 8 rfl s8
  have s21 := bs.get 21 rfl s21
  have s22 := bs.get 22 rfl s22
  have s23 := bs.get 23 rfl s23
  have s25 := got hv 0 rfl rfl rfl
  have s26 := got hv 1 rfl rfl rfl
  have s27 := got hv 2 rfl rfl rfl
  have s28 := got hv 3 rfl rfl rfl
  have ow := ov
  clear hv ap bs hk ov
  refine wl_store ow 4 0 (want0 rfl) rfl rfl s28 s27 (by kernel_rfl) rfl rfl rfl fun fw ow => ?_
  refine wl_end ?_
  refine block_n ?_
  refine then_n (hK6 _ _ ?_)
  try clear hK6 K6
  refine rgn [yV (.int .i64 1)] 1 31 z (by kernel_rfl) (by kernel_rfl) (
    armS (wn rfl) (fun aa ww hk bs hd => xadd (Or.inl rfl) rfl (bs.get 11 rfl s11) rfl (by omega) (by omega)) rfl <|
    arm0) fun fa fw hk bs hv ap => ?_
  obtain ⟨z, q, ov⟩ := aft hk bs z q ow
  have s0 := bs.get 0 rfl s0
  have s4 := bs.get 4 rfl s4
  have s5 := bs.get 5 rfl s5
  have s9 := bs.get 9 rfl s9
  have s10 := bs.get 10 rfl s10
  have s11 := bs.get 11 rfl s11
  have s12 := bs.get 12 rfl s12
  have s13 := bs.get 13 rfl s13
  have s14 := bs.get 14 rfl s14
  have s15 := bs.get 15 rfl s15
  have s6 := bs.get 6 rfl s6
  have s7 := bs.get 7 rfl s7
  have s16 := bs.get 16 rfl s16
  have s17 := bs.get 17 rfl s17
  have s18 := bs.get 18 rfl s18
  have s19 := bs.get 19 rfl s19
  have s20 := bs.get 20 rfl s20
  have s8 := bs.get 8 rfl s8
  have s21 := bs.get 21 rfl s21
  have s22 := bs.get 22 rfl s22
  have s23 := bs.get 23 rfl s23
  have s25 := bs.get 25 rfl s25
  have s26 := bs.get 26 rfl s26
  have s27 := bs.get 27 rfl s27
  have s28 := bs.get 28 rfl s28
  have s29 := got hv 0 rfl rfl rfl
  have ow := ov
  clear hv ap bs hk ov
  refine wl_value (v := .int .i64 1) (want0 rfl) (xmove rfl s29) ?_
  refine gt26 (put_size z) (put_def q) ow 0 (pb 11 s0 rfl) 4 (pb 11 s4 rfl) 5 (pb 11 s5 rfl) 9 (pb 11 s9 rfl) 10 (pb 11 s10 rfl) 12 (pb 11 s12 rfl) 13 (pb 11 s13 rfl) 14 (pb 11 s14 rfl) 15 (pb 11 s15 rfl) 6 (pb 11 s6 rfl) 7 (pb 11 s7 rfl) 16 (pb 11 s16 rfl) 17 (pb 11 s17 rfl) 18 (pb 11 s18 rfl) 19 (pb 11 s19 rfl) 20 (pb 11 s20 rfl) 8 (pb 11 s8 rfl) 21 (pb 11 s21 rfl) 22 (pb 11 s22 rfl) 23 (pb 11 s23 rfl) 25 (pb 11 s25 rfl) 26 (pb 11 s26 rfl) 27 (pb 11 s27 rfl) 28 (pb 11 s28 rfl) 29 (pb 11 s29 rfl) 11 (put_in (t := 11) z rfl) fun fa fw z q ow s0 s4 s5 s9 s10 s12 s13 s14 s15 s6 s7 s16 s17 s18 s19 s20 s8 s21 s22 s23 s25 s26 s27 s28 s29 s11 => ?_
  refine wl_end ?_
  refine then_n ?_
  refine rnd1 ?_
  refine wp_seq_k fun K12 hK12 => ?_
  refine rgn [yV (.bool false)] 1 31 z (by kernel_rfl) (by kernel_rfl) (
    armE (wn rfl) (fun aa ww hk bs hd => xlss rfl (bs.get 11 rfl s11) (bs.get 10 rfl s10)) (congrArg Value.bool rfl) rfl <|
    arm0) fun fa fw hk bs hv ap => ?_
  obtain ⟨z, q, ov⟩ := aft hk bs z q ow
  have s0 := bs.get 0 rfl s0
  have s4 := bs.get 4 rfl s4
  have s5 := bs.get 5 rfl s5
  have s9 := bs.get 9 rfl s9
  have s10 := bs.get 10 rfl s10
  have s13 := bs.get 13 rfl s13
  have s14 := bs.get 14 rfl s14
  have s15 := bs.get 15 rfl s15
  have s6 := bs.get 6 rfl s6
  have s7 := bs.get 7 rfl s7
  have s16 := bs.get 16 rfl s16
  have s17 := bs.get 17 rfl s17
  have s18 := bs.get 18 rfl s18
  have s19 := bs.get 19 rfl s19
  have s20 := bs.get 20 rfl s20
  have s8 := bs.get 8 rfl s8
  have s21 := bs.get 21 rfl s21
  have s22 := bs.get 22 rfl s22
  have s23 := bs.get 23 rfl s23
  have s25 := bs.get 25 rfl s25
  have s26 := bs.get 26 rfl s26
  have s27 := bs.get 27 rfl s27
  have s28 := bs.get 28 rfl s28
  have s29 := bs.get 29 rfl s29
  have s11 := bs.get 11 rfl s11
  have s12 := got hv 0 rfl rfl rfl
  have ow := ov
  clear hv ap bs hk ov
  refine wl_then (hK12 _ _ ?_)
  try clear hK12 K12
  refine wp_seq_k fun K13 hK13 => ?_
  refine wp_cond_false (s12) ?_
  refine wp_exit ?_
  refine then_e ?_
  refine then_e ?_
  refine block_hit ?_
  refine then_n (hK2 _ _ ?_)
  try clear hK2 K2
  refine wp_seq_k fun K14 hK14 => ?_
  refine rgn [yV (aggV (⟨0, 0, []⟩ : Vl))] 1 31 z (by kernel_rfl) (by kernel_rfl) (
    armS (wn rfl) (fun aa ww hk bs hd => xbuild (us := #[]) rfl (by simp) (by kernel_rfl)) rfl <|
    arm0) fun fa fw hk bs hv ap => ?_
  obtain ⟨z, q, ov⟩ := aft hk bs z q ow
  have s4 := bs.get 4 rfl s4
  have s5 := bs.get 5 rfl s5
  have s30 := got hv 0 rfl rfl rfl
  have ow := ov
  clear hv ap bs hk ov
  refine wl_store ow 1 0 (want0 rfl) rfl rfl s4 s30 (by kernel_rfl) rfl rfl rfl fun fw ow => ?_
  refine wl_value (v := .bool true) (want0 rfl) (xassign rfl rfl) ?_
  refine gt2 (put_size z) (put_def q) ow 4 (pb 5 s4 rfl) 5 (put_in (t := 5) z rfl) fun fa fw z q ow s4 s5 => ?_
  refine wl_then (hK14 _ _ ?_)
  try clear hK14 K14
  refine wp_ret ?_
  refine resultsL (v := .tuple #[aggV (⟨0, 0, []⟩ : Vl), .bool true]) rfl (.cons (res_cell (n := 3) _ s4 (by kernel_rfl) (by kernel_rfl) (ow.box 1 rfl) (Nat.le_of_ble_eq_true rfl) rfl) (.cons (res_tmp s5) .nil)) rfl q ?_
  exact ⟨_, true, rfl, Or.inr ⟨rfl, (first_miss hne0).trans first_nil, ow.tail.tail.tail⟩⟩
set_option maxHeartbeats 4000000 in
theorem numbers13_2 (v u : Vl) (b0 off0 cap g gx gy c : Nat) (T : List Th) (w0 w : World) (mx : Int) (HM : Mx w0 mx) (OW : Own w0 ((Th.obj g (.cells #[.pointer (some ⟨gx, 0, none⟩), .pointer (some ⟨gy, 0, none⟩)] 108 (0, 0))) :: (Th.obj gy (.cells #[.int .i64 0] 2 (0, 0))) :: (Th.obj gx (.cells #[.int .i64 0] 2 (0, 0))) :: T) w) (hr : ∀ z_, Own w0 T z_ → RowV z_ (some ⟨b0, off0, none⟩) [v, u]) (s_v : Small v) (s_u : Small u) :
    Calls Tryz.prog 71 #[.slice (some ⟨b0, off0, none⟩) 2 cap, .slice (some ⟨g, 0, none⟩) 2 c] w fun e w' => NumOut w0 [v, u] gx gy T ((vNum v).n, (vNum u).n) e w' := by
  go_enter Tryz.func71, Tryz.ntmps71
  refine wp_seq_k fun K1 hK1 => ?_
  refine rgn [yNew w.heap.size (.cells #[.int .u8 0, .int .i64 0, .string ⟨[].toArray⟩] 25 (0, 0)), yV _] 2 31 rfl (by kernel_rfl) (by kernel_rfl) (
    armP (wn rfl) (fun aa ww hk bs hd => xalloc rfl (by kernel_rfl)) rfl <|
    armS (wn rfl) (fun aa ww hk bs hd => xassign rfl rfl) rfl <|
    arm0) fun fa fw hk bs hv ap => ?_
  obtain ⟨z, q, ov⟩ := aft hk bs rfl rfl OW
  have s0 := bs.get 0 rfl rfl
  have s1 := bs.get 1 rfl rfl
  obtain ⟨gb1, s4, bgb1, hgb1⟩ := gotP hv 0 rfl rfl rfl
  have ov := ov.cons hgb1 (Nat.le_trans OW.kept.size bgb1) (OW.below bgb1)
  have s5 := got hv 1 rfl rfl rfl
  have ow := ov
  clear hv ap bs hk ov
  refine wl_then (hK1 _ _ ?_)
  try clear hK1 K1
  refine wp_seq_k fun K2 hK2 => ?_
  refine wp_seq_k fun K3 hK3 => ?_
  refine rgn [yV _, yV _, yV _] 3 31 z (by kernel_rfl) (by kernel_rfl) (
    mvS s1 rfl rfl rfl rfl <|
    armS (wn rfl) (fun aa ww hk bs hd => xlen Tryz.underlying109 rfl (dep hd 0 rfl rfl rfl)) rfl <|
    armS (wn rfl) (fun aa ww hk bs hd => xmove rfl rfl) rfl <|
    arm0) fun fa fw hk bs hv ap => ?_
  obtain ⟨z, q, ov⟩ := aft hk bs z q ow
  have s0 := bs.get 0 rfl s0
  have s4 := bs.get 4 rfl s4
  have s5 := bs.get 5 rfl s5
  have s9 := got hv 0 rfl rfl rfl
  have s10 := got hv 1 rfl rfl rfl
  have s11 := got hv 2 rfl rfl rfl
  have ow := ov
  clear hv ap bs hk ov
  refine wl_then (hK3 _ _ ?_)
  try clear hK3 K3
  refine wp_block ?_
  refine wp_loop_rounds 3 ?_
  refine rnd1 ?_
  refine wp_seq_k fun K4 hK4 => ?_
  refine rgn [yV (.bool true)] 1 31 z (by kernel_rfl) (by kernel_rfl) (
    armE (wn rfl) (fun aa ww hk bs hd => xlss rfl (bs.get 11 rfl s11) (bs.get 10 rfl s10)) (congrArg Value.bool rfl) rfl <|
    arm0) fun fa fw hk bs hv ap => ?_
  obtain ⟨z, q, ov⟩ := aft hk bs z q ow
  have s0 := bs.get 0 rfl s0
  have s4 := bs.get 4 rfl s4
  have s5 := bs.get 5 rfl s5
  have s9 := bs.get 9 rfl s9
  have s10 := bs.get 10 rfl s10
  have s11 := bs.get 11 rfl s11
  have s12 := got hv 0 rfl rfl rfl
  have ow := ov
  clear hv ap bs hk ov
  refine wl_then (hK4 _ _ ?_)
  try clear hK4 K4
  refine wp_seq_k fun K5 hK5 => ?_
  refine wp_cond_true (s12) ?_
  refine wp_skip ?_
  refine then_n (hK5 _ _ ?_)
  try clear hK5 K5
  refine wp_seq_k fun K6 hK6 => ?_
  refine wp_block ?_
  refine wp_seq_k fun K7 hK7 => ?_
  refine rgn [yV _, yV _, yV _, yV _, yV _] 5 31 z (by kernel_rfl) (by kernel_rfl) (
    mvS s11 rfl rfl rfl rfl <|
    armS (wn rfl) (fun aa ww hk bs hd => xindexAddr (u := .slice (some ⟨g, 0, none⟩) 2 c) (z := .int .i64 0) rfl (bs.get 9 rfl s9) (bs.get 11 rfl s11) (run_place1 (off := 0) (k := 0) Tryz.underlying109 (by kernel_rfl) (by decide))) rfl <|
    armS (wn rfl) (fun aa ww hk bs hd => xloadB rfl (by kernel_rfl) (dep hd 1 rfl rfl rfl) ((ow.keep hk).box 1 rfl) rfl) rfl <|
    asD 0 rfl rfl rfl rfl rfl rfl <|
    asD 2 rfl rfl rfl rfl rfl rfl <|
    arm0) fun fa fw hk bs hv ap => ?_
  obtain ⟨z, q, ov⟩ := aft hk bs z q ow
  have s0 := bs.get 0 rfl s0
  have s4 := bs.get 4 rfl s4
  have s5 := bs.get 5 rfl s5
  have s9 := bs.get 9 rfl s9
  have s10 := bs.get 10 rfl s10
  have s11 := bs.get 11 rfl s11
  have s12 := bs.get 12 rfl s12
  have s13 := got hv 0 rfl rfl rfl
  have s14 := got hv 1 rfl rfl rfl
  have s15 := got hv 2 rfl rfl rfl
  have s6 := got hv 3 rfl rfl rfl
  have s7 := got hv 4 rfl rfl rfl
  have ow := ov
  clear hv ap bs hk ov
  refine wl_then (hK7 _ _ ?_)
  try clear hK7 K7
  refine wp_seq_k fun K8 hK8 => ?_
  refine rgn [yV _, yV _, yV _, yV (aggV v), yV (aggV (vNum v)), yNew fw.heap.size (.cells #[.int .u8 0, .int .i64 0, .string ⟨[].toArray⟩] 25 (0, 0))] 6 31 z (by kernel_rfl) (by kernel_rfl) (
    mvS s0 rfl rfl rfl rfl <|
    mvS s6 rfl rfl rfl rfl <|
    armS (wn rfl) (fun aa ww hk bs hd => xplaceV rfl (k := 0) (dep hd 0 rfl rfl rfl) (dep hd 1 rfl rfl rfl) (Nat.le_of_ble_eq_true rfl)) rfl <|
    armS (wn rfl) (fun aa ww hk bs hd => xatV rfl (l := [v, u]) (k := 0) (dep hd 2 rfl rfl rfl) (hr _ (ow.keep hk).tail.tail.tail.tail) (Nat.le_of_ble_eq_true rfl)) rfl <|
    armC (wn rfl) (fun aa ww hk bs hd => xcall1 rfl (dep hd 3 rfl rfl rfl) (en_val_ToNumber _ _)) (fun aa ww hk bs hd => tonum_any v ww mx (HM.kept (ow.keep hk).kept) s_v.1 s_v.2) rfl <|
    armP (wn rfl) (fun aa ww hk bs hd => xalloc rfl (by kernel_rfl)) rfl <|
    arm0) fun fa fw hk bs hv ap => ?_
  obtain ⟨z, q, ov⟩ := aft hk bs z q ow
  have s0 := bs.get 0 rfl s0
  have s4 := bs.get 4 rfl s4
  have s5 := bs.get 5 rfl s5
  have s9 := bs.get 9 rfl s9
  have s10 := bs.get 10 rfl s10
  have s11 := bs.get 11 rfl s11
  have s12 := bs.get 12 rfl s12
  have s13 := bs.get 13 rfl s13
  have s14 := bs.get 14 rfl s14
  have s15 := bs.get 15 rfl s15
  have s6 := bs.get 6 rfl s6
  have s7 := bs.get 7 rfl s7
  have s16 := got hv 0 rfl rfl rfl
  have s17 := got hv 1 rfl rfl rfl
  have s18 := got hv 2 rfl rfl rfl
  have s19 := got hv 3 rfl rfl rfl
  have s20 := got hv 4 rfl rfl rfl
  obtain ⟨gb2, s8, bgb2, hgb2⟩ := gotP hv 5 rfl rfl rfl
  have ov := ov.cons hgb2 (Nat.le_trans ow.kept.size bgb2) (ow.below bgb2)
  have ow := ov
  clear hv ap bs hk ov
  refine wl_store ow 0 0 (want0 rfl) rfl rfl s8 s20 (by kernel_rfl) rfl rfl rfl fun fw ow => ?_
  refine wl_then (hK8 _ _ ?_)
  try clear hK8 K8
  refine wp_seq_k fun K9 hK9 => ?_
  refine wp_seq_k fun K10 hK10 => ?_
  refine rgn [yV (.pointer (some ⟨gb2, 0, none⟩)), yV _, yV _] 3 31 z (by kernel_rfl) (by kernel_rfl) (
    armS (wn rfl) (fun aa ww hk bs hd => xfieldAddr rfl (bs.get 8 rfl s8) (by kernel_rfl)) rfl <|
    armS (wn rfl) (fun aa ww hk bs hd => xloadB rfl (by kernel_rfl) (dep hd 0 rfl rfl rfl) ((ow.keep hk).box 0 rfl) rfl) rfl <|
    armS (wn rfl) (fun aa ww hk bs hd => xeqi rfl (dep hd 1 rfl rfl rfl) rfl) rfl <|
    arm0) fun fa fw hk bs hv ap => ?_
  obtain ⟨z, q, ov⟩ := aft hk bs z q ow
  have s0 := bs.get 0 rfl s0
  have s4 := bs.get 4 rfl s4
  have s5 := bs.get 5 rfl s5
  have s9 := bs.get 9 rfl s9
  have s10 := bs.get 10 rfl s10
  have s11 := bs.get 11 rfl s11
  have s12 := bs.get 12 rfl s12
  have s13 := bs.get 13 rfl s13
  have s14 := bs.get 14 rfl s14
  have s15 := bs.get 15 rfl s15
  have s6 := bs.get 6 rfl s6
  have s7 := bs.get 7 rfl s7
  have s16 := bs.get 16 rfl s16
  have s17 := bs.get 17 rfl s17
  have s18 := bs.get 18 rfl s18
  have s19 := bs.get 19 rfl s19
  have s20 := bs.get 20 rfl s20
  have s8 := bs.get 8 rfl s8
  have s21 := got hv 0 rfl rfl rfl
  have s22 := got hv 1 rfl rfl rfl
  have s23 := got hv 2 rfl rfl rfl
  have ow := ov
  clear hv ap bs hk ov
  refine wl_then (hK10 _ _ ?_)
  try clear hK10 K10
  by_cases hc1 : ((vNum v).k : Int) = (4 : Int)
  ·refine wp_cond_true (s23.trans (congrArg Value.bool ((decide_eq_true_iff).2 hc1))) ?_
   have hye0 := isE_yes hc1
   refine wp_seq_k fun K11 hK11 => ?_
   refine rgn [yV (aggV (vNum v))] 1 31 z (by kernel_rfl) (by kernel_rfl) (
     armS (wn rfl) (fun aa ww hk bs hd => xloadN 3 rfl (by kernel_rfl) (by kernel_rfl) (bs.get 8 rfl s8) ((ow.keep hk).box 0 rfl) (Nat.le_of_ble_eq_true rfl) rfl) rfl <|
     arm0) fun fa fw hk bs hv ap => ?_
   obtain ⟨z, q, ov⟩ := aft hk bs z q ow
   have s0 := bs.get 0 rfl s0
   have s4 := bs.get 4 rfl s4
   have s5 := bs.get 5 rfl s5
   have s9 := bs.get 9 rfl s9
   have s10 := bs.get 10 rfl s10
   have s11 := bs.get 11 rfl s11
   have s12 := bs.get 12 rfl s12
   have s13 := bs.get 13 rfl s13
   have s14 := bs.get 14 rfl s14
   have s15 := bs.get 15 rfl s15
   have s6 := bs.get 6 rfl s6
   have s7 := bs.get 7 rfl s7
   have s16 := bs.get 16 rfl s16
   have s17 := bs.get 17 rfl s17
   have s18 := bs.get 18 rfl s18
   have s19 := bs.get 19 rfl s19
   have s20 := bs.get 20 rfl s20
   have s8 := bs.get 8 rfl s8
   have s21 := bs.get 21 rfl s21
   have s22 := bs.get 22 rfl s22
   have s23 := bs.get 23 rfl s23
   have s24 := got hv 0 rfl rfl rfl
   have ow := ov
   clear hv ap bs hk ov
   refine wl_store ow 1 0 (want0 rfl) rfl rfl s4 s24 (by kernel_rfl) rfl rfl rfl fun fw ow => ?_
   refine wl_value (v := .bool false) (want0 rfl) (xassign rfl rfl) ?_
   refine gt22 (put_size z) (put_def q) ow 0 (pb 5 s0 rfl) 4 (pb 5 s4 rfl) 9 (pb 5 s9 rfl) 10 (pb 5 s10 rfl) 11 (pb 5 s11 rfl) 12 (pb 5 s12 rfl) 13 (pb 5 s13 rfl) 14 (pb 5 s14 rfl) 15 (pb 5 s15 rfl) 6 (pb 5 s6 rfl) 7 (pb 5 s7 rfl) 16 (pb 5 s16 rfl) 17 (pb 5 s17 rfl) 18 (pb 5 s18 rfl) 19 (pb 5 s19 rfl) 20 (pb 5 s20 rfl) 8 (pb 5 s8 rfl) 21 (pb 5 s21 rfl) 22 (pb 5 s22 rfl) 23 (pb 5 s23 rfl) 24 (pb 5 s24 rfl) 5 (put_in (t := 5) z rfl) fun fa fw z q ow s0 s4 s9 s10 s11 s12 s13 s14 s15 s6 s7 s16 s17 s18 s19 s20 s8 s21 s22 s23 s24 s5 => ?_
   refine wl_then (hK11 _ _ ?_)
   try clear hK11 K11
   refine wp_ret ?_
   refine then_r ?_
   refine block_r ?_
   refine then_r ?_
   refine then_r ?_
   refine block_r ?_
   refine then_r ?_
   refine resultsL (v := .tuple #[aggV (vNum v), .bool false]) rfl (.cons (res_cell (n := 3) _ s4 (by kernel_rfl) (by kernel_rfl) (ow.box 1 rfl) (Nat.le_of_ble_eq_true rfl) rfl) (.cons (res_tmp s5) .nil)) rfl q ?_
   exact ⟨_, false, rfl, Or.inl ⟨rfl, first_hit hye0, ow.tail.tail.tail.tail.tail⟩⟩
  refine wp_cond_false (s23.trans (congrArg Value.bool (Bool.eq_false_iff.2 (fun c => hc1 ((decide_eq_true_iff).1 c))))) ?_
  have hne0 := isE_no hc1
  refine wp_skip ?_
  refine then_n (hK9 _ _ ?_)
  try clear hK9 K9
  refine rgn [yV _, yV (.pointer (some ⟨gb2, 1, none⟩)), yV _, yV _] 4 31 z (by kernel_rfl) (by kernel_rfl) (
    mvS s7 rfl rfl rfl rfl <|
    armS (wn rfl) (fun aa ww hk bs hd => xfieldAddr rfl (bs.get 8 rfl s8) (by kernel_rfl)) rfl <|
    armS (wn rfl) (fun aa ww hk bs hd => xloadB rfl (by kernel_rfl) (dep hd 1 rfl rfl rfl) ((ow.keep hk).box 0 rfl) rfl) rfl <|
    armS (wn rfl) (fun aa ww hk bs hd => xnilC rfl (dep hd 0 rfl rfl rfl)) rfl <|
    arm0) fun fa fw hk bs hv ap => ?_
  obtain ⟨z, q, ov⟩ := aft hk bs z q ow
  have s0 := bs.get 0 rfl s0
  have s4 := bs.get 4 rfl s4
  have s5 := bs.get 5 rfl s5
  have s9 := bs.get 9 rfl s9
  have s10 := bs.get 10 rfl s10
  have s11 := bs.get 11 rfl s11
  have s12 := bs.get 12 rfl s12
  have s13 := bs.get 13 rfl s13
  have s14 := bs.get 14 rfl s14
  have s15 := bs.get 15 rfl s15
  have s6 := bs.get 6 rfl s6
  have s7 := bs.get 7 rfl s7
  have s16 := bs.get 16 rfl s16
  have s17 := bs.get 17 rfl s17
  have s18 := bs.get 18 rfl s18
  have s19 := bs.get 19 rfl s19
  have s20 := bs.get 20 rfl s20
  have s8 := bs.get 8 rfl s8
  have s21 := bs.get 21 rfl s21
  have s22 := bs.get 22 rfl s22
  have s23 := bs.get 23 rfl s23
  have s25 := got hv 0 rfl rfl rfl
  have s26 := got hv 1 rfl rfl rfl
  have s27 := got hv 2 rfl rfl rfl
  have s28 := got hv 3 rfl rfl rfl
  have ow := ov
  clear hv ap bs hk ov
  refine wl_store ow 4 0 (want0 rfl) rfl rfl s28 s27 (by kernel_rfl) rfl rfl rfl fun fw ow => ?_
  refine wl_end ?_
  refine block_n ?_
  refine then_n (hK6 _ _ ?_)
  try clear hK6 K6
  refine rgn [yV (.int .i64 1)] 1 31 z (by kernel_rfl) (by kernel_rfl) (
    armS (wn rfl) (fun aa ww hk bs hd => xadd (Or.inl rfl) rfl (bs.get 11 rfl s11) rfl (by omega) (by omega)) rfl <|
    arm0) fun fa fw hk bs hv ap => ?_
  obtain ⟨z, q, ov⟩ := aft hk bs z q ow
  have s0 := bs.get 0 rfl s0
  have s4 := bs.get 4 rfl s4
  have s5 := bs.get 5 rfl s5
  have s9 := bs.get 9 rfl s9
  have s10 := bs.get 10 rfl s10
  have s11 := bs.get 11 rfl s11
  have s12 := bs.get 12 rfl s12
  have s13 := bs.get 13 rfl s13
  have s14 := bs.get 14 rfl s14
  have s15 := bs.get 15 rfl s15
  have s6 := bs.get 6 rfl s6
  have s7 := bs.get 7 rfl s7
  have s16 := bs.get 16 rfl s16
  have s17 := bs.get 17 rfl s17
  have s18 := bs.get 18 rfl s18
  have s19 := bs.get 19 rfl s19
  have s20 := bs.get 20 rfl s20
  have s8 := bs.get 8 rfl s8
  have s21 := bs.get 21 rfl s21
  have s22 := bs.get 22 rfl s22
  have s23 := bs.get 23 rfl s23
  have s25 := bs.get 25 rfl s25
  have s26 := bs.get 26 rfl s26
  have s27 := bs.get 27 rfl s27
  have s28 := bs.get 28 rfl s28
  have s29 := got hv 0 rfl rfl rfl
  have ow := ov
  clear hv ap bs hk ov
  refine wl_value (v := .int .i64 1) (want0 rfl) (xmove rfl s29) ?_
  refine gt26 (put_size z) (put_def q) ow 0 (pb 11 s0 rfl) 4 (pb 11 s4 rfl) 5 (pb 11 s5 rfl) 9 (pb 11 s9 rfl) 10 (pb 11 s10 rfl) 12 (pb 11 s12 rfl) 13 (pb 11 s13 rfl) 14 (pb 11 s14 rfl) 15 (pb 11 s15 rfl) 6 (pb 11 s6 rfl) 7 (pb 11 s7 rfl) 16 (pb 11 s16 rfl) 17 (pb 11 s17 rfl) 18 (pb 11 s18 rfl) 19 (pb 11 s19 rfl) 20 (pb 11 s20 rfl) 8 (pb 11 s8 rfl) 21 (pb 11 s21 rfl) 22 (pb 11 s22 rfl) 23 (pb 11 s23 rfl) 25 (pb 11 s25 rfl) 26 (pb 11 s26 rfl) 27 (pb 11 s27 rfl) 28 (pb 11 s28 rfl) 29 (pb 11 s29 rfl) 11 (put_in (t := 11) z rfl) fun fa fw z q ow s0 s4 s5 s9 s10 s12 s13 s14 s15 s6 s7 s16 s17 s18 s19 s20 s8 s21 s22 s23 s25 s26 s27 s28 s29 s11 => ?_
  refine wl_end ?_
  refine then_n ?_
  refine rnd1 ?_
  refine wp_seq_k fun K12 hK12 => ?_
  refine rgn [yV (.bool true)] 1 31 z (by kernel_rfl) (by kernel_rfl) (
    armE (wn rfl) (fun aa ww hk bs hd => xlss rfl (bs.get 11 rfl s11) (bs.get 10 rfl s10)) (congrArg Value.bool rfl) rfl <|
    arm0) fun fa fw hk bs hv ap => ?_
  obtain ⟨z, q, ov⟩ := aft hk bs z q ow
  have s0 := bs.get 0 rfl s0
  have s4 := bs.get 4 rfl s4
  have s5 := bs.get 5 rfl s5
  have s9 := bs.get 9 rfl s9
  have s10 := bs.get 10 rfl s10
  have s13 := bs.get 13 rfl s13
  have s14 := bs.get 14 rfl s14
  have s15 := bs.get 15 rfl s15
  have s6 := bs.get 6 rfl s6
  have s7 := bs.get 7 rfl s7
  have s16 := bs.get 16 rfl s16
  have s17 := bs.get 17 rfl s17
  have s18 := bs.get 18 rfl s18
  have s19 := bs.get 19 rfl s19
  have s20 := bs.get 20 rfl s20
  have s8 := bs.get 8 rfl s8
  have s21 := bs.get 21 rfl s21
  have s22 := bs.get 22 rfl s22
  have s23 := bs.get 23 rfl s23
  have s25 := bs.get 25 rfl s25
  have s26 := bs.get 26 rfl s26
  have s27 := bs.get 27 rfl s27
  have s28 := bs.get 28 rfl s28
  have s29 := bs.get 29 rfl s29
  have s11 := bs.get 11 rfl s11
  have s12 := got hv 0 rfl rfl rfl
  have ow := ov
  clear hv ap bs hk ov
  refine wl_then (hK12 _ _ ?_)
  try clear hK12 K12
  refine wp_seq_k fun K13 hK13 => ?_
  refine wp_cond_true (s12) ?_
  refine wp_skip ?_
  refine then_n (hK13 _ _ ?_)
  try clear hK13 K13
  refine wp_seq_k fun K14 hK14 => ?_
  refine wp_block ?_
  refine wp_seq_k fun K15 hK15 => ?_
  refine rgn [yV _, yV _, yV _, yV _, yV _] 5 31 z (by kernel_rfl) (by kernel_rfl) (
    mvS s11 rfl rfl rfl rfl <|
    armS (wn rfl) (fun aa ww hk bs hd => xindexAddr (u := .slice (some ⟨g, 0, none⟩) 2 c) (z := .int .i64 1) rfl (bs.get 9 rfl s9) (bs.get 11 rfl s11) (run_place1 (off := 0) (k := 1) Tryz.underlying109 (by kernel_rfl) (by decide))) rfl <|
    armS (wn rfl) (fun aa ww hk bs hd => xloadB rfl (by kernel_rfl) (dep hd 1 rfl rfl rfl) ((ow.keep hk).box 2 rfl) rfl) rfl <|
    asD 0 rfl rfl rfl rfl rfl rfl <|
    asD 2 rfl rfl rfl rfl rfl rfl <|
    arm0) fun fa fw hk bs hv ap => ?_
  obtain ⟨z, q, ov⟩ := aft hk bs z q ow
  have s0 := bs.get 0 rfl s0
  have s4 := bs.get 4 rfl s4
  have s5 := bs.get 5 rfl s5
  have s9 := bs.get 9 rfl s9
  have s10 := bs.get 10 rfl s10
  have s16 := bs.get 16 rfl s16
  have s17 := bs.get 17 rfl s17
  have s18 := bs.get 18 rfl s18
  have s19 := bs.get 19 rfl s19
  have s20 := bs.get 20 rfl s20
  have s8 := bs.get 8 rfl s8
  have s21 := bs.get 21 rfl s21
  have s22 := bs.get 22 rfl s22
  have s23 := bs.get 23 rfl s23
  have s25 := bs.get 25 rfl s25
  have s26 := bs.get 26 rfl s26
  have s27 := bs.get 27 rfl s27
  have s28 := bs.get 28 rfl s28
  have s29 := bs.get 29 rfl s29
  have s11 := bs.get 11 rfl s11
  have s12 := bs.get 12 rfl s12
  have s13 := got hv 0 rfl rfl rfl
  have s14 := got hv 1 rfl rfl rfl
  have s15 := got hv 2 rfl rfl rfl
  have s6 := got hv 3 rfl rfl rfl
  have s7 := got hv 4 rfl rfl rfl
  have ow := ov
  clear hv ap bs hk ov
  refine wl_then (hK15 _ _ ?_)
  try clear hK15 K15
  refine wp_seq_k fun K16 hK16 => ?_
  refine rgn [yV _, yV _, yV _, yV (aggV u), yV (aggV (vNum u)), yNew fw.heap.size (.cells #[.int .u8 0, .int .i64 0, .string ⟨[].toArray⟩] 25 (0, 0))] 6 31 z (by kernel_rfl) (by kernel_rfl) (
    mvS s0 rfl rfl rfl rfl <|
    mvS s6 rfl rfl rfl rfl <|
    armS (wn rfl) (fun aa ww hk bs hd => xplaceV rfl (k := 1) (dep hd 0 rfl rfl rfl) (dep hd 1 rfl rfl rfl) (Nat.le_of_ble_eq_true rfl)) rfl <|
    armS (wn rfl) (fun aa ww hk bs hd => xatV rfl (l := [v, u]) (k := 1) (dep hd 2 rfl rfl rfl) (hr _ (ow.keep hk).tail.tail.tail.tail.tail) (Nat.le_of_ble_eq_true rfl)) rfl <|
    armC (wn rfl) (fun aa ww hk bs hd => xcall1 rfl (dep hd 3 rfl rfl rfl) (en_val_ToNumber _ _)) (fun aa ww hk bs hd => tonum_any u ww mx (HM.kept (ow.keep hk).kept) s_u.1 s_u.2) rfl <|
    armP (wn rfl) (fun aa ww hk bs hd => xalloc rfl (by kernel_rfl)) rfl <|
    arm0) fun fa fw hk bs hv ap => ?_
  obtain ⟨z, q, ov⟩ := aft hk bs z q ow
  have s0 := bs.get 0 rfl s0
  have s4 := bs.get 4 rfl s4
  have s5 := bs.get 5 rfl s5
  have s9 := bs.get 9 rfl s9
  have s10 := bs.get 10 rfl s10
  have s21 := bs.get 21 rfl s21
  have s22 := bs.get 22 rfl s22
  have s23 := bs.get 23 rfl s23
  have s25 := bs.get 25 rfl s25
  have s26 := bs.get 26 rfl s26
  have s27 := bs.get 27 rfl s27
  have s28 := bs.get 28 rfl s28
  have s29 := bs.get 29 rfl s29
  have s11 := bs.get 11 rfl s11
  have s12 := bs.get 12 rfl s12
  have s13 := bs.get 13 rfl s13
  have s14 := bs.get 14 rfl s14
  have s15 := bs.get 15 rfl s15
  have s6 := bs.get 6 rfl s6
  have s7 := bs.get 7 rfl s7
  have s16 := got hv 0 rfl rfl rfl
  have s17 := got hv 1 rfl rfl rfl
  have s18 := got hv 2 rfl rfl rfl
  have s19 := got hv 3 rfl rfl rfl
  have s20 := got hv 4 rfl rfl rfl
  obtain ⟨gb3, s8, bgb3, hgb3⟩ := gotP hv 5 rfl rfl rfl
  have ov := ov.cons hgb3 (Nat.le_trans ow.kept.size bgb3) (ow.below bgb3)
  have ow := ov
  clear hv ap bs hk ov
  refine wl_store ow 0 0 (want0 rfl) rfl rfl s8 s20 (by kernel_rfl) rfl rfl rfl fun fw ow => ?_
  refine wl_then (hK16 _ _ ?_)
  try clear hK16 K16
  refine wp_seq_k fun K17 hK17 => ?_
  refine wp_seq_k fun K18 hK18 => ?_
  refine rgn [yV (.pointer (some ⟨gb3, 0, none⟩)), yV _, yV _] 3 31 z (by kernel_rfl) (by kernel_rfl) (
    armS (wn rfl) (fun aa ww hk bs hd => xfieldAddr rfl (bs.get 8 rfl s8) (by kernel_rfl)) rfl <|
    armS (wn rfl) (fun aa ww hk bs hd => xloadB rfl (by kernel_rfl) (dep hd 0 rfl rfl rfl) ((ow.keep hk).box 0 rfl) rfl) rfl <|
    armS (wn rfl) (fun aa ww hk bs hd => xeqi rfl (dep hd 1 rfl rfl rfl) rfl) rfl <|
    arm0) fun fa fw hk bs hv ap => ?_
  obtain ⟨z, q, ov⟩ := aft hk bs z q ow
  have s0 := bs.get 0 rfl s0
  have s4 := bs.get 4 rfl s4
  have s5 := bs.get 5 rfl s5
  have s9 := bs.get 9 rfl s9
  have s10 := bs.get 10 rfl s10
  have s25 := bs.get 25 rfl s25
  have s26 := bs.get 26 rfl s26
  have s27 := bs.get 27 rfl s27
  have s28 := bs.get 28 rfl s28
  have s29 := bs.get 29 rfl s29
  have s11 := bs.get 11 rfl s11
  have s12 := bs.get 12 rfl s12
  have s13 := bs.get 13 rfl s13
  have s14 := bs.get 14 rfl s14
  have s15 := bs.get 15 rfl s15
  have s6 := bs.get 6 rfl s6
  have s7 := bs.get 7 rfl s7
  have s16 := bs.get 16 rfl s16
  have s17 := bs.get 17 rfl s17
  have s18 := bs.get 18 rfl s18
  have s19 := bs.get 19 rfl s19
  have s20 := bs.get 20 rfl s20
  have s8 := bs.get 8 rfl s8
  have s21 := got hv 0 rfl rfl rfl
  have s22 := got hv 1 rfl rfl rfl
  have s23 := got hv 2 rfl rfl rfl
  have ow := ov
  clear hv ap bs hk ov
  refine wl_then (hK18 _ _ ?_)
  try clear hK18 K18
  by_cases hc2 : ((vNum u).k : Int) = (4 : Int)
  ·refine wp_cond_true (s23.trans (congrArg Value.bool ((decide_eq_true_iff).2 hc2))) ?_
   have hye1 := isE_yes hc2
   refine wp_seq_k fun K19 hK19 => ?_
   refine rgn [yV (aggV (vNum u))] 1 31 z (by kernel_rfl) (by kernel_rfl) (
     armS (wn rfl) (fun aa ww hk bs hd => xloadN 3 rfl (by kernel_rfl) (by kernel_rfl) (bs.get 8 rfl s8) ((ow.keep hk).box 0 rfl) (Nat.le_of_ble_eq_true rfl) rfl) rfl <|
     arm0) fun fa fw hk bs hv ap => ?_
   obtain ⟨z, q, ov⟩ := aft hk bs z q ow
   have s0 := bs.get 0 rfl s0
   have s4 := bs.get 4 rfl s4
   have s5 := bs.get 5 rfl s5
   have s9 := bs.get 9 rfl s9
   have s10 := bs.get 10 rfl s10
   have s25 := bs.get 25 rfl s25
   have s26 := bs.get 26 rfl s26
   have s27 := bs.get 27 rfl s27
   have s28 := bs.get 28 rfl s28
   have s29 := bs.get 29 rfl s29
   have s11 := bs.get 11 rfl s11
   have s12 := bs.get 12 rfl s12
   have s13 := bs.get 13 rfl s13
   have s14 := bs.get 14 rfl s14
   have s15 := bs.get 15 rfl s15
   have s6 := bs.get 6 rfl s6
   have s7 := bs.get 7 rfl s7
   have s16 := bs.get 16 rfl s16
   have s17 := bs.get 17 rfl s17
   have s18 := bs.get 18 rfl s18
   have s19 := bs.get 19 rfl s19
   have s20 := bs.get 20 rfl s20
   have s8 := bs.get 8 rfl s8
   have s21 := bs.get 21 rfl s21
   have s22 := bs.get 22 rfl s22
   have s23 := bs.get 23 rfl s23
   have s24 := got hv 0 rfl rfl rfl
   have ow := ov
   clear hv ap bs hk ov
   refine wl_store ow 2 0 (want0 rfl) rfl rfl s4 s24 (by kernel_rfl) rfl rfl rfl fun fw ow => ?_
   refine wl_value (v := .bool false) (want0 rfl) (xassign rfl rfl) ?_
   refine gt27 (put_size z) (put_def q) ow 0 (pb 5 s0 rfl) 4 (pb 5 s4 rfl) 9 (pb 5 s9 rfl) 10 (pb 5 s10 rfl) 25 (pb 5 s25 rfl) 26 (pb 5 s26 rfl) 27 (pb 5 s27 rfl) 28 (pb 5 s28 rfl) 29 (pb 5 s29 rfl) 11 (pb 5 s11 rfl) 12 (pb 5 s12 rfl) 13 (pb 5 s13 rfl) 14 (pb 5 s14 rfl) 15 (pb 5 s15 rfl) 6 (pb 5 s6 rfl) 7 (pb 5 s7 rfl) 16 (pb 5 s16 rfl) 17 (pb 5 s17 rfl) 18 (pb 5 s18 rfl) 19 (pb 5 s19 rfl) 20 (pb 5 s20 rfl) 8 (pb 5 s8 rfl) 21 (pb 5 s21 rfl) 22 (pb 5 s22 rfl) 23 (pb 5 s23 rfl) 24 (pb 5 s24 rfl) 5 (put_in (t := 5) z rfl) fun fa fw z q ow s0 s4 s9 s10 s25 s26 s27 s28 s29 s11 s12 s13 s14 s15 s6 s7 s16 s17 s18 s19 s20 s8 s21 s22 s23 s24 s5 => ?_
   refine wl_then (hK19 _ _ ?_)
   try clear hK19 K19
   refine wp_ret ?_
   refine then_r ?_
   refine block_r ?_
   refine then_r ?_
   refine then_r ?_
   refine block_r ?_
   refine then_r ?_
   refine resultsL (v := .tuple #[aggV (vNum u), .bool false]) rfl (.cons (res_cell (n := 3) _ s4 (by kernel_rfl) (by kernel_rfl) (ow.box 2 rfl) (Nat.le_of_ble_eq_true rfl) rfl) (.cons (res_tmp s5) .nil)) rfl q ?_
   exact ⟨_, false, rfl, Or.inl ⟨rfl, (first_miss hne0).trans (first_hit hye1), ow.tail.tail.tail.tail.tail.tail⟩⟩
  refine wp_cond_false (s23.trans (congrArg Value.bool (Bool.eq_false_iff.2 (fun c => hc2 ((decide_eq_true_iff).1 c))))) ?_
  have hne1 := isE_no hc2
  refine wp_skip ?_
  refine then_n (hK17 _ _ ?_)
  try clear hK17 K17
  refine rgn [yV _, yV (.pointer (some ⟨gb3, 1, none⟩)), yV _, yV _] 4 31 z (by kernel_rfl) (by kernel_rfl) (
    mvS s7 rfl rfl rfl rfl <|
    armS (wn rfl) (fun aa ww hk bs hd => xfieldAddr rfl (bs.get 8 rfl s8) (by kernel_rfl)) rfl <|
    armS (wn rfl) (fun aa ww hk bs hd => xloadB rfl (by kernel_rfl) (dep hd 1 rfl rfl rfl) ((ow.keep hk).box 0 rfl) rfl) rfl <|
    armS (wn rfl) (fun aa ww hk bs hd => xnilC rfl (dep hd 0 rfl rfl rfl)) rfl <|
    arm0) fun fa fw hk bs hv ap => ?_
  obtain ⟨z, q, ov⟩ := aft hk bs z q ow
  have s0 := bs.get 0 rfl s0
  have s4 := bs.get 4 rfl s4
  have s5 := bs.get 5 rfl s5
  have s9 := bs.get 9 rfl s9
  have s10 := bs.get 10 rfl s10
  have s29 := bs.get 29 rfl s29
  have s11 := bs.get 11 rfl s11
  have s12 := bs.get 12 rfl s12
  have s13 := bs.get 13 rfl s13
  have s14 := bs.get 14 rfl s14
  have s15 := bs.get 15 rfl s15
  have s6 := bs.get 6 rfl s6
  have s7 := bs.get 7 rfl s7
  have s16 := bs.get 16 rfl s16
  have s17 := bs.get 17 rfl s17
  have s18 := bs.get 18 rfl s18
  have s19 := bs.get 19 rfl s19
  have s20 := bs.get 20 rfl s20
  have s8 := bs.get 8 rfl s8
  have s21 := bs.get 21 rfl s21
  have s22 := bs.get 22 rfl s22
  have s23 := bs.get 23 rfl s23
  have s25 := got hv 0 rfl rfl rfl
  have s26 := got hv 1 rfl rfl rfl
  have s27 := got hv 2 rfl rfl rfl
  have s28 := got hv 3 rfl rfl rfl
  have ow := ov
  clear hv ap bs hk ov
  refine wl_store ow 4 0 (want0 rfl) rfl rfl s28 s27 (by kernel_rfl) rfl rfl rfl fun fw ow => ?_
  refine wl_end ?_
  refine block_n ?_
  refine then_n (hK14 _ _ ?_)
  try clear hK14 K14
  refine rgn [yV (.int .i64 2)] 1 31 z (by kernel_rfl) (by kernel_rfl) (
    armS (wn rfl) (fun aa ww hk bs hd => xadd (Or.inl rfl) rfl (bs.get 11 rfl s11) rfl (by omega) (by omega)) rfl <|
    arm0) fun fa fw hk bs hv ap => ?_
  obtain ⟨z, q, ov⟩ := aft hk bs z q ow
  have s0 := bs.get 0 rfl s0
  have s4 := bs.get 4 rfl s4
  have s5 := bs.get 5 rfl s5
  have s9 := bs.get 9 rfl s9
  have s10 := bs.get 10 rfl s10
  have s11 := bs.get 11 rfl s11
  have s12 := bs.get 12 rfl s12
  have s13 := bs.get 13 rfl s13
  have s14 := bs.get 14 rfl s14
  have s15 := bs.get 15 rfl s15
  have s6 := bs.get 6 rfl s6
  have s7 := bs.get 7 rfl s7
  have s16 := bs.get 16 rfl s16
  have s17 := bs.get 17 rfl s17
  have s18 := bs.get 18 rfl s18
  have s19 := bs.get 19 rfl s19
  have s20 := bs.get 20 rfl s20
  have s8 := bs.get 8 rfl s8
  have s21 := bs.get 21 rfl s21
  have s22 := bs.get 22 rfl s22
  have s23 := bs.get 23 rfl s23
  have s25 := bs.get 25 rfl s25
  have s26 := bs.get 26 rfl s26
  have s27 := bs.get 27 rfl s27
  have s28 := bs.get 28 rfl s28
  have s29 := got hv 0 rfl rfl rfl
  have ow := ov
  clear hv ap bs hk ov
  refine wl_value (v := .int .i64 2) (want0 rfl) (xmove rfl s29) ?_
  refine gt26 (put_size z) (put_def q) ow 0 (pb 11 s0 rfl) 4 (pb 11 s4 rfl) 5 (pb 11 s5 rfl) 9 (pb 11 s9 rfl) 10 (pb 11 s10 rfl) 12 (pb 11 s12 rfl) 13 (pb 11 s13 rfl) 14 (pb 11 s14 rfl) 15 (pb 11 s15 rfl) 6 (pb 11 s6 rfl) 7 (pb 11 s7 rfl) 16 (pb 11 s16 rfl) 17 (pb 11 s17 rfl) 18 (pb 11 s18 rfl) 19 (pb 11 s19 rfl) 20 (pb 11 s20 rfl) 8 (pb 11 s8 rfl) 21 (pb 11 s21 rfl) 22 (pb 11 s22 rfl) 23 (pb 11 s23 rfl) 25 (pb 11 s25 rfl) 26 (pb 11 s26 rfl) 27 (pb 11 s27 rfl) 28 (pb 11 s28 rfl) 29 (pb 11 s29 rfl) 11 (put_in (t := 11) z rfl) fun fa fw z q ow s0 s4 s5 s9 s10 s12 s13 s14 s15 s6 s7 s16 s17 s18 s19 s20 s8 s21 s22 s23 s25 s26 s27 s28 s29 s11 => ?_
  refine wl_end ?_
  refine then_n ?_
  refine rnd1 ?_
  refine wp_seq_k fun K20 hK20 => ?_
  refine rgn [yV (.bool false)] 1 31 z (by kernel_rfl) (by kernel_rfl) (
    armE (wn rfl) (fun aa ww hk bs hd => xlss rfl (bs.get 11 rfl s11) (bs.get 10 rfl s10)) (congrArg Value.bool rfl) rfl <|
    arm0) fun fa fw hk bs hv ap => ?_
  obtain ⟨z, q, ov⟩ := aft hk bs z q ow
  have s0 := bs.get 0 rfl s0
  have s4 := bs.get 4 rfl s4
  have s5 := bs.get 5 rfl s5
  have s9 := bs.get 9 rfl s9
  have s10 := bs.get 10 rfl s10
  have s13 := bs.get 13 rfl s13
  have s14 := bs.get 14 rfl s14
  have s15 := bs.get 15 rfl s15
  have s6 := bs.get 6 rfl s6
  have s7 := bs.get 7 rfl s7
  have s16 := bs.get 16 rfl s16
  have s17 := bs.get 17 rfl s17
  have s18 := bs.get 18 rfl s18
  have s19 := bs.get 19 rfl s19
  have s20 := bs.get 20 rfl s20
  have s8 := bs.get 8 rfl s8
  have s21 := bs.get 21 rfl s21
  have s22 := bs.get 22 rfl s22
  have s23 := bs.get 23 rfl s23
  have s25 := bs.get 25 rfl s25
  have s26 := bs.get 26 rfl s26
  have s27 := bs.get 27 rfl s27
  have s28 := bs.get 28 rfl s28
  have s29 := bs.get 29 rfl s29
  have s11 := bs.get 11 rfl s11
  have s12 := got hv 0 rfl rfl rfl
  have ow := ov
  clear hv ap bs hk ov
  refine wl_then (hK20 _ _ ?_)
  try clear hK20 K20
  refine wp_seq_k fun K21 hK21 => ?_
  refine wp_cond_false (s12) ?_
  refine wp_exit ?_
  refine then_e ?_
  refine then_e ?_
  refine block_hit ?_
  refine then_n (hK2 _ _ ?_)
  try clear hK2 K2
  refine wp_seq_k fun K22 hK22 => ?_
  refine rgn [yV (aggV (⟨0, 0, []⟩ : Vl))] 1 31 z (by kernel_rfl) (by kernel_rfl) (
    armS (wn rfl) (fun aa ww hk bs hd => xbuild (us := #[]) rfl (by simp) (by kernel_rfl)) rfl <|
    arm0) fun fa fw hk bs hv ap => ?_
  obtain ⟨z, q, ov⟩ := aft hk bs z q ow
  have s4 := bs.get 4 rfl s4
  have s5 := bs.get 5 rfl s5
  have s30 := got hv 0 rfl rfl rfl
  have ow := ov
  clear hv ap bs hk ov
  refine wl_store ow 2 0 (want0 rfl) rfl rfl s4 s30 (by kernel_rfl) rfl rfl rfl fun fw ow => ?_
  refine wl_value (v := .bool true) (want0 rfl) (xassign rfl rfl) ?_
  refine gt2 (put_size z) (put_def q) ow 4 (pb 5 s4 rfl) 5 (put_in (t := 5) z rfl) fun fa fw z q ow s4 s5 => ?_
  refine wl_then (hK22 _ _ ?_)
  try clear hK22 K22
  refine wp_ret ?_
  refine resultsL (v := .tuple #[aggV (⟨0, 0, []⟩ : Vl), .bool true]) rfl (.cons (res_cell (n := 3) _ s4 (by kernel_rfl) (by kernel_rfl) (ow.box 2 rfl) (Nat.le_of_ble_eq_true rfl) rfl) (.cons (res_tmp s5) .nil)) rfl q ?_
  exact ⟨_, true, rfl, Or.inr ⟨rfl, (first_miss hne0).trans ((first_miss hne1).trans first_nil), ow.tail.tail.tail.tail⟩⟩
set_option maxHeartbeats 4000000 in
theorem value13_any (fn : Nat) (x y : Int) (w : World) (h1 : 1 ≤ fn) (h2 : fn ≤ 8) (hx : -9223372036854775807 ≤ x ∧ x ≤ 9223372036854775807) (hy : -9223372036854775807 ≤ y ∧ y ≤ 9223372036854775807) :
    Calls Tryz.prog 72 #[.int .u8 fn, .int .i64 x, .int .i64 y] w fun e w' => e = .returned (aggV (val13 fn x y)) ∧ Kept w w' := by
  have ix : i64 x := ⟨by omega, by omega⟩
  have iy : i64 y := ⟨by omega, by omega⟩
  have it : i64 (dTrunc x) := dTrunc_in ix
  have iu : i64 (dTrunc y) := dTrunc_in iy
  have sg := sgn13_in x
  have im := mod13_in hx hy
  have ir : i64 (min (max (Int.tdiv (dTrunc y) 10000) (-20)) 4) := ⟨by omega, by omega⟩
  have it1 := it.1
  have it2 := it.2
  have iu1 := iu.1
  have iu2 := iu.2
  have im1 := im.1
  have im2 := im.2
  go_enter Tryz.func72, Tryz.ntmps72
  refine wp_seq_k fun K1 hK1 => ?_
  refine rgn [yNew w.heap.size (.cells #[.int .u8 0, .int .i64 0, .string ⟨[].toArray⟩] 25 (0, 0))] 1 69 rfl (by kernel_rfl) (by kernel_rfl) (
    armP (wn rfl) (fun aa ww hk bs hd => xalloc rfl (by kernel_rfl)) rfl <|
    arm0) fun fa fw hk bs hv ap => ?_
  obtain ⟨z, q, ov⟩ := aft hk bs rfl rfl (Own.start w)
  have s0 := bs.get 0 rfl rfl
  have s1 := bs.get 1 rfl rfl
  have s2 := bs.get 2 rfl rfl
  obtain ⟨gb1, s6, bgb1, hgb1⟩ := gotP hv 0 rfl rfl rfl
  have ov := ov.cons hgb1 (Nat.le_trans (Own.start w).kept.size bgb1) ((Own.start w).below bgb1)
  have ow := ov
  clear hv ap bs hk ov
  refine wl_then (hK1 _ _ ?_)
  try clear hK1 K1
  refine wp_seq_k fun K2 hK2 => ?_
  refine wp_seq_k fun K3 hK3 => ?_
  refine rgn [yV _] 1 69 z (by kernel_rfl) (by kernel_rfl) (
    mvS s0 rfl rfl rfl rfl <|
    arm0) fun fa fw hk bs hv ap => ?_
  obtain ⟨z, q, ov⟩ := aft hk bs z q ow
  have s1 := bs.get 1 rfl s1
  have s2 := bs.get 2 rfl s2
  have s6 := bs.get 6 rfl s6
  have s8 := got hv 0 rfl rfl rfl
  have ow := ov
  clear hv ap bs hk ov
  refine wl_then (hK3 _ _ ?_)
  try clear hK3 K3
  refine wp_block ?_
  refine wp_seq_k fun K4 hK4 => ?_
  refine rgn [yV _, yV _] 2 69 z (by kernel_rfl) (by kernel_rfl) (
    armS (wn rfl) (fun aa ww hk bs hd => xeqi rfl (bs.get 8 rfl s8) rfl) rfl <|
    asD 0 rfl rfl rfl rfl rfl rfl <|
    arm0) fun fa fw hk bs hv ap => ?_
  obtain ⟨z, q, ov⟩ := aft hk bs z q ow
  have s1 := bs.get 1 rfl s1
  have s2 := bs.get 2 rfl s2
  have s6 := bs.get 6 rfl s6
  have s8 := bs.get 8 rfl s8
  have s9 := got hv 1 rfl rfl rfl
  have ow := ov
  clear hv ap bs hk ov
  refine wl_then (hK4 _ _ ?_)
  try clear hK4 K4
  by_cases hc1 : (fn : Int) = (1 : Int)
  ·refine wp_cond_true (s9.trans (congrArg Value.bool ((decide_eq_true_iff).2 hc1))) ?_
   refine wp_seq_k fun K5 hK5 => ?_
   refine rgn [yV _, yV _, yV _, yV _, yV (aggV (vMake (max x (-x))))] 5 69 z (by kernel_rfl) (by kernel_rfl) (
     mvS s1 rfl rfl rfl rfl <|
     mvS s1 rfl rfl rfl rfl <|
     armS (wn rfl) (fun aa ww hk bs hd => xneg (Or.inr rfl) rfl (n := x) (dep hd 1 rfl rfl rfl) (by omega) (by omega)) rfl <|
     armS (wn rfl) (fun aa ww hk bs hd => xmaxI rfl (Or.inr rfl) (dep hd 0 rfl rfl rfl) (dep hd 2 rfl rfl rfl)) rfl <|
     armC (wn rfl) (fun aa ww hk bs hd => xcall1 rfl (dep hd 3 rfl rfl rfl) (en_val_Make _ _)) (fun aa ww hk bs hd => vmake_any (max x (-x)) ww (by omega) (by omega)) rfl <|
     arm0) fun fa fw hk bs hv ap => ?_
   obtain ⟨z, q, ov⟩ := aft hk bs z q ow
   have s1 := bs.get 1 rfl s1
   have s6 := bs.get 6 rfl s6
   have s15 := got hv 4 rfl rfl rfl
   have ow := ov
   clear hv ap bs hk ov
   refine wl_store ow 0 0 (want0 rfl) rfl rfl s6 s15 (by kernel_rfl) rfl rfl rfl fun fw ow => ?_
   refine wl_then (hK5 _ _ ?_)
   try clear hK5 K5
   refine wp_ret ?_
   refine block_r ?_
   refine then_r ?_
   refine results_one rfl (res_cell (n := 3) _ s6 (by kernel_rfl) (by kernel_rfl) (ow.box 0 rfl) (Nat.le_of_ble_eq_true rfl) rfl) q ?_
   exact ⟨congrArg (fun v => Ending.returned (aggV v)) (show _ = val13 fn x y by have e : fn = 1 := (by omega); subst e; rfl), ow.kept⟩
  refine wp_cond_false (s9.trans (congrArg Value.bool (Bool.eq_false_iff.2 (fun c => hc1 ((decide_eq_true_iff).1 c))))) ?_
  refine wp_seq_k fun K6 hK6 => ?_
  refine rgn [yV _, yV _] 2 69 z (by kernel_rfl) (by kernel_rfl) (
    armS (wn rfl) (fun aa ww hk bs hd => xeqi rfl (bs.get 8 rfl s8) rfl) rfl <|
    asD 0 rfl rfl rfl rfl rfl rfl <|
    arm0) fun fa fw hk bs hv ap => ?_
  obtain ⟨z, q, ov⟩ := aft hk bs z q ow
  have s1 := bs.get 1 rfl s1
  have s2 := bs.get 2 rfl s2
  have s6 := bs.get 6 rfl s6
  have s8 := bs.get 8 rfl s8
  have s16 := got hv 1 rfl rfl rfl
  have ow := ov
  clear hv ap bs hk ov
  refine wl_then (hK6 _ _ ?_)
  try clear hK6 K6
  by_cases hc2 : (fn : Int) = (2 : Int)
  ·refine wp_cond_true (s16.trans (congrArg Value.bool ((decide_eq_true_iff).2 hc2))) ?_
   refine wp_seq_k fun K7 hK7 => ?_
   refine rgn [yV _, yV (.int .i64 (sgn13 x)), yV _, yV (aggV (vMake ((sgn13 x) * 10000)))] 4 69 z (by kernel_rfl) (by kernel_rfl) (
     mvS s1 rfl rfl rfl rfl <|
     armC (wn rfl) (fun aa ww hk bs hd => xcall1 rfl (dep hd 0 rfl rfl rfl) (en_fnum_sign _ _)) (fun aa ww hk bs hd => sign13_any x ww) rfl <|
     armS (wn rfl) (fun aa ww hk bs hd => xmul (Or.inr rfl) rfl (dep hd 1 rfl rfl rfl) rfl (by omega) (by omega)) rfl <|
     armC (wn rfl) (fun aa ww hk bs hd => xcall1 rfl (dep hd 2 rfl rfl rfl) (en_val_Make _ _)) (fun aa ww hk bs hd => vmake_any ((sgn13 x) * 10000) ww (by omega) (by omega)) rfl <|
     arm0) fun fa fw hk bs hv ap => ?_
   obtain ⟨z, q, ov⟩ := aft hk bs z q ow
   have s1 := bs.get 1 rfl s1
   have s6 := bs.get 6 rfl s6
   have s21 := got hv 3 rfl rfl rfl
   have ow := ov
   clear hv ap bs hk ov
   refine wl_store ow 0 0 (want0 rfl) rfl rfl s6 s21 (by kernel_rfl) rfl rfl rfl fun fw ow => ?_
   refine wl_then (hK7 _ _ ?_)
   try clear hK7 K7
   refine wp_ret ?_
   refine block_r ?_
   refine then_r ?_
   refine results_one rfl (res_cell (n := 3) _ s6 (by kernel_rfl) (by kernel_rfl) (ow.box 0 rfl) (Nat.le_of_ble_eq_true rfl) rfl) q ?_
   exact ⟨congrArg (fun v => Ending.returned (aggV v)) (show _ = val13 fn x y by have e : fn = 2 := (by omega); subst e; rfl), ow.kept⟩
  refine wp_cond_false (s16.trans (congrArg Value.bool (Bool.eq_false_iff.2 (fun c => hc2 ((decide_eq_true_iff).1 c))))) ?_
  refine wp_seq_k fun K8 hK8 => ?_
  refine rgn [yV _, yV _] 2 69 z (by kernel_rfl) (by kernel_rfl) (
    armS (wn rfl) (fun aa ww hk bs hd => xeqi rfl (bs.get 8 rfl s8) rfl) rfl <|
    asD 0 rfl rfl rfl rfl rfl rfl <|
    arm0) fun fa fw hk bs hv ap => ?_
  obtain ⟨z, q, ov⟩ := aft hk bs z q ow
  have s1 := bs.get 1 rfl s1
  have s2 := bs.get 2 rfl s2
  have s6 := bs.get 6 rfl s6
  have s8 := bs.get 8 rfl s8
  have s22 := got hv 1 rfl rfl rfl
  have ow := ov
  clear hv ap bs hk ov
  refine wl_then (hK8 _ _ ?_)
  try clear hK8 K8
  by_cases hc3 : (fn : Int) = (3 : Int)
  ·refine wp_cond_true (s22.trans (congrArg Value.bool ((decide_eq_true_iff).2 hc3))) ?_
   refine wp_seq_k fun K9 hK9 => ?_
   refine rgn [yV _, yV (.tuple #[.int .i64 ((dFloor x).1), .bool ((dFloor x).2)]), yV _, yV _, yV (aggV (vRes ((dFloor x).1, (dFloor x).2)))] 5 69 z (by kernel_rfl) (by kernel_rfl) (
     mvS s1 rfl rfl rfl rfl <|
     armC (wn rfl) (fun aa ww hk bs hd => xcall1 rfl (dep hd 0 rfl rfl rfl) (en_dec_Floor _ _)) (fun aa ww hk bs hd => floor_any x ww (by assumption)) rfl <|
     armS (wn rfl) (fun aa ww hk bs hd => xextract rfl (dep hd 1 rfl rfl rfl) rfl) rfl <|
     armS (wn rfl) (fun aa ww hk bs hd => xextract rfl (dep hd 1 rfl rfl rfl) rfl) rfl <|
     armC (wn rfl) (fun aa ww hk bs hd => xcall2 rfl (dep hd 2 rfl rfl rfl) (dep hd 3 rfl rfl rfl) (en_fnum_result _ _)) (fun aa ww hk bs hd => result13_any ((dFloor x).1) ((dFloor x).2) ww (fun _ => by first | exact dFloor_i64 ix | exact dRound_i64 | exact dSqrt_in ix)) rfl <|
     arm0) fun fa fw hk bs hv ap => ?_
   obtain ⟨z, q, ov⟩ := aft hk bs z q ow
   have s1 := bs.get 1 rfl s1
   have s6 := bs.get 6 rfl s6
   have s28 := got hv 4 rfl rfl rfl
   have ow := ov
   clear hv ap bs hk ov
   refine wl_store ow 0 0 (want0 rfl) rfl rfl s6 s28 (by kernel_rfl) rfl rfl rfl fun fw ow => ?_
   refine wl_then (hK9 _ _ ?_)
   try clear hK9 K9
   refine wp_ret ?_
   refine block_r ?_
   refine then_r ?_
   refine results_one rfl (res_cell (n := 3) _ s6 (by kernel_rfl) (by kernel_rfl) (ow.box 0 rfl) (Nat.le_of_ble_eq_true rfl) rfl) q ?_
   exact ⟨congrArg (fun v => Ending.returned (aggV v)) (show _ = val13 fn x y by have e : fn = 3 := (by omega); subst e; rfl), ow.kept⟩
  refine wp_cond_false (s22.trans (congrArg Value.bool (Bool.eq_false_iff.2 (fun c => hc3 ((decide_eq_true_iff).1 c))))) ?_
  refine wp_seq_k fun K10 hK10 => ?_
  refine rgn [yV _, yV _] 2 69 z (by kernel_rfl) (by kernel_rfl) (
    armS (wn rfl) (fun aa ww hk bs hd => xeqi rfl (bs.get 8 rfl s8) rfl) rfl <|
    asD 0 rfl rfl rfl rfl rfl rfl <|
    arm0) fun fa fw hk bs hv ap => ?_
  obtain ⟨z, q, ov⟩ := aft hk bs z q ow
  have s1 := bs.get 1 rfl s1
  have s2 := bs.get 2 rfl s2
  have s6 := bs.get 6 rfl s6
  have s8 := bs.get 8 rfl s8
  have s29 := got hv 1 rfl rfl rfl
  have ow := ov
  clear hv ap bs hk ov
  refine wl_then (hK10 _ _ ?_)
  try clear hK10 K10
  by_cases hc4 : (fn : Int) = (4 : Int)
  ·refine wp_cond_true (s29.trans (congrArg Value.bool ((decide_eq_true_iff).2 hc4))) ?_
   refine wp_seq_k fun K11 hK11 => ?_
   refine rgn [yV _, yV (.int .i64 (dTrunc x)), yV (aggV (vMake (dTrunc x)))] 3 69 z (by kernel_rfl) (by kernel_rfl) (
     mvS s1 rfl rfl rfl rfl <|
     armC (wn rfl) (fun aa ww hk bs hd => xcall1 rfl (dep hd 0 rfl rfl rfl) (en_dec_Trunc _ _)) (fun aa ww hk bs hd => same_kept (trunc_any x ww (by assumption))) rfl <|
     armC (wn rfl) (fun aa ww hk bs hd => xcall1 rfl (dep hd 1 rfl rfl rfl) (en_val_Make _ _)) (fun aa ww hk bs hd => vmake_any (dTrunc x) ww (by omega) (by omega)) rfl <|
     arm0) fun fa fw hk bs hv ap => ?_
   obtain ⟨z, q, ov⟩ := aft hk bs z q ow
   have s1 := bs.get 1 rfl s1
   have s6 := bs.get 6 rfl s6
   have s33 := got hv 2 rfl rfl rfl
   have ow := ov
   clear hv ap bs hk ov
   refine wl_store ow 0 0 (want0 rfl) rfl rfl s6 s33 (by kernel_rfl) rfl rfl rfl fun fw ow => ?_
   refine wl_then (hK11 _ _ ?_)
   try clear hK11 K11
   refine wp_ret ?_
   refine block_r ?_
   refine then_r ?_
   refine results_one rfl (res_cell (n := 3) _ s6 (by kernel_rfl) (by kernel_rfl) (ow.box 0 rfl) (Nat.le_of_ble_eq_true rfl) rfl) q ?_
   exact ⟨congrArg (fun v => Ending.returned (aggV v)) (show _ = val13 fn x y by have e : fn = 4 := (by omega); subst e; rfl), ow.kept⟩
  refine wp_cond_false (s29.trans (congrArg Value.bool (Bool.eq_false_iff.2 (fun c => hc4 ((decide_eq_true_iff).1 c))))) ?_
  refine wp_seq_k fun K12 hK12 => ?_
  refine rgn [yV _, yV _] 2 69 z (by kernel_rfl) (by kernel_rfl) (
    armS (wn rfl) (fun aa ww hk bs hd => xeqi rfl (bs.get 8 rfl s8) rfl) rfl <|
    asD 0 rfl rfl rfl rfl rfl rfl <|
    arm0) fun fa fw hk bs hv ap => ?_
  obtain ⟨z, q, ov⟩ := aft hk bs z q ow
  have s1 := bs.get 1 rfl s1
  have s2 := bs.get 2 rfl s2
  have s6 := bs.get 6 rfl s6
  have s8 := bs.get 8 rfl s8
  have s34 := got hv 1 rfl rfl rfl
  have ow := ov
  clear hv ap bs hk ov
  refine wl_then (hK12 _ _ ?_)
  try clear hK12 K12
  by_cases hc5 : (fn : Int) = (5 : Int)
  ·refine wp_cond_true (s34.trans (congrArg Value.bool ((decide_eq_true_iff).2 hc5))) ?_
   refine wp_seq_k fun K13 hK13 => ?_
   refine rgn [yV _, yV (.int .i64 (dTrunc y)), yV _, yV _] 4 69 z (by kernel_rfl) (by kernel_rfl) (
     mvS s2 rfl rfl rfl rfl <|
     armC (wn rfl) (fun aa ww hk bs hd => xcall1 rfl (dep hd 0 rfl rfl rfl) (en_dec_Trunc _ _)) (fun aa ww hk bs hd => same_kept (trunc_any y ww (by assumption))) rfl <|
     armS (wn rfl) (fun aa ww hk bs hd => xquo (Or.inr rfl) rfl (dep hd 1 rfl rfl rfl) rfl (by decide) (by omega) (by omega)) rfl <|
     asD 2 rfl rfl rfl rfl rfl rfl <|
     arm0) fun fa fw hk bs hv ap => ?_
   obtain ⟨z, q, ov⟩ := aft hk bs z q ow
   have s1 := bs.get 1 rfl s1
   have s6 := bs.get 6 rfl s6
   have s7 := got hv 3 rfl rfl rfl
   have ow := ov
   clear hv ap bs hk ov
   refine wl_then (hK13 _ _ ?_)
   try clear hK13 K13
   refine wp_seq_k fun K14 hK14 => ?_
   refine rgn [yV _, yV _, yV _, yV _, yV (.tuple #[.int .i64 ((dRound x (min (max (Int.tdiv (dTrunc y) 10000) (-20)) 4)).1), .bool ((dRound x (min (max (Int.tdiv (dTrunc y) 10000) (-20)) 4)).2)]), yV _, yV _, yV (aggV (vRes ((dRound x (min (max (Int.tdiv (dTrunc y) 10000) (-20)) 4)).1, (dRound x (min (max (Int.tdiv (dTrunc y) 10000) (-20)) 4)).2)))] 8 69 z (by kernel_rfl) (by kernel_rfl) (
     mvS s1 rfl rfl rfl rfl <|
     mvS s7 rfl rfl rfl rfl <|
     armS (wn rfl) (fun aa ww hk bs hd => xmaxI rfl (Or.inr rfl) (dep hd 1 rfl rfl rfl) rfl) rfl <|
     armS (wn rfl) (fun aa ww hk bs hd => xminI rfl (Or.inr rfl) (dep hd 2 rfl rfl rfl) rfl) rfl <|
     armC (wn rfl) (fun aa ww hk bs hd => xcall2 rfl (dep hd 0 rfl rfl rfl) (dep hd 3 rfl rfl rfl) (en_dec_Round _ _)) (fun aa ww hk bs hd => round_any x (min (max (Int.tdiv (dTrunc y) 10000) (-20)) 4) ww (by assumption) (by assumption)) rfl <|
     armS (wn rfl) (fun aa ww hk bs hd => xextract rfl (dep hd 4 rfl rfl rfl) rfl) rfl <|
     armS (wn rfl) (fun aa ww hk bs hd => xextract rfl (dep hd 4 rfl rfl rfl) rfl) rfl <|
     armC (wn rfl) (fun aa ww hk bs hd => xcall2 rfl (dep hd 5 rfl rfl rfl) (dep hd 6 rfl rfl rfl) (en_fnum_result _ _)) (fun aa ww hk bs hd => result13_any ((dRound x (min (max (Int.tdiv (dTrunc y) 10000) (-20)) 4)).1) ((dRound x (min (max (Int.tdiv (dTrunc y) 10000) (-20)) 4)).2) ww (fun _ => by first | exact dFloor_i64 ix | exact dRound_i64 | exact dSqrt_in ix)) rfl <|
     arm0) fun fa fw hk bs hv ap => ?_
   obtain ⟨z, q, ov⟩ := aft hk bs z q ow
   have s1 := bs.get 1 rfl s1
   have s6 := bs.get 6 rfl s6
   have s46 := got hv 7 rfl rfl rfl
   have ow := ov
   clear hv ap bs hk ov
   refine wl_store ow 0 0 (want0 rfl) rfl rfl s6 s46 (by kernel_rfl) rfl rfl rfl fun fw ow => ?_
   refine wl_then (hK14 _ _ ?_)
   try clear hK14 K14
   refine wp_ret ?_
   refine block_r ?_
   refine then_r ?_
   refine results_one rfl (res_cell (n := 3) _ s6 (by kernel_rfl) (by kernel_rfl) (ow.box 0 rfl) (Nat.le_of_ble_eq_true rfl) rfl) q ?_
   exact ⟨congrArg (fun v => Ending.returned (aggV v)) (show _ = val13 fn x y by have e : fn = 5 := (by omega); subst e; show _ = vRes (dRound x _); rw [tdiv_trunc']), ow.kept⟩
  refine wp_cond_false (s34.trans (congrArg Value.bool (Bool.eq_false_iff.2 (fun c => hc5 ((decide_eq_true_iff).1 c))))) ?_
  refine wp_seq_k fun K15 hK15 => ?_
  refine rgn [yV _, yV _] 2 69 z (by kernel_rfl) (by kernel_rfl) (
    armS (wn rfl) (fun aa ww hk bs hd => xeqi rfl (bs.get 8 rfl s8) rfl) rfl <|
    asD 0 rfl rfl rfl rfl rfl rfl <|
    arm0) fun fa fw hk bs hv ap => ?_
  obtain ⟨z, q, ov⟩ := aft hk bs z q ow
  have s1 := bs.get 1 rfl s1
  have s2 := bs.get 2 rfl s2
  have s6 := bs.get 6 rfl s6
  have s8 := bs.get 8 rfl s8
  have s47 := got hv 1 rfl rfl rfl
  have ow := ov
  clear hv ap bs hk ov
  refine wl_then (hK15 _ _ ?_)
  try clear hK15 K15
  by_cases hc6 : (fn : Int) = (6 : Int)
  ·refine wp_cond_true (s47.trans (congrArg Value.bool ((decide_eq_true_iff).2 hc6))) ?_
   refine wp_seq_k fun K16 hK16 => ?_
   refine wp_seq_k fun K17 hK17 => ?_
   refine rgn [yV _, yV _] 2 69 z (by kernel_rfl) (by kernel_rfl) (
     mvS s2 rfl rfl rfl rfl <|
     armS (wn rfl) (fun aa ww hk bs hd => xeqi rfl (dep hd 0 rfl rfl rfl) rfl) rfl <|
     arm0) fun fa fw hk bs hv ap => ?_
   obtain ⟨z, q, ov⟩ := aft hk bs z q ow
   have s1 := bs.get 1 rfl s1
   have s2 := bs.get 2 rfl s2
   have s6 := bs.get 6 rfl s6
   have s50 := got hv 1 rfl rfl rfl
   have ow := ov
   clear hv ap bs hk ov
   refine wl_then (hK17 _ _ ?_)
   try clear hK17 K17
   by_cases hc7 : (y : Int) = (0 : Int)
   ·refine wp_cond_true (s50.trans (congrArg Value.bool ((decide_eq_true_iff).2 hc7))) ?_
    refine wp_seq_k fun K18 hK18 => ?_
    refine rgn [yV (aggV (vFail 1))] 1 69 z (by kernel_rfl) (by kernel_rfl) (
      armC (wn rfl) (fun aa ww hk bs hd => xcall1 rfl rfl (en_val_Fail _ _)) (fun aa ww hk bs hd => vfail_any 1 ww) rfl <|
      arm0) fun fa fw hk bs hv ap => ?_
    obtain ⟨z, q, ov⟩ := aft hk bs z q ow
    have s1 := bs.get 1 rfl s1
    have s2 := bs.get 2 rfl s2
    have s6 := bs.get 6 rfl s6
    have s51 := got hv 0 rfl rfl rfl
    have ow := ov
    clear hv ap bs hk ov
    refine wl_store ow 0 0 (want0 rfl) rfl rfl s6 s51 (by kernel_rfl) rfl rfl rfl fun fw ow => ?_
    refine wl_then (hK18 _ _ ?_)
    try clear hK18 K18
    refine wp_ret ?_
    refine then_r ?_
    refine block_r ?_
    refine then_r ?_
    refine results_one rfl (res_cell (n := 3) _ s6 (by kernel_rfl) (by kernel_rfl) (ow.box 0 rfl) (Nat.le_of_ble_eq_true rfl) rfl) q ?_
    exact ⟨congrArg (fun v => Ending.returned (aggV v)) (show _ = val13 fn x y by have e : fn = 6 := (by omega); subst e; show _ = if y = 0 then _ else _; rw [if_pos (by omega)]), ow.kept⟩
   refine wp_cond_false (s50.trans (congrArg Value.bool (Bool.eq_false_iff.2 (fun c => hc7 ((decide_eq_true_iff).1 c))))) ?_
   refine wp_skip ?_
   refine then_n (hK16 _ _ ?_)
   try clear hK16 K16
   refine wp_seq_k fun K19 hK19 => ?_
   refine rgn [yV _, yV _, yV (.int .i64 (mod13 x y)), yV (aggV (vMake (mod13 x y)))] 4 69 z (by kernel_rfl) (by kernel_rfl) (
     mvS s1 rfl rfl rfl rfl <|
     mvS s2 rfl rfl rfl rfl <|
     armC (wn rfl) (fun aa ww hk bs hd => xcall2 rfl (dep hd 0 rfl rfl rfl) (dep hd 1 rfl rfl rfl) (en_fnum_mod _ _)) (fun aa ww hk bs hd => mod13_any x y ww hx hy (by omega)) rfl <|
     armC (wn rfl) (fun aa ww hk bs hd => xcall1 rfl (dep hd 2 rfl rfl rfl) (en_val_Make _ _)) (fun aa ww hk bs hd => vmake_any (mod13 x y) ww (by omega) (by omega)) rfl <|
     arm0) fun fa fw hk bs hv ap => ?_
   obtain ⟨z, q, ov⟩ := aft hk bs z q ow
   have s1 := bs.get 1 rfl s1
   have s6 := bs.get 6 rfl s6
   have s55 := got hv 3 rfl rfl rfl
   have ow := ov
   clear hv ap bs hk ov
   refine wl_store ow 0 0 (want0 rfl) rfl rfl s6 s55 (by kernel_rfl) rfl rfl rfl fun fw ow => ?_
   refine wl_then (hK19 _ _ ?_)
   try clear hK19 K19
   refine wp_ret ?_
   refine block_r ?_
   refine then_r ?_
   refine results_one rfl (res_cell (n := 3) _ s6 (by kernel_rfl) (by kernel_rfl) (ow.box 0 rfl) (Nat.le_of_ble_eq_true rfl) rfl) q ?_
   exact ⟨congrArg (fun v => Ending.returned (aggV v)) (show _ = val13 fn x y by have e : fn = 6 := (by omega); subst e; show _ = if y = 0 then _ else _; rw [if_neg (by omega)]), ow.kept⟩
  refine wp_cond_false (s47.trans (congrArg Value.bool (Bool.eq_false_iff.2 (fun c => hc6 ((decide_eq_true_iff).1 c))))) ?_
  refine wp_seq_k fun K20 hK20 => ?_
  refine rgn [yV _, yV _] 2 69 z (by kernel_rfl) (by kernel_rfl) (
    armS (wn rfl) (fun aa ww hk bs hd => xeqi rfl (bs.get 8 rfl s8) rfl) rfl <|
    asD 0 rfl rfl rfl rfl rfl rfl <|
    arm0) fun fa fw hk bs hv ap => ?_
  obtain ⟨z, q, ov⟩ := aft hk bs z q ow
  have s1 := bs.get 1 rfl s1
  have s2 := bs.get 2 rfl s2
  have s6 := bs.get 6 rfl s6
  have s56 := got hv 1 rfl rfl rfl
  have ow := ov
  clear hv ap bs hk ov
  refine wl_then (hK20 _ _ ?_)
  try clear hK20 K20
  by_cases hc8 : (fn : Int) = (7 : Int)
  ·refine wp_cond_true (s56.trans (congrArg Value.bool ((decide_eq_true_iff).2 hc8))) ?_
   refine wp_seq_k fun K21 hK21 => ?_
   refine rgn [yV _, yV _, yV (aggV (pow13 x y))] 3 69 z (by kernel_rfl) (by kernel_rfl) (
     mvS s1 rfl rfl rfl rfl <|
     mvS s2 rfl rfl rfl rfl <|
     armC (wn rfl) (fun aa ww hk bs hd => xcall2 rfl (dep hd 0 rfl rfl rfl) (dep hd 1 rfl rfl rfl) (en_fnum_power _ _)) (fun aa ww hk bs hd => power13_any x y ww (by assumption) (by assumption)) rfl <|
     arm0) fun fa fw hk bs hv ap => ?_
   obtain ⟨z, q, ov⟩ := aft hk bs z q ow
   have s1 := bs.get 1 rfl s1
   have s6 := bs.get 6 rfl s6
   have s60 := got hv 2 rfl rfl rfl
   have ow := ov
   clear hv ap bs hk ov
   refine wl_store ow 0 0 (want0 rfl) rfl rfl s6 s60 (by kernel_rfl) rfl rfl rfl fun fw ow => ?_
   refine wl_then (hK21 _ _ ?_)
   try clear hK21 K21
   refine wp_ret ?_
   refine block_r ?_
   refine then_r ?_
   refine results_one rfl (res_cell (n := 3) _ s6 (by kernel_rfl) (by kernel_rfl) (ow.box 0 rfl) (Nat.le_of_ble_eq_true rfl) rfl) q ?_
   exact ⟨congrArg (fun v => Ending.returned (aggV v)) (show _ = val13 fn x y by have e : fn = 7 := (by omega); subst e; rfl), ow.kept⟩
  refine wp_cond_false (s56.trans (congrArg Value.bool (Bool.eq_false_iff.2 (fun c => hc8 ((decide_eq_true_iff).1 c))))) ?_
  refine wp_skip ?_
  refine block_n ?_
  refine then_n (hK2 _ _ ?_)
  try clear hK2 K2
  refine wp_seq_k fun K22 hK22 => ?_
  refine wp_seq_k fun K23 hK23 => ?_
  refine rgn [yV _, yV _] 2 69 z (by kernel_rfl) (by kernel_rfl) (
    mvS s1 rfl rfl rfl rfl <|
    armS (wn rfl) (fun aa ww hk bs hd => xlss rfl (dep hd 0 rfl rfl rfl) rfl) rfl <|
    arm0) fun fa fw hk bs hv ap => ?_
  obtain ⟨z, q, ov⟩ := aft hk bs z q ow
  have s1 := bs.get 1 rfl s1
  have s6 := bs.get 6 rfl s6
  have s62 := got hv 1 rfl rfl rfl
  have ow := ov
  clear hv ap bs hk ov
  refine wl_then (hK23 _ _ ?_)
  try clear hK23 K23
  by_cases hc9 : (x : Int) < (0 : Int)
  ·refine wp_cond_true (s62.trans (congrArg Value.bool ((decide_eq_true_iff).2 hc9))) ?_
   refine wp_seq_k fun K24 hK24 => ?_
   refine rgn [yV (aggV (vFail 3))] 1 69 z (by kernel_rfl) (by kernel_rfl) (
     armC (wn rfl) (fun aa ww hk bs hd => xcall1 rfl rfl (en_val_Fail _ _)) (fun aa ww hk bs hd => vfail_any 3 ww) rfl <|
     arm0) fun fa fw hk bs hv ap => ?_
   obtain ⟨z, q, ov⟩ := aft hk bs z q ow
   have s1 := bs.get 1 rfl s1
   have s6 := bs.get 6 rfl s6
   have s63 := got hv 0 rfl rfl rfl
   have ow := ov
   clear hv ap bs hk ov
   refine wl_store ow 0 0 (want0 rfl) rfl rfl s6 s63 (by kernel_rfl) rfl rfl rfl fun fw ow => ?_
   refine wl_then (hK24 _ _ ?_)
   try clear hK24 K24
   refine wp_ret ?_
   refine then_r ?_
   refine results_one rfl (res_cell (n := 3) _ s6 (by kernel_rfl) (by kernel_rfl) (ow.box 0 rfl) (Nat.le_of_ble_eq_true rfl) rfl) q ?_
   exact ⟨congrArg (fun v => Ending.returned (aggV v)) (show _ = val13 fn x y by have e : fn = 8 := (by omega); subst e; show _ = if x < 0 then _ else _; rw [if_pos (by omega)]), ow.kept⟩
  refine wp_cond_false (s62.trans (congrArg Value.bool (Bool.eq_false_iff.2 (fun c => hc9 ((decide_eq_true_iff).1 c))))) ?_
  refine wp_skip ?_
  refine then_n (hK22 _ _ ?_)
  try clear hK22 K22
  refine wp_seq_k fun K25 hK25 => ?_
  refine rgn [yV _, yV (.tuple #[.int .i64 ((dSqrt x).1), .bool ((dSqrt x).2)]), yV _, yV _, yV (aggV (vRes ((dSqrt x).1, (dSqrt x).2)))] 5 69 z (by kernel_rfl) (by kernel_rfl) (
    mvS s1 rfl rfl rfl rfl <|
    armC (wn rfl) (fun aa ww hk bs hd => xcall1 rfl (dep hd 0 rfl rfl rfl) (en_dec_Sqrt _ _)) (fun aa ww hk bs hd => same_kept (sqrt_any x ww (by assumption))) rfl <|
    armS (wn rfl) (fun aa ww hk bs hd => xextract rfl (dep hd 1 rfl rfl rfl) rfl) rfl <|
    armS (wn rfl) (fun aa ww hk bs hd => xextract rfl (dep hd 1 rfl rfl rfl) rfl) rfl <|
    armC (wn rfl) (fun aa ww hk bs hd => xcall2 rfl (dep hd 2 rfl rfl rfl) (dep hd 3 rfl rfl rfl) (en_fnum_result _ _)) (fun aa ww hk bs hd => result13_any ((dSqrt x).1) ((dSqrt x).2) ww (fun _ => by first | exact dFloor_i64 ix | exact dRound_i64 | exact dSqrt_in ix)) rfl <|
    arm0) fun fa fw hk bs hv ap => ?_
  obtain ⟨z, q, ov⟩ := aft hk bs z q ow
  have s6 := bs.get 6 rfl s6
  have s68 := got hv 4 rfl rfl rfl
  have ow := ov
  clear hv ap bs hk ov
  refine wl_store ow 0 0 (want0 rfl) rfl rfl s6 s68 (by kernel_rfl) rfl rfl rfl fun fw ow => ?_
  refine wl_then (hK25 _ _ ?_)
  try clear hK25 K25
  refine wp_ret ?_
  refine results_one rfl (res_cell (n := 3) _ s6 (by kernel_rfl) (by kernel_rfl) (ow.box 0 rfl) (Nat.le_of_ble_eq_true rfl) rfl) q ?_
  exact ⟨congrArg (fun v => Ending.returned (aggV v)) (show _ = val13 fn x y by have e : fn = 8 := (by omega); subst e; show _ = if x < 0 then _ else _; rw [if_neg (by omega)]), ow.kept⟩
set_option maxHeartbeats 8000000 in
theorem call13_two (fn : Nat) (A : Option Addr) (cap : Nat) (l : List Vl) (w : World) (mx : Int) (HM : Mx w mx) (hr : RowV w A l) (hs : ∀ v ∈ l, Small v) (h2 : two13 fn = true) :
    Calls Tryz.prog 27 #[.int .u8 fn, .slice A l.length cap] w fun e w' => e = .returned (.tuple #[aggV (vCall13 fn l).1, .int .i64 (vCall13 fn l).2]) ∧ Kept w w' := by
  go_enter Tryz.func27, Tryz.ntmps27
  refine wp_seq_k fun K1 hK1 => ?_
  refine rgn [yNew w.heap.size (.cells #[.int .u8 0, .int .i64 0, .string ⟨[].toArray⟩] 25 (0, 0)), yV _] 2 57 rfl (by kernel_rfl) (by kernel_rfl) (
    armP (wn rfl) (fun aa ww hk bs hd => xalloc rfl (by kernel_rfl)) rfl <|
    armS (wn rfl) (fun aa ww hk bs hd => xassign rfl rfl) rfl <|
    arm0) fun fa fw hk bs hv ap => ?_
  obtain ⟨z, q, ov⟩ := aft hk bs rfl rfl (Own.start w)
  have s0 := bs.get 0 rfl rfl
  have s1 := bs.get 1 rfl rfl
  obtain ⟨gb1, s4, bgb1, hgb1⟩ := gotP hv 0 rfl rfl rfl
  have ov := ov.cons hgb1 (Nat.le_trans (Own.start w).kept.size bgb1) ((Own.start w).below bgb1)
  have s5 := got hv 1 rfl rfl rfl
  have ow := ov
  clear hv ap bs hk ov
  refine wl_then (hK1 _ _ ?_)
  try clear hK1 K1
  refine wp_seq_k fun K2 hK2 => ?_
  refine wp_seq_k fun K3 hK3 => ?_
  refine rgn [yV _, yV _, yV _, yIf (((decide ((fn : Int) < (1 : Int))) = false)) (yV (.int .u8 (fn : Int))), yIf (((decide ((fn : Int) < (1 : Int))) = false)) (yV (.bool (decide ((8 : Int) < (fn : Int))))), yV _] 6 57 z (by kernel_rfl) (by kernel_rfl) (
    mvS s0 rfl rfl rfl rfl <|
    armS (wn rfl) (fun aa ww hk bs hd => xlss rfl (dep hd 0 rfl rfl rfl) rfl) rfl <|
    mvD 1 rfl rfl rfl rfl rfl rfl <|
    arm (fun aa ww hk bs hd => by
      have d2 : aa.eval (.tmp 13) = .bool (decide ((fn : Int) < (1 : Int))) := depX hd 2 rfl
      by_cases hz : ((decide ((fn : Int) < (1 : Int))) = false)
      · exact stepX_same (v := .int .u8 (fn : Int)) (want1 (j := 2) (b := false) rfl (d2.trans (congrArg Value.bool hz))) (xmove rfl (bs.get 0 rfl s0)) ⟨fun _ => rfl, fun c => absurd hz c⟩ rfl
      · exact stepX_skip (wantN (j := 2) (b := false) (b' := true) rfl (d2.trans (congrArg Value.bool ((Bool.not_eq_false _).mp hz))) rfl) ⟨fun c => absurd c hz, fun _ => rfl⟩ rfl
      ) <|
    arm (fun aa ww hk bs hd => by
      have d2 : aa.eval (.tmp 13) = .bool (decide ((fn : Int) < (1 : Int))) := depX hd 2 rfl
      have d3 : (((decide ((fn : Int) < (1 : Int))) = false) → aa.eval (.tmp 14) = .int .u8 (fn : Int)) ∧ (¬ (((decide ((fn : Int) < (1 : Int))) = false)) → aa.eval (.tmp 14) = undef) := depX hd 3 rfl
      by_cases hz : ((decide ((fn : Int) < (1 : Int))) = false)
      · exact stepX_same (v := .bool (decide ((8 : Int) < (fn : Int)))) (want1 (j := 2) (b := false) rfl (d2.trans (congrArg Value.bool hz))) (xgtr rfl (d3.1 hz) rfl) ⟨fun _ => rfl, fun c => absurd hz c⟩ rfl
      · exact stepX_skip (wantN (j := 2) (b := false) (b' := true) rfl (d2.trans (congrArg Value.bool ((Bool.not_eq_false _).mp hz))) rfl) ⟨fun c => absurd c hz, fun _ => rfl⟩ rfl
      ) <|
    arm (fun aa ww hk bs hd => by
      have d2 : aa.eval (.tmp 13) = .bool (decide ((fn : Int) < (1 : Int))) := depX hd 2 rfl
      have d4 : (((decide ((fn : Int) < (1 : Int))) = false) → aa.eval (.tmp 15) = .bool (decide ((8 : Int) < (fn : Int)))) ∧ (¬ (((decide ((fn : Int) < (1 : Int))) = false)) → aa.eval (.tmp 15) = undef) := depX hd 4 rfl
      exact stepX_same (v := .bool ((decide ((fn : Int) < (1 : Int))) || (decide ((8 : Int) < (fn : Int))))) (want0 rfl) (xor_ rfl (d2) rfl (fun hb => d4.1 hb)) rfl rfl
      ) <|
    arm0) fun fa fw hk bs hv ap => ?_
  obtain ⟨z, q, ov⟩ := aft hk bs z q ow
  have s0 := bs.get 0 rfl s0
  have s1 := bs.get 1 rfl s1
  have s4 := bs.get 4 rfl s4
  have s5 := bs.get 5 rfl s5
  have s16 := got hv 5 rfl rfl rfl
  have ow := ov
  clear hv ap bs hk ov
  refine wl_then (hK3 _ _ ?_)
  try clear hK3 K3
  by_cases hc1 : ((fn : Int) < (1 : Int)) ∨ ((8 : Int) < (fn : Int))
  ·refine wp_cond_true (s16.trans (congrArg Value.bool ((bor (decide_eq_true_iff) (decide_eq_true_iff)).2 hc1))) ?_
   refine wp_seq_k fun K4 hK4 => ?_
   refine rgn [yV (aggV (⟨0, 0, []⟩ : Vl))] 1 57 z (by kernel_rfl) (by kernel_rfl) (
     armS (wn rfl) (fun aa ww hk bs hd => xbuild (us := #[]) rfl (by simp) (by kernel_rfl)) rfl <|
     arm0) fun fa fw hk bs hv ap => ?_
   obtain ⟨z, q, ov⟩ := aft hk bs z q ow
   have s0 := bs.get 0 rfl s0
   have s1 := bs.get 1 rfl s1
   have s4 := bs.get 4 rfl s4
   have s5 := bs.get 5 rfl s5
   have s17 := got hv 0 rfl rfl rfl
   have ow := ov
   clear hv ap bs hk ov
   refine wl_store ow 0 0 (want0 rfl) rfl rfl s4 s17 (by kernel_rfl) rfl rfl rfl fun fw ow => ?_
   refine wl_value (v := .int .i64 10) (want0 rfl) (xassign rfl rfl) ?_
   refine gt4 (put_size z) (put_def q) ow 0 (pb 5 s0 rfl) 1 (pb 5 s1 rfl) 4 (pb 5 s4 rfl) 5 (put_in (t := 5) z rfl) fun fa fw z q ow s0 s1 s4 s5 => ?_
   refine wl_then (hK4 _ _ ?_)
   try clear hK4 K4
   refine wp_ret ?_
   refine then_r ?_
   refine resultsL (v := .tuple #[aggV (⟨0, 0, []⟩ : Vl), .int .i64 10]) rfl (.cons (res_cell (n := 3) _ s4 (by kernel_rfl) (by kernel_rfl) (ow.box 0 rfl) (Nat.le_of_ble_eq_true rfl) rfl) (.cons (res_tmp s5) .nil)) rfl q ?_
   exact ⟨ret_pair13 (v13_name (by omega)), ow.kept⟩
  refine wp_cond_false (s16.trans (congrArg Value.bool (Bool.eq_false_iff.2 (fun c => hc1 ((bor (decide_eq_true_iff) (decide_eq_true_iff)).1 c))))) ?_
  refine wp_skip ?_
  refine then_n (hK2 _ _ ?_)
  try clear hK2 K2
  refine wp_seq_k fun K5 hK5 => ?_
  refine wp_seq_k fun K6 hK6 => ?_
  refine rgn [yV _, yV (.bool true), yV _, yV _, yV _, yV _, yV _, yV _, yIf (((decide (((l.length : Nat) : Int) ≠ (2 : Int))) = false)) (yV (.int .u8 (fn : Int))), yIf (((decide (((l.length : Nat) : Int) ≠ (2 : Int))) = false)) (yV (.bool true)), yIf (((decide (((l.length : Nat) : Int) ≠ (2 : Int))) = false)) (yV (.bool false)), yIf (((decide (((l.length : Nat) : Int) ≠ (2 : Int))) = false)) (yV (.bool false)), yNo, yNo, yNo, yIf (((decide (((l.length : Nat) : Int) ≠ (2 : Int))) = false)) (yV (.bool false)), yV _] 17 57 z (by kernel_rfl) (by kernel_rfl) (
    mvS s0 rfl rfl rfl rfl <|
    armD (wn rfl) (fun aa ww hk bs hd => xcall1 rfl (dep hd 0 rfl rfl rfl) (en_fnum_two _ _)) (fun aa ww hk bs hd => two13_any fn ww) (congrArg Value.bool h2) rfl <|
    mvD 1 rfl rfl rfl rfl rfl rfl <|
    armS (wg (j := 2) (b := true) rfl rfl rfl) (fun aa ww hk bs hd => xmove rfl (bs.get 1 rfl s1)) rfl <|
    armS (wg (j := 2) (b := true) rfl rfl rfl) (fun aa ww hk bs hd => xlen Tryz.underlying22 rfl (dep hd 3 rfl rfl rfl)) rfl <|
    armS (wg (j := 2) (b := true) rfl rfl rfl) (fun aa ww hk bs hd => xnei rfl (dep hd 4 rfl rfl rfl) rfl) rfl <|
    armS (wn rfl) (fun aa ww hk bs hd => xpickT rfl (dep hd 2 rfl rfl rfl) (dep hd 5 rfl rfl rfl)) rfl <|
    mvD 6 rfl rfl rfl rfl rfl rfl <|
    arm (fun aa ww hk bs hd => by
      have d7 : aa.eval (.tmp 25) = .bool (decide (((l.length : Nat) : Int) ≠ (2 : Int))) := depX hd 7 rfl
      by_cases hz : ((decide (((l.length : Nat) : Int) ≠ (2 : Int))) = false)
      · exact stepX_same (v := .int .u8 (fn : Int)) (want1 (j := 7) (b := false) rfl (d7.trans (congrArg Value.bool hz))) (xmove rfl (bs.get 0 rfl s0)) ⟨fun _ => rfl, fun c => absurd hz c⟩ rfl
      · exact stepX_skip (wantN (j := 7) (b := false) (b' := true) rfl (d7.trans (congrArg Value.bool ((Bool.not_eq_false _).mp hz))) rfl) ⟨fun c => absurd c hz, fun _ => rfl⟩ rfl
      ) <|
    arm (fun aa ww hk bs hd => by
      have d7 : aa.eval (.tmp 25) = .bool (decide (((l.length : Nat) : Int) ≠ (2 : Int))) := depX hd 7 rfl
      have d8 : (((decide (((l.length : Nat) : Int) ≠ (2 : Int))) = false) → aa.eval (.tmp 26) = .int .u8 (fn : Int)) ∧ (¬ (((decide (((l.length : Nat) : Int) ≠ (2 : Int))) = false)) → aa.eval (.tmp 26) = undef) := depX hd 8 rfl
      by_cases hz : ((decide (((l.length : Nat) : Int) ≠ (2 : Int))) = false)
      · exact stepX_enter (want1 (j := 7) (b := false) rfl (d7.trans (congrArg Value.bool hz))) (xcall1 (u := .int .u8 (fn : Int)) rfl (d8.1 hz) (en_fnum_two _ _)) ((two13_any fn ww).mono fun _ _ ⟨he, hk2⟩ => ⟨_, he, ⟨fun _ => congrArg Value.bool h2, fun c => absurd hz c⟩, hk2⟩) rfl
      · exact stepX_skip (wantN (j := 7) (b := false) (b' := true) rfl (d7.trans (congrArg Value.bool ((Bool.not_eq_false _).mp hz))) rfl) ⟨fun c => absurd c hz, fun _ => rfl⟩ rfl
      ) <|
    arm (fun aa ww hk bs hd => by
      have d7 : aa.eval (.tmp 25) = .bool (decide (((l.length : Nat) : Int) ≠ (2 : Int))) := depX hd 7 rfl
      have d9 : (((decide (((l.length : Nat) : Int) ≠ (2 : Int))) = false) → aa.eval (.tmp 27) = .bool true) ∧ (¬ (((decide (((l.length : Nat) : Int) ≠ (2 : Int))) = false)) → aa.eval (.tmp 27) = undef) := depX hd 9 rfl
      by_cases hz : ((decide (((l.length : Nat) : Int) ≠ (2 : Int))) = false)
      · exact stepX_same (v := .bool false) (want1 (j := 7) (b := false) rfl (d7.trans (congrArg Value.bool hz))) (xnot rfl (d9.1 hz)) ⟨fun _ => rfl, fun c => absurd hz c⟩ rfl
      · exact stepX_skip (wantN (j := 7) (b := false) (b' := true) rfl (d7.trans (congrArg Value.bool ((Bool.not_eq_false _).mp hz))) rfl) ⟨fun c => absurd c hz, fun _ => rfl⟩ rfl
      ) <|
    arm (fun aa ww hk bs hd => by
      have d7 : aa.eval (.tmp 25) = .bool (decide (((l.length : Nat) : Int) ≠ (2 : Int))) := depX hd 7 rfl
      have d10 : (((decide (((l.length : Nat) : Int) ≠ (2 : Int))) = false) → aa.eval (.tmp 28) = .bool false) ∧ (¬ (((decide (((l.length : Nat) : Int) ≠ (2 : Int))) = false)) → aa.eval (.tmp 28) = undef) := depX hd 10 rfl
      by_cases hz : ((decide (((l.length : Nat) : Int) ≠ (2 : Int))) = false)
      · exact stepX_same (v := .bool false) (want1 (j := 7) (b := false) rfl (d7.trans (congrArg Value.bool hz))) (xmove rfl (d10.1 hz)) ⟨fun _ => rfl, fun c => absurd hz c⟩ rfl
      · exact stepX_skip (wantN (j := 7) (b := false) (b' := true) rfl (d7.trans (congrArg Value.bool ((Bool.not_eq_false _).mp hz))) rfl) ⟨fun c => absurd c hz, fun _ => rfl⟩ rfl
      ) <|
    arm (fun aa ww hk bs hd => by
      have d11 : (((decide (((l.length : Nat) : Int) ≠ (2 : Int))) = false) → aa.eval (.tmp 29) = .bool false) ∧ (¬ (((decide (((l.length : Nat) : Int) ≠ (2 : Int))) = false)) → aa.eval (.tmp 29) = undef) := depX hd 11 rfl
      by_cases hz : ((decide (((l.length : Nat) : Int) ≠ (2 : Int))) = false)
      · exact stepX_skip (wantN (j := 11) (b := true) (b' := false) rfl (d11.1 hz) rfl) trivial rfl
      · exact stepX_skip (wantU (j := 11) (b := true) rfl (d11.2 hz)) trivial rfl
      ) <|
    arm (fun aa ww hk bs hd => by
      have d11 : (((decide (((l.length : Nat) : Int) ≠ (2 : Int))) = false) → aa.eval (.tmp 29) = .bool false) ∧ (¬ (((decide (((l.length : Nat) : Int) ≠ (2 : Int))) = false)) → aa.eval (.tmp 29) = undef) := depX hd 11 rfl
      by_cases hz : ((decide (((l.length : Nat) : Int) ≠ (2 : Int))) = false)
      · exact stepX_skip (wantN (j := 11) (b := true) (b' := false) rfl (d11.1 hz) rfl) trivial rfl
      · exact stepX_skip (wantU (j := 11) (b := true) rfl (d11.2 hz)) trivial rfl
      ) <|
    arm (fun aa ww hk bs hd => by
      have d11 : (((decide (((l.length : Nat) : Int) ≠ (2 : Int))) = false) → aa.eval (.tmp 29) = .bool false) ∧ (¬ (((decide (((l.length : Nat) : Int) ≠ (2 : Int))) = false)) → aa.eval (.tmp 29) = undef) := depX hd 11 rfl
      by_cases hz : ((decide (((l.length : Nat) : Int) ≠ (2 : Int))) = false)
      · exact stepX_skip (wantN (j := 11) (b := true) (b' := false) rfl (d11.1 hz) rfl) trivial rfl
      · exact stepX_skip (wantU (j := 11) (b := true) rfl (d11.2 hz)) trivial rfl
      ) <|
    arm (fun aa ww hk bs hd => by
      have d7 : aa.eval (.tmp 25) = .bool (decide (((l.length : Nat) : Int) ≠ (2 : Int))) := depX hd 7 rfl
      have d11 : (((decide (((l.length : Nat) : Int) ≠ (2 : Int))) = false) → aa.eval (.tmp 29) = .bool false) ∧ (¬ (((decide (((l.length : Nat) : Int) ≠ (2 : Int))) = false)) → aa.eval (.tmp 29) = undef) := depX hd 11 rfl
      by_cases hz : ((decide (((l.length : Nat) : Int) ≠ (2 : Int))) = false)
      · exact stepX_same (v := .bool false) (want1 (j := 7) (b := false) rfl (d7.trans (congrArg Value.bool hz))) (xpickF rfl (d11.1 hz) rfl) ⟨fun _ => rfl, fun c => absurd hz c⟩ rfl
      · exact stepX_skip (wantN (j := 7) (b := false) (b' := true) rfl (d7.trans (congrArg Value.bool ((Bool.not_eq_false _).mp hz))) rfl) ⟨fun c => absurd c hz, fun _ => rfl⟩ rfl
      ) <|
    arm (fun aa ww hk bs hd => by
      have d7 : aa.eval (.tmp 25) = .bool (decide (((l.length : Nat) : Int) ≠ (2 : Int))) := depX hd 7 rfl
      have d15 : (((decide (((l.length : Nat) : Int) ≠ (2 : Int))) = false) → aa.eval (.tmp 33) = .bool false) ∧ (¬ (((decide (((l.length : Nat) : Int) ≠ (2 : Int))) = false)) → aa.eval (.tmp 33) = undef) := depX hd 15 rfl
      exact stepX_same (v := .bool ((decide (((l.length : Nat) : Int) ≠ (2 : Int))) || false)) (want0 rfl) (xor_ rfl (d7) rfl (fun hb => d15.1 hb)) rfl rfl
      ) <|
    arm0) fun fa fw hk bs hv ap => ?_
  obtain ⟨z, q, ov⟩ := aft hk bs z q ow
  have s0 := bs.get 0 rfl s0
  have s1 := bs.get 1 rfl s1
  have s4 := bs.get 4 rfl s4
  have s5 := bs.get 5 rfl s5
  have s34 := got hv 16 rfl rfl rfl
  have ow := ov
  clear hv ap bs hk ov
  refine wl_then (hK6 _ _ ?_)
  try clear hK6 K6
  by_cases hc2 : (((l.length : Nat) : Int) ≠ (2 : Int)) ∨ (false = true)
  ·refine wp_cond_true (s34.trans (congrArg Value.bool ((bor (decide_eq_true_iff) (Iff.rfl)).2 hc2))) ?_
   have hlen : ¬ (l.length = 2) := by rcases hc2 with h | h; omega; cases h
   refine wp_seq_k fun K7 hK7 => ?_
   refine rgn [yV (aggV (⟨0, 0, []⟩ : Vl))] 1 57 z (by kernel_rfl) (by kernel_rfl) (
     armS (wn rfl) (fun aa ww hk bs hd => xbuild (us := #[]) rfl (by simp) (by kernel_rfl)) rfl <|
     arm0) fun fa fw hk bs hv ap => ?_
   obtain ⟨z, q, ov⟩ := aft hk bs z q ow
   have s0 := bs.get 0 rfl s0
   have s1 := bs.get 1 rfl s1
   have s4 := bs.get 4 rfl s4
   have s5 := bs.get 5 rfl s5
   have s35 := got hv 0 rfl rfl rfl
   have ow := ov
   clear hv ap bs hk ov
   refine wl_store ow 0 0 (want0 rfl) rfl rfl s4 s35 (by kernel_rfl) rfl rfl rfl fun fw ow => ?_
   refine wl_value (v := .int .i64 11) (want0 rfl) (xassign rfl rfl) ?_
   refine gt4 (put_size z) (put_def q) ow 0 (pb 5 s0 rfl) 1 (pb 5 s1 rfl) 4 (pb 5 s4 rfl) 5 (put_in (t := 5) z rfl) fun fa fw z q ow s0 s1 s4 s5 => ?_
   refine wl_then (hK7 _ _ ?_)
   try clear hK7 K7
   refine wp_ret ?_
   refine then_r ?_
   refine resultsL (v := .tuple #[aggV (⟨0, 0, []⟩ : Vl), .int .i64 11]) rfl (.cons (res_cell (n := 3) _ s4 (by kernel_rfl) (by kernel_rfl) (ow.box 0 rfl) (Nat.le_of_ble_eq_true rfl) rfl) (.cons (res_tmp s5) .nil)) rfl q ?_
   exact ⟨ret_pair13 (v13_count (by omega) (by rw [h2]; exact hlen)), ow.kept⟩
  refine wp_cond_false (s34.trans (congrArg Value.bool (Bool.eq_false_iff.2 (fun c => hc2 ((bor (decide_eq_true_iff) (Iff.rfl)).1 c))))) ?_
  have hlen : l.length = 2 := by omega
  refine wp_skip ?_
  refine then_n (hK5 _ _ ?_)
  try clear hK5 K5
  refine wp_seq_k fun K8 hK8 => ?_
  refine wp_seq_k fun K9 hK9 => ?_
  obtain ⟨v, u, rfl⟩ := len_two hlen
  obtain ⟨b0, off0, rfl, _⟩ := hr 0 (Nat.zero_lt_succ _)
  have s_v : Small v := hs _ (by simp)
  have s_u : Small u := hs _ (by simp)
  refine rgn [yV _, yV (.bool ([v, u].all vOk)), yV _] 3 57 z (by kernel_rfl) (by kernel_rfl) (
    mvS s1 rfl rfl rfl rfl <|
    armC (wn rfl) (fun aa ww hk bs hd => xcall1 rfl (dep hd 0 rfl rfl rfl) (en_fnum_valid _ _)) (fun aa ww hk bs hd => valid13r_any b0 off0 cap [v, u] ww (hr.kept (ow.keep hk).kept) hs (by simp)) rfl <|
    armS (wn rfl) (fun aa ww hk bs hd => xnot rfl (dep hd 1 rfl rfl rfl)) rfl <|
    arm0) fun fa fw hk bs hv ap => ?_
  obtain ⟨z, q, ov⟩ := aft hk bs z q ow
  have s0 := bs.get 0 rfl s0
  have s1 := bs.get 1 rfl s1
  have s4 := bs.get 4 rfl s4
  have s5 := bs.get 5 rfl s5
  have s38 := got hv 2 rfl rfl rfl
  have ow := ov
  clear hv ap bs hk ov
  refine wl_then (hK9 _ _ ?_)
  try clear hK9 K9
  by_cases hc3 : ¬ (([v, u].all vOk) = true)
  ·refine wp_cond_true (s38.trans (congrArg Value.bool ((bnot (Iff.rfl)).2 hc3))) ?_
   have hval : [v, u].all vOk = false := by simpa using hc3
   refine wp_seq_k fun K10 hK10 => ?_
   refine rgn [yV (aggV (⟨0, 0, []⟩ : Vl))] 1 57 z (by kernel_rfl) (by kernel_rfl) (
     armS (wn rfl) (fun aa ww hk bs hd => xbuild (us := #[]) rfl (by simp) (by kernel_rfl)) rfl <|
     arm0) fun fa fw hk bs hv ap => ?_
   obtain ⟨z, q, ov⟩ := aft hk bs z q ow
   have s0 := bs.get 0 rfl s0
   have s1 := bs.get 1 rfl s1
   have s4 := bs.get 4 rfl s4
   have s5 := bs.get 5 rfl s5
   have s39 := got hv 0 rfl rfl rfl
   have ow := ov
   clear hv ap bs hk ov
   refine wl_store ow 0 0 (want0 rfl) rfl rfl s4 s39 (by kernel_rfl) rfl rfl rfl fun fw ow => ?_
   refine wl_value (v := .int .i64 2) (want0 rfl) (xassign rfl rfl) ?_
   refine gt4 (put_size z) (put_def q) ow 0 (pb 5 s0 rfl) 1 (pb 5 s1 rfl) 4 (pb 5 s4 rfl) 5 (put_in (t := 5) z rfl) fun fa fw z q ow s0 s1 s4 s5 => ?_
   refine wl_then (hK10 _ _ ?_)
   try clear hK10 K10
   refine wp_ret ?_
   refine then_r ?_
   refine resultsL (v := .tuple #[aggV (⟨0, 0, []⟩ : Vl), .int .i64 2]) rfl (.cons (res_cell (n := 3) _ s4 (by kernel_rfl) (by kernel_rfl) (ow.box 0 rfl) (Nat.le_of_ble_eq_true rfl) rfl) (.cons (res_tmp s5) .nil)) rfl q ?_
   exact ⟨ret_pair13 (v13_arg (by omega) (by rw [h2]; rfl) hval), ow.kept⟩
  refine wp_cond_false (s38.trans (congrArg Value.bool (Bool.eq_false_iff.2 (fun c => hc3 ((bnot (Iff.rfl)).1 c))))) ?_
  have hval : [v, u].all vOk = true := by simpa using hc3
  refine wp_skip ?_
  refine then_n (hK8 _ _ ?_)
  try clear hK8 K8
  refine wp_seq_k fun K11 hK11 => ?_
  refine rgn [yNew fw.heap.size (.cells #[.int .i64 0] 2 (0, 0)), yNew fw.heap.size (.cells #[.int .i64 0] 2 (0, 0))] 2 57 z (by kernel_rfl) (by kernel_rfl) (
    armP (wn rfl) (fun aa ww hk bs hd => xalloc rfl (by kernel_rfl)) rfl <|
    armP (wn rfl) (fun aa ww hk bs hd => xalloc rfl (by kernel_rfl)) rfl <|
    arm0) fun fa fw hk bs hv ap => ?_
  obtain ⟨z, q, ov⟩ := aft hk bs z q ow
  have s0 := bs.get 0 rfl s0
  have s1 := bs.get 1 rfl s1
  have s4 := bs.get 4 rfl s4
  have s5 := bs.get 5 rfl s5
  obtain ⟨gb2, s6, bgb2, hgb2⟩ := gotP hv 0 rfl rfl rfl
  have ov := ov.cons hgb2 (Nat.le_trans ow.kept.size bgb2) (ow.below bgb2)
  obtain ⟨gb3, s7, bgb3, hgb3⟩ := gotP hv 1 rfl rfl rfl
  have ov := ov.cons hgb3 (Nat.le_trans ow.kept.size bgb3) (ne_cons (apartP ap 0 1 rfl rfl rfl s6 rfl s7 rfl) (ow.below bgb3))
  have ow := ov
  clear hv ap bs hk ov
  refine wl_then (hK11 _ _ ?_)
  try clear hK11 K11
  refine wp_seq_k fun K12 hK12 => ?_
  refine rgn [ySlice fw.heap.size 2 (.cells #[.pointer (some ⟨gb2, 0, none⟩), .pointer (some ⟨gb3, 0, none⟩)] 108 (0, 0))] 1 57 z (by kernel_rfl) (by kernel_rfl) (
    armL (wn rfl) (fun aa ww hk bs hd => xbuildSlice (us := #[(0, .pointer (some ⟨gb2, 0, none⟩)), (1, .pointer (some ⟨gb3, 0, none⟩))]) rfl (by simp only [List.map_toArray, List.map_cons, List.map_nil, bs.get 6 rfl s6, bs.get 7 rfl s7]) (by kernel_rfl)) rfl <|
    arm0) fun fa fw hk bs hv ap => ?_
  obtain ⟨z, q, ov⟩ := aft hk bs z q ow
  have s0 := bs.get 0 rfl s0
  have s1 := bs.get 1 rfl s1
  have s4 := bs.get 4 rfl s4
  have s5 := bs.get 5 rfl s5
  have s6 := bs.get 6 rfl s6
  have s7 := bs.get 7 rfl s7
  obtain ⟨gb4, s40, bgb4, hgb4⟩ := gotL hv 0 rfl rfl rfl
  have ov := ov.cons hgb4 (Nat.le_trans ow.kept.size bgb4) (ow.below bgb4)
  have ow := ov
  clear hv ap bs hk ov
  refine wl_value (v := .slice (some ⟨gb4, 0, none⟩) 2 2) (want0 rfl) (xassign rfl s40) ?_
  refine gt7 (put_size z) (put_def q) ow 0 (pb 8 s0 rfl) 1 (pb 8 s1 rfl) 4 (pb 8 s4 rfl) 5 (pb 8 s5 rfl) 6 (pb 8 s6 rfl) 7 (pb 8 s7 rfl) 8 (put_in (t := 8) z rfl) fun fa fw z q ow s0 s1 s4 s5 s6 s7 s8 => ?_
  refine wl_then (hK12 _ _ ?_)
  try clear hK12 K12
  refine wp_seq_k fun K13 hK13 => ?_
  refine wp_seq_k fun K14 hK14 => ?_
  refine rgn [yV _, yV _, yV _, yV _, yV _] 5 57 z (by kernel_rfl) (by kernel_rfl) (
    mvS s1 rfl rfl rfl rfl <|
    mvS s8 rfl rfl rfl rfl <|
    mvS s1 rfl rfl rfl rfl <|
    armS (wn rfl) (fun aa ww hk bs hd => xlen Tryz.underlying22 rfl (dep hd 2 rfl rfl rfl)) rfl <|
    armS (wn rfl) (fun aa ww hk bs hd => xsliceTo3 Tryz.underlying109 (by kernel_rfl) rfl (h := 2) (dep hd 1 rfl rfl rfl) (dep hd 3 rfl rfl rfl) (by decide)) rfl <|
    arm0) fun fa fw hk bs hv ap => ?_
  obtain ⟨z, q, ov⟩ := aft hk bs z q ow
  have s0 := bs.get 0 rfl s0
  have s4 := bs.get 4 rfl s4
  have s5 := bs.get 5 rfl s5
  have s6 := bs.get 6 rfl s6
  have s7 := bs.get 7 rfl s7
  have s42 := got hv 0 rfl rfl rfl
  have s46 := got hv 4 rfl rfl rfl
  have ow := ov
  clear hv ap bs hk ov
  refine wl_enter (want0 rfl) (xcall2 (u := .slice (some ⟨b0, off0, none⟩) 2 cap) (v := .slice (some ⟨gb4, 0, none⟩) 2 2) rfl s42 s46 (en_fnum_numbers _ _)) ((numbers13_2 v u b0 off0 cap gb4 gb2 gb3 2 [Th.obj gb1 (.cells #[.int .u8 0, .int .i64 0, .string ⟨[].toArray⟩] 25 (0, 0))] w _ mx HM ow (fun u o => hr.kept o.kept) s_v s_u).mono ?_)
  rintro _ fw ⟨x, ok, rfl, hcv⟩
  refine ⟨_, rfl, ?_⟩
  rcases hcv with ⟨rfl, hfst, how⟩ | ⟨rfl, hfst, how⟩
  ·skip
   have ow := how
   clear how
   refine wl_value (v := .tuple #[aggV x, .bool false]) (want0 rfl) (xmove rfl (put_in (t := 47) z rfl)) ?_
   refine wl_value (v := aggV x) (want0 rfl) (xextract rfl (put_in (t := 41) (put_size z) rfl) rfl) ?_
   refine wl_value (v := .bool false) (want0 rfl) (xextract rfl (pb 48 (put_in (t := 41) (put_size z) rfl) rfl) rfl) ?_
   refine wl_newP ow (want0 rfl) (xalloc (b := .cells #[.int .u8 0, .int .i64 0, .string ⟨[].toArray⟩] 25 (0, 0)) rfl (by kernel_rfl)) fun gb5 fw ow => ?_
   refine wl_store ow 0 0 (want0 rfl) rfl rfl (put_in (t := 9) (put_size (put_size (put_size (put_size z)))) rfl) (pb 9 (pb 49 (put_in (t := 48) (put_size (put_size z)) rfl) rfl) rfl) (by kernel_rfl) rfl rfl rfl fun fw ow => ?_
   refine wl_value (v := .bool false) (want0 rfl) (xassign rfl (pb 9 (put_in (t := 49) (put_size (put_size (put_size z))) rfl) rfl)) ?_
   refine gt7 (put_size (put_size (put_size (put_size (put_size (put_size z)))))) (put_def (put_def (put_def (put_def (put_def (put_def q)))))) ow 0 (pb 10 (pb 9 (pb 49 (pb 48 (pb 41 (pb 47 s0 rfl) rfl) rfl) rfl) rfl) rfl) 4 (pb 10 (pb 9 (pb 49 (pb 48 (pb 41 (pb 47 s4 rfl) rfl) rfl) rfl) rfl) rfl) 5 (pb 10 (pb 9 (pb 49 (pb 48 (pb 41 (pb 47 s5 rfl) rfl) rfl) rfl) rfl) rfl) 6 (pb 10 (pb 9 (pb 49 (pb 48 (pb 41 (pb 47 s6 rfl) rfl) rfl) rfl) rfl) rfl) 7 (pb 10 (pb 9 (pb 49 (pb 48 (pb 41 (pb 47 s7 rfl) rfl) rfl) rfl) rfl) rfl) 9 (pb 10 (put_in (t := 9) (put_size (put_size (put_size (put_size z)))) rfl) rfl) 10 (put_in (t := 10) (put_size (put_size (put_size (put_size (put_size z))))) rfl) fun fa fw z q ow s0 s4 s5 s6 s7 s9 s10 => ?_
   refine wl_then (hK14 _ _ ?_)
   try clear hK14 K14
   refine wp_seq_k fun K15 hK15 => ?_
   refine rgn [yV _, yV _] 2 57 z (by kernel_rfl) (by kernel_rfl) (
     mvS s10 rfl rfl rfl rfl <|
     armS (wn rfl) (fun aa ww hk bs hd => xnot rfl (dep hd 0 rfl rfl rfl)) rfl <|
     arm0) fun fa fw hk bs hv ap => ?_
   obtain ⟨z, q, ov⟩ := aft hk bs z q ow
   have s0 := bs.get 0 rfl s0
   have s4 := bs.get 4 rfl s4
   have s5 := bs.get 5 rfl s5
   have s6 := bs.get 6 rfl s6
   have s7 := bs.get 7 rfl s7
   have s9 := bs.get 9 rfl s9
   have s51 := got hv 1 rfl rfl rfl
   have ow := ov
   clear hv ap bs hk ov
   refine wl_then (hK15 _ _ ?_)
   try clear hK15 K15
   refine wp_cond_true (s51) ?_
   refine wp_seq_k fun K16 hK16 => ?_
   refine rgn [yV (aggV x)] 1 57 z (by kernel_rfl) (by kernel_rfl) (
     armS (wn rfl) (fun aa ww hk bs hd => xloadN 3 rfl (by kernel_rfl) (by kernel_rfl) (bs.get 9 rfl s9) ((ow.keep hk).box 0 rfl) (Nat.le_of_ble_eq_true rfl) rfl) rfl <|
     arm0) fun fa fw hk bs hv ap => ?_
   obtain ⟨z, q, ov⟩ := aft hk bs z q ow
   have s0 := bs.get 0 rfl s0
   have s4 := bs.get 4 rfl s4
   have s5 := bs.get 5 rfl s5
   have s6 := bs.get 6 rfl s6
   have s7 := bs.get 7 rfl s7
   have s52 := got hv 0 rfl rfl rfl
   have ow := ov
   clear hv ap bs hk ov
   refine wl_store ow 1 0 (want0 rfl) rfl rfl s4 s52 (by kernel_rfl) rfl rfl rfl fun fw ow => ?_
   refine wl_value (v := .int .i64 0) (want0 rfl) (xassign rfl rfl) ?_
   refine gt5 (put_size z) (put_def q) ow 0 (pb 5 s0 rfl) 4 (pb 5 s4 rfl) 6 (pb 5 s6 rfl) 7 (pb 5 s7 rfl) 5 (put_in (t := 5) z rfl) fun fa fw z q ow s0 s4 s6 s7 s5 => ?_
   refine wl_then (hK16 _ _ ?_)
   try clear hK16 K16
   refine wp_ret ?_
   refine then_r ?_
   refine resultsL (v := .tuple #[aggV x, .int .i64 0]) rfl (.cons (res_cell (n := 3) _ s4 (by kernel_rfl) (by kernel_rfl) (ow.box 1 rfl) (Nat.le_of_ble_eq_true rfl) rfl) (.cons (res_tmp s5) .nil)) rfl q ?_
   exact ⟨ret_pair13 (v13_err (by omega) (by rw [h2]; rfl) hval hfst), ow.kept⟩
  have ow := how
  clear how
  have hn0 : isE (vNum v) = false := none_1 hfst
  have hn1 : isE (vNum u) = false := none_2 hfst
  refine wl_value (v := .tuple #[aggV x, .bool true]) (want0 rfl) (xmove rfl (put_in (t := 47) z rfl)) ?_
  refine wl_value (v := aggV x) (want0 rfl) (xextract rfl (put_in (t := 41) (put_size z) rfl) rfl) ?_
  refine wl_value (v := .bool true) (want0 rfl) (xextract rfl (pb 48 (put_in (t := 41) (put_size z) rfl) rfl) rfl) ?_
  refine wl_newP ow (want0 rfl) (xalloc (b := .cells #[.int .u8 0, .int .i64 0, .string ⟨[].toArray⟩] 25 (0, 0)) rfl (by kernel_rfl)) fun gb6 fw ow => ?_
  refine wl_store ow 0 0 (want0 rfl) rfl rfl (put_in (t := 9) (put_size (put_size (put_size (put_size z)))) rfl) (pb 9 (pb 49 (put_in (t := 48) (put_size (put_size z)) rfl) rfl) rfl) (by kernel_rfl) rfl rfl rfl fun fw ow => ?_
  refine wl_value (v := .bool true) (want0 rfl) (xassign rfl (pb 9 (put_in (t := 49) (put_size (put_size (put_size z))) rfl) rfl)) ?_
  refine gt7 (put_size (put_size (put_size (put_size (put_size (put_size z)))))) (put_def (put_def (put_def (put_def (put_def (put_def q)))))) ow 0 (pb 10 (pb 9 (pb 49 (pb 48 (pb 41 (pb 47 s0 rfl) rfl) rfl) rfl) rfl) rfl) 4 (pb 10 (pb 9 (pb 49 (pb 48 (pb 41 (pb 47 s4 rfl) rfl) rfl) rfl) rfl) rfl) 5 (pb 10 (pb 9 (pb 49 (pb 48 (pb 41 (pb 47 s5 rfl) rfl) rfl) rfl) rfl) rfl) 6 (pb 10 (pb 9 (pb 49 (pb 48 (pb 41 (pb 47 s6 rfl) rfl) rfl) rfl) rfl) rfl) 7 (pb 10 (pb 9 (pb 49 (pb 48 (pb 41 (pb 47 s7 rfl) rfl) rfl) rfl) rfl) rfl) 9 (pb 10 (put_in (t := 9) (put_size (put_size (put_size (put_size z)))) rfl) rfl) 10 (put_in (t := 10) (put_size (put_size (put_size (put_size (put_size z))))) rfl) fun fa fw z q ow s0 s4 s5 s6 s7 s9 s10 => ?_
  refine wl_then (hK14 _ _ ?_)
  try clear hK14 K14
  refine wp_seq_k fun K17 hK17 => ?_
  refine rgn [yV _, yV _] 2 57 z (by kernel_rfl) (by kernel_rfl) (
    mvS s10 rfl rfl rfl rfl <|
    armS (wn rfl) (fun aa ww hk bs hd => xnot rfl (dep hd 0 rfl rfl rfl)) rfl <|
    arm0) fun fa fw hk bs hv ap => ?_
  obtain ⟨z, q, ov⟩ := aft hk bs z q ow
  have s0 := bs.get 0 rfl s0
  have s4 := bs.get 4 rfl s4
  have s5 := bs.get 5 rfl s5
  have s6 := bs.get 6 rfl s6
  have s7 := bs.get 7 rfl s7
  have s9 := bs.get 9 rfl s9
  have s51 := got hv 1 rfl rfl rfl
  have ow := ov
  clear hv ap bs hk ov
  refine wl_then (hK17 _ _ ?_)
  try clear hK17 K17
  refine wp_cond_false (s51) ?_
  refine wp_skip ?_
  refine then_n (hK13 _ _ ?_)
  try clear hK13 K13
  refine wp_seq_k fun K18 hK18 => ?_
  refine rgn [yV _, yV _, yV _, yV (aggV (val13 fn ((vNum v).n) ((vNum u).n)))] 4 57 z (by kernel_rfl) (by kernel_rfl) (
    mvS s0 rfl rfl rfl rfl <|
    armS (wn rfl) (fun aa ww hk bs hd => xloadB rfl (by kernel_rfl) (bs.get 6 rfl s6) ((ow.keep hk).box 2 rfl) rfl) rfl <|
    armS (wn rfl) (fun aa ww hk bs hd => xloadB rfl (by kernel_rfl) (bs.get 7 rfl s7) ((ow.keep hk).box 1 rfl) rfl) rfl <|
    armC (wn rfl) (fun aa ww hk bs hd => xcall3 rfl (dep hd 0 rfl rfl rfl) (dep hd 1 rfl rfl rfl) (dep hd 2 rfl rfl rfl) (en_fnum_value _ _)) (fun aa ww hk bs hd => value13_any fn ((vNum v).n) ((vNum u).n) _ (by omega) (by omega) (num_range hn0 s_v.1) (num_range hn1 s_u.1)) rfl <|
    arm0) fun fa fw hk bs hv ap => ?_
  obtain ⟨z, q, ov⟩ := aft hk bs z q ow
  have s4 := bs.get 4 rfl s4
  have s5 := bs.get 5 rfl s5
  have s56 := got hv 3 rfl rfl rfl
  have ow := ov
  clear hv ap bs hk ov
  refine wl_store ow 3 0 (want0 rfl) rfl rfl s4 s56 (by kernel_rfl) rfl rfl rfl fun fw ow => ?_
  refine wl_value (v := .int .i64 0) (want0 rfl) (xassign rfl rfl) ?_
  refine gt2 (put_size z) (put_def q) ow 4 (pb 5 s4 rfl) 5 (put_in (t := 5) z rfl) fun fa fw z q ow s4 s5 => ?_
  refine wl_then (hK18 _ _ ?_)
  try clear hK18 K18
  refine wp_ret ?_
  refine resultsL (v := .tuple #[aggV (val13 fn ((vNum v).n) ((vNum u).n)), .int .i64 0]) rfl (.cons (res_cell (n := 3) _ s4 (by kernel_rfl) (by kernel_rfl) (ow.box 3 rfl) (Nat.le_of_ble_eq_true rfl) rfl) (.cons (res_tmp s5) .nil)) rfl q ?_
  exact ⟨ret_pair13 (c13_val2 (by omega) h2 hval hfst), ow.kept⟩
set_option maxHeartbeats 8000000 in
theorem call13_one (fn : Nat) (A : Option Addr) (cap : Nat) (l : List Vl) (w : World) (mx : Int) (HM : Mx w mx) (hr : RowV w A l) (hs : ∀ v ∈ l, Small v) (h2 : two13 fn = false) :
    Calls Tryz.prog 27 #[.int .u8 fn, .slice A l.length cap] w fun e w' => e = .returned (.tuple #[aggV (vCall13 fn l).1, .int .i64 (vCall13 fn l).2]) ∧ Kept w w' := by
  go_enter Tryz.func27, Tryz.ntmps27
  refine wp_seq_k fun K1 hK1 => ?_
  refine rgn [yNew w.heap.size (.cells #[.int .u8 0, .int .i64 0, .string ⟨[].toArray⟩] 25 (0, 0)), yV _] 2 57 rfl (by kernel_rfl) (by kernel_rfl) (
    armP (wn rfl) (fun aa ww hk bs hd => xalloc rfl (by kernel_rfl)) rfl <|
    armS (wn rfl) (fun aa ww hk bs hd => xassign rfl rfl) rfl <|
    arm0) fun fa fw hk bs hv ap => ?_
  obtain ⟨z, q, ov⟩ := aft hk bs rfl rfl (Own.start w)
  have s0 := bs.get 0 rfl rfl
  have s1 := bs.get 1 rfl rfl
  obtain ⟨gb1, s4, bgb1, hgb1⟩ := gotP hv 0 rfl rfl rfl
  have ov := ov.cons hgb1 (Nat.le_trans (Own.start w).kept.size bgb1) ((Own.start w).below bgb1)
  have s5 := got hv 1 rfl rfl rfl
  have ow := ov
  clear hv ap bs hk ov
  refine wl_then (hK1 _ _ ?_)
  try clear hK1 K1
  refine wp_seq_k fun K2 hK2 => ?_
  refine wp_seq_k fun K3 hK3 => ?_
  refine rgn [yV _, yV _, yV _, yIf (((decide ((fn : Int) < (1 : Int))) = false)) (yV (.int .u8 (fn : Int))), yIf (((decide ((fn : Int) < (1 : Int))) = false)) (yV (.bool (decide ((8 : Int) < (fn : Int))))), yV _] 6 57 z (by kernel_rfl) (by kernel_rfl) (
    mvS s0 rfl rfl rfl rfl <|
    armS (wn rfl) (fun aa ww hk bs hd => xlss rfl (dep hd 0 rfl rfl rfl) rfl) rfl <|
    mvD 1 rfl rfl rfl rfl rfl rfl <|
    arm (fun aa ww hk bs hd => by
      have d2 : aa.eval (.tmp 13) = .bool (decide ((fn : Int) < (1 : Int))) := depX hd 2 rfl
      by_cases hz : ((decide ((fn : Int) < (1 : Int))) = false)
      · exact stepX_same (v := .int .u8 (fn : Int)) (want1 (j := 2) (b := false) rfl (d2.trans (congrArg Value.bool hz))) (xmove rfl (bs.get 0 rfl s0)) ⟨fun _ => rfl, fun c => absurd hz c⟩ rfl
      · exact stepX_skip (wantN (j := 2) (b := false) (b' := true) rfl (d2.trans (congrArg Value.bool ((Bool.not_eq_false _).mp hz))) rfl) ⟨fun c => absurd c hz, fun _ => rfl⟩ rfl
      ) <|
    arm (fun aa ww hk bs hd => by
      have d2 : aa.eval (.tmp 13) = .bool (decide ((fn : Int) < (1 : Int))) := depX hd 2 rfl
      have d3 : (((decide ((fn : Int) < (1 : Int))) = false) → aa.eval (.tmp 14) = .int .u8 (fn : Int)) ∧ (¬ (((decide ((fn : Int) < (1 : Int))) = false)) → aa.eval (.tmp 14) = undef) := depX hd 3 rfl
      by_cases hz : ((decide ((fn : Int) < (1 : Int))) = false)
      · exact stepX_same (v := .bool (decide ((8 : Int) < (fn : Int)))) (want1 (j := 2) (b := false) rfl (d2.trans (congrArg Value.bool hz))) (xgtr rfl (d3.1 hz) rfl) ⟨fun _ => rfl, fun c => absurd hz c⟩ rfl
      · exact stepX_skip (wantN (j := 2) (b := false) (b' := true) rfl (d2.trans (congrArg Value.bool ((Bool.not_eq_false _).mp hz))) rfl) ⟨fun c => absurd c hz, fun _ => rfl⟩ rfl
      ) <|
    arm (fun aa ww hk bs hd => by
      have d2 : aa.eval (.tmp 13) = .bool (decide ((fn : Int) < (1 : Int))) := depX hd 2 rfl
      have d4 : (((decide ((fn : Int) < (1 : Int))) = false) → aa.eval (.tmp 15) = .bool (decide ((8 : Int) < (fn : Int)))) ∧ (¬ (((decide ((fn : Int) < (1 : Int))) = false)) → aa.eval (.tmp 15) = undef) := depX hd 4 rfl
      exact stepX_same (v := .bool ((decide ((fn : Int) < (1 : Int))) || (decide ((8 : Int) < (fn : Int))))) (want0 rfl) (xor_ rfl (d2) rfl (fun hb => d4.1 hb)) rfl rfl
      ) <|
    arm0) fun fa fw hk bs hv ap => ?_
  obtain ⟨z, q, ov⟩ := aft hk bs z q ow
  have s0 := bs.get 0 rfl s0
  have s1 := bs.get 1 rfl s1
  have s4 := bs.get 4 rfl s4
  have s5 := bs.get 5 rfl s5
  have s16 := got hv 5 rfl rfl rfl
  have ow := ov
  clear hv ap bs hk ov
  refine wl_then (hK3 _ _ ?_)
  try clear hK3 K3
  by_cases hc1 : ((fn : Int) < (1 : Int)) ∨ ((8 : Int) < (fn : Int))
  ·refine wp_cond_true (s16.trans (congrArg Value.bool ((bor (decide_eq_true_iff) (decide_eq_true_iff)).2 hc1))) ?_
   refine wp_seq_k fun K4 hK4 => ?_
   refine rgn [yV (aggV (⟨0, 0, []⟩ : Vl))] 1 57 z (by kernel_rfl) (by kernel_rfl) (
     armS (wn rfl) (fun aa ww hk bs hd => xbuild (us := #[]) rfl (by simp) (by kernel_rfl)) rfl <|
     arm0) fun fa fw hk bs hv ap => ?_
   obtain ⟨z, q, ov⟩ := aft hk bs z q ow
   have s0 := bs.get 0 rfl s0
   have s1 := bs.get 1 rfl s1
   have s4 := bs.get 4 rfl s4
   have s5 := bs.get 5 rfl s5
   have s17 := got hv 0 rfl rfl rfl
   have ow := ov
   clear hv ap bs hk ov
   refine wl_store ow 0 0 (want0 rfl) rfl rfl s4 s17 (by kernel_rfl) rfl rfl rfl fun fw ow => ?_
   refine wl_value (v := .int .i64 10) (want0 rfl) (xassign rfl rfl) ?_
   refine gt4 (put_size z) (put_def q) ow 0 (pb 5 s0 rfl) 1 (pb 5 s1 rfl) 4 (pb 5 s4 rfl) 5 (put_in (t := 5) z rfl) fun fa fw z q ow s0 s1 s4 s5 => ?_
   refine wl_then (hK4 _ _ ?_)
   try clear hK4 K4
   refine wp_ret ?_
   refine then_r ?_
   refine resultsL (v := .tuple #[aggV (⟨0, 0, []⟩ : Vl), .int .i64 10]) rfl (.cons (res_cell (n := 3) _ s4 (by kernel_rfl) (by kernel_rfl) (ow.box 0 rfl) (Nat.le_of_ble_eq_true rfl) rfl) (.cons (res_tmp s5) .nil)) rfl q ?_
   exact ⟨ret_pair13 (v13_name (by omega)), ow.kept⟩
  refine wp_cond_false (s16.trans (congrArg Value.bool (Bool.eq_false_iff.2 (fun c => hc1 ((bor (decide_eq_true_iff) (decide_eq_true_iff)).1 c))))) ?_
  refine wp_skip ?_
  refine then_n (hK2 _ _ ?_)
  try clear hK2 K2
  refine wp_seq_k fun K5 hK5 => ?_
  refine wp_seq_k fun K6 hK6 => ?_
  refine rgn [yV _, yV (.bool false), yV _, yNo, yNo, yNo, yV _, yV _, yV _, yV (.bool false), yV _, yV _, yV _, yV _, yV _, yV _, yV _] 17 57 z (by kernel_rfl) (by kernel_rfl) (
    mvS s0 rfl rfl rfl rfl <|
    armD (wn rfl) (fun aa ww hk bs hd => xcall1 rfl (dep hd 0 rfl rfl rfl) (en_fnum_two _ _)) (fun aa ww hk bs hd => two13_any fn ww) (congrArg Value.bool h2) rfl <|
    mvD 1 rfl rfl rfl rfl rfl rfl <|
    armO (j := 2) (b := true) rfl rfl rfl rfl rfl <|
    armO (j := 2) (b := true) rfl rfl rfl rfl rfl <|
    armO (j := 2) (b := true) rfl rfl rfl rfl rfl <|
    armS (wn rfl) (fun aa ww hk bs hd => xpickF rfl (dep hd 2 rfl rfl rfl) rfl) rfl <|
    mvD 6 rfl rfl rfl rfl rfl rfl <|
    armS (wg (j := 7) (b := false) rfl rfl rfl) (fun aa ww hk bs hd => xmove rfl (bs.get 0 rfl s0)) rfl <|
    armD (wg (j := 7) (b := false) rfl rfl rfl) (fun aa ww hk bs hd => xcall1 rfl (dep hd 8 rfl rfl rfl) (en_fnum_two _ _)) (fun aa ww hk bs hd => two13_any fn ww) (congrArg Value.bool h2) rfl <|
    armS (wg (j := 7) (b := false) rfl rfl rfl) (fun aa ww hk bs hd => xnot rfl (dep hd 9 rfl rfl rfl)) rfl <|
    armS (wg (j := 7) (b := false) rfl rfl rfl) (fun aa ww hk bs hd => xmove rfl (dep hd 10 rfl rfl rfl)) rfl <|
    armS (wg (j := 11) (b := true) rfl rfl rfl) (fun aa ww hk bs hd => xmove rfl (bs.get 1 rfl s1)) rfl <|
    armS (wg (j := 11) (b := true) rfl rfl rfl) (fun aa ww hk bs hd => xlen Tryz.underlying22 rfl (dep hd 12 rfl rfl rfl)) rfl <|
    armS (wg (j := 11) (b := true) rfl rfl rfl) (fun aa ww hk bs hd => xnei rfl (dep hd 13 rfl rfl rfl) rfl) rfl <|
    armS (wg (j := 7) (b := false) rfl rfl rfl) (fun aa ww hk bs hd => xpickT rfl (dep hd 11 rfl rfl rfl) (dep hd 14 rfl rfl rfl)) rfl <|
    armS (wn rfl) (fun aa ww hk bs hd => xpickF rfl (dep hd 7 rfl rfl rfl) (dep hd 15 rfl rfl rfl)) rfl <|
    arm0) fun fa fw hk bs hv ap => ?_
  obtain ⟨z, q, ov⟩ := aft hk bs z q ow
  have s0 := bs.get 0 rfl s0
  have s1 := bs.get 1 rfl s1
  have s4 := bs.get 4 rfl s4
  have s5 := bs.get 5 rfl s5
  have s34 := got hv 16 rfl rfl rfl
  have ow := ov
  clear hv ap bs hk ov
  refine wl_then (hK6 _ _ ?_)
  try clear hK6 K6
  by_cases hc2 : ((l.length : Nat) : Int) ≠ (1 : Int)
  ·refine wp_cond_true (s34.trans (congrArg Value.bool ((decide_eq_true_iff).2 hc2))) ?_
   have hlen : ¬ (l.length = 1) := by omega
   refine wp_seq_k fun K7 hK7 => ?_
   refine rgn [yV (aggV (⟨0, 0, []⟩ : Vl))] 1 57 z (by kernel_rfl) (by kernel_rfl) (
     armS (wn rfl) (fun aa ww hk bs hd => xbuild (us := #[]) rfl (by simp) (by kernel_rfl)) rfl <|
     arm0) fun fa fw hk bs hv ap => ?_
   obtain ⟨z, q, ov⟩ := aft hk bs z q ow
   have s0 := bs.get 0 rfl s0
   have s1 := bs.get 1 rfl s1
   have s4 := bs.get 4 rfl s4
   have s5 := bs.get 5 rfl s5
   have s35 := got hv 0 rfl rfl rfl
   have ow := ov
   clear hv ap bs hk ov
   refine wl_store ow 0 0 (want0 rfl) rfl rfl s4 s35 (by kernel_rfl) rfl rfl rfl fun fw ow => ?_
   refine wl_value (v := .int .i64 11) (want0 rfl) (xassign rfl rfl) ?_
   refine gt4 (put_size z) (put_def q) ow 0 (pb 5 s0 rfl) 1 (pb 5 s1 rfl) 4 (pb 5 s4 rfl) 5 (put_in (t := 5) z rfl) fun fa fw z q ow s0 s1 s4 s5 => ?_
   refine wl_then (hK7 _ _ ?_)
   try clear hK7 K7
   refine wp_ret ?_
   refine then_r ?_
   refine resultsL (v := .tuple #[aggV (⟨0, 0, []⟩ : Vl), .int .i64 11]) rfl (.cons (res_cell (n := 3) _ s4 (by kernel_rfl) (by kernel_rfl) (ow.box 0 rfl) (Nat.le_of_ble_eq_true rfl) rfl) (.cons (res_tmp s5) .nil)) rfl q ?_
   exact ⟨ret_pair13 (v13_count (by omega) (by rw [h2]; exact hlen)), ow.kept⟩
  refine wp_cond_false (s34.trans (congrArg Value.bool (Bool.eq_false_iff.2 (fun c => hc2 ((decide_eq_true_iff).1 c))))) ?_
  have hlen : l.length = 1 := by omega
  refine wp_skip ?_
  refine then_n (hK5 _ _ ?_)
  try clear hK5 K5
  refine wp_seq_k fun K8 hK8 => ?_
  refine wp_seq_k fun K9 hK9 => ?_
  obtain ⟨v, rfl⟩ := len_one hlen
  obtain ⟨b0, off0, rfl, _⟩ := hr 0 (Nat.zero_lt_succ _)
  have s_v : Small v := hs _ (by simp)
  refine rgn [yV _, yV (.bool ([v].all vOk)), yV _] 3 57 z (by kernel_rfl) (by kernel_rfl) (
    mvS s1 rfl rfl rfl rfl <|
    armC (wn rfl) (fun aa ww hk bs hd => xcall1 rfl (dep hd 0 rfl rfl rfl) (en_fnum_valid _ _)) (fun aa ww hk bs hd => valid13r_any b0 off0 cap [v] ww (hr.kept (ow.keep hk).kept) hs (by simp)) rfl <|
    armS (wn rfl) (fun aa ww hk bs hd => xnot rfl (dep hd 1 rfl rfl rfl)) rfl <|
    arm0) fun fa fw hk bs hv ap => ?_
  obtain ⟨z, q, ov⟩ := aft hk bs z q ow
  have s0 := bs.get 0 rfl s0
  have s1 := bs.get 1 rfl s1
  have s4 := bs.get 4 rfl s4
  have s5 := bs.get 5 rfl s5
  have s38 := got hv 2 rfl rfl rfl
  have ow := ov
  clear hv ap bs hk ov
  refine wl_then (hK9 _ _ ?_)
  try clear hK9 K9
  by_cases hc3 : ¬ (([v].all vOk) = true)
  ·refine wp_cond_true (s38.trans (congrArg Value.bool ((bnot (Iff.rfl)).2 hc3))) ?_
   have hval : [v].all vOk = false := by simpa using hc3
   refine wp_seq_k fun K10 hK10 => ?_
   refine rgn [yV (aggV (⟨0, 0, []⟩ : Vl))] 1 57 z (by kernel_rfl) (by kernel_rfl) (
     armS (wn rfl) (fun aa ww hk bs hd => xbuild (us := #[]) rfl (by simp) (by kernel_rfl)) rfl <|
     arm0) fun fa fw hk bs hv ap => ?_
   obtain ⟨z, q, ov⟩ := aft hk bs z q ow
   have s0 := bs.get 0 rfl s0
   have s1 := bs.get 1 rfl s1
   have s4 := bs.get 4 rfl s4
   have s5 := bs.get 5 rfl s5
   have s39 := got hv 0 rfl rfl rfl
   have ow := ov
   clear hv ap bs hk ov
   refine wl_store ow 0 0 (want0 rfl) rfl rfl s4 s39 (by kernel_rfl) rfl rfl rfl fun fw ow => ?_
   refine wl_value (v := .int .i64 2) (want0 rfl) (xassign rfl rfl) ?_
   refine gt4 (put_size z) (put_def q) ow 0 (pb 5 s0 rfl) 1 (pb 5 s1 rfl) 4 (pb 5 s4 rfl) 5 (put_in (t := 5) z rfl) fun fa fw z q ow s0 s1 s4 s5 => ?_
   refine wl_then (hK10 _ _ ?_)
   try clear hK10 K10
   refine wp_ret ?_
   refine then_r ?_
   refine resultsL (v := .tuple #[aggV (⟨0, 0, []⟩ : Vl), .int .i64 2]) rfl (.cons (res_cell (n := 3) _ s4 (by kernel_rfl) (by kernel_rfl) (ow.box 0 rfl) (Nat.le_of_ble_eq_true rfl) rfl) (.cons (res_tmp s5) .nil)) rfl q ?_
   exact ⟨ret_pair13 (v13_arg (by omega) (by rw [h2]; rfl) hval), ow.kept⟩
  refine wp_cond_false (s38.trans (congrArg Value.bool (Bool.eq_false_iff.2 (fun c => hc3 ((bnot (Iff.rfl)).1 c))))) ?_
  have hval : [v].all vOk = true := by simpa using hc3
  refine wp_skip ?_
  refine then_n (hK8 _ _ ?_)
  try clear hK8 K8
  refine wp_seq_k fun K11 hK11 => ?_
  refine rgn [yNew fw.heap.size (.cells #[.int .i64 0] 2 (0, 0)), yNew fw.heap.size (.cells #[.int .i64 0] 2 (0, 0))] 2 57 z (by kernel_rfl) (by kernel_rfl) (
    armP (wn rfl) (fun aa ww hk bs hd => xalloc rfl (by kernel_rfl)) rfl <|
    armP (wn rfl) (fun aa ww hk bs hd => xalloc rfl (by kernel_rfl)) rfl <|
    arm0) fun fa fw hk bs hv ap => ?_
  obtain ⟨z, q, ov⟩ := aft hk bs z q ow
  have s0 := bs.get 0 rfl s0
  have s1 := bs.get 1 rfl s1
  have s4 := bs.get 4 rfl s4
  have s5 := bs.get 5 rfl s5
  obtain ⟨gb2, s6, bgb2, hgb2⟩ := gotP hv 0 rfl rfl rfl
  have ov := ov.cons hgb2 (Nat.le_trans ow.kept.size bgb2) (ow.below bgb2)
  obtain ⟨gb3, s7, bgb3, hgb3⟩ := gotP hv 1 rfl rfl rfl
  have ov := ov.cons hgb3 (Nat.le_trans ow.kept.size bgb3) (ne_cons (apartP ap 0 1 rfl rfl rfl s6 rfl s7 rfl) (ow.below bgb3))
  have ow := ov
  clear hv ap bs hk ov
  refine wl_then (hK11 _ _ ?_)
  try clear hK11 K11
  refine wp_seq_k fun K12 hK12 => ?_
  refine rgn [ySlice fw.heap.size 2 (.cells #[.pointer (some ⟨gb2, 0, none⟩), .pointer (some ⟨gb3, 0, none⟩)] 108 (0, 0))] 1 57 z (by kernel_rfl) (by kernel_rfl) (
    armL (wn rfl) (fun aa ww hk bs hd => xbuildSlice (us := #[(0, .pointer (some ⟨gb2, 0, none⟩)), (1, .pointer (some ⟨gb3, 0, none⟩))]) rfl (by simp only [List.map_toArray, List.map_cons, List.map_nil, bs.get 6 rfl s6, bs.get 7 rfl s7]) (by kernel_rfl)) rfl <|
    arm0) fun fa fw hk bs hv ap => ?_
  obtain ⟨z, q, ov⟩ := aft hk bs z q ow
  have s0 := bs.get 0 rfl s0
  have s1 := bs.get 1 rfl s1
  have s4 := bs.get 4 rfl s4
  have s5 := bs.get 5 rfl s5
  have s6 := bs.get 6 rfl s6
  have s7 := bs.get 7 rfl s7
  obtain ⟨gb4, s40, bgb4, hgb4⟩ := gotL hv 0 rfl rfl rfl
  have ov := ov.cons hgb4 (Nat.le_trans ow.kept.size bgb4) (ow.below bgb4)
  have ow := ov
  clear hv ap bs hk ov
  refine wl_value (v := .slice (some ⟨gb4, 0, none⟩) 2 2) (want0 rfl) (xassign rfl s40) ?_
  refine gt7 (put_size z) (put_def q) ow 0 (pb 8 s0 rfl) 1 (pb 8 s1 rfl) 4 (pb 8 s4 rfl) 5 (pb 8 s5 rfl) 6 (pb 8 s6 rfl) 7 (pb 8 s7 rfl) 8 (put_in (t := 8) z rfl) fun fa fw z q ow s0 s1 s4 s5 s6 s7 s8 => ?_
  refine wl_then (hK12 _ _ ?_)
  try clear hK12 K12
  refine wp_seq_k fun K13 hK13 => ?_
  refine wp_seq_k fun K14 hK14 => ?_
  refine rgn [yV _, yV _, yV _, yV _, yV _] 5 57 z (by kernel_rfl) (by kernel_rfl) (
    mvS s1 rfl rfl rfl rfl <|
    mvS s8 rfl rfl rfl rfl <|
    mvS s1 rfl rfl rfl rfl <|
    armS (wn rfl) (fun aa ww hk bs hd => xlen Tryz.underlying22 rfl (dep hd 2 rfl rfl rfl)) rfl <|
    armS (wn rfl) (fun aa ww hk bs hd => xsliceTo3 Tryz.underlying109 (by kernel_rfl) rfl (h := 1) (dep hd 1 rfl rfl rfl) (dep hd 3 rfl rfl rfl) (by decide)) rfl <|
    arm0) fun fa fw hk bs hv ap => ?_
  obtain ⟨z, q, ov⟩ := aft hk bs z q ow
  have s0 := bs.get 0 rfl s0
  have s4 := bs.get 4 rfl s4
  have s5 := bs.get 5 rfl s5
  have s6 := bs.get 6 rfl s6
  have s7 := bs.get 7 rfl s7
  have s42 := got hv 0 rfl rfl rfl
  have s46 := got hv 4 rfl rfl rfl
  have ow := ov
  clear hv ap bs hk ov
  refine wl_enter (want0 rfl) (xcall2 (u := .slice (some ⟨b0, off0, none⟩) 1 cap) (v := .slice (some ⟨gb4, 0, none⟩) 1 2) rfl s42 s46 (en_fnum_numbers _ _)) ((numbers13_1 v b0 off0 cap gb4 gb2 gb3 2 [Th.obj gb1 (.cells #[.int .u8 0, .int .i64 0, .string ⟨[].toArray⟩] 25 (0, 0))] w _ mx HM ow (fun u o => hr.kept o.kept) s_v).mono ?_)
  rintro _ fw ⟨x, ok, rfl, hcv⟩
  refine ⟨_, rfl, ?_⟩
  rcases hcv with ⟨rfl, hfst, how⟩ | ⟨rfl, hfst, how⟩
  ·skip
   have ow := how
   clear how
   refine wl_value (v := .tuple #[aggV x, .bool false]) (want0 rfl) (xmove rfl (put_in (t := 47) z rfl)) ?_
   refine wl_value (v := aggV x) (want0 rfl) (xextract rfl (put_in (t := 41) (put_size z) rfl) rfl) ?_
   refine wl_value (v := .bool false) (want0 rfl) (xextract rfl (pb 48 (put_in (t := 41) (put_size z) rfl) rfl) rfl) ?_
   refine wl_newP ow (want0 rfl) (xalloc (b := .cells #[.int .u8 0, .int .i64 0, .string ⟨[].toArray⟩] 25 (0, 0)) rfl (by kernel_rfl)) fun gb5 fw ow => ?_
   refine wl_store ow 0 0 (want0 rfl) rfl rfl (put_in (t := 9) (put_size (put_size (put_size (put_size z)))) rfl) (pb 9 (pb 49 (put_in (t := 48) (put_size (put_size z)) rfl) rfl) rfl) (by kernel_rfl) rfl rfl rfl fun fw ow => ?_
   refine wl_value (v := .bool false) (want0 rfl) (xassign rfl (pb 9 (put_in (t := 49) (put_size (put_size (put_size z))) rfl) rfl)) ?_
   refine gt7 (put_size (put_size (put_size (put_size (put_size (put_size z)))))) (put_def (put_def (put_def (put_def (put_def (put_def q)))))) ow 0 (pb 10 (pb 9 (pb 49 (pb 48 (pb 41 (pb 47 s0 rfl) rfl) rfl) rfl) rfl) rfl) 4 (pb 10 (pb 9 (pb 49 (pb 48 (pb 41 (pb 47 s4 rfl) rfl) rfl) rfl) rfl) rfl) 5 (pb 10 (pb 9 (pb 49 (pb 48 (pb 41 (pb 47 s5 rfl) rfl) rfl) rfl) rfl) rfl) 6 (pb 10 (pb 9 (pb 49 (pb 48 (pb 41 (pb 47 s6 rfl) rfl) rfl) rfl) rfl) rfl) 7 (pb 10 (pb 9 (pb 49 (pb 48 (pb 41 (pb 47 s7 rfl) rfl) rfl) rfl) rfl) rfl) 9 (pb 10 (put_in (t := 9) (put_size (put_size (put_size (put_size z)))) rfl) rfl) 10 (put_in (t := 10) (put_size (put_size (put_size (put_size (put_size z))))) rfl) fun fa fw z q ow s0 s4 s5 s6 s7 s9 s10 => ?_
   refine wl_then (hK14 _ _ ?_)
   try clear hK14 K14
   refine wp_seq_k fun K15 hK15 => ?_
   refine rgn [yV _, yV _] 2 57 z (by kernel_rfl) (by kernel_rfl) (
     mvS s10 rfl rfl rfl rfl <|
     armS (wn rfl) (fun aa ww hk bs hd => xnot rfl (dep hd 0 rfl rfl rfl)) rfl <|
     arm0) fun fa fw hk bs hv ap => ?_
   obtain ⟨z, q, ov⟩ := aft hk bs z q ow
   have s0 := bs.get 0 rfl s0
   have s4 := bs.get 4 rfl s4
   have s5 := bs.get 5 rfl s5
   have s6 := bs.get 6 rfl s6
   have s7 := bs.get 7 rfl s7
   have s9 := bs.get 9 rfl s9
   have s51 := got hv 1 rfl rfl rfl
   have ow := ov
   clear hv ap bs hk ov
   refine wl_then (hK15 _ _ ?_)
   try clear hK15 K15
   refine wp_cond_true (s51) ?_
   refine wp_seq_k fun K16 hK16 => ?_
   refine rgn [yV (aggV x)] 1 57 z (by kernel_rfl) (by kernel_rfl) (
     armS (wn rfl) (fun aa ww hk bs hd => xloadN 3 rfl (by kernel_rfl) (by kernel_rfl) (bs.get 9 rfl s9) ((ow.keep hk).box 0 rfl) (Nat.le_of_ble_eq_true rfl) rfl) rfl <|
     arm0) fun fa fw hk bs hv ap => ?_
   obtain ⟨z, q, ov⟩ := aft hk bs z q ow
   have s0 := bs.get 0 rfl s0
   have s4 := bs.get 4 rfl s4
   have s5 := bs.get 5 rfl s5
   have s6 := bs.get 6 rfl s6
   have s7 := bs.get 7 rfl s7
   have s52 := got hv 0 rfl rfl rfl
   have ow := ov
   clear hv ap bs hk ov
   refine wl_store ow 1 0 (want0 rfl) rfl rfl s4 s52 (by kernel_rfl) rfl rfl rfl fun fw ow => ?_
   refine wl_value (v := .int .i64 0) (want0 rfl) (xassign rfl rfl) ?_
   refine gt5 (put_size z) (put_def q) ow 0 (pb 5 s0 rfl) 4 (pb 5 s4 rfl) 6 (pb 5 s6 rfl) 7 (pb 5 s7 rfl) 5 (put_in (t := 5) z rfl) fun fa fw z q ow s0 s4 s6 s7 s5 => ?_
   refine wl_then (hK16 _ _ ?_)
   try clear hK16 K16
   refine wp_ret ?_
   refine then_r ?_
   refine resultsL (v := .tuple #[aggV x, .int .i64 0]) rfl (.cons (res_cell (n := 3) _ s4 (by kernel_rfl) (by kernel_rfl) (ow.box 1 rfl) (Nat.le_of_ble_eq_true rfl) rfl) (.cons (res_tmp s5) .nil)) rfl q ?_
   exact ⟨ret_pair13 (v13_err (by omega) (by rw [h2]; rfl) hval hfst), ow.kept⟩
  have ow := how
  clear how
  have hn0 : isE (vNum v) = false := none_1 hfst
  refine wl_value (v := .tuple #[aggV x, .bool true]) (want0 rfl) (xmove rfl (put_in (t := 47) z rfl)) ?_
  refine wl_value (v := aggV x) (want0 rfl) (xextract rfl (put_in (t := 41) (put_size z) rfl) rfl) ?_
  refine wl_value (v := .bool true) (want0 rfl) (xextract rfl (pb 48 (put_in (t := 41) (put_size z) rfl) rfl) rfl) ?_
  refine wl_newP ow (want0 rfl) (xalloc (b := .cells #[.int .u8 0, .int .i64 0, .string ⟨[].toArray⟩] 25 (0, 0)) rfl (by kernel_rfl)) fun gb6 fw ow => ?_
  refine wl_store ow 0 0 (want0 rfl) rfl rfl (put_in (t := 9) (put_size (put_size (put_size (put_size z)))) rfl) (pb 9 (pb 49 (put_in (t := 48) (put_size (put_size z)) rfl) rfl) rfl) (by kernel_rfl) rfl rfl rfl fun fw ow => ?_
  refine wl_value (v := .bool true) (want0 rfl) (xassign rfl (pb 9 (put_in (t := 49) (put_size (put_size (put_size z))) rfl) rfl)) ?_
  refine gt7 (put_size (put_size (put_size (put_size (put_size (put_size z)))))) (put_def (put_def (put_def (put_def (put_def (put_def q)))))) ow 0 (pb 10 (pb 9 (pb 49 (pb 48 (pb 41 (pb 47 s0 rfl) rfl) rfl) rfl) rfl) rfl) 4 (pb 10 (pb 9 (pb 49 (pb 48 (pb 41 (pb 47 s4 rfl) rfl) rfl) rfl) rfl) rfl) 5 (pb 10 (pb 9 (pb 49 (pb 48 (pb 41 (pb 47 s5 rfl) rfl) rfl) rfl) rfl) rfl) 6 (pb 10 (pb 9 (pb 49 (pb 48 (pb 41 (pb 47 s6 rfl) rfl) rfl) rfl) rfl) rfl) 7 (pb 10 (pb 9 (pb 49 (pb 48 (pb 41 (pb 47 s7 rfl) rfl) rfl) rfl) rfl) rfl) 9 (pb 10 (put_in (t := 9) (put_size (put_size (put_size (put_size z)))) rfl) rfl) 10 (put_in (t := 10) (put_size (put_size (put_size (put_size (put_size z))))) rfl) fun fa fw z q ow s0 s4 s5 s6 s7 s9 s10 => ?_
  refine wl_then (hK14 _ _ ?_)
  try clear hK14 K14
  refine wp_seq_k fun K17 hK17 => ?_
  refine rgn [yV _, yV _] 2 57 z (by kernel_rfl) (by kernel_rfl) (
    mvS s10 rfl rfl rfl rfl <|
    armS (wn rfl) (fun aa ww hk bs hd => xnot rfl (dep hd 0 rfl rfl rfl)) rfl <|
    arm0) fun fa fw hk bs hv ap => ?_
  obtain ⟨z, q, ov⟩ := aft hk bs z q ow
  have s0 := bs.get 0 rfl s0
  have s4 := bs.get 4 rfl s4
  have s5 := bs.get 5 rfl s5
  have s6 := bs.get 6 rfl s6
  have s7 := bs.get 7 rfl s7
  have s9 := bs.get 9 rfl s9
  have s51 := got hv 1 rfl rfl rfl
  have ow := ov
  clear hv ap bs hk ov
  refine wl_then (hK17 _ _ ?_)
  try clear hK17 K17
  refine wp_cond_false (s51) ?_
  refine wp_skip ?_
  refine then_n (hK13 _ _ ?_)
  try clear hK13 K13
  refine wp_seq_k fun K18 hK18 => ?_
  refine rgn [yV _, yV _, yV _, yV (aggV (val13 fn ((vNum v).n) 0))] 4 57 z (by kernel_rfl) (by kernel_rfl) (
    mvS s0 rfl rfl rfl rfl <|
    armS (wn rfl) (fun aa ww hk bs hd => xloadB rfl (by kernel_rfl) (bs.get 6 rfl s6) ((ow.keep hk).box 2 rfl) rfl) rfl <|
    armS (wn rfl) (fun aa ww hk bs hd => xloadB rfl (by kernel_rfl) (bs.get 7 rfl s7) ((ow.keep hk).box 1 rfl) rfl) rfl <|
    armC (wn rfl) (fun aa ww hk bs hd => xcall3 rfl (dep hd 0 rfl rfl rfl) (dep hd 1 rfl rfl rfl) (dep hd 2 rfl rfl rfl) (en_fnum_value _ _)) (fun aa ww hk bs hd => value13_any fn ((vNum v).n) 0 _ (by omega) (by omega) (num_range hn0 s_v.1) ⟨by decide, by decide⟩) rfl <|
    arm0) fun fa fw hk bs hv ap => ?_
  obtain ⟨z, q, ov⟩ := aft hk bs z q ow
  have s4 := bs.get 4 rfl s4
  have s5 := bs.get 5 rfl s5
  have s56 := got hv 3 rfl rfl rfl
  have ow := ov
  clear hv ap bs hk ov
  refine wl_store ow 3 0 (want0 rfl) rfl rfl s4 s56 (by kernel_rfl) rfl rfl rfl fun fw ow => ?_
  refine wl_value (v := .int .i64 0) (want0 rfl) (xassign rfl rfl) ?_
  refine gt2 (put_size z) (put_def q) ow 4 (pb 5 s4 rfl) 5 (put_in (t := 5) z rfl) fun fa fw z q ow s4 s5 => ?_
  refine wl_then (hK18 _ _ ?_)
  try clear hK18 K18
  refine wp_ret ?_
  refine resultsL (v := .tuple #[aggV (val13 fn ((vNum v).n) 0), .int .i64 0]) rfl (.cons (res_cell (n := 3) _ s4 (by kernel_rfl) (by kernel_rfl) (ow.box 3 rfl) (Nat.le_of_ble_eq_true rfl) rfl) (.cons (res_tmp s5) .nil)) rfl q ?_
  exact ⟨ret_pair13 (c13_val1 (by omega) h2 hval hfst), ow.kept⟩
theorem call13_any (fn : Nat) (A : Option Addr) (cap : Nat) (l : List Vl) (w : World) (mx : Int) (HM : Mx w mx) (hr : RowV w A l) (hs : ∀ v ∈ l, Small v) (hl : l.length ≤ 1000000) (hc : l.length ≤ cap) :
    Calls Tryz.prog 27 #[.int .u8 fn, .slice A l.length cap] w fun e w' => e = .returned (.tuple #[aggV (vCall13 fn l).1, .int .i64 (vCall13 fn l).2]) ∧ Kept w w' := by
  cases h2 : two13 fn with
  | true => exact call13_two fn A cap l w mx HM hr hs h2
  | false => exact call13_one fn A cap l w mx HM hr hs h2
end Go.Proofs.YtbpkfnoenkoabaaGreatDoor
