/- Layer 14: arity, kinds, convert (printed by wip/mkftext2.py). -/
import Derived.Test.YtbpkfnoenkoabaaGreatDoorFhGText1
import Derived.Laws.MakeOwn
namespace Go.Proofs.YtbpkfnoenkoabaaGreatDoor
set_option linter.unusedVariables false
set_option linter.unusedSimpArgs false
open Go.RowKit Lv
set_option maxRecDepth 100000
theorem tmod_near (a : Int) : -10000 < Int.tmod a 10000 ∧ Int.tmod a 10000 < 10000 ∧ (0 ≤ a → 0 ≤ Int.tmod a 10000 ∧ Int.tmod a 10000 ≤ a) ∧ (a < 0 → a ≤ Int.tmod a 10000 ∧ Int.tmod a 10000 ≤ 0) := by
  have h1 := Int.tmod_lt_of_pos a (show (0 : Int) < 10000 by omega); have h2 := Int.lt_tmod_of_pos a (show (0 : Int) < 10000 by omega); have h3 := tmod_within a 10000; refine ⟨by omega, by omega, fun h => ⟨Int.tmod_nonneg _ h, by omega⟩, fun h => ⟨by omega, h3.2.2 h⟩⟩
def fillB (n k : Nat) : Array Value := (List.replicate k (Value.bool true) ++ List.replicate (n - k) (Value.bool false)).toArray
theorem fillB_size {n k : Nat} (h : k ≤ n) : (fillB n k).size = n := by unfold fillB; simp; omega
theorem fillB_get {n k i : Nat} (h : k ≤ n) (hi : i < k) : (fillB n k)[i]? = some (Value.bool true) := by
  unfold fillB; rw [List.getElem?_toArray, List.getElem?_append_left (by simpa using hi), List.getElem?_replicate, if_pos hi]
theorem fillB_step {n k : Nat} (h : k < n) : setCells (fillB n k) k [Value.bool true] = fillB n (k + 1) := by
  show (fillB n k).setIfInBounds k (Value.bool true) = _; unfold fillB; rw [List.setIfInBounds_toArray]
  congr 1
  rw [List.set_append_right _ _ (by simp), List.length_replicate, Nat.sub_self, show n - k = (n - (k + 1)) + 1 by omega, List.replicate_succ, List.set_cons_zero, List.replicate_succ', List.append_assoc]
  rfl
theorem fillB_step0 {n k : Nat} (h : k < n) : setCells (fillB n k) (0 + k) [Value.bool true] = fillB n (k + 1) := by rw [Nat.zero_add]; exact fillB_step h
theorem xmakeB {a : Act} {w : World} {o : Oper} {n : Nat} {x y : Operand} (ho : o.op = .makeSlice 150 x y) (hx : a.eval x = .int .i64 n) (hy : a.eval y = .int .i64 n) (hn : n ≤ 1000) : (execOp a.eval o).run Tryz.prog w = .ok (.value (.slice (some ⟨w.heap.size, 0, none⟩) n n)) (w.alloc (.cells (fillB n 0) 4 (0, 0))) := by
  have h : (Tryz.prog.info? 4).map (fun i => (i.zero, i.size, i.bytes)) = some (some (.bool false), 1, 1) := by kernel_rfl
  cases hi : Tryz.prog.info? 4 with
  | none => rw [hi] at h; cases h
  | some i =>
    rw [hi] at h
    simp at h
    have hr := run_make (P := Tryz.prog) w 150 4 i (.bool false) Tryz.underlying150 hi h.1 .i64 .i64 n n (by omega) (Int.le_refl _) (by rw [h.2.2]; omega) (by omega)
    simp only [Int.toNat_natCast] at hr
    rw [h.2.1, Nat.mul_one] at hr
    have e : madeCells (Value.bool false).cells n = fillB n 0 := by
      unfold fillB; apply Array.ext'; rw [show (Value.bool false).cells = #[Value.bool false] from rfl, toList_madeCells_one]
      simp
    rw [e] at hr; unfold execOp
    simp only [ho, hx, hy, Sem.run_bind, Sem.run_pure, hr, Result.andThen_ok]
theorem xsliceTo2 {a : Act} {w : World} {o : Oper} {T e : TypeId} (hu : Tryz.prog.underlying T = some (.slice e)) (hz : (sizeOf e).run Tryz.prog w = .ok 1 w) {x y : Operand} (ho : o.op = .slice T x none (some y) none) {b n cap h : Nat} (hx : a.eval x = .slice (some ⟨b, 0, none⟩) n cap) (hy : a.eval y = .int .i64 h) (hh : h ≤ cap) : (execOp a.eval o).run Tryz.prog w = .ok (.value (.slice (some ⟨b, 0, none⟩) h cap)) w := by
  have := xsliceTo hu hz ho hx hy hh
  rwa [fz_some] at this
def Kinds (fn n c : Nat) (o : Obj) : Prop := n ≤ c ∧ ∃ cs : Array Value, o = .cells cs 4 (0, 0) ∧ ∀ i, i < n → cs[i]? = some (.bool (txt14 fn i))
theorem kind2 (fn n : Nat) {x y : Bool} (hn : n ≤ 2) (h0 : txt14 fn 0 = x) (h1 : txt14 fn 1 = y) : Kinds fn n 2 (.cells #[.bool x, .bool y] 4 (0, 0)) := by
  refine ⟨hn, _, rfl, fun i hi => ?_⟩; rcases (show i = 0 ∨ i = 1 by omega) with rfl | rfl
  · rw [h0]; rfl
  · rw [h1]; rfl
theorem kind3 (fn n : Nat) {x y z : Bool} (hn : n ≤ 3) (h0 : txt14 fn 0 = x) (h1 : txt14 fn 1 = y) (h2 : txt14 fn 2 = z) : Kinds fn n 3 (.cells #[.bool x, .bool y, .bool z] 4 (0, 0)) := by
  refine ⟨hn, _, rfl, fun i hi => ?_⟩; rcases (show i = 0 ∨ i = 1 ∨ i = 2 by omega) with rfl | rfl | rfl
  · rw [h0]; rfl
  · rw [h1]; rfl
  · rw [h2]; rfl
theorem kind_rest (fn n k : Nat) (hk : k = n) (h1 : ¬ (fn = 32 ∨ fn = 33 ∨ fn = 34 ∨ fn = 39)) (h2 : fn ≠ 41) : Kinds fn n n (.cells (fillB n k) 4 (0, 0)) := by
  subst hk; refine ⟨Nat.le_refl _, _, rfl, fun i hi => ?_⟩; rw [fillB_get (Nat.le_refl _) hi]; unfold txt14; rw [if_neg h1, if_neg h2]
set_option maxHeartbeats 2000000 in
theorem arity14_any (fn : Nat) (w : World) :
    Calls Tryz.prog 59 #[.int .u8 fn] w fun e w' => e = .returned (.tuple #[.int .i64 (lo14 fn : Nat), .int .i64 (hi14 fn : Nat)]) ∧ Kept w w' := by
  go_enter Tryz.func59, Tryz.ntmps59; refine sq fun hK1 => ?_
  refine ro [yV _, yV _] 2 17 rfl rfl (Own.start w) (
    aS (fun hk bs hd => xassign rfl rfl) rfl <|
    aS (fun hk bs hd => xassign rfl rfl) rfl <|
    arm0) fun fa fw bs hv ap z q ow => ?_
  have s0 := bs.get 0 rfl rfl; have s2 := gv hv 0 rfl rfl; have s3 := gv hv 1 rfl rfl; refine wt hK1 ?_; refine sq fun hK2 => ?_; refine sq fun hK3 => ?_
  refine ro [yV _] 1 17 z q ow (
    mvS s0 rfl rfl rfl rfl <|
    arm0) fun fa fw bs hv ap z q ow => ?_
  obtain ⟨s2, s3⟩ := b2 bs s2 s3; have s4 := gv hv 0 rfl rfl; refine wt hK3 ?_; refine wp_block ?_; refine sq fun hK4 => ?_; refine sq fun hK5 => ?_
  refine ro [yV _, yV _] 2 17 z q ow (
    aS (fun hk bs hd => xeqi rfl (bg bs s4) rfl) rfl <|
    asD 0 rfl rfl rfl rfl rfl rfl <|
    arm0) fun fa fw bs hv ap z q ow => ?_
  obtain ⟨s2, s3, s4⟩ := b3 bs s2 s3 s4; have s5 := gv hv 1 rfl rfl; refine wt hK5 ?_
  by_cases hc1 : (fn : Int) = (32 : Int)
  · refine ct s5 ((decide_eq_true_iff).2 hc1) ?_
    refine wp_skip ?_; refine tn hK4 ?_; refine ct s5 ((decide_eq_true_iff).2 hc1) ?_; refine sq fun hK6 => ?_
    refine ro [yV _, yV _] 2 17 z q ow (
      aS (fun hk bs hd => xassign rfl rfl) rfl <|
      aS (fun hk bs hd => xassign rfl rfl) rfl <|
      arm0) fun fa fw bs hv ap z q ow => ?_
    have s2 := gv hv 0 rfl rfl; have s3 := gv hv 1 rfl rfl; refine wt hK6 ?_; refine wp_ret ?_; refine block_r ?_; refine then_r ?_; refine resultsL (v := .tuple #[.int .i64 1, .int .i64 2]) rfl (.cons (res_tmp s2) (.cons (res_tmp s3) .nil)) rfl q ?_; exact ⟨(ret_ii (by unfold lo14; (repeat' split) <;> omega) (by unfold hi14; (repeat' split) <;> omega)), ow.kept⟩
  refine cf s5 (decide_eq_true_iff) hc1 ?_
  refine ro [yV _, yV _] 2 17 z q ow (
    aS (fun hk bs hd => xeqi rfl (bg bs s4) rfl) rfl <|
    asD 0 rfl rfl rfl rfl rfl rfl <|
    arm0) fun fa fw bs hv ap z q ow => ?_
  obtain ⟨s2, s3, s4⟩ := b3 bs s2 s3 s4; have s5 := gv hv 1 rfl rfl; refine wt hK4 ?_
  by_cases hc2 : (fn : Int) = (33 : Int)
  · refine ct s5 ((decide_eq_true_iff).2 hc2) ?_
    refine sq fun hK7 => ?_
    refine ro [yV _, yV _] 2 17 z q ow (
      aS (fun hk bs hd => xassign rfl rfl) rfl <|
      aS (fun hk bs hd => xassign rfl rfl) rfl <|
      arm0) fun fa fw bs hv ap z q ow => ?_
    have s2 := gv hv 0 rfl rfl; have s3 := gv hv 1 rfl rfl; refine wt hK7 ?_; refine wp_ret ?_; refine block_r ?_; refine then_r ?_; refine resultsL (v := .tuple #[.int .i64 1, .int .i64 2]) rfl (.cons (res_tmp s2) (.cons (res_tmp s3) .nil)) rfl q ?_; exact ⟨(ret_ii (by unfold lo14; (repeat' split) <;> omega) (by unfold hi14; (repeat' split) <;> omega)), ow.kept⟩
  refine cf s5 (decide_eq_true_iff) hc2 ?_; refine sq fun hK8 => ?_
  refine ro [yV _, yV _] 2 17 z q ow (
    aS (fun hk bs hd => xeqi rfl (bg bs s4) rfl) rfl <|
    asD 0 rfl rfl rfl rfl rfl rfl <|
    arm0) fun fa fw bs hv ap z q ow => ?_
  obtain ⟨s2, s3, s4⟩ := b3 bs s2 s3 s4; have s8 := gv hv 1 rfl rfl; refine wt hK8 ?_
  by_cases hc3 : (fn : Int) = (34 : Int)
  · refine ct s8 ((decide_eq_true_iff).2 hc3) ?_
    refine sq fun hK9 => ?_
    refine ro [yV _, yV _] 2 17 z q ow (
      aS (fun hk bs hd => xassign rfl rfl) rfl <|
      aS (fun hk bs hd => xassign rfl rfl) rfl <|
      arm0) fun fa fw bs hv ap z q ow => ?_
    have s2 := gv hv 0 rfl rfl; have s3 := gv hv 1 rfl rfl; refine wt hK9 ?_; refine wp_ret ?_; refine block_r ?_; refine then_r ?_; refine resultsL (v := .tuple #[.int .i64 3, .int .i64 3]) rfl (.cons (res_tmp s2) (.cons (res_tmp s3) .nil)) rfl q ?_; exact ⟨(ret_ii (by unfold lo14; (repeat' split) <;> omega) (by unfold hi14; (repeat' split) <;> omega)), ow.kept⟩
  refine cf s8 (decide_eq_true_iff) hc3 ?_; refine sq fun hK10 => ?_
  refine ro [yV _, yV _] 2 17 z q ow (
    aS (fun hk bs hd => xeqi rfl (bg bs s4) rfl) rfl <|
    asD 0 rfl rfl rfl rfl rfl rfl <|
    arm0) fun fa fw bs hv ap z q ow => ?_
  obtain ⟨s2, s3, s4⟩ := b3 bs s2 s3 s4; have s10 := gv hv 1 rfl rfl; refine wt hK10 ?_
  by_cases hc4 : (fn : Int) = (38 : Int)
  · refine ct s10 ((decide_eq_true_iff).2 hc4) ?_
    refine sq fun hK11 => ?_
    refine ro [yV _, yV _] 2 17 z q ow (
      aS (fun hk bs hd => xassign rfl rfl) rfl <|
      aS (fun hk bs hd => xassign rfl rfl) rfl <|
      arm0) fun fa fw bs hv ap z q ow => ?_
    have s2 := gv hv 0 rfl rfl; have s3 := gv hv 1 rfl rfl; refine wt hK11 ?_; refine wp_ret ?_; refine block_r ?_; refine then_r ?_; refine resultsL (v := .tuple #[.int .i64 1, .int .i64 16]) rfl (.cons (res_tmp s2) (.cons (res_tmp s3) .nil)) rfl q ?_; exact ⟨(ret_ii (by unfold lo14; (repeat' split) <;> omega) (by unfold hi14; (repeat' split) <;> omega)), ow.kept⟩
  refine cf s10 (decide_eq_true_iff) hc4 ?_; refine sq fun hK12 => ?_; refine sq fun hK13 => ?_
  refine ro [yV _, yV _] 2 17 z q ow (
    aS (fun hk bs hd => xeqi rfl (bg bs s4) rfl) rfl <|
    asD 0 rfl rfl rfl rfl rfl rfl <|
    arm0) fun fa fw bs hv ap z q ow => ?_
  obtain ⟨s2, s3, s4⟩ := b3 bs s2 s3 s4; have s12 := gv hv 1 rfl rfl; refine wt hK13 ?_
  by_cases hc5 : (fn : Int) = (39 : Int)
  · refine ct s12 ((decide_eq_true_iff).2 hc5) ?_
    refine wp_skip ?_; refine tn hK12 ?_; refine ct s12 ((decide_eq_true_iff).2 hc5) ?_; refine sq fun hK14 => ?_
    refine ro [yV _, yV _] 2 17 z q ow (
      aS (fun hk bs hd => xassign rfl rfl) rfl <|
      aS (fun hk bs hd => xassign rfl rfl) rfl <|
      arm0) fun fa fw bs hv ap z q ow => ?_
    have s2 := gv hv 0 rfl rfl; have s3 := gv hv 1 rfl rfl; refine wt hK14 ?_; refine wp_ret ?_; refine block_r ?_; refine then_r ?_; refine resultsL (v := .tuple #[.int .i64 2, .int .i64 2]) rfl (.cons (res_tmp s2) (.cons (res_tmp s3) .nil)) rfl q ?_; exact ⟨(ret_ii (by unfold lo14; (repeat' split) <;> omega) (by unfold hi14; (repeat' split) <;> omega)), ow.kept⟩
  refine cf s12 (decide_eq_true_iff) hc5 ?_
  refine ro [yV _, yV _] 2 17 z q ow (
    aS (fun hk bs hd => xeqi rfl (bg bs s4) rfl) rfl <|
    asD 0 rfl rfl rfl rfl rfl rfl <|
    arm0) fun fa fw bs hv ap z q ow => ?_
  obtain ⟨s2, s3, s4⟩ := b3 bs s2 s3 s4; have s12 := gv hv 1 rfl rfl; refine wt hK12 ?_
  by_cases hc6 : (fn : Int) = (40 : Int)
  · refine ct s12 ((decide_eq_true_iff).2 hc6) ?_
    refine sq fun hK15 => ?_
    refine ro [yV _, yV _] 2 17 z q ow (
      aS (fun hk bs hd => xassign rfl rfl) rfl <|
      aS (fun hk bs hd => xassign rfl rfl) rfl <|
      arm0) fun fa fw bs hv ap z q ow => ?_
    have s2 := gv hv 0 rfl rfl; have s3 := gv hv 1 rfl rfl; refine wt hK15 ?_; refine wp_ret ?_; refine block_r ?_; refine then_r ?_; refine resultsL (v := .tuple #[.int .i64 2, .int .i64 2]) rfl (.cons (res_tmp s2) (.cons (res_tmp s3) .nil)) rfl q ?_; exact ⟨(ret_ii (by unfold lo14; (repeat' split) <;> omega) (by unfold hi14; (repeat' split) <;> omega)), ow.kept⟩
  refine cf s12 (decide_eq_true_iff) hc6 ?_; refine sq fun hK16 => ?_
  refine ro [yV _, yV _] 2 17 z q ow (
    aS (fun hk bs hd => xeqi rfl (bg bs s4) rfl) rfl <|
    asD 0 rfl rfl rfl rfl rfl rfl <|
    arm0) fun fa fw bs hv ap z q ow => ?_
  obtain ⟨s2, s3⟩ := b2 bs s2 s3; have s15 := gv hv 1 rfl rfl; refine wt hK16 ?_
  by_cases hc7 : (fn : Int) = (41 : Int)
  · refine ct s15 ((decide_eq_true_iff).2 hc7) ?_
    refine sq fun hK17 => ?_
    refine ro [yV _, yV _] 2 17 z q ow (
      aS (fun hk bs hd => xassign rfl rfl) rfl <|
      aS (fun hk bs hd => xassign rfl rfl) rfl <|
      arm0) fun fa fw bs hv ap z q ow => ?_
    have s2 := gv hv 0 rfl rfl; have s3 := gv hv 1 rfl rfl; refine wt hK17 ?_; refine wp_ret ?_; refine block_r ?_; refine then_r ?_; refine resultsL (v := .tuple #[.int .i64 2, .int .i64 3]) rfl (.cons (res_tmp s2) (.cons (res_tmp s3) .nil)) rfl q ?_; exact ⟨(ret_ii (by unfold lo14; (repeat' split) <;> omega) (by unfold hi14; (repeat' split) <;> omega)), ow.kept⟩
  refine cf s15 (decide_eq_true_iff) hc7 ?_; refine wp_skip ?_; refine block_n ?_; refine tn hK2 ?_; refine sq fun hK18 => ?_
  refine ro [yV _, yV _] 2 17 z q ow (
    aS (fun hk bs hd => xassign rfl rfl) rfl <|
    aS (fun hk bs hd => xassign rfl rfl) rfl <|
    arm0) fun fa fw bs hv ap z q ow => ?_
  have s2 := gv hv 0 rfl rfl; have s3 := gv hv 1 rfl rfl; refine wt hK18 ?_; refine wp_ret ?_; refine resultsL (v := .tuple #[.int .i64 1, .int .i64 1]) rfl (.cons (res_tmp s2) (.cons (res_tmp s3) .nil)) rfl q ?_; exact ⟨(ret_ii (by unfold lo14; (repeat' split) <;> omega) (by unfold hi14; (repeat' split) <;> omega)), ow.kept⟩
set_option maxHeartbeats 2000000 in
theorem trunc14_any (a : Int) (w : World) (ha : i64 a) :
    Calls Tryz.prog 131 #[.int .i64 a] w fun e w' => e = .returned (.int .i64 (a - Int.tmod a 10000)) ∧ Kept w w' := by
  obtain ⟨ha1, ha2⟩ := ha; have hz := tmod_near a; go_enter Tryz.func131, Tryz.ntmps131; refine sq fun hK1 => ?_
  refine ro [yV _] 1 7 rfl rfl (Own.start w) (
    aS (fun hk bs hd => xassign rfl rfl) rfl <|
    arm0) fun fa fw bs hv ap z q ow => ?_
  have s0 := bs.get 0 rfl rfl; have s2 := gv hv 0 rfl rfl; refine wt hK1 ?_; refine sq fun hK2 => ?_
  refine ro [yV _, yV _, yV _, yV _, yV _] 5 7 z q ow (
    mvS s0 rfl rfl rfl rfl <|
    mvS s0 rfl rfl rfl rfl <|
    aS (fun hk bs hd => xrem (Or.inr rfl) rfl (dp hd 1 rfl) rfl (by omega) (by omega) (by omega)) rfl <|
    aS (fun hk bs hd => xsub (Or.inr rfl) rfl (dp hd 0 rfl) (dp hd 2 rfl) (by omega) (by omega)) rfl <|
    asD 3 rfl rfl rfl rfl rfl rfl <|
    arm0) fun fa fw bs hv ap z q ow => ?_
  have s2 := gv hv 4 rfl rfl; refine wt hK2 ?_; refine wp_ret ?_; refine results_one rfl (res_tmp s2) q ?_; exact ⟨rfl, ow.kept⟩
set_option maxHeartbeats 4000000 in
theorem kinds14_any (fn n : Nat) (w : World) (hn : n ≤ 20) (hk2 : (fn = 32 ∨ fn = 33 ∨ fn = 39) → n ≤ 2) (hk3 : fn = 34 → n = 3) (hk4 : fn = 41 → n ≤ 3) :
    Calls Tryz.prog 130 #[.int .u8 fn, .int .i64 n] w fun e w' => ∃ g c o, e = .returned (.slice (some ⟨g, 0, none⟩) n c) ∧ w.heap.size ≤ g ∧ w'.heap[g]? = some o ∧ Kinds fn n c o ∧ Kept w w' := by
  go_enter Tryz.func130, Tryz.ntmps130; refine sq fun hK1 => ?_
  refine ro [yV _] 1 35 rfl rfl (Own.start w) (
    aS (fun hk bs hd => xassign rfl rfl) rfl <|
    arm0) fun fa fw bs hv ap z q ow => ?_
  have s0 := bs.get 0 rfl rfl; have s1 := bs.get 1 rfl rfl; have s4 := gv hv 0 rfl rfl; refine wt hK1 ?_; refine sq fun hK2 => ?_; refine sq fun hK3 => ?_
  refine ro [yV _] 1 35 z q ow (
    mvS s0 rfl rfl rfl rfl <|
    arm0) fun fa fw bs hv ap z q ow => ?_
  obtain ⟨s1, s4⟩ := b2 bs s1 s4; have s7 := gv hv 0 rfl rfl; refine wt hK3 ?_; refine wp_block ?_; refine sq fun hK4 => ?_; refine sq fun hK5 => ?_
  refine ro [yV _, yV _] 2 35 z q ow (
    aS (fun hk bs hd => xeqi rfl (bg bs s7) rfl) rfl <|
    asD 0 rfl rfl rfl rfl rfl rfl <|
    arm0) fun fa fw bs hv ap z q ow => ?_
  obtain ⟨s1, s4, s7⟩ := b3 bs s1 s4 s7; have s8 := gv hv 1 rfl rfl; refine wt hK5 ?_
  by_cases hc1 : (fn : Int) = (32 : Int)
  · refine ct s8 ((decide_eq_true_iff).2 hc1) ?_
    refine wp_skip ?_; refine tn hK4 ?_; refine ct s8 ((decide_eq_true_iff).2 hc1) ?_; refine sq fun hK6 => ?_
    refine ro [ySlice fw.heap.size 2 (.cells #[.bool true, .bool false] 4 (0, 0)), yV _] 2 35 z q ow (
      aL (fun hk bs hd => xbuildSlice (us := #[(0, .bool true), (1, .bool false)]) rfl (by simp only [List.map_toArray, List.map_cons, List.map_nil]; rfl) (by kernel_rfl)) rfl <|
      mvS s1 rfl rfl rfl rfl <|
      arm0) fun fa fw bs hv ap z q ov => ?_
    obtain ⟨s1, s4⟩ := b2 bs s1 s4; obtain ⟨gb1, s12, bgb1, hgb1⟩ := gotL hv 0 rfl rfl rfl; have ov := ov.cons hgb1 (Nat.le_trans ow.kept.size bgb1) (ow.below bgb1); have s13 := gv hv 1 rfl rfl; have ow := ov; refine wl_value (v := .slice (some ⟨gb1, 0, none⟩) n 2) (want0 rfl) (xsliceTo2 Tryz.underlying150 (by kernel_rfl) rfl (h := n) s12 s13 (by omega)) ?_; refine wl_value (v := .slice (some ⟨gb1, 0, none⟩) n 2) (want0 rfl) (xassign rfl (put_in (t := 14) z rfl)) ?_; refine gt2 (put_size (put_size z)) (put_def (put_def q)) ow 1 (pb 4 (pb 14 s1 rfl) rfl) 4 (put_in (t := 4) (put_size z) rfl) fun fa fw z q ow s1 s4 => ?_; refine wt hK6 ?_; refine wp_ret ?_; refine block_r ?_; refine then_r ?_; refine results_one rfl (res_tmp s4) q ?_; exact ⟨gb1, 2, _, rfl, ow.old _ (List.mem_of_getElem? (i := 0) rfl) _ rfl, ow.get 0 rfl, (kind2 fn n (by omega) (by unfold txt14; (repeat' split) <;> first | rfl | omega) (by unfold txt14; (repeat' split) <;> first | rfl | omega)), ow.kept⟩
  refine cf s8 (decide_eq_true_iff) hc1 ?_; refine sq fun hK7 => ?_
  refine ro [yV _, yV _] 2 35 z q ow (
    aS (fun hk bs hd => xeqi rfl (bg bs s7) rfl) rfl <|
    asD 0 rfl rfl rfl rfl rfl rfl <|
    arm0) fun fa fw bs hv ap z q ow => ?_
  obtain ⟨s1, s4, s7⟩ := b3 bs s1 s4 s7; have s8 := gv hv 1 rfl rfl; refine wt hK7 ?_
  by_cases hc2 : (fn : Int) = (33 : Int)
  · refine ct s8 ((decide_eq_true_iff).2 hc2) ?_
    refine wp_skip ?_; refine tn hK4 ?_; refine ct s8 ((decide_eq_true_iff).2 hc2) ?_; refine sq fun hK8 => ?_
    refine ro [ySlice fw.heap.size 2 (.cells #[.bool true, .bool false] 4 (0, 0)), yV _] 2 35 z q ow (
      aL (fun hk bs hd => xbuildSlice (us := #[(0, .bool true), (1, .bool false)]) rfl (by simp only [List.map_toArray, List.map_cons, List.map_nil]; rfl) (by kernel_rfl)) rfl <|
      mvS s1 rfl rfl rfl rfl <|
      arm0) fun fa fw bs hv ap z q ov => ?_
    obtain ⟨s1, s4⟩ := b2 bs s1 s4; obtain ⟨gb2, s12, bgb2, hgb2⟩ := gotL hv 0 rfl rfl rfl; have ov := ov.cons hgb2 (Nat.le_trans ow.kept.size bgb2) (ow.below bgb2); have s13 := gv hv 1 rfl rfl; have ow := ov; refine wl_value (v := .slice (some ⟨gb2, 0, none⟩) n 2) (want0 rfl) (xsliceTo2 Tryz.underlying150 (by kernel_rfl) rfl (h := n) s12 s13 (by omega)) ?_; refine wl_value (v := .slice (some ⟨gb2, 0, none⟩) n 2) (want0 rfl) (xassign rfl (put_in (t := 14) z rfl)) ?_; refine gt2 (put_size (put_size z)) (put_def (put_def q)) ow 1 (pb 4 (pb 14 s1 rfl) rfl) 4 (put_in (t := 4) (put_size z) rfl) fun fa fw z q ow s1 s4 => ?_; refine wt hK8 ?_; refine wp_ret ?_; refine block_r ?_; refine then_r ?_; refine results_one rfl (res_tmp s4) q ?_; exact ⟨gb2, 2, _, rfl, ow.old _ (List.mem_of_getElem? (i := 0) rfl) _ rfl, ow.get 0 rfl, (kind2 fn n (by omega) (by unfold txt14; (repeat' split) <;> first | rfl | omega) (by unfold txt14; (repeat' split) <;> first | rfl | omega)), ow.kept⟩
  refine cf s8 (decide_eq_true_iff) hc2 ?_
  refine ro [yV _, yV _] 2 35 z q ow (
    aS (fun hk bs hd => xeqi rfl (bg bs s7) rfl) rfl <|
    asD 0 rfl rfl rfl rfl rfl rfl <|
    arm0) fun fa fw bs hv ap z q ow => ?_
  obtain ⟨s1, s4, s7⟩ := b3 bs s1 s4 s7; have s8 := gv hv 1 rfl rfl; refine wt hK4 ?_
  by_cases hc3 : (fn : Int) = (39 : Int)
  · refine ct s8 ((decide_eq_true_iff).2 hc3) ?_
    refine sq fun hK9 => ?_
    refine ro [ySlice fw.heap.size 2 (.cells #[.bool true, .bool false] 4 (0, 0)), yV _] 2 35 z q ow (
      aL (fun hk bs hd => xbuildSlice (us := #[(0, .bool true), (1, .bool false)]) rfl (by simp only [List.map_toArray, List.map_cons, List.map_nil]; rfl) (by kernel_rfl)) rfl <|
      mvS s1 rfl rfl rfl rfl <|
      arm0) fun fa fw bs hv ap z q ov => ?_
    obtain ⟨s1, s4⟩ := b2 bs s1 s4; obtain ⟨gb3, s12, bgb3, hgb3⟩ := gotL hv 0 rfl rfl rfl; have ov := ov.cons hgb3 (Nat.le_trans ow.kept.size bgb3) (ow.below bgb3); have s13 := gv hv 1 rfl rfl; have ow := ov; refine wl_value (v := .slice (some ⟨gb3, 0, none⟩) n 2) (want0 rfl) (xsliceTo2 Tryz.underlying150 (by kernel_rfl) rfl (h := n) s12 s13 (by omega)) ?_; refine wl_value (v := .slice (some ⟨gb3, 0, none⟩) n 2) (want0 rfl) (xassign rfl (put_in (t := 14) z rfl)) ?_; refine gt2 (put_size (put_size z)) (put_def (put_def q)) ow 1 (pb 4 (pb 14 s1 rfl) rfl) 4 (put_in (t := 4) (put_size z) rfl) fun fa fw z q ow s1 s4 => ?_; refine wt hK9 ?_; refine wp_ret ?_; refine block_r ?_; refine then_r ?_; refine results_one rfl (res_tmp s4) q ?_; exact ⟨gb3, 2, _, rfl, ow.old _ (List.mem_of_getElem? (i := 0) rfl) _ rfl, ow.get 0 rfl, (kind2 fn n (by omega) (by unfold txt14; (repeat' split) <;> first | rfl | omega) (by unfold txt14; (repeat' split) <;> first | rfl | omega)), ow.kept⟩
  refine cf s8 (decide_eq_true_iff) hc3 ?_; refine sq fun hK10 => ?_
  refine ro [yV _, yV _] 2 35 z q ow (
    aS (fun hk bs hd => xeqi rfl (bg bs s7) rfl) rfl <|
    asD 0 rfl rfl rfl rfl rfl rfl <|
    arm0) fun fa fw bs hv ap z q ow => ?_
  obtain ⟨s1, s4, s7⟩ := b3 bs s1 s4 s7; have s15 := gv hv 1 rfl rfl; refine wt hK10 ?_
  by_cases hc4 : (fn : Int) = (34 : Int)
  · refine ct s15 ((decide_eq_true_iff).2 hc4) ?_
    refine sq fun hK11 => ?_
    refine ro [ySlice fw.heap.size 3 (.cells #[.bool true, .bool false, .bool false] 4 (0, 0))] 1 35 z q ow (
      aL (fun hk bs hd => xbuildSlice (us := #[(0, .bool true), (1, .bool false), (2, .bool false)]) rfl (by simp only [List.map_toArray, List.map_cons, List.map_nil]; rfl) (by kernel_rfl)) rfl <|
      arm0) fun fa fw bs hv ap z q ov => ?_
    obtain ⟨s1, s4⟩ := b2 bs s1 s4; obtain ⟨gb4, s17, bgb4, hgb4⟩ := gotL hv 0 rfl rfl rfl; have ov := ov.cons hgb4 (Nat.le_trans ow.kept.size bgb4) (ow.below bgb4); have ow := ov; refine wl_value (v := .slice (some ⟨gb4, 0, none⟩) 3 3) (want0 rfl) (xassign rfl s17) ?_; refine gp1 z q ow s1 fun fa fw z q ow s1 s4 => ?_; refine wt hK11 ?_; refine wp_ret ?_; refine block_r ?_; refine then_r ?_; refine results_one rfl (res_tmp s4) q ?_; exact ⟨gb4, 3, _, (by rw [hk3 (by omega)]), ow.old _ (List.mem_of_getElem? (i := 0) rfl) _ rfl, ow.get 0 rfl, (kind3 fn n (by omega) (by unfold txt14; (repeat' split) <;> first | rfl | omega) (by unfold txt14; (repeat' split) <;> first | rfl | omega) (by unfold txt14; (repeat' split) <;> first | rfl | omega)), ow.kept⟩
  refine cf s15 (decide_eq_true_iff) hc4 ?_; refine sq fun hK12 => ?_
  refine ro [yV _, yV _] 2 35 z q ow (
    aS (fun hk bs hd => xeqi rfl (bg bs s7) rfl) rfl <|
    asD 0 rfl rfl rfl rfl rfl rfl <|
    arm0) fun fa fw bs hv ap z q ow => ?_
  obtain ⟨s1, s4⟩ := b2 bs s1 s4; have s18 := gv hv 1 rfl rfl; refine wt hK12 ?_
  by_cases hc5 : (fn : Int) = (41 : Int)
  · refine ct s18 ((decide_eq_true_iff).2 hc5) ?_
    refine sq fun hK13 => ?_
    refine ro [ySlice fw.heap.size 3 (.cells #[.bool true, .bool true, .bool false] 4 (0, 0)), yV _] 2 35 z q ow (
      aL (fun hk bs hd => xbuildSlice (us := #[(0, .bool true), (1, .bool true), (2, .bool false)]) rfl (by simp only [List.map_toArray, List.map_cons, List.map_nil]; rfl) (by kernel_rfl)) rfl <|
      mvS s1 rfl rfl rfl rfl <|
      arm0) fun fa fw bs hv ap z q ov => ?_
    obtain ⟨s1, s4⟩ := b2 bs s1 s4; obtain ⟨gb5, s20, bgb5, hgb5⟩ := gotL hv 0 rfl rfl rfl; have ov := ov.cons hgb5 (Nat.le_trans ow.kept.size bgb5) (ow.below bgb5); have s21 := gv hv 1 rfl rfl; have ow := ov; refine wl_value (v := .slice (some ⟨gb5, 0, none⟩) n 3) (want0 rfl) (xsliceTo2 Tryz.underlying150 (by kernel_rfl) rfl (h := n) s20 s21 (by omega)) ?_; refine wl_value (v := .slice (some ⟨gb5, 0, none⟩) n 3) (want0 rfl) (xassign rfl (put_in (t := 22) z rfl)) ?_; refine gt2 (put_size (put_size z)) (put_def (put_def q)) ow 1 (pb 4 (pb 22 s1 rfl) rfl) 4 (put_in (t := 4) (put_size z) rfl) fun fa fw z q ow s1 s4 => ?_; refine wt hK13 ?_; refine wp_ret ?_; refine block_r ?_; refine then_r ?_; refine results_one rfl (res_tmp s4) q ?_; exact ⟨gb5, 3, _, rfl, ow.old _ (List.mem_of_getElem? (i := 0) rfl) _ rfl, ow.get 0 rfl, (kind3 fn n (by omega) (by unfold txt14; (repeat' split) <;> first | rfl | omega) (by unfold txt14; (repeat' split) <;> first | rfl | omega) (by unfold txt14; (repeat' split) <;> first | rfl | omega)), ow.kept⟩
  refine cf s18 (decide_eq_true_iff) hc5 ?_; refine wp_skip ?_; refine block_n ?_; refine tn hK2 ?_; refine sq fun hK14 => ?_
  refine ro [yV _, ySlice fw.heap.size n (.cells (fillB n 0) 4 (0, 0))] 2 35 z q ow (
    mvS s1 rfl rfl rfl rfl <|
    aL (fun hk bs hd => xmakeB (n := n) rfl (dp hd 0 rfl) (dp hd 0 rfl) (by omega)) rfl <|
    arm0) fun fa fw bs hv ap z q ov => ?_
  have s4 := bg bs s4; obtain ⟨gb6, s24, bgb6, hgb6⟩ := gotL hv 1 rfl rfl rfl; have ov := ov.cons hgb6 (Nat.le_trans ow.kept.size bgb6) (ow.below bgb6); have ow := ov; refine wl_value (v := .slice (some ⟨gb6, 0, none⟩) n n) (want0 rfl) (xassign rfl s24) ?_; refine gp1 z q ow s4 fun fa fw z q ow s4 s5 => ?_; refine wt hK14 ?_; refine sq fun hK15 => ?_; refine sq fun hK16 => ?_
  refine ro [yV _, yV _, yV _] 3 35 z q ow (
    mvS s5 rfl rfl rfl rfl <|
    aS (fun hk bs hd => xlen Tryz.underlying150 rfl (dp hd 0 rfl)) rfl <|
    aS (fun hk bs hd => xmove rfl rfl) rfl <|
    arm0) fun fa fw bs hv ap z q ow => ?_
  obtain ⟨s4, s5⟩ := b2 bs s4 s5; have s26 := gv hv 1 rfl rfl; have s27 := gv hv 2 rfl rfl; refine wt hK16 ?_; refine wp_block ?_; refine wp_loop_g (fun (k : Nat) fr u => (k ≤ n) ∧ fr.tmps.size = 35 ∧ fr.defers = [] ∧ Own w [Th.obj gb6 (.cells (fillB n k) 4 (0, 0))] u ∧ fr.eval (.tmp 5) = .slice (some ⟨gb6, 0, none⟩) n n ∧ fr.eval (.tmp 26) = .int .i64 ((n : Nat) : Int) ∧ fr.eval (.tmp 27) = .int .i64 (k : Int)) (fun k => n - k) 0 ⟨(Nat.zero_le _), z, q, ow, s5, s26, s27⟩ (fun k b_ u_ hI => ?_)
  revert b_ u_; intro fa fw hI
  obtain ⟨hk, z, q, ow, s5, s26, s27⟩ := hI; refine sq fun hK17 => ?_
  refine ro [yV _] 1 35 z q ow (
    aS (fun hk bs hd => xlss rfl (bg bs s27) (bg bs s26)) rfl <|
    arm0) fun fa fw bs hv ap z q ow => ?_
  obtain ⟨s5, s26, s27⟩ := b3 bs s5 s26 s27; have s28 := gv hv 0 rfl rfl; refine wt hK17 ?_; refine sq fun hK18 => ?_
  by_cases hc6 : (k : Int) < ((n : Nat) : Int)
  · refine ct s28 ((decide_eq_true_iff).2 hc6) ?_
    refine wp_skip ?_; refine tn hK18 ?_; refine sq fun hK19 => ?_; refine wp_block ?_; refine sq fun hK20 => ?_; have hlt : k < n := by omega
    refine ro [yV _, yV _] 2 35 z q ow (
      mvS s27 rfl rfl rfl rfl <|
      asD 0 rfl rfl rfl rfl rfl rfl <|
      arm0) fun fa fw bs hv ap z q ow => ?_
    obtain ⟨s5, s26, s27⟩ := b3 bs s5 s26 s27; have s6 := gv hv 1 rfl rfl; refine wt hK20 ?_
    refine ro [yV _, yV _, yV _] 3 35 z q ow (
      mvS s5 rfl rfl rfl rfl <|
      mvS s6 rfl rfl rfl rfl <|
      aS (fun hk bs hd => xindexAddr (u := .slice (some ⟨gb6, 0, none⟩) n n) (z := .int .i64 (k : Int)) rfl (dp hd 0 rfl) (dp hd 1 rfl) (run_place1 Tryz.underlying150 (by kernel_rfl) hlt)) rfl <|
      arm0) fun fa fw bs hv ap z q ow => ?_
    obtain ⟨s5, s26, s27⟩ := b3 bs s5 s26 s27; have s32 := gv hv 2 rfl rfl; refine wl_skip (want0 rfl) rfl (xstoreN (v := .bool true) (off := 0 + k) rfl s32 rfl (by kernel_rfl) (ow.box 0 rfl) rfl (by show 0 + k + 1 ≤ _; rw [fillB_size hk]; omega)) ?_; have ow : Own w [Th.obj gb6 (.cells (fillB n (k + 1)) 4 (0, 0))] _ := (by have o := ow.put 0 rfl (0 + k) [.bool true]; rw [fillB_step0 hlt] at o; exact o); refine gt3 z q ow 5 s5 26 s26 27 s27 fun fa fw z q ow s5 s26 s27 => ?_; refine wl_end ?_; refine block_n ?_; refine tn hK19 ?_
    refine ro [yV (.int .i64 ((k + 1 : Nat) : Int))] 1 35 z q ow (
      aS (fun hk bs hd => xadd (Or.inl rfl) rfl (bg bs s27) rfl (by omega) (by omega)) rfl <|
      arm0) fun fa fw bs hv ap z q ow => ?_
    obtain ⟨s5, s26, s27⟩ := b3 bs s5 s26 s27; have s33 := gv hv 0 rfl rfl; refine wl_value (v := .int .i64 ((k + 1 : Nat) : Int)) (want0 rfl) (xmove rfl s33) ?_; refine gp2 z q ow s5 s26 fun fa fw z q ow s5 s26 s27 => ?_; refine wl_end ?_; exact then_n ⟨(k + 1), ⟨hlt, z, q, ow, s5, s26, s27⟩, (show n - (k + 1) < n - k by omega)⟩
  refine cf s28 (decide_eq_true_iff) hc6 ?_; refine wp_exit ?_; refine then_e ?_; refine then_e ?_; refine block_hit ?_; refine tn hK15 ?_; refine sq fun hK21 => ?_
  refine ro [yV _, yV _] 2 35 z q ow (
    mvS s5 rfl rfl rfl rfl <|
    asD 0 rfl rfl rfl rfl rfl rfl <|
    arm0) fun fa fw bs hv ap z q ow => ?_
  have s4 := gv hv 1 rfl rfl; refine wt hK21 ?_; refine wp_ret ?_; refine results_one rfl (res_tmp s4) q ?_; exact ⟨gb6, n, _, rfl, ow.old _ (List.mem_of_getElem? (i := 0) rfl) _ rfl, ow.get 0 rfl, (kind_rest fn n k (by omega) (by omega) (by omega)), ow.kept⟩
end Go.Proofs.YtbpkfnoenkoabaaGreatDoor
