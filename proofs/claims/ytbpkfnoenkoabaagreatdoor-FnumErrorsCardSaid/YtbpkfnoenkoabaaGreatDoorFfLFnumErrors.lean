/- The law FnumErrors, walked (printed by wip/mklaw13.py). -/
import Derived.Test.YtbpkfnoenkoabaaGreatDoorFfGAwake13
import Derived.Test.YtbpkfnoenkoabaaGreatDoorFfMixAS
namespace Go.Proofs.YtbpkfnoenkoabaaGreatDoor
set_option linter.unusedVariables false
set_option linter.unusedSimpArgs false
open Go.RowKit Lv
set_option maxRecDepth 100000
theorem and_l {a b : Bool} (h : (a && b) = true) : a = true := by cases a <;> simp_all
theorem and_r {a b : Bool} (h : (a && b) = true) : b = true := by cases a <;> simp_all
theorem calls_apart {x y : Int} {b : Bool} (h : x = 0 ↔ 1 = (if b then 2 else 1)) (g : y = 0 ↔ 2 = (if b then 2 else 1)) : (decide (x = 0) == decide (y = 0)) = false := by
  cases b
  · simp only [Bool.false_eq_true, if_false, iff_true] at h
    have : ¬ y = 0 := fun c => by have := g.1 c; simp at this
    simp [h, this]
  · simp only [if_true, iff_true] at g
    have : ¬ x = 0 := fun c => by have := h.1 c; simp at this
    simp [g, this]
theorem xremU8 {a : Act} {w : World} {o : Oper} {T2 : TypeId} {x y : Operand} (ho : o.op = .binOp .rem 5 x y T2) {n m : Nat} (hx : a.eval x = .int .u8 n) (hy : a.eval y = .int .u8 m) (h0 : 0 < m) (h1 : n ≤ 255) : (execOp a.eval o).run Tryz.prog w = .ok (.value (.int .u8 ((n % m : Nat) : Int))) w := by
  have e : ((m : Int) == 0) = false := by rw [beq_eq_false_iff_ne]; omega
  have e0 : ¬ (m : Int) = 0 := by omega
  have e1 : Int.tmod (n : Int) (m : Int) = ((n % m : Nat) : Int) := by rw [Int.tmod_eq_emod_of_nonneg (by omega)]; omega
  have e2 : IntKind.u8.wrap ((n % m : Nat) : Int) = ((n % m : Nat) : Int) := by
    have := Nat.mod_le n m; unfold IntKind.wrap
    simp [IntKind.bits, IntKind.signed]
    omega
  unfold execOp; rw [ho]
  simp only [hx, hy]
  go_simp
  try omega
theorem xaddU8 {a : Act} {w : World} {o : Oper} {T2 : TypeId} {x y : Operand} (ho : o.op = .binOp .add 5 x y T2) {n m : Nat} (hx : a.eval x = .int .u8 n) (hy : a.eval y = .int .u8 m) (h1 : n + m ≤ 255) : (execOp a.eval o).run Tryz.prog w = .ok (.value (.int .u8 ((n + m : Nat) : Int))) w := by
  have e : IntKind.u8.wrap ((n : Int) + (m : Int)) = ((n + m : Nat) : Int) := by
    unfold IntKind.wrap
    simp [IntKind.bits, IntKind.signed]
    omega
  unfold execOp; rw [ho]
  simp only [hx, hy]
  go_simp
  try exact e
theorem check0_any (v : Vl) (w : World) (hs : Small v) (ok : vOk v = true) : Calls Tryz.prog 37 #[aggV v] w fun e w' => e = .returned (.int .i64 0) ∧ Kept w w' := by
  have h := vcheck5_any v w hs.1 (Nat.le_trans hs.2 (by decide)); rw [show vChk v = 0 by unfold vChk; rw [ok]; rfl] at h; exact h
theorem en_louvrelaw13_Good : En 36 := by intro args w; go_simp
theorem en_louvrelaw13_awake : En 29 := by intro args w; go_simp
set_option maxHeartbeats 8000000 in
theorem FnumErrors_walk (a0 a1 : Int) (a2 a3 : Vl) (w0 : (Lit.int .u8 a0).wf = true) (w1 : (Lit.int .i64 a1).wf = true) (w2 : Wide a2) (w3 : Wide a3) (w : World) (mx : Int) (HM : Mx w mx) :
    Calls Tryz.prog 9 #[.int .u8 a0, .int .i64 a1, aggV a2, aggV a3] w fun e w' => e = .returned (.bool true) ∧ Below w.heap.size w w' := by
  have r0 : 0 ≤ a0 ∧ a0 ≤ 255 := by
    unfold Lit.wf at w0; rw [Bool.and_eq_true, decide_eq_true_eq, decide_eq_true_eq] at w0; exact w0
  obtain ⟨f0, rfl⟩ : ∃ k : Nat, a0 = k := ⟨a0.toNat, by omega⟩; have r1 := Go.bounds_i64 w1; clear w0 w1; have oa := good_ok a2; have ob := good_ok a3; have sa := good_small w2.2.1; have sb := good_small w3.2.1; have t1 := tmod_rng a1 12 (by decide); have t2 := tmod_rng (Int.tmod a1 12 + 12) 12 (by decide); go_enter Tryz.func9, Tryz.ntmps9; refine sq fun hK1 => ?_
  refine ro [yNew w.heap.size (.cells #[.int .u8 a2.k, .int .i64 a2.n, .string ⟨a2.t.toArray⟩] 25 (0, 0)), yNew w.heap.size (.cells #[.int .u8 a3.k, .int .i64 a3.n, .string ⟨a3.t.toArray⟩] 25 (0, 0)), yV _] 3 144 rfl rfl (Own.start w) (
    aP (fun hk bs hd => xbox rfl (bs.get 2 rfl rfl) (by kernel_rfl)) rfl <|
    aP (fun hk bs hd => xbox rfl (bs.get 3 rfl rfl) (by kernel_rfl)) rfl <|
    aS (fun hk bs hd => xassign rfl rfl) rfl <|
    arm0) fun fa fw bs hv ap z q ov => ?_
  have s0 := bs.get 0 rfl rfl; have s1 := bs.get 1 rfl rfl; obtain ⟨gb1, s6, bgb1, hgb1⟩ := gotP hv 0 rfl rfl rfl; have ov := ov.cons hgb1 (Nat.le_trans (Own.start w).kept.size bgb1) ((Own.start w).below bgb1); obtain ⟨gb2, s7, bgb2, hgb2⟩ := gotP hv 1 rfl rfl rfl; have ov := ov.cons hgb2 (Nat.le_trans (Own.start w).kept.size bgb2) (ne_cons (apartP ap 0 1 rfl rfl rfl s6 rfl s7 rfl) ((Own.start w).below bgb2)); have s8 := gv hv 2 rfl rfl; have ow := ov; refine wt hK1 ?_; refine sq fun hK2 => ?_
  refine ro [yV (aggV a2), yV (aggV (vGood a2)), yV (aggV a3), yV (aggV (vGood a3))] 4 144 z q ow (
    aS (fun hk bs hd => xloadN 3 rfl (by kernel_rfl) (by kernel_rfl) (bg bs s6) ((ow.keep hk).box 1 rfl) (Nat.le_of_ble_eq_true rfl) rfl) rfl <|
    aC (fun hk bs hd => xcall1 rfl (dp hd 0 rfl) (en_louvrelaw13_Good _ _)) (fun hk bs hd => good_any a2 _ w2) rfl <|
    aS (fun hk bs hd => xloadN 3 rfl (by kernel_rfl) (by kernel_rfl) (bg bs s7) ((ow.keep hk).box 0 rfl) (Nat.le_of_ble_eq_true rfl) rfl) rfl <|
    aC (fun hk bs hd => xcall1 rfl (dp hd 2 rfl) (en_louvrelaw13_Good _ _)) (fun hk bs hd => good_any a3 _ w3) rfl <|
    arm0) fun fa fw bs hv ap z q ow => ?_
  obtain ⟨s0, s1, s6, s7, s8⟩ := b5 bs s0 s1 s6 s7 s8; have s18 := gv hv 1 rfl rfl; have s20 := gv hv 3 rfl rfl; refine ws ow 1 0 s6 s18 fun fw ow => ?_; refine ws ow 0 0 s7 s20 fun fw ow => ?_; refine wt hK2 ?_; refine sq fun hK3 => ?_
  refine ro [yV _, yV (.int .u8 ((f0 % 8 : Nat) : Int)), yV (.int .u8 ((1 + f0 % 8 : Nat) : Int)), yV _, yV _, yV _, yV _, yV _] 8 144 z q ow (
    mvS s0 rfl rfl rfl rfl <|
    aS (fun hk bs hd => xremU8 (n := f0) (m := 8) rfl (dp hd 0 rfl) rfl (by decide) (by omega)) rfl <|
    aS (fun hk bs hd => xaddU8 (n := 1) (m := f0 % 8) rfl rfl (dp hd 1 rfl) (by omega)) rfl <|
    mvS s1 rfl rfl rfl rfl <|
    aS (fun hk bs hd => xrem (Or.inr rfl) rfl (dp hd 3 rfl) rfl (by omega) (by omega) (by omega)) rfl <|
    aS (fun hk bs hd => xadd (Or.inr rfl) rfl (dp hd 4 rfl) rfl (by omega) (by omega)) rfl <|
    aS (fun hk bs hd => xrem (Or.inr rfl) rfl (dp hd 5 rfl) rfl (by omega) (by omega) (by omega)) rfl <|
    aS (fun hk bs hd => xadd (Or.inr rfl) rfl rfl (dp hd 6 rfl) (by omega) (by omega)) rfl <|
    arm0) fun fa fw bs hv ap z q ow => ?_
  obtain ⟨s0, s1, s6, s7, s8⟩ := b5 bs s0 s1 s6 s7 s8; have s23 := gv hv 2 rfl rfl; have s28 := gv hv 7 rfl rfl; refine wl_value (v := .int .u8 ((1 + f0 % 8 : Nat) : Int)) (want0 rfl) (xassign rfl s23) ?_; refine wl_value (v := .int .i64 (1 + (Int.tmod ((Int.tmod a1 12) + 12) 12))) (want0 rfl) (xassign rfl (pb 0 s28 rfl)) ?_; refine wl_nil (fun fr u => ∃ (fn : Nat), ∃ (op : Int), (1 ≤ fn ∧ fn ≤ 8) ∧ (1 ≤ op ∧ op ≤ 12) ∧ fr.tmps.size = 144 ∧ fr.defers = [] ∧ Own w [Th.obj gb2 (.cells #[.int .u8 ((vGood a3).k), .int .i64 ((vGood a3).n), .string ⟨((vGood a3).t).toArray⟩] 25 (0, 0)), Th.obj gb1 (.cells #[.int .u8 ((vGood a2).k), .int .i64 ((vGood a2).n), .string ⟨((vGood a2).t).toArray⟩] 25 (0, 0))] u ∧ fr.eval (.tmp 6) = .pointer (some ⟨gb1, 0, none⟩) ∧ fr.eval (.tmp 7) = .pointer (some ⟨gb2, 0, none⟩) ∧ fr.eval (.tmp 8) = .bool false ∧ fr.eval (.tmp 0) = .int .u8 (fn : Int) ∧ fr.eval (.tmp 1) = .int .i64 op) ⟨(1 + f0 % 8), (1 + (Int.tmod ((Int.tmod a1 12) + 12) 12)), (by omega), (by omega), put_size (put_size z), put_def (put_def q), ow, pb 1 (pb 0 s6 rfl) rfl, pb 1 (pb 0 s7 rfl) rfl, pb 1 (pb 0 s8 rfl) rfl, pb 1 (put_in (t := 0) z rfl) rfl, put_in (t := 1) (put_size z) rfl⟩ ?_; rintro fa fw ⟨fn, op, hfn, hop, z, q, ow, s6, s7, s8, s0, s1⟩; refine tn hK3 ?_; refine sq fun hK4 => ?_; have hvo := bin_valid hop.1 hop.2 oa ob sa.1 sb.1; have sv : Small (vBin13 op (vGood a2) (vGood a3)).1 := small_ok hvo.1 (bin_in oa ob sa.1 sb.1 hop.1 hop.2)
  refine ro [yV _, yV (aggV (vGood a2)), yV (aggV (vGood a3)), yV (.tuple #[aggV ((vBin13 op (vGood a2) (vGood a3)).1), .int .i64 ((vBin13 op (vGood a2) (vGood a3)).2)]), yV _, yV (aggV ((vBin13 op (vGood a2) (vGood a3)).1)), yV (.int .i64 0), yNew fw.heap.size (.cells #[.int .u8 0, .int .i64 0, .string ⟨[].toArray⟩] 25 (0, 0))] 8 144 z q ow (
    mvS s1 rfl rfl rfl rfl <|
    aS (fun hk bs hd => xloadN 3 rfl (by kernel_rfl) (by kernel_rfl) (bg bs s6) ((ow.keep hk).box 1 rfl) (Nat.le_of_ble_eq_true rfl) rfl) rfl <|
    aS (fun hk bs hd => xloadN 3 rfl (by kernel_rfl) (by kernel_rfl) (bg bs s7) ((ow.keep hk).box 0 rfl) (Nat.le_of_ble_eq_true rfl) rfl) rfl <|
    aC (fun hk bs hd => xcall3 rfl (dp hd 0 rfl) (dp hd 1 rfl) (dp hd 2 rfl) (en_fnum_Binary _ _)) (fun hk bs hd => binary13_any op (vGood a2) (vGood a3) _ mx (HM.kept (ow.keep hk).kept) sa sb) rfl <|
    mvD 3 rfl rfl rfl rfl rfl rfl <|
    aS (fun hk bs hd => xextract rfl (dp hd 4 rfl) rfl) rfl <|
    aE (fun hk bs hd => xextract rfl (dp hd 4 rfl) rfl) (congrArg (Value.int .i64) hvo.2) rfl <|
    aP (fun hk bs hd => xalloc rfl (by kernel_rfl)) rfl <|
    arm0) fun fa fw bs hv ap z q ov => ?_
  obtain ⟨s6, s7, s8, s0, s1⟩ := b5 bs s6 s7 s8 s0 s1; have s34 := gv hv 5 rfl rfl; have s35 := gv hv 6 rfl rfl; obtain ⟨gb3, s9, bgb3, hgb3⟩ := gotP hv 7 rfl rfl rfl; have ov := ov.cons hgb3 (Nat.le_trans ow.kept.size bgb3) (ow.below bgb3); have ow := ov; refine ws ow 0 0 s9 s34 fun fw ow => ?_; refine wl_value (v := .int .i64 0) (want0 rfl) (xassign rfl s35) ?_; refine gp6 z q ow s6 s7 s8 s0 s1 s9 fun fa fw z q ow s6 s7 s8 s0 s1 s9 s10 => ?_; refine wt hK4 ?_; refine sq fun hK5 => ?_; refine sq fun hK6 => ?_
  refine ro [yV _, yV (.bool false), yV _, yV (aggV ((vBin13 op (vGood a2) (vGood a3)).1)), yV (.int .i64 0), yV (.bool false), yV _, yV _, yV (aggV (vGood a2)), yV (aggV (vNeg13 (vGood a2))), yV (.int .i64 0), yV (.bool false), yV _, yV _, yV (aggV (vGood a2)), yV (aggV (vPct13 (vGood a2))), yV (.int .i64 0), yV (.bool false), yV _] 19 144 z q ow (
    mvS s10 rfl rfl rfl rfl <|
    aE (fun hk bs hd => xnei rfl (dp hd 0 rfl) rfl) (congrArg Value.bool rfl) rfl <|
    mvD 1 rfl rfl rfl rfl rfl rfl <|
    armS (wg (j := 2) (b := false) rfl rfl rfl) (fun aa ww hk bs hd => xloadN 3 rfl (by kernel_rfl) (by kernel_rfl) (bg bs s9) ((ow.keep hk).box 0 rfl) (Nat.le_of_ble_eq_true rfl) rfl) rfl <|
    armC (wg (j := 2) (b := false) rfl rfl rfl) (fun aa ww hk bs hd => xcall1 rfl (dp hd 3 rfl) (en_val_Check _ _)) (fun aa ww hk bs hd => check0_any ((vBin13 op (vGood a2) (vGood a3)).1) ww sv hvo.1) rfl <|
    armE (wg (j := 2) (b := false) rfl rfl rfl) (fun aa ww hk bs hd => xnei rfl (dp hd 4 rfl) rfl) (congrArg Value.bool rfl) rfl <|
    aS (fun hk bs hd => xpickF rfl (dp hd 2 rfl) (dp hd 5 rfl)) rfl <|
    mvD 6 rfl rfl rfl rfl rfl rfl <|
    armS (wg (j := 7) (b := false) rfl rfl rfl) (fun aa ww hk bs hd => xloadN 3 rfl (by kernel_rfl) (by kernel_rfl) (bg bs s6) ((ow.keep hk).box 2 rfl) (Nat.le_of_ble_eq_true rfl) rfl) rfl <|
    armC (wg (j := 7) (b := false) rfl rfl rfl) (fun aa ww hk bs hd => xcall1 rfl (dp hd 8 rfl) (en_fnum_Neg _ _)) (fun aa ww hk bs hd => neg13_any (vGood a2) ww mx (HM.kept (ow.keep hk).kept) sa) rfl <|
    armC (wg (j := 7) (b := false) rfl rfl rfl) (fun aa ww hk bs hd => xcall1 rfl (dp hd 9 rfl) (en_val_Check _ _)) (fun aa ww hk bs hd => check0_any (vNeg13 (vGood a2)) ww (small_ok (neg_valid _) (neg_in sa.1)) (neg_valid _)) rfl <|
    armE (wg (j := 7) (b := false) rfl rfl rfl) (fun aa ww hk bs hd => xnei rfl (dp hd 10 rfl) rfl) (congrArg Value.bool rfl) rfl <|
    aS (fun hk bs hd => xpickF rfl (dp hd 7 rfl) (dp hd 11 rfl)) rfl <|
    mvD 12 rfl rfl rfl rfl rfl rfl <|
    armS (wg (j := 13) (b := false) rfl rfl rfl) (fun aa ww hk bs hd => xloadN 3 rfl (by kernel_rfl) (by kernel_rfl) (bg bs s6) ((ow.keep hk).box 2 rfl) (Nat.le_of_ble_eq_true rfl) rfl) rfl <|
    armC (wg (j := 13) (b := false) rfl rfl rfl) (fun aa ww hk bs hd => xcall1 rfl (dp hd 14 rfl) (en_fnum_Percent _ _)) (fun aa ww hk bs hd => percent13_any (vGood a2) ww mx (HM.kept (ow.keep hk).kept) sa) rfl <|
    armC (wg (j := 13) (b := false) rfl rfl rfl) (fun aa ww hk bs hd => xcall1 rfl (dp hd 15 rfl) (en_val_Check _ _)) (fun aa ww hk bs hd => check0_any (vPct13 (vGood a2)) ww (small_ok (pct_valid _) (pct_in sa.1)) (pct_valid _)) rfl <|
    armE (wg (j := 13) (b := false) rfl rfl rfl) (fun aa ww hk bs hd => xnei rfl (dp hd 16 rfl) rfl) (congrArg Value.bool rfl) rfl <|
    aS (fun hk bs hd => xpickF rfl (dp hd 13 rfl) (dp hd 17 rfl)) rfl <|
    arm0) fun fa fw bs hv ap z q ow => ?_
  obtain ⟨s6, s7, s8, s0, s1, s9⟩ := b6 bs s6 s7 s8 s0 s1 s9; have s54 := gv hv 18 rfl rfl; refine wt hK6 ?_; refine wp_cond_false (s54) ?_; refine wp_skip ?_; refine tn hK5 ?_; refine sq fun hK7 => ?_
  refine ro [yV (aggV (vGood a2)), yV (aggV (vNum (vGood a2))), yNew fw.heap.size (.cells #[.int .u8 0, .int .i64 0, .string ⟨[].toArray⟩] 25 (0, 0))] 3 144 z q ow (
    aS (fun hk bs hd => xloadN 3 rfl (by kernel_rfl) (by kernel_rfl) (bg bs s6) ((ow.keep hk).box 2 rfl) (Nat.le_of_ble_eq_true rfl) rfl) rfl <|
    aC (fun hk bs hd => xcall1 rfl (dp hd 0 rfl) (en_val_ToNumber _ _)) (fun hk bs hd => tonum_any (vGood a2) _ mx (HM.kept (ow.keep hk).kept) sa.1 sa.2) rfl <|
    aP (fun hk bs hd => xalloc rfl (by kernel_rfl)) rfl <|
    arm0) fun fa fw bs hv ap z q ov => ?_
  obtain ⟨s6, s7, s8, s0, s1, s9⟩ := b6 bs s6 s7 s8 s0 s1 s9; have s56 := gv hv 1 rfl rfl; obtain ⟨gb4, s11, bgb4, hgb4⟩ := gotP hv 2 rfl rfl rfl; have ov := ov.cons hgb4 (Nat.le_trans ow.kept.size bgb4) (ow.below bgb4); have ow := ov; refine ws ow 0 0 s11 s56 fun fw ow => ?_; refine wt hK7 ?_; refine sq fun hK8 => ?_; refine sq fun hK9 => ?_
  refine ro [yV _, yV _] 2 144 z q ow (
    mvS s1 rfl rfl rfl rfl <|
    aS (fun hk bs hd => xgeq rfl (dp hd 0 rfl) rfl) rfl <|
    arm0) fun fa fw bs hv ap z q ow => ?_
  obtain ⟨s6, s7, s8, s0, s9, s11⟩ := b6 bs s6 s7 s8 s0 s9 s11; have s58 := gv hv 1 rfl rfl; refine wt hK9 ?_
  by_cases hc1 : (6 : Int) ≤ (op : Int)
  ·refine ct s58 ((decide_eq_true_iff).2 hc1) ?_
   refine ro [yV (aggV (vGood a2)), yV (aggV (vTxt (vGood a2)))] 2 144 z q ow (
     aS (fun hk bs hd => xloadN 3 rfl (by kernel_rfl) (by kernel_rfl) (bg bs s6) ((ow.keep hk).box 3 rfl) (Nat.le_of_ble_eq_true rfl) rfl) rfl <|
     aC (fun hk bs hd => xcall1 rfl (dp hd 0 rfl) (en_val_ToText _ _)) (fun hk bs hd => totxt_any (vGood a2) _ sa.1 sa.2) rfl <|
     arm0) fun fa fw bs hv ap z q ow => ?_
   obtain ⟨s6, s7, s8, s0, s9, s11⟩ := b6 bs s6 s7 s8 s0 s9 s11; have s60 := gv hv 1 rfl rfl; refine ws ow 0 0 s11 s60 fun fw ow => ?_; refine wt hK8 ?_; refine sq fun hK10 => ?_; refine sq fun hK11 => ?_
   refine ro [yV (.pointer (some ⟨gb4, 0, none⟩)), yV _, yV _, yV _, yIf (((decide (((vTxt (vGood a2)).k : Int) = (4 : Int))) = true)) (yV (aggV ((vBin13 op (vGood a2) (vGood a3)).1))), yIf (((decide (((vTxt (vGood a2)).k : Int) = (4 : Int))) = true)) (yV (aggV (vTxt (vGood a2)))), yIf (((decide (((vTxt (vGood a2)).k : Int) = (4 : Int))) = true)) (yV (.bool false)), yV _, yV _, yIf ((((decide (((vTxt (vGood a2)).k : Int) = (4 : Int))) && false) = false)) (yV (.pointer (some ⟨gb4, 0, none⟩))), yIf ((((decide (((vTxt (vGood a2)).k : Int) = (4 : Int))) && false) = false)) (yV (.int .u8 ((vTxt (vGood a2)).k))), yIf ((((decide (((vTxt (vGood a2)).k : Int) = (4 : Int))) && false) = false)) (yV (.bool (decide (((vTxt (vGood a2)).k : Int) ≠ (4 : Int))))), yIf ((((decide (((vTxt (vGood a2)).k : Int) = (4 : Int))) && false) = false)) (yV (.bool (decide (((vTxt (vGood a2)).k : Int) ≠ (4 : Int))))), yIf ((((decide (((vTxt (vGood a2)).k : Int) = (4 : Int))) && false) = false) ∧ ((decide (((vTxt (vGood a2)).k : Int) ≠ (4 : Int))) = true)) (yV (.pointer (some ⟨gb2, 0, none⟩))), yIf ((((decide (((vTxt (vGood a2)).k : Int) = (4 : Int))) && false) = false) ∧ ((decide (((vTxt (vGood a2)).k : Int) ≠ (4 : Int))) = true)) (yV (.int .u8 ((vGood a3).k))), yIf ((((decide (((vTxt (vGood a2)).k : Int) = (4 : Int))) && false) = false) ∧ ((decide (((vTxt (vGood a2)).k : Int) ≠ (4 : Int))) = true)) (yV (.bool (decide (((vGood a3).k : Int) = (4 : Int))))), yIf ((((decide (((vTxt (vGood a2)).k : Int) = (4 : Int))) && false) = false)) (yV (.bool ((decide (((vTxt (vGood a2)).k : Int) ≠ (4 : Int))) && (decide (((vGood a3).k : Int) = (4 : Int)))))), yIf ((((decide (((vTxt (vGood a2)).k : Int) = (4 : Int))) && false) = false)) (yV (.bool ((decide (((vTxt (vGood a2)).k : Int) ≠ (4 : Int))) && (decide (((vGood a3).k : Int) = (4 : Int)))))), yIf ((((decide (((vTxt (vGood a2)).k : Int) = (4 : Int))) && false) = false) ∧ (((decide (((vTxt (vGood a2)).k : Int) ≠ (4 : Int))) && (decide (((vGood a3).k : Int) = (4 : Int)))) = true)) (yV (aggV ((vBin13 op (vGood a2) (vGood a3)).1))), yIf ((((decide (((vTxt (vGood a2)).k : Int) = (4 : Int))) && false) = false) ∧ (((decide (((vTxt (vGood a2)).k : Int) ≠ (4 : Int))) && (decide (((vGood a3).k : Int) = (4 : Int)))) = true)) (yV (aggV (vGood a3))), yIf ((((decide (((vTxt (vGood a2)).k : Int) = (4 : Int))) && false) = false) ∧ (((decide (((vTxt (vGood a2)).k : Int) ≠ (4 : Int))) && (decide (((vGood a3).k : Int) = (4 : Int)))) = true)) (yV (.bool false)), yIf ((((decide (((vTxt (vGood a2)).k : Int) = (4 : Int))) && false) = false)) (yV (.bool (((decide (((vTxt (vGood a2)).k : Int) ≠ (4 : Int))) && (decide (((vGood a3).k : Int) = (4 : Int)))) && false))), yV _] 23 144 z q ow (
     aS (fun hk bs hd => xfieldAddr rfl (bg bs s11) (by kernel_rfl)) rfl <|
     aS (fun hk bs hd => xloadB rfl (by kernel_rfl) (dp hd 0 rfl) ((ow.keep hk).box 0 rfl) rfl) rfl <|
     aS (fun hk bs hd => xeqi rfl (dp hd 1 rfl) rfl) rfl <|
     mvD 2 rfl rfl rfl rfl rfl rfl <|
     arm (fun aa ww hk bs hd => by
       have d3 := dp hd 3 rfl
       by_cases hz : ((decide (((vTxt (vGood a2)).k : Int) = (4 : Int))) = true)
       · exact stepX_same (v := aggV ((vBin13 op (vGood a2) (vGood a3)).1)) (want1 (j := 3) (b := true) rfl (d3.trans (congrArg Value.bool hz))) (xloadN 3 (vs := [.int .u8 (((vBin13 op (vGood a2) (vGood a3)).1).k), .int .i64 (((vBin13 op (vGood a2) (vGood a3)).1).n), .string ⟨(((vBin13 op (vGood a2) (vGood a3)).1).t).toArray⟩]) rfl (by kernel_rfl) (by kernel_rfl) (bg bs s9) ((ow.keep hk).box 1 rfl) (Nat.le_of_ble_eq_true rfl) rfl) ⟨fun _ => rfl, fun c => absurd hz c⟩ rfl
       · exact stepX_skip (wantN (j := 3) (b := true) (b' := false) rfl (d3.trans (congrArg Value.bool (Bool.eq_false_iff.2 hz))) rfl) ⟨fun c => absurd c hz, fun _ => rfl⟩ rfl
       ) <|
     arm (fun aa ww hk bs hd => by
       have d3 := dp hd 3 rfl
       by_cases hz : ((decide (((vTxt (vGood a2)).k : Int) = (4 : Int))) = true)
       · exact stepX_same (v := aggV (vTxt (vGood a2))) (want1 (j := 3) (b := true) rfl (d3.trans (congrArg Value.bool hz))) (xloadN 3 (vs := [.int .u8 ((vTxt (vGood a2)).k), .int .i64 ((vTxt (vGood a2)).n), .string ⟨((vTxt (vGood a2)).t).toArray⟩]) rfl (by kernel_rfl) (by kernel_rfl) (bg bs s11) ((ow.keep hk).box 0 rfl) (Nat.le_of_ble_eq_true rfl) rfl) ⟨fun _ => rfl, fun c => absurd hz c⟩ rfl
       · exact stepX_skip (wantN (j := 3) (b := true) (b' := false) rfl (d3.trans (congrArg Value.bool (Bool.eq_false_iff.2 hz))) rfl) ⟨fun c => absurd c hz, fun _ => rfl⟩ rfl
       ) <|
     arm (fun aa ww hk bs hd => by
       have d3 := dp hd 3 rfl; have d4 := dI hd 4 rfl; have d5 := dI hd 5 rfl
       by_cases hz : ((decide (((vTxt (vGood a2)).k : Int) = (4 : Int))) = true)
       · exact stepX_same (v := .bool (!sameV ((vBin13 op (vGood a2) (vGood a3)).1) (vTxt (vGood a2)))) (want1 (j := 3) (b := true) rfl (d3.trans (congrArg Value.bool hz))) (xnev rfl (d4.1 hz) (d5.1 hz)) ⟨fun _ => congrArg Value.bool (by rw [bin_first (f := vTxt (vGood a2)) hop.1 hop.2 oa ob (by rw [if_pos (by omega)]) (isE_yes (of_decide_eq_true hz)), sameV_self]; rfl), fun c => absurd hz c⟩ rfl
       · exact stepX_skip (wantN (j := 3) (b := true) (b' := false) rfl (d3.trans (congrArg Value.bool (Bool.eq_false_iff.2 hz))) rfl) ⟨fun c => absurd c hz, fun _ => rfl⟩ rfl
       ) <|
     arm (fun aa ww hk bs hd => by
       have d3 := dp hd 3 rfl; have d6 := dI hd 6 rfl; exact stepX_same (v := .bool ((decide (((vTxt (vGood a2)).k : Int) = (4 : Int))) && false)) (want0 rfl) (xand rfl (d3) (fun hb => d6.1 hb) rfl) rfl rfl
       ) <|
     mvD 7 rfl rfl rfl rfl rfl rfl <|
     arm (fun aa ww hk bs hd => by
       have d8 := dp hd 8 rfl
       by_cases hz : (((decide (((vTxt (vGood a2)).k : Int) = (4 : Int))) && false) = false)
       · exact stepX_same (v := .pointer (some ⟨gb4, 0, none⟩)) (want1 (j := 8) (b := false) rfl (d8.trans (congrArg Value.bool hz))) (xfieldAddr rfl (bg bs s11) (by kernel_rfl)) ⟨fun _ => rfl, fun c => absurd hz c⟩ rfl
       · exact stepX_skip (wantN (j := 8) (b := false) (b' := true) rfl (d8.trans (congrArg Value.bool ((Bool.not_eq_false _).mp hz))) rfl) ⟨fun c => absurd c hz, fun _ => rfl⟩ rfl
       ) <|
     arm (fun aa ww hk bs hd => by
       have d8 := dp hd 8 rfl; have d9 := dI hd 9 rfl
       by_cases hz : (((decide (((vTxt (vGood a2)).k : Int) = (4 : Int))) && false) = false)
       · exact stepX_same (v := .int .u8 ((vTxt (vGood a2)).k)) (want1 (j := 8) (b := false) rfl (d8.trans (congrArg Value.bool hz))) (xloadB rfl (by kernel_rfl) (d9.1 hz) ((ow.keep hk).box 0 rfl) rfl) ⟨fun _ => rfl, fun c => absurd hz c⟩ rfl
       · exact stepX_skip (wantN (j := 8) (b := false) (b' := true) rfl (d8.trans (congrArg Value.bool ((Bool.not_eq_false _).mp hz))) rfl) ⟨fun c => absurd c hz, fun _ => rfl⟩ rfl
       ) <|
     arm (fun aa ww hk bs hd => by
       have d8 := dp hd 8 rfl; have d10 := dI hd 10 rfl
       by_cases hz : (((decide (((vTxt (vGood a2)).k : Int) = (4 : Int))) && false) = false)
       · exact stepX_same (v := .bool (decide (((vTxt (vGood a2)).k : Int) ≠ (4 : Int)))) (want1 (j := 8) (b := false) rfl (d8.trans (congrArg Value.bool hz))) (xnei rfl (d10.1 hz) rfl) ⟨fun _ => rfl, fun c => absurd hz c⟩ rfl
       · exact stepX_skip (wantN (j := 8) (b := false) (b' := true) rfl (d8.trans (congrArg Value.bool ((Bool.not_eq_false _).mp hz))) rfl) ⟨fun c => absurd c hz, fun _ => rfl⟩ rfl
       ) <|
     arm (fun aa ww hk bs hd => by
       have d8 := dp hd 8 rfl; have d11 := dI hd 11 rfl
       by_cases hz : (((decide (((vTxt (vGood a2)).k : Int) = (4 : Int))) && false) = false)
       · exact stepX_same (v := .bool (decide (((vTxt (vGood a2)).k : Int) ≠ (4 : Int)))) (want1 (j := 8) (b := false) rfl (d8.trans (congrArg Value.bool hz))) (xmove rfl (d11.1 hz)) ⟨fun _ => rfl, fun c => absurd hz c⟩ rfl
       · exact stepX_skip (wantN (j := 8) (b := false) (b' := true) rfl (d8.trans (congrArg Value.bool ((Bool.not_eq_false _).mp hz))) rfl) ⟨fun c => absurd c hz, fun _ => rfl⟩ rfl
       ) <|
     arm (fun aa ww hk bs hd => by
       have d12 := dI hd 12 rfl
       by_cases hz : (((decide (((vTxt (vGood a2)).k : Int) = (4 : Int))) && false) = false) ∧ ((decide (((vTxt (vGood a2)).k : Int) ≠ (4 : Int))) = true)
       · exact stepX_same (v := .pointer (some ⟨gb2, 0, none⟩)) (want1 (j := 12) (b := true) rfl ((d12.1 hz.1).trans (congrArg Value.bool hz.2))) (xfieldAddr rfl (bg bs s7) (by kernel_rfl)) ⟨fun _ => rfl, fun c => absurd hz c⟩ rfl
       · by_cases hy : (((decide (((vTxt (vGood a2)).k : Int) = (4 : Int))) && false) = false)
         · exact stepX_skip (wantN (j := 12) (b := true) (b' := false) rfl ((d12.1 hy).trans (congrArg Value.bool (Bool.eq_false_iff.2 (fun hx => hz ⟨hy, hx⟩)))) rfl) ⟨fun c => absurd c hz, fun _ => rfl⟩ rfl
         · exact stepX_skip (wantU (j := 12) (b := true) rfl (d12.2 hy)) ⟨fun c => absurd c hz, fun _ => rfl⟩ rfl
       ) <|
     arm (fun aa ww hk bs hd => by
       have d12 := dI hd 12 rfl; have d13 := dI hd 13 rfl
       by_cases hz : (((decide (((vTxt (vGood a2)).k : Int) = (4 : Int))) && false) = false) ∧ ((decide (((vTxt (vGood a2)).k : Int) ≠ (4 : Int))) = true)
       · exact stepX_same (v := .int .u8 ((vGood a3).k)) (want1 (j := 12) (b := true) rfl ((d12.1 hz.1).trans (congrArg Value.bool hz.2))) (xloadB rfl (by kernel_rfl) (d13.1 hz) ((ow.keep hk).box 2 rfl) rfl) ⟨fun _ => rfl, fun c => absurd hz c⟩ rfl
       · by_cases hy : (((decide (((vTxt (vGood a2)).k : Int) = (4 : Int))) && false) = false)
         · exact stepX_skip (wantN (j := 12) (b := true) (b' := false) rfl ((d12.1 hy).trans (congrArg Value.bool (Bool.eq_false_iff.2 (fun hx => hz ⟨hy, hx⟩)))) rfl) ⟨fun c => absurd c hz, fun _ => rfl⟩ rfl
         · exact stepX_skip (wantU (j := 12) (b := true) rfl (d12.2 hy)) ⟨fun c => absurd c hz, fun _ => rfl⟩ rfl
       ) <|
     arm (fun aa ww hk bs hd => by
       have d12 := dI hd 12 rfl; have d14 := dI hd 14 rfl
       by_cases hz : (((decide (((vTxt (vGood a2)).k : Int) = (4 : Int))) && false) = false) ∧ ((decide (((vTxt (vGood a2)).k : Int) ≠ (4 : Int))) = true)
       · exact stepX_same (v := .bool (decide (((vGood a3).k : Int) = (4 : Int)))) (want1 (j := 12) (b := true) rfl ((d12.1 hz.1).trans (congrArg Value.bool hz.2))) (xeqi rfl (d14.1 hz) rfl) ⟨fun _ => rfl, fun c => absurd hz c⟩ rfl
       · by_cases hy : (((decide (((vTxt (vGood a2)).k : Int) = (4 : Int))) && false) = false)
         · exact stepX_skip (wantN (j := 12) (b := true) (b' := false) rfl ((d12.1 hy).trans (congrArg Value.bool (Bool.eq_false_iff.2 (fun hx => hz ⟨hy, hx⟩)))) rfl) ⟨fun c => absurd c hz, fun _ => rfl⟩ rfl
         · exact stepX_skip (wantU (j := 12) (b := true) rfl (d12.2 hy)) ⟨fun c => absurd c hz, fun _ => rfl⟩ rfl
       ) <|
     arm (fun aa ww hk bs hd => by
       have d8 := dp hd 8 rfl; have d12 := dI hd 12 rfl; have d15 := dI hd 15 rfl
       by_cases hz : (((decide (((vTxt (vGood a2)).k : Int) = (4 : Int))) && false) = false)
       · exact stepX_same (v := .bool ((decide (((vTxt (vGood a2)).k : Int) ≠ (4 : Int))) && (decide (((vGood a3).k : Int) = (4 : Int))))) (want1 (j := 8) (b := false) rfl (d8.trans (congrArg Value.bool hz))) (xand rfl (d12.1 hz) (fun hb => d15.1 ⟨hz, hb⟩) rfl) ⟨fun _ => rfl, fun c => absurd hz c⟩ rfl
       · exact stepX_skip (wantN (j := 8) (b := false) (b' := true) rfl (d8.trans (congrArg Value.bool ((Bool.not_eq_false _).mp hz))) rfl) ⟨fun c => absurd c hz, fun _ => rfl⟩ rfl
       ) <|
     arm (fun aa ww hk bs hd => by
       have d8 := dp hd 8 rfl; have d16 := dI hd 16 rfl
       by_cases hz : (((decide (((vTxt (vGood a2)).k : Int) = (4 : Int))) && false) = false)
       · exact stepX_same (v := .bool ((decide (((vTxt (vGood a2)).k : Int) ≠ (4 : Int))) && (decide (((vGood a3).k : Int) = (4 : Int))))) (want1 (j := 8) (b := false) rfl (d8.trans (congrArg Value.bool hz))) (xmove rfl (d16.1 hz)) ⟨fun _ => rfl, fun c => absurd hz c⟩ rfl
       · exact stepX_skip (wantN (j := 8) (b := false) (b' := true) rfl (d8.trans (congrArg Value.bool ((Bool.not_eq_false _).mp hz))) rfl) ⟨fun c => absurd c hz, fun _ => rfl⟩ rfl
       ) <|
     arm (fun aa ww hk bs hd => by
       have d17 := dI hd 17 rfl
       by_cases hz : (((decide (((vTxt (vGood a2)).k : Int) = (4 : Int))) && false) = false) ∧ (((decide (((vTxt (vGood a2)).k : Int) ≠ (4 : Int))) && (decide (((vGood a3).k : Int) = (4 : Int)))) = true)
       · exact stepX_same (v := aggV ((vBin13 op (vGood a2) (vGood a3)).1)) (want1 (j := 17) (b := true) rfl ((d17.1 hz.1).trans (congrArg Value.bool hz.2))) (xloadN 3 (vs := [.int .u8 (((vBin13 op (vGood a2) (vGood a3)).1).k), .int .i64 (((vBin13 op (vGood a2) (vGood a3)).1).n), .string ⟨(((vBin13 op (vGood a2) (vGood a3)).1).t).toArray⟩]) rfl (by kernel_rfl) (by kernel_rfl) (bg bs s9) ((ow.keep hk).box 1 rfl) (Nat.le_of_ble_eq_true rfl) rfl) ⟨fun _ => rfl, fun c => absurd hz c⟩ rfl
       · by_cases hy : (((decide (((vTxt (vGood a2)).k : Int) = (4 : Int))) && false) = false)
         · exact stepX_skip (wantN (j := 17) (b := true) (b' := false) rfl ((d17.1 hy).trans (congrArg Value.bool (Bool.eq_false_iff.2 (fun hx => hz ⟨hy, hx⟩)))) rfl) ⟨fun c => absurd c hz, fun _ => rfl⟩ rfl
         · exact stepX_skip (wantU (j := 17) (b := true) rfl (d17.2 hy)) ⟨fun c => absurd c hz, fun _ => rfl⟩ rfl
       ) <|
     arm (fun aa ww hk bs hd => by
       have d17 := dI hd 17 rfl
       by_cases hz : (((decide (((vTxt (vGood a2)).k : Int) = (4 : Int))) && false) = false) ∧ (((decide (((vTxt (vGood a2)).k : Int) ≠ (4 : Int))) && (decide (((vGood a3).k : Int) = (4 : Int)))) = true)
       · exact stepX_same (v := aggV (vGood a3)) (want1 (j := 17) (b := true) rfl ((d17.1 hz.1).trans (congrArg Value.bool hz.2))) (xloadN 3 (vs := [.int .u8 ((vGood a3).k), .int .i64 ((vGood a3).n), .string ⟨((vGood a3).t).toArray⟩]) rfl (by kernel_rfl) (by kernel_rfl) (bg bs s7) ((ow.keep hk).box 2 rfl) (Nat.le_of_ble_eq_true rfl) rfl) ⟨fun _ => rfl, fun c => absurd hz c⟩ rfl
       · by_cases hy : (((decide (((vTxt (vGood a2)).k : Int) = (4 : Int))) && false) = false)
         · exact stepX_skip (wantN (j := 17) (b := true) (b' := false) rfl ((d17.1 hy).trans (congrArg Value.bool (Bool.eq_false_iff.2 (fun hx => hz ⟨hy, hx⟩)))) rfl) ⟨fun c => absurd c hz, fun _ => rfl⟩ rfl
         · exact stepX_skip (wantU (j := 17) (b := true) rfl (d17.2 hy)) ⟨fun c => absurd c hz, fun _ => rfl⟩ rfl
       ) <|
     arm (fun aa ww hk bs hd => by
       have d17 := dI hd 17 rfl; have d18 := dI hd 18 rfl; have d19 := dI hd 19 rfl
       by_cases hz : (((decide (((vTxt (vGood a2)).k : Int) = (4 : Int))) && false) = false) ∧ (((decide (((vTxt (vGood a2)).k : Int) ≠ (4 : Int))) && (decide (((vGood a3).k : Int) = (4 : Int)))) = true)
       · exact stepX_same (v := .bool (!sameV ((vBin13 op (vGood a2) (vGood a3)).1) (vGood a3))) (want1 (j := 17) (b := true) rfl ((d17.1 hz.1).trans (congrArg Value.bool hz.2))) (xnev rfl (d18.1 hz) (d19.1 hz)) ⟨fun _ => congrArg Value.bool (by rw [bin_second (f := vTxt (vGood a2)) hop.1 hop.2 oa ob (by rw [if_pos (by omega)]) (isE_no (of_decide_eq_true (and_l hz.2))) (by have := of_decide_eq_true (and_r hz.2); omega), sameV_self]; rfl), fun c => absurd hz c⟩ rfl
       · by_cases hy : (((decide (((vTxt (vGood a2)).k : Int) = (4 : Int))) && false) = false)
         · exact stepX_skip (wantN (j := 17) (b := true) (b' := false) rfl ((d17.1 hy).trans (congrArg Value.bool (Bool.eq_false_iff.2 (fun hx => hz ⟨hy, hx⟩)))) rfl) ⟨fun c => absurd c hz, fun _ => rfl⟩ rfl
         · exact stepX_skip (wantU (j := 17) (b := true) rfl (d17.2 hy)) ⟨fun c => absurd c hz, fun _ => rfl⟩ rfl
       ) <|
     arm (fun aa ww hk bs hd => by
       have d8 := dp hd 8 rfl; have d17 := dI hd 17 rfl; have d20 := dI hd 20 rfl
       by_cases hz : (((decide (((vTxt (vGood a2)).k : Int) = (4 : Int))) && false) = false)
       · exact stepX_same (v := .bool (((decide (((vTxt (vGood a2)).k : Int) ≠ (4 : Int))) && (decide (((vGood a3).k : Int) = (4 : Int)))) && false)) (want1 (j := 8) (b := false) rfl (d8.trans (congrArg Value.bool hz))) (xand rfl (d17.1 hz) (fun hb => d20.1 ⟨hz, hb⟩) rfl) ⟨fun _ => rfl, fun c => absurd hz c⟩ rfl
       · exact stepX_skip (wantN (j := 8) (b := false) (b' := true) rfl (d8.trans (congrArg Value.bool ((Bool.not_eq_false _).mp hz))) rfl) ⟨fun c => absurd c hz, fun _ => rfl⟩ rfl
       ) <|
     arm (fun aa ww hk bs hd => by
       have d8 := dp hd 8 rfl; have d21 := dI hd 21 rfl; exact stepX_same (v := .bool (((decide (((vTxt (vGood a2)).k : Int) = (4 : Int))) && false) || (((decide (((vTxt (vGood a2)).k : Int) ≠ (4 : Int))) && (decide (((vGood a3).k : Int) = (4 : Int)))) && false))) (want0 rfl) (xor_ rfl (d8) rfl (fun hb => d21.1 hb)) rfl rfl
       ) <|
     arm0) fun fa fw bs hv ap z q ow => ?_
   obtain ⟨s6, s7, s8, s0, s11⟩ := b5 bs s6 s7 s8 s0 s11; have s83 := gv hv 22 rfl rfl; refine wt hK11 ?_
   by_cases hc2 : ((((vTxt (vGood a2)).k : Int) = (4 : Int)) ∧ (false = true)) ∨ (((((vTxt (vGood a2)).k : Int) ≠ (4 : Int)) ∧ (((vGood a3).k : Int) = (4 : Int))) ∧ (false = true))
   ·refine ct s83 ((bor (band (decide_eq_true_iff) (Iff.rfl)) (band (band (decide_eq_true_iff) (decide_eq_true_iff)) (Iff.rfl))).2 hc2) ?_
    refine sq fun hK12 => ?_; exact absurd hc2 (by simp)
   refine cf s83 (bor (band (decide_eq_true_iff) (Iff.rfl)) (band (band (decide_eq_true_iff) (decide_eq_true_iff)) (Iff.rfl))) hc2 ?_; refine wp_skip ?_; refine tn hK10 ?_; refine sq fun hK13 => ?_; have nf : ¬ (fn < 1 ∨ 8 < fn) := by omega
   have l1 : [vGood a2].all vOk = true := by simp [oa]
   have l2 : [vGood a2, vGood a3].all vOk = true := by simp [oa, ob]
   have sm1 : ∀ v ∈ [vGood a2], Small v := fun v hv => by rw [List.mem_singleton] at hv; subst hv; exact sa
   have sm2 := small_ab sa sb; have k1 := call_valid nf l1; have k2 := call_valid nf l2; have i1 := call_in (fun v hv => (sm1 v hv).1) nf l1; have i2 := call_in (fun v hv => (sm2 v hv).1) nf l2
   refine ro [yV _, yV (aggV (vGood a2)), ySlice fw.heap.size 1 (rowObj [vGood a2]), yV (.tuple #[aggV ((vCall13 fn [vGood a2]).1), .int .i64 ((vCall13 fn [vGood a2]).2)]), yV _, yV (aggV ((vCall13 fn [vGood a2]).1)), yV _, yNew fw.heap.size (.cells #[.int .u8 0, .int .i64 0, .string ⟨[].toArray⟩] 25 (0, 0))] 8 144 z q ow (
     mvS s0 rfl rfl rfl rfl <|
     aS (fun hk bs hd => xloadN 3 rfl (by kernel_rfl) (by kernel_rfl) (bg bs s6) ((ow.keep hk).box 3 rfl) (Nat.le_of_ble_eq_true rfl) rfl) rfl <|
     arm (fun aa ww hk bs hd => by
       have d1 := dp hd 1 rfl; exact stepX_new _ (want0 rfl) (xrow1 rfl (d1)) ⟨_, rfl, hk.size, Go.heap_alloc_new _ _⟩ ((Kept.refl _).alloc _) rfl (Nat.le_refl _)
       ) <|
     arm (fun aa ww hk bs hd => by
       have d0 := dp hd 0 rfl; have d2 := dL hd 2 rfl; obtain ⟨g2, e2, _, h2⟩ := d2; exact stepX_enter (want0 rfl) (xcall2 (u := .int .u8 (fn : Int)) (v := .slice (some ⟨g2, 0, none⟩) 1 1) rfl (d0) e2 (en_fnum_Call _ _)) ((call13_any fn (some ⟨g2, 0, none⟩) 1 [vGood a2] ww mx (HM.kept (ow.keep hk).kept) (rowObj_row h2) sm1 (by simp) (Nat.le_of_ble_eq_true rfl)).mono fun _ _ ⟨he, hk2⟩ => ⟨_, he, rfl, hk2⟩) rfl
       ) <|
     mvD 3 rfl rfl rfl rfl rfl rfl <|
     aS (fun hk bs hd => xextract rfl (dp hd 4 rfl) rfl) rfl <|
     aS (fun hk bs hd => xextract rfl (dp hd 4 rfl) rfl) rfl <|
     aP (fun hk bs hd => xalloc rfl (by kernel_rfl)) rfl <|
     arm0) fun fa fw bs hv ap z q ov => ?_
   obtain ⟨s6, s7, s8, s0, s11⟩ := b5 bs s6 s7 s8 s0 s11; have s89 := gv hv 5 rfl rfl; have s90 := gv hv 6 rfl rfl; obtain ⟨gb5, s12, bgb5, hgb5⟩ := gotP hv 7 rfl rfl rfl; have ov := ov.cons hgb5 (Nat.le_trans ow.kept.size bgb5) (ow.below bgb5); have ow := ov; refine ws ow 0 0 s12 s89 fun fw ow => ?_; refine wl_value (v := .int .i64 ((vCall13 fn [vGood a2]).2)) (want0 rfl) (xassign rfl s90) ?_; refine gp6 z q ow s6 s7 s8 s0 s11 s12 fun fa fw z q ow s6 s7 s8 s0 s11 s12 s13 => ?_; refine wt hK13 ?_; refine sq fun hK14 => ?_
   refine ro [yV _, yV (aggV (vGood a2)), yV (aggV (vGood a3)), ySlice fw.heap.size 2 (rowObj [vGood a2, vGood a3]), yV (.tuple #[aggV ((vCall13 fn [vGood a2, vGood a3]).1), .int .i64 ((vCall13 fn [vGood a2, vGood a3]).2)]), yV _, yV (aggV ((vCall13 fn [vGood a2, vGood a3]).1)), yV _, yNew fw.heap.size (.cells #[.int .u8 0, .int .i64 0, .string ⟨[].toArray⟩] 25 (0, 0))] 9 144 z q ow (
     mvS s0 rfl rfl rfl rfl <|
     aS (fun hk bs hd => xloadN 3 rfl (by kernel_rfl) (by kernel_rfl) (bg bs s6) ((ow.keep hk).box 4 rfl) (Nat.le_of_ble_eq_true rfl) rfl) rfl <|
     aS (fun hk bs hd => xloadN 3 rfl (by kernel_rfl) (by kernel_rfl) (bg bs s7) ((ow.keep hk).box 3 rfl) (Nat.le_of_ble_eq_true rfl) rfl) rfl <|
     arm (fun aa ww hk bs hd => by
       have d1 := dp hd 1 rfl; have d2 := dp hd 2 rfl; exact stepX_new _ (want0 rfl) (xrow2 rfl (d1) (d2)) ⟨_, rfl, hk.size, Go.heap_alloc_new _ _⟩ ((Kept.refl _).alloc _) rfl (Nat.le_refl _)
       ) <|
     arm (fun aa ww hk bs hd => by
       have d0 := dp hd 0 rfl; have d3 := dL hd 3 rfl; obtain ⟨g3, e3, _, h3⟩ := d3; exact stepX_enter (want0 rfl) (xcall2 (u := .int .u8 (fn : Int)) (v := .slice (some ⟨g3, 0, none⟩) 2 2) rfl (d0) e3 (en_fnum_Call _ _)) ((call13_any fn (some ⟨g3, 0, none⟩) 2 [vGood a2, vGood a3] ww mx (HM.kept (ow.keep hk).kept) (rowObj_row h3) sm2 (by simp) (Nat.le_of_ble_eq_true rfl)).mono fun _ _ ⟨he, hk2⟩ => ⟨_, he, rfl, hk2⟩) rfl
       ) <|
     mvD 4 rfl rfl rfl rfl rfl rfl <|
     aS (fun hk bs hd => xextract rfl (dp hd 5 rfl) rfl) rfl <|
     aS (fun hk bs hd => xextract rfl (dp hd 5 rfl) rfl) rfl <|
     aP (fun hk bs hd => xalloc rfl (by kernel_rfl)) rfl <|
     arm0) fun fa fw bs hv ap z q ov => ?_
   obtain ⟨s6, s7, s8, s11, s12, s13⟩ := b6 bs s6 s7 s8 s11 s12 s13; have s97 := gv hv 6 rfl rfl; have s98 := gv hv 7 rfl rfl; obtain ⟨gb6, s14, bgb6, hgb6⟩ := gotP hv 8 rfl rfl rfl; have ov := ov.cons hgb6 (Nat.le_trans ow.kept.size bgb6) (ow.below bgb6); have ow := ov; refine ws ow 0 0 s14 s97 fun fw ow => ?_; refine wl_value (v := .int .i64 ((vCall13 fn [vGood a2, vGood a3]).2)) (want0 rfl) (xassign rfl s98) ?_; refine gp7 z q ow s6 s7 s8 s11 s12 s13 s14 fun fa fw z q ow s6 s7 s8 s11 s12 s13 s14 s15 => ?_; refine wt hK14 ?_; refine sq fun hK15 => ?_; refine sq fun hK16 => ?_
   refine ro [yV _, yV _, yV _, yV _, yV (.bool false), yV _, yV (aggV ((vCall13 fn [vGood a2]).1)), yV (.int .i64 0), yV (.bool false), yV _, yV _, yV (aggV ((vCall13 fn [vGood a2, vGood a3]).1)), yV (.int .i64 0), yV (.bool false), yV _] 15 144 z q ow (
     mvS s13 rfl rfl rfl rfl <|
     aS (fun hk bs hd => xeqi rfl (dp hd 0 rfl) rfl) rfl <|
     mvS s15 rfl rfl rfl rfl <|
     aS (fun hk bs hd => xeqi rfl (dp hd 2 rfl) rfl) rfl <|
     aE (fun hk bs hd => xeqB rfl (dp hd 1 rfl) (dp hd 3 rfl)) (congrArg Value.bool (calls_apart k1.2 k2.2)) rfl <|
     mvD 4 rfl rfl rfl rfl rfl rfl <|
     armS (wg (j := 5) (b := false) rfl rfl rfl) (fun aa ww hk bs hd => xloadN 3 rfl (by kernel_rfl) (by kernel_rfl) (bg bs s12) ((ow.keep hk).box 1 rfl) (Nat.le_of_ble_eq_true rfl) rfl) rfl <|
     armC (wg (j := 5) (b := false) rfl rfl rfl) (fun aa ww hk bs hd => xcall1 rfl (dp hd 6 rfl) (en_val_Check _ _)) (fun aa ww hk bs hd => check0_any ((vCall13 fn [vGood a2]).1) ww (small_ok k1.1 i1) k1.1) rfl <|
     armE (wg (j := 5) (b := false) rfl rfl rfl) (fun aa ww hk bs hd => xnei rfl (dp hd 7 rfl) rfl) (congrArg Value.bool rfl) rfl <|
     aS (fun hk bs hd => xpickF rfl (dp hd 5 rfl) (dp hd 8 rfl)) rfl <|
     mvD 9 rfl rfl rfl rfl rfl rfl <|
     armS (wg (j := 10) (b := false) rfl rfl rfl) (fun aa ww hk bs hd => xloadN 3 rfl (by kernel_rfl) (by kernel_rfl) (bg bs s14) ((ow.keep hk).box 0 rfl) (Nat.le_of_ble_eq_true rfl) rfl) rfl <|
     armC (wg (j := 10) (b := false) rfl rfl rfl) (fun aa ww hk bs hd => xcall1 rfl (dp hd 11 rfl) (en_val_Check _ _)) (fun aa ww hk bs hd => check0_any ((vCall13 fn [vGood a2, vGood a3]).1) ww (small_ok k2.1 i2) k2.1) rfl <|
     armE (wg (j := 10) (b := false) rfl rfl rfl) (fun aa ww hk bs hd => xnei rfl (dp hd 12 rfl) rfl) (congrArg Value.bool rfl) rfl <|
     aS (fun hk bs hd => xpickF rfl (dp hd 10 rfl) (dp hd 13 rfl)) rfl <|
     arm0) fun fa fw bs hv ap z q ow => ?_
   obtain ⟨s6, s7, s8, s11, s12, s14, s15⟩ := b7 bs s6 s7 s8 s11 s12 s14 s15; have s113 := gv hv 14 rfl rfl; refine wt hK16 ?_; refine wp_cond_false (s113) ?_; refine wp_skip ?_; refine tn hK15 ?_; refine sq fun hK17 => ?_
   refine ro [yV (aggV ((vCall13 fn [vGood a2]).1)), yV (aggV (vGood a2)), yV (aggV (vNum (vGood a2))), yNew fw.heap.size (.cells #[.int .u8 0, .int .i64 0, .string ⟨[].toArray⟩] 25 (0, 0))] 4 144 z q ow (
     aS (fun hk bs hd => xloadN 3 rfl (by kernel_rfl) (by kernel_rfl) (bg bs s12) ((ow.keep hk).box 1 rfl) (Nat.le_of_ble_eq_true rfl) rfl) rfl <|
     aS (fun hk bs hd => xloadN 3 rfl (by kernel_rfl) (by kernel_rfl) (bg bs s6) ((ow.keep hk).box 5 rfl) (Nat.le_of_ble_eq_true rfl) rfl) rfl <|
     aC (fun hk bs hd => xcall1 rfl (dp hd 1 rfl) (en_val_ToNumber _ _)) (fun hk bs hd => tonum_any (vGood a2) _ mx (HM.kept (ow.keep hk).kept) sa.1 sa.2) rfl <|
     aP (fun hk bs hd => xalloc rfl (by kernel_rfl)) rfl <|
     arm0) fun fa fw bs hv ap z q ov => ?_
   obtain ⟨s7, s8, s11, s14, s15⟩ := b5 bs s7 s8 s11 s14 s15; have s114 := gv hv 0 rfl rfl; have s116 := gv hv 2 rfl rfl; obtain ⟨gb7, s16, bgb7, hgb7⟩ := gotP hv 3 rfl rfl rfl; have ov := ov.cons hgb7 (Nat.le_trans ow.kept.size bgb7) (ow.below bgb7); have ow := ov; refine ws ow 0 0 s16 s114 fun fw ow => ?_; refine ws ow 3 0 s11 s116 fun fw ow => ?_; refine wt hK17 ?_; refine sq fun hK18 => ?_; refine sq fun hK19 => ?_
   refine ro [yV _, yV _] 2 144 z q ow (
     mvS s15 rfl rfl rfl rfl <|
     aS (fun hk bs hd => xeqi rfl (dp hd 0 rfl) rfl) rfl <|
     arm0) fun fa fw bs hv ap z q ow => ?_
   obtain ⟨s7, s8, s11, s14, s16⟩ := b5 bs s7 s8 s11 s14 s16; have s118 := gv hv 1 rfl rfl; refine wt hK19 ?_
   by_cases hc3 : ((vCall13 fn [vGood a2, vGood a3]).2 : Int) = (0 : Int)
   ·refine ct s118 ((decide_eq_true_iff).2 hc3) ?_
    have ht : two13 fn = true := by have h := k2.2; cases e : two13 fn <;> rw [e] at h <;> simp at h <;> first | rfl | omega
    refine sq fun hK20 => ?_
    refine ro [yV (aggV ((vCall13 fn [vGood a2, vGood a3]).1))] 1 144 z q ow (
      aS (fun hk bs hd => xloadN 3 rfl (by kernel_rfl) (by kernel_rfl) (bg bs s14) ((ow.keep hk).box 1 rfl) (Nat.le_of_ble_eq_true rfl) rfl) rfl <|
      arm0) fun fa fw bs hv ap z q ow => ?_
    obtain ⟨s7, s8, s11, s16⟩ := b4 bs s7 s8 s11 s16; have s119 := gv hv 0 rfl rfl; refine ws ow 0 0 s16 s119 fun fw ow => ?_; refine wt hK20 ?_; refine sq fun hK21 => ?_
    refine ro [yV (.pointer (some ⟨gb4, 0, none⟩)), yV _, yV _, yV _, yIf (((decide (((vNum (vGood a2)).k : Int) ≠ (4 : Int))) = true)) (yV (.pointer (some ⟨gb2, 0, none⟩))), yIf (((decide (((vNum (vGood a2)).k : Int) ≠ (4 : Int))) = true)) (yV (.int .u8 ((vGood a3).k))), yIf (((decide (((vNum (vGood a2)).k : Int) ≠ (4 : Int))) = true)) (yV (.bool (decide (((vGood a3).k : Int) = (4 : Int))))), yV _, yV _, yIf ((((decide (((vNum (vGood a2)).k : Int) ≠ (4 : Int))) && (decide (((vGood a3).k : Int) = (4 : Int)))) = true)) (yV (aggV ((vCall13 fn [vGood a2, vGood a3]).1))), yIf ((((decide (((vNum (vGood a2)).k : Int) ≠ (4 : Int))) && (decide (((vGood a3).k : Int) = (4 : Int)))) = true)) (yV (aggV (vGood a3))), yIf ((((decide (((vNum (vGood a2)).k : Int) ≠ (4 : Int))) && (decide (((vGood a3).k : Int) = (4 : Int)))) = true)) (yV (.bool false)), yV _] 13 144 z q ow (
      aS (fun hk bs hd => xfieldAddr rfl (bg bs s11) (by kernel_rfl)) rfl <|
      aS (fun hk bs hd => xloadB rfl (by kernel_rfl) (dp hd 0 rfl) ((ow.keep hk).box 3 rfl) rfl) rfl <|
      aS (fun hk bs hd => xnei rfl (dp hd 1 rfl) rfl) rfl <|
      mvD 2 rfl rfl rfl rfl rfl rfl <|
      arm (fun aa ww hk bs hd => by
        have d3 := dp hd 3 rfl
        by_cases hz : ((decide (((vNum (vGood a2)).k : Int) ≠ (4 : Int))) = true)
        · exact stepX_same (v := .pointer (some ⟨gb2, 0, none⟩)) (want1 (j := 3) (b := true) rfl (d3.trans (congrArg Value.bool hz))) (xfieldAddr rfl (bg bs s7) (by kernel_rfl)) ⟨fun _ => rfl, fun c => absurd hz c⟩ rfl
        · exact stepX_skip (wantN (j := 3) (b := true) (b' := false) rfl (d3.trans (congrArg Value.bool (Bool.eq_false_iff.2 hz))) rfl) ⟨fun c => absurd c hz, fun _ => rfl⟩ rfl
        ) <|
      arm (fun aa ww hk bs hd => by
        have d3 := dp hd 3 rfl; have d4 := dI hd 4 rfl
        by_cases hz : ((decide (((vNum (vGood a2)).k : Int) ≠ (4 : Int))) = true)
        · exact stepX_same (v := .int .u8 ((vGood a3).k)) (want1 (j := 3) (b := true) rfl (d3.trans (congrArg Value.bool hz))) (xloadB rfl (by kernel_rfl) (d4.1 hz) ((ow.keep hk).box 5 rfl) rfl) ⟨fun _ => rfl, fun c => absurd hz c⟩ rfl
        · exact stepX_skip (wantN (j := 3) (b := true) (b' := false) rfl (d3.trans (congrArg Value.bool (Bool.eq_false_iff.2 hz))) rfl) ⟨fun c => absurd c hz, fun _ => rfl⟩ rfl
        ) <|
      arm (fun aa ww hk bs hd => by
        have d3 := dp hd 3 rfl; have d5 := dI hd 5 rfl
        by_cases hz : ((decide (((vNum (vGood a2)).k : Int) ≠ (4 : Int))) = true)
        · exact stepX_same (v := .bool (decide (((vGood a3).k : Int) = (4 : Int)))) (want1 (j := 3) (b := true) rfl (d3.trans (congrArg Value.bool hz))) (xeqi rfl (d5.1 hz) rfl) ⟨fun _ => rfl, fun c => absurd hz c⟩ rfl
        · exact stepX_skip (wantN (j := 3) (b := true) (b' := false) rfl (d3.trans (congrArg Value.bool (Bool.eq_false_iff.2 hz))) rfl) ⟨fun c => absurd c hz, fun _ => rfl⟩ rfl
        ) <|
      arm (fun aa ww hk bs hd => by
        have d3 := dp hd 3 rfl; have d6 := dI hd 6 rfl; exact stepX_same (v := .bool ((decide (((vNum (vGood a2)).k : Int) ≠ (4 : Int))) && (decide (((vGood a3).k : Int) = (4 : Int))))) (want0 rfl) (xand rfl (d3) (fun hb => d6.1 hb) rfl) rfl rfl
        ) <|
      mvD 7 rfl rfl rfl rfl rfl rfl <|
      arm (fun aa ww hk bs hd => by
        have d8 := dp hd 8 rfl
        by_cases hz : (((decide (((vNum (vGood a2)).k : Int) ≠ (4 : Int))) && (decide (((vGood a3).k : Int) = (4 : Int)))) = true)
        · exact stepX_same (v := aggV ((vCall13 fn [vGood a2, vGood a3]).1)) (want1 (j := 8) (b := true) rfl (d8.trans (congrArg Value.bool hz))) (xloadN 3 (vs := [.int .u8 (((vCall13 fn [vGood a2, vGood a3]).1).k), .int .i64 (((vCall13 fn [vGood a2, vGood a3]).1).n), .string ⟨(((vCall13 fn [vGood a2, vGood a3]).1).t).toArray⟩]) rfl (by kernel_rfl) (by kernel_rfl) (bg bs s16) ((ow.keep hk).box 0 rfl) (Nat.le_of_ble_eq_true rfl) rfl) ⟨fun _ => rfl, fun c => absurd hz c⟩ rfl
        · exact stepX_skip (wantN (j := 8) (b := true) (b' := false) rfl (d8.trans (congrArg Value.bool (Bool.eq_false_iff.2 hz))) rfl) ⟨fun c => absurd c hz, fun _ => rfl⟩ rfl
        ) <|
      arm (fun aa ww hk bs hd => by
        have d8 := dp hd 8 rfl
        by_cases hz : (((decide (((vNum (vGood a2)).k : Int) ≠ (4 : Int))) && (decide (((vGood a3).k : Int) = (4 : Int)))) = true)
        · exact stepX_same (v := aggV (vGood a3)) (want1 (j := 8) (b := true) rfl (d8.trans (congrArg Value.bool hz))) (xloadN 3 (vs := [.int .u8 ((vGood a3).k), .int .i64 ((vGood a3).n), .string ⟨((vGood a3).t).toArray⟩]) rfl (by kernel_rfl) (by kernel_rfl) (bg bs s7) ((ow.keep hk).box 5 rfl) (Nat.le_of_ble_eq_true rfl) rfl) ⟨fun _ => rfl, fun c => absurd hz c⟩ rfl
        · exact stepX_skip (wantN (j := 8) (b := true) (b' := false) rfl (d8.trans (congrArg Value.bool (Bool.eq_false_iff.2 hz))) rfl) ⟨fun c => absurd c hz, fun _ => rfl⟩ rfl
        ) <|
      arm (fun aa ww hk bs hd => by
        have d8 := dp hd 8 rfl; have d9 := dI hd 9 rfl; have d10 := dI hd 10 rfl
        by_cases hz : (((decide (((vNum (vGood a2)).k : Int) ≠ (4 : Int))) && (decide (((vGood a3).k : Int) = (4 : Int)))) = true)
        · exact stepX_same (v := .bool (!sameV ((vCall13 fn [vGood a2, vGood a3]).1) (vGood a3))) (want1 (j := 8) (b := true) rfl (d8.trans (congrArg Value.bool hz))) (xnev rfl (d9.1 hz) (d10.1 hz)) ⟨fun _ => congrArg Value.bool (by rw [call_two_snd nf oa ob ht (isE_no (of_decide_eq_true (and_l hz))) (by have := of_decide_eq_true (and_r hz); omega), sameV_self]; rfl), fun c => absurd hz c⟩ rfl
        · exact stepX_skip (wantN (j := 8) (b := true) (b' := false) rfl (d8.trans (congrArg Value.bool (Bool.eq_false_iff.2 hz))) rfl) ⟨fun c => absurd c hz, fun _ => rfl⟩ rfl
        ) <|
      arm (fun aa ww hk bs hd => by
        have d8 := dp hd 8 rfl; have d11 := dI hd 11 rfl; exact stepX_same (v := .bool (((decide (((vNum (vGood a2)).k : Int) ≠ (4 : Int))) && (decide (((vGood a3).k : Int) = (4 : Int)))) && false)) (want0 rfl) (xand rfl (d8) (fun hb => d11.1 hb) rfl) rfl rfl
        ) <|
      arm0) fun fa fw bs hv ap z q ow => ?_
    obtain ⟨s8, s11, s16⟩ := b3 bs s8 s11 s16; have s132 := gv hv 12 rfl rfl; refine wt hK21 ?_
    by_cases hc4 : ((((vNum (vGood a2)).k : Int) ≠ (4 : Int)) ∧ (((vGood a3).k : Int) = (4 : Int))) ∧ (false = true)
    ·refine ct s132 ((band (band (decide_eq_true_iff) (decide_eq_true_iff)) (Iff.rfl)).2 hc4) ?_
     refine sq fun hK22 => ?_; exact absurd hc4 (by simp)
    refine cf s132 (band (band (decide_eq_true_iff) (decide_eq_true_iff)) (Iff.rfl)) hc4 ?_; refine wp_skip ?_; refine tn hK18 ?_; refine sq fun hK23 => ?_
    refine ro [yV (.pointer (some ⟨gb4, 0, none⟩)), yV _, yV _, yV _, yIf (((decide (((vNum (vGood a2)).k : Int) ≠ (4 : Int))) = false)) (yV (aggV ((vCall13 fn [vGood a2, vGood a3]).1))), yIf (((decide (((vNum (vGood a2)).k : Int) ≠ (4 : Int))) = false)) (yV (aggV (vNum (vGood a2)))), yIf (((decide (((vNum (vGood a2)).k : Int) ≠ (4 : Int))) = false)) (yV (.bool true)), yV _, yV _, yIf ((((decide (((vNum (vGood a2)).k : Int) ≠ (4 : Int))) || true) = true)) (yV (.bool true)), yV _, yV _] 12 144 z q ow (
      aS (fun hk bs hd => xfieldAddr rfl (bg bs s11) (by kernel_rfl)) rfl <|
      aS (fun hk bs hd => xloadB rfl (by kernel_rfl) (dp hd 0 rfl) ((ow.keep hk).box 3 rfl) rfl) rfl <|
      aS (fun hk bs hd => xnei rfl (dp hd 1 rfl) rfl) rfl <|
      mvD 2 rfl rfl rfl rfl rfl rfl <|
      arm (fun aa ww hk bs hd => by
        have d3 := dp hd 3 rfl
        by_cases hz : ((decide (((vNum (vGood a2)).k : Int) ≠ (4 : Int))) = false)
        · exact stepX_same (v := aggV ((vCall13 fn [vGood a2, vGood a3]).1)) (want1 (j := 3) (b := false) rfl (d3.trans (congrArg Value.bool hz))) (xloadN 3 (vs := [.int .u8 (((vCall13 fn [vGood a2, vGood a3]).1).k), .int .i64 (((vCall13 fn [vGood a2, vGood a3]).1).n), .string ⟨(((vCall13 fn [vGood a2, vGood a3]).1).t).toArray⟩]) rfl (by kernel_rfl) (by kernel_rfl) (bg bs s16) ((ow.keep hk).box 0 rfl) (Nat.le_of_ble_eq_true rfl) rfl) ⟨fun _ => rfl, fun c => absurd hz c⟩ rfl
        · exact stepX_skip (wantN (j := 3) (b := false) (b' := true) rfl (d3.trans (congrArg Value.bool ((Bool.not_eq_false _).mp hz))) rfl) ⟨fun c => absurd c hz, fun _ => rfl⟩ rfl
        ) <|
      arm (fun aa ww hk bs hd => by
        have d3 := dp hd 3 rfl
        by_cases hz : ((decide (((vNum (vGood a2)).k : Int) ≠ (4 : Int))) = false)
        · exact stepX_same (v := aggV (vNum (vGood a2))) (want1 (j := 3) (b := false) rfl (d3.trans (congrArg Value.bool hz))) (xloadN 3 (vs := [.int .u8 ((vNum (vGood a2)).k), .int .i64 ((vNum (vGood a2)).n), .string ⟨((vNum (vGood a2)).t).toArray⟩]) rfl (by kernel_rfl) (by kernel_rfl) (bg bs s11) ((ow.keep hk).box 3 rfl) (Nat.le_of_ble_eq_true rfl) rfl) ⟨fun _ => rfl, fun c => absurd hz c⟩ rfl
        · exact stepX_skip (wantN (j := 3) (b := false) (b' := true) rfl (d3.trans (congrArg Value.bool ((Bool.not_eq_false _).mp hz))) rfl) ⟨fun c => absurd c hz, fun _ => rfl⟩ rfl
        ) <|
      arm (fun aa ww hk bs hd => by
        have d3 := dp hd 3 rfl; have d4 := dI hd 4 rfl; have d5 := dI hd 5 rfl
        by_cases hz : ((decide (((vNum (vGood a2)).k : Int) ≠ (4 : Int))) = false)
        · exact stepX_same (v := .bool (sameV ((vCall13 fn [vGood a2, vGood a3]).1) (vNum (vGood a2)))) (want1 (j := 3) (b := false) rfl (d3.trans (congrArg Value.bool hz))) (xeqv rfl (d4.1 hz) (d5.1 hz)) ⟨fun _ => congrArg Value.bool (sameV_of (call_two_err nf oa ob ht (isE_yes (by have := of_decide_eq_false hz; omega)))), fun c => absurd hz c⟩ rfl
        · exact stepX_skip (wantN (j := 3) (b := false) (b' := true) rfl (d3.trans (congrArg Value.bool ((Bool.not_eq_false _).mp hz))) rfl) ⟨fun c => absurd c hz, fun _ => rfl⟩ rfl
        ) <|
      arm (fun aa ww hk bs hd => by
        have d3 := dp hd 3 rfl; have d6 := dI hd 6 rfl; exact stepX_same (v := .bool ((decide (((vNum (vGood a2)).k : Int) ≠ (4 : Int))) || true)) (want0 rfl) (xor_ rfl (d3) rfl (fun hb => d6.1 hb)) rfl rfl
        ) <|
      mvD 7 rfl rfl rfl rfl rfl rfl <|
      arm (fun aa ww hk bs hd => by
        have d8 := dp hd 8 rfl
        by_cases hz : (((decide (((vNum (vGood a2)).k : Int) ≠ (4 : Int))) || true) = true)
        · exact stepX_enter (want1 (j := 8) (b := true) rfl (d8.trans (congrArg Value.bool hz))) (xcall0 rfl (en_louvrelaw13_awake _ _)) ((awake13_any ww mx (HM.kept (ow.keep hk).kept)).mono fun _ _ ⟨he, hk2⟩ => ⟨_, he, ⟨fun _ => rfl, fun c => absurd hz c⟩, hk2⟩) rfl
        · exact stepX_skip (wantN (j := 8) (b := true) (b' := false) rfl (d8.trans (congrArg Value.bool (Bool.eq_false_iff.2 hz))) rfl) ⟨fun c => absurd c hz, fun _ => rfl⟩ rfl
        ) <|
      arm (fun aa ww hk bs hd => by
        have d8 := dp hd 8 rfl; have d9 := dI hd 9 rfl; exact stepX_same (v := .bool (((decide (((vNum (vGood a2)).k : Int) ≠ (4 : Int))) || true) && true)) (want0 rfl) (xand rfl (d8) (fun hb => d9.1 hb) rfl) rfl rfl
        ) <|
      asD 10 rfl rfl rfl rfl rfl rfl <|
      arm0) fun fa fw bs hv ap z q ow => ?_
    have s8 := gv hv 11 rfl rfl; refine wt hK23 ?_; refine wp_ret ?_; refine results_one rfl (res_tmp s8) q ?_; exact ⟨(by simp), ow.kept⟩
   refine cf s118 (decide_eq_true_iff) hc3 ?_; have ht : two13 fn = false := by have h := k2.2; cases e : two13 fn <;> rw [e] at h <;> simp at h <;> first | rfl | omega
   refine wp_skip ?_; refine tn hK18 ?_; refine sq fun hK24 => ?_
   refine ro [yV (.pointer (some ⟨gb4, 0, none⟩)), yV _, yV _, yV _, yIf (((decide (((vNum (vGood a2)).k : Int) ≠ (4 : Int))) = false)) (yV (aggV ((vCall13 fn [vGood a2]).1))), yIf (((decide (((vNum (vGood a2)).k : Int) ≠ (4 : Int))) = false)) (yV (aggV (vNum (vGood a2)))), yIf (((decide (((vNum (vGood a2)).k : Int) ≠ (4 : Int))) = false)) (yV (.bool true)), yV _, yV _, yIf ((((decide (((vNum (vGood a2)).k : Int) ≠ (4 : Int))) || true) = true)) (yV (.bool true)), yV _, yV _] 12 144 z q ow (
     aS (fun hk bs hd => xfieldAddr rfl (bg bs s11) (by kernel_rfl)) rfl <|
     aS (fun hk bs hd => xloadB rfl (by kernel_rfl) (dp hd 0 rfl) ((ow.keep hk).box 3 rfl) rfl) rfl <|
     aS (fun hk bs hd => xnei rfl (dp hd 1 rfl) rfl) rfl <|
     mvD 2 rfl rfl rfl rfl rfl rfl <|
     arm (fun aa ww hk bs hd => by
       have d3 := dp hd 3 rfl
       by_cases hz : ((decide (((vNum (vGood a2)).k : Int) ≠ (4 : Int))) = false)
       · exact stepX_same (v := aggV ((vCall13 fn [vGood a2]).1)) (want1 (j := 3) (b := false) rfl (d3.trans (congrArg Value.bool hz))) (xloadN 3 (vs := [.int .u8 (((vCall13 fn [vGood a2]).1).k), .int .i64 (((vCall13 fn [vGood a2]).1).n), .string ⟨(((vCall13 fn [vGood a2]).1).t).toArray⟩]) rfl (by kernel_rfl) (by kernel_rfl) (bg bs s16) ((ow.keep hk).box 0 rfl) (Nat.le_of_ble_eq_true rfl) rfl) ⟨fun _ => rfl, fun c => absurd hz c⟩ rfl
       · exact stepX_skip (wantN (j := 3) (b := false) (b' := true) rfl (d3.trans (congrArg Value.bool ((Bool.not_eq_false _).mp hz))) rfl) ⟨fun c => absurd c hz, fun _ => rfl⟩ rfl
       ) <|
     arm (fun aa ww hk bs hd => by
       have d3 := dp hd 3 rfl
       by_cases hz : ((decide (((vNum (vGood a2)).k : Int) ≠ (4 : Int))) = false)
       · exact stepX_same (v := aggV (vNum (vGood a2))) (want1 (j := 3) (b := false) rfl (d3.trans (congrArg Value.bool hz))) (xloadN 3 (vs := [.int .u8 ((vNum (vGood a2)).k), .int .i64 ((vNum (vGood a2)).n), .string ⟨((vNum (vGood a2)).t).toArray⟩]) rfl (by kernel_rfl) (by kernel_rfl) (bg bs s11) ((ow.keep hk).box 3 rfl) (Nat.le_of_ble_eq_true rfl) rfl) ⟨fun _ => rfl, fun c => absurd hz c⟩ rfl
       · exact stepX_skip (wantN (j := 3) (b := false) (b' := true) rfl (d3.trans (congrArg Value.bool ((Bool.not_eq_false _).mp hz))) rfl) ⟨fun c => absurd c hz, fun _ => rfl⟩ rfl
       ) <|
     arm (fun aa ww hk bs hd => by
       have d3 := dp hd 3 rfl; have d4 := dI hd 4 rfl; have d5 := dI hd 5 rfl
       by_cases hz : ((decide (((vNum (vGood a2)).k : Int) ≠ (4 : Int))) = false)
       · exact stepX_same (v := .bool (sameV ((vCall13 fn [vGood a2]).1) (vNum (vGood a2)))) (want1 (j := 3) (b := false) rfl (d3.trans (congrArg Value.bool hz))) (xeqv rfl (d4.1 hz) (d5.1 hz)) ⟨fun _ => congrArg Value.bool (sameV_of (call_one_err nf oa ht (isE_yes (by have := of_decide_eq_false hz; omega)))), fun c => absurd hz c⟩ rfl
       · exact stepX_skip (wantN (j := 3) (b := false) (b' := true) rfl (d3.trans (congrArg Value.bool ((Bool.not_eq_false _).mp hz))) rfl) ⟨fun c => absurd c hz, fun _ => rfl⟩ rfl
       ) <|
     arm (fun aa ww hk bs hd => by
       have d3 := dp hd 3 rfl; have d6 := dI hd 6 rfl; exact stepX_same (v := .bool ((decide (((vNum (vGood a2)).k : Int) ≠ (4 : Int))) || true)) (want0 rfl) (xor_ rfl (d3) rfl (fun hb => d6.1 hb)) rfl rfl
       ) <|
     mvD 7 rfl rfl rfl rfl rfl rfl <|
     arm (fun aa ww hk bs hd => by
       have d8 := dp hd 8 rfl
       by_cases hz : (((decide (((vNum (vGood a2)).k : Int) ≠ (4 : Int))) || true) = true)
       · exact stepX_enter (want1 (j := 8) (b := true) rfl (d8.trans (congrArg Value.bool hz))) (xcall0 rfl (en_louvrelaw13_awake _ _)) ((awake13_any ww mx (HM.kept (ow.keep hk).kept)).mono fun _ _ ⟨he, hk2⟩ => ⟨_, he, ⟨fun _ => rfl, fun c => absurd hz c⟩, hk2⟩) rfl
       · exact stepX_skip (wantN (j := 8) (b := true) (b' := false) rfl (d8.trans (congrArg Value.bool (Bool.eq_false_iff.2 hz))) rfl) ⟨fun c => absurd c hz, fun _ => rfl⟩ rfl
       ) <|
     arm (fun aa ww hk bs hd => by
       have d8 := dp hd 8 rfl; have d9 := dI hd 9 rfl; exact stepX_same (v := .bool (((decide (((vNum (vGood a2)).k : Int) ≠ (4 : Int))) || true) && true)) (want0 rfl) (xand rfl (d8) (fun hb => d9.1 hb) rfl) rfl rfl
       ) <|
     asD 10 rfl rfl rfl rfl rfl rfl <|
     arm0) fun fa fw bs hv ap z q ow => ?_
   have s8 := gv hv 11 rfl rfl; refine wt hK24 ?_; refine wp_ret ?_; refine results_one rfl (res_tmp s8) q ?_; exact ⟨(by simp), ow.kept⟩
  refine cf s58 (decide_eq_true_iff) hc1 ?_; refine wp_skip ?_; refine tn hK8 ?_; refine sq fun hK25 => ?_; refine sq fun hK26 => ?_
  refine ro [yV (.pointer (some ⟨gb4, 0, none⟩)), yV _, yV _, yV _, yIf (((decide (((vNum (vGood a2)).k : Int) = (4 : Int))) = true)) (yV (aggV ((vBin13 op (vGood a2) (vGood a3)).1))), yIf (((decide (((vNum (vGood a2)).k : Int) = (4 : Int))) = true)) (yV (aggV (vNum (vGood a2)))), yIf (((decide (((vNum (vGood a2)).k : Int) = (4 : Int))) = true)) (yV (.bool false)), yV _, yV _, yIf ((((decide (((vNum (vGood a2)).k : Int) = (4 : Int))) && false) = false)) (yV (.pointer (some ⟨gb4, 0, none⟩))), yIf ((((decide (((vNum (vGood a2)).k : Int) = (4 : Int))) && false) = false)) (yV (.int .u8 ((vNum (vGood a2)).k))), yIf ((((decide (((vNum (vGood a2)).k : Int) = (4 : Int))) && false) = false)) (yV (.bool (decide (((vNum (vGood a2)).k : Int) ≠ (4 : Int))))), yIf ((((decide (((vNum (vGood a2)).k : Int) = (4 : Int))) && false) = false)) (yV (.bool (decide (((vNum (vGood a2)).k : Int) ≠ (4 : Int))))), yIf ((((decide (((vNum (vGood a2)).k : Int) = (4 : Int))) && false) = false) ∧ ((decide (((vNum (vGood a2)).k : Int) ≠ (4 : Int))) = true)) (yV (.pointer (some ⟨gb2, 0, none⟩))), yIf ((((decide (((vNum (vGood a2)).k : Int) = (4 : Int))) && false) = false) ∧ ((decide (((vNum (vGood a2)).k : Int) ≠ (4 : Int))) = true)) (yV (.int .u8 ((vGood a3).k))), yIf ((((decide (((vNum (vGood a2)).k : Int) = (4 : Int))) && false) = false) ∧ ((decide (((vNum (vGood a2)).k : Int) ≠ (4 : Int))) = true)) (yV (.bool (decide (((vGood a3).k : Int) = (4 : Int))))), yIf ((((decide (((vNum (vGood a2)).k : Int) = (4 : Int))) && false) = false)) (yV (.bool ((decide (((vNum (vGood a2)).k : Int) ≠ (4 : Int))) && (decide (((vGood a3).k : Int) = (4 : Int)))))), yIf ((((decide (((vNum (vGood a2)).k : Int) = (4 : Int))) && false) = false)) (yV (.bool ((decide (((vNum (vGood a2)).k : Int) ≠ (4 : Int))) && (decide (((vGood a3).k : Int) = (4 : Int)))))), yIf ((((decide (((vNum (vGood a2)).k : Int) = (4 : Int))) && false) = false) ∧ (((decide (((vNum (vGood a2)).k : Int) ≠ (4 : Int))) && (decide (((vGood a3).k : Int) = (4 : Int)))) = true)) (yV (aggV ((vBin13 op (vGood a2) (vGood a3)).1))), yIf ((((decide (((vNum (vGood a2)).k : Int) = (4 : Int))) && false) = false) ∧ (((decide (((vNum (vGood a2)).k : Int) ≠ (4 : Int))) && (decide (((vGood a3).k : Int) = (4 : Int)))) = true)) (yV (aggV (vGood a3))), yIf ((((decide (((vNum (vGood a2)).k : Int) = (4 : Int))) && false) = false) ∧ (((decide (((vNum (vGood a2)).k : Int) ≠ (4 : Int))) && (decide (((vGood a3).k : Int) = (4 : Int)))) = true)) (yV (.bool false)), yIf ((((decide (((vNum (vGood a2)).k : Int) = (4 : Int))) && false) = false)) (yV (.bool (((decide (((vNum (vGood a2)).k : Int) ≠ (4 : Int))) && (decide (((vGood a3).k : Int) = (4 : Int)))) && false))), yV _] 23 144 z q ow (
    aS (fun hk bs hd => xfieldAddr rfl (bg bs s11) (by kernel_rfl)) rfl <|
    aS (fun hk bs hd => xloadB rfl (by kernel_rfl) (dp hd 0 rfl) ((ow.keep hk).box 0 rfl) rfl) rfl <|
    aS (fun hk bs hd => xeqi rfl (dp hd 1 rfl) rfl) rfl <|
    mvD 2 rfl rfl rfl rfl rfl rfl <|
    arm (fun aa ww hk bs hd => by
      have d3 := dp hd 3 rfl
      by_cases hz : ((decide (((vNum (vGood a2)).k : Int) = (4 : Int))) = true)
      · exact stepX_same (v := aggV ((vBin13 op (vGood a2) (vGood a3)).1)) (want1 (j := 3) (b := true) rfl (d3.trans (congrArg Value.bool hz))) (xloadN 3 (vs := [.int .u8 (((vBin13 op (vGood a2) (vGood a3)).1).k), .int .i64 (((vBin13 op (vGood a2) (vGood a3)).1).n), .string ⟨(((vBin13 op (vGood a2) (vGood a3)).1).t).toArray⟩]) rfl (by kernel_rfl) (by kernel_rfl) (bg bs s9) ((ow.keep hk).box 1 rfl) (Nat.le_of_ble_eq_true rfl) rfl) ⟨fun _ => rfl, fun c => absurd hz c⟩ rfl
      · exact stepX_skip (wantN (j := 3) (b := true) (b' := false) rfl (d3.trans (congrArg Value.bool (Bool.eq_false_iff.2 hz))) rfl) ⟨fun c => absurd c hz, fun _ => rfl⟩ rfl
      ) <|
    arm (fun aa ww hk bs hd => by
      have d3 := dp hd 3 rfl
      by_cases hz : ((decide (((vNum (vGood a2)).k : Int) = (4 : Int))) = true)
      · exact stepX_same (v := aggV (vNum (vGood a2))) (want1 (j := 3) (b := true) rfl (d3.trans (congrArg Value.bool hz))) (xloadN 3 (vs := [.int .u8 ((vNum (vGood a2)).k), .int .i64 ((vNum (vGood a2)).n), .string ⟨((vNum (vGood a2)).t).toArray⟩]) rfl (by kernel_rfl) (by kernel_rfl) (bg bs s11) ((ow.keep hk).box 0 rfl) (Nat.le_of_ble_eq_true rfl) rfl) ⟨fun _ => rfl, fun c => absurd hz c⟩ rfl
      · exact stepX_skip (wantN (j := 3) (b := true) (b' := false) rfl (d3.trans (congrArg Value.bool (Bool.eq_false_iff.2 hz))) rfl) ⟨fun c => absurd c hz, fun _ => rfl⟩ rfl
      ) <|
    arm (fun aa ww hk bs hd => by
      have d3 := dp hd 3 rfl; have d4 := dI hd 4 rfl; have d5 := dI hd 5 rfl
      by_cases hz : ((decide (((vNum (vGood a2)).k : Int) = (4 : Int))) = true)
      · exact stepX_same (v := .bool (!sameV ((vBin13 op (vGood a2) (vGood a3)).1) (vNum (vGood a2)))) (want1 (j := 3) (b := true) rfl (d3.trans (congrArg Value.bool hz))) (xnev rfl (d4.1 hz) (d5.1 hz)) ⟨fun _ => congrArg Value.bool (by rw [bin_first (f := vNum (vGood a2)) hop.1 hop.2 oa ob (by rw [if_neg (by omega)]) (isE_yes (of_decide_eq_true hz)), sameV_self]; rfl), fun c => absurd hz c⟩ rfl
      · exact stepX_skip (wantN (j := 3) (b := true) (b' := false) rfl (d3.trans (congrArg Value.bool (Bool.eq_false_iff.2 hz))) rfl) ⟨fun c => absurd c hz, fun _ => rfl⟩ rfl
      ) <|
    arm (fun aa ww hk bs hd => by
      have d3 := dp hd 3 rfl; have d6 := dI hd 6 rfl; exact stepX_same (v := .bool ((decide (((vNum (vGood a2)).k : Int) = (4 : Int))) && false)) (want0 rfl) (xand rfl (d3) (fun hb => d6.1 hb) rfl) rfl rfl
      ) <|
    mvD 7 rfl rfl rfl rfl rfl rfl <|
    arm (fun aa ww hk bs hd => by
      have d8 := dp hd 8 rfl
      by_cases hz : (((decide (((vNum (vGood a2)).k : Int) = (4 : Int))) && false) = false)
      · exact stepX_same (v := .pointer (some ⟨gb4, 0, none⟩)) (want1 (j := 8) (b := false) rfl (d8.trans (congrArg Value.bool hz))) (xfieldAddr rfl (bg bs s11) (by kernel_rfl)) ⟨fun _ => rfl, fun c => absurd hz c⟩ rfl
      · exact stepX_skip (wantN (j := 8) (b := false) (b' := true) rfl (d8.trans (congrArg Value.bool ((Bool.not_eq_false _).mp hz))) rfl) ⟨fun c => absurd c hz, fun _ => rfl⟩ rfl
      ) <|
    arm (fun aa ww hk bs hd => by
      have d8 := dp hd 8 rfl; have d9 := dI hd 9 rfl
      by_cases hz : (((decide (((vNum (vGood a2)).k : Int) = (4 : Int))) && false) = false)
      · exact stepX_same (v := .int .u8 ((vNum (vGood a2)).k)) (want1 (j := 8) (b := false) rfl (d8.trans (congrArg Value.bool hz))) (xloadB rfl (by kernel_rfl) (d9.1 hz) ((ow.keep hk).box 0 rfl) rfl) ⟨fun _ => rfl, fun c => absurd hz c⟩ rfl
      · exact stepX_skip (wantN (j := 8) (b := false) (b' := true) rfl (d8.trans (congrArg Value.bool ((Bool.not_eq_false _).mp hz))) rfl) ⟨fun c => absurd c hz, fun _ => rfl⟩ rfl
      ) <|
    arm (fun aa ww hk bs hd => by
      have d8 := dp hd 8 rfl; have d10 := dI hd 10 rfl
      by_cases hz : (((decide (((vNum (vGood a2)).k : Int) = (4 : Int))) && false) = false)
      · exact stepX_same (v := .bool (decide (((vNum (vGood a2)).k : Int) ≠ (4 : Int)))) (want1 (j := 8) (b := false) rfl (d8.trans (congrArg Value.bool hz))) (xnei rfl (d10.1 hz) rfl) ⟨fun _ => rfl, fun c => absurd hz c⟩ rfl
      · exact stepX_skip (wantN (j := 8) (b := false) (b' := true) rfl (d8.trans (congrArg Value.bool ((Bool.not_eq_false _).mp hz))) rfl) ⟨fun c => absurd c hz, fun _ => rfl⟩ rfl
      ) <|
    arm (fun aa ww hk bs hd => by
      have d8 := dp hd 8 rfl; have d11 := dI hd 11 rfl
      by_cases hz : (((decide (((vNum (vGood a2)).k : Int) = (4 : Int))) && false) = false)
      · exact stepX_same (v := .bool (decide (((vNum (vGood a2)).k : Int) ≠ (4 : Int)))) (want1 (j := 8) (b := false) rfl (d8.trans (congrArg Value.bool hz))) (xmove rfl (d11.1 hz)) ⟨fun _ => rfl, fun c => absurd hz c⟩ rfl
      · exact stepX_skip (wantN (j := 8) (b := false) (b' := true) rfl (d8.trans (congrArg Value.bool ((Bool.not_eq_false _).mp hz))) rfl) ⟨fun c => absurd c hz, fun _ => rfl⟩ rfl
      ) <|
    arm (fun aa ww hk bs hd => by
      have d12 := dI hd 12 rfl
      by_cases hz : (((decide (((vNum (vGood a2)).k : Int) = (4 : Int))) && false) = false) ∧ ((decide (((vNum (vGood a2)).k : Int) ≠ (4 : Int))) = true)
      · exact stepX_same (v := .pointer (some ⟨gb2, 0, none⟩)) (want1 (j := 12) (b := true) rfl ((d12.1 hz.1).trans (congrArg Value.bool hz.2))) (xfieldAddr rfl (bg bs s7) (by kernel_rfl)) ⟨fun _ => rfl, fun c => absurd hz c⟩ rfl
      · by_cases hy : (((decide (((vNum (vGood a2)).k : Int) = (4 : Int))) && false) = false)
        · exact stepX_skip (wantN (j := 12) (b := true) (b' := false) rfl ((d12.1 hy).trans (congrArg Value.bool (Bool.eq_false_iff.2 (fun hx => hz ⟨hy, hx⟩)))) rfl) ⟨fun c => absurd c hz, fun _ => rfl⟩ rfl
        · exact stepX_skip (wantU (j := 12) (b := true) rfl (d12.2 hy)) ⟨fun c => absurd c hz, fun _ => rfl⟩ rfl
      ) <|
    arm (fun aa ww hk bs hd => by
      have d12 := dI hd 12 rfl; have d13 := dI hd 13 rfl
      by_cases hz : (((decide (((vNum (vGood a2)).k : Int) = (4 : Int))) && false) = false) ∧ ((decide (((vNum (vGood a2)).k : Int) ≠ (4 : Int))) = true)
      · exact stepX_same (v := .int .u8 ((vGood a3).k)) (want1 (j := 12) (b := true) rfl ((d12.1 hz.1).trans (congrArg Value.bool hz.2))) (xloadB rfl (by kernel_rfl) (d13.1 hz) ((ow.keep hk).box 2 rfl) rfl) ⟨fun _ => rfl, fun c => absurd hz c⟩ rfl
      · by_cases hy : (((decide (((vNum (vGood a2)).k : Int) = (4 : Int))) && false) = false)
        · exact stepX_skip (wantN (j := 12) (b := true) (b' := false) rfl ((d12.1 hy).trans (congrArg Value.bool (Bool.eq_false_iff.2 (fun hx => hz ⟨hy, hx⟩)))) rfl) ⟨fun c => absurd c hz, fun _ => rfl⟩ rfl
        · exact stepX_skip (wantU (j := 12) (b := true) rfl (d12.2 hy)) ⟨fun c => absurd c hz, fun _ => rfl⟩ rfl
      ) <|
    arm (fun aa ww hk bs hd => by
      have d12 := dI hd 12 rfl; have d14 := dI hd 14 rfl
      by_cases hz : (((decide (((vNum (vGood a2)).k : Int) = (4 : Int))) && false) = false) ∧ ((decide (((vNum (vGood a2)).k : Int) ≠ (4 : Int))) = true)
      · exact stepX_same (v := .bool (decide (((vGood a3).k : Int) = (4 : Int)))) (want1 (j := 12) (b := true) rfl ((d12.1 hz.1).trans (congrArg Value.bool hz.2))) (xeqi rfl (d14.1 hz) rfl) ⟨fun _ => rfl, fun c => absurd hz c⟩ rfl
      · by_cases hy : (((decide (((vNum (vGood a2)).k : Int) = (4 : Int))) && false) = false)
        · exact stepX_skip (wantN (j := 12) (b := true) (b' := false) rfl ((d12.1 hy).trans (congrArg Value.bool (Bool.eq_false_iff.2 (fun hx => hz ⟨hy, hx⟩)))) rfl) ⟨fun c => absurd c hz, fun _ => rfl⟩ rfl
        · exact stepX_skip (wantU (j := 12) (b := true) rfl (d12.2 hy)) ⟨fun c => absurd c hz, fun _ => rfl⟩ rfl
      ) <|
    arm (fun aa ww hk bs hd => by
      have d8 := dp hd 8 rfl; have d12 := dI hd 12 rfl; have d15 := dI hd 15 rfl
      by_cases hz : (((decide (((vNum (vGood a2)).k : Int) = (4 : Int))) && false) = false)
      · exact stepX_same (v := .bool ((decide (((vNum (vGood a2)).k : Int) ≠ (4 : Int))) && (decide (((vGood a3).k : Int) = (4 : Int))))) (want1 (j := 8) (b := false) rfl (d8.trans (congrArg Value.bool hz))) (xand rfl (d12.1 hz) (fun hb => d15.1 ⟨hz, hb⟩) rfl) ⟨fun _ => rfl, fun c => absurd hz c⟩ rfl
      · exact stepX_skip (wantN (j := 8) (b := false) (b' := true) rfl (d8.trans (congrArg Value.bool ((Bool.not_eq_false _).mp hz))) rfl) ⟨fun c => absurd c hz, fun _ => rfl⟩ rfl
      ) <|
    arm (fun aa ww hk bs hd => by
      have d8 := dp hd 8 rfl; have d16 := dI hd 16 rfl
      by_cases hz : (((decide (((vNum (vGood a2)).k : Int) = (4 : Int))) && false) = false)
      · exact stepX_same (v := .bool ((decide (((vNum (vGood a2)).k : Int) ≠ (4 : Int))) && (decide (((vGood a3).k : Int) = (4 : Int))))) (want1 (j := 8) (b := false) rfl (d8.trans (congrArg Value.bool hz))) (xmove rfl (d16.1 hz)) ⟨fun _ => rfl, fun c => absurd hz c⟩ rfl
      · exact stepX_skip (wantN (j := 8) (b := false) (b' := true) rfl (d8.trans (congrArg Value.bool ((Bool.not_eq_false _).mp hz))) rfl) ⟨fun c => absurd c hz, fun _ => rfl⟩ rfl
      ) <|
    arm (fun aa ww hk bs hd => by
      have d17 := dI hd 17 rfl
      by_cases hz : (((decide (((vNum (vGood a2)).k : Int) = (4 : Int))) && false) = false) ∧ (((decide (((vNum (vGood a2)).k : Int) ≠ (4 : Int))) && (decide (((vGood a3).k : Int) = (4 : Int)))) = true)
      · exact stepX_same (v := aggV ((vBin13 op (vGood a2) (vGood a3)).1)) (want1 (j := 17) (b := true) rfl ((d17.1 hz.1).trans (congrArg Value.bool hz.2))) (xloadN 3 (vs := [.int .u8 (((vBin13 op (vGood a2) (vGood a3)).1).k), .int .i64 (((vBin13 op (vGood a2) (vGood a3)).1).n), .string ⟨(((vBin13 op (vGood a2) (vGood a3)).1).t).toArray⟩]) rfl (by kernel_rfl) (by kernel_rfl) (bg bs s9) ((ow.keep hk).box 1 rfl) (Nat.le_of_ble_eq_true rfl) rfl) ⟨fun _ => rfl, fun c => absurd hz c⟩ rfl
      · by_cases hy : (((decide (((vNum (vGood a2)).k : Int) = (4 : Int))) && false) = false)
        · exact stepX_skip (wantN (j := 17) (b := true) (b' := false) rfl ((d17.1 hy).trans (congrArg Value.bool (Bool.eq_false_iff.2 (fun hx => hz ⟨hy, hx⟩)))) rfl) ⟨fun c => absurd c hz, fun _ => rfl⟩ rfl
        · exact stepX_skip (wantU (j := 17) (b := true) rfl (d17.2 hy)) ⟨fun c => absurd c hz, fun _ => rfl⟩ rfl
      ) <|
    arm (fun aa ww hk bs hd => by
      have d17 := dI hd 17 rfl
      by_cases hz : (((decide (((vNum (vGood a2)).k : Int) = (4 : Int))) && false) = false) ∧ (((decide (((vNum (vGood a2)).k : Int) ≠ (4 : Int))) && (decide (((vGood a3).k : Int) = (4 : Int)))) = true)
      · exact stepX_same (v := aggV (vGood a3)) (want1 (j := 17) (b := true) rfl ((d17.1 hz.1).trans (congrArg Value.bool hz.2))) (xloadN 3 (vs := [.int .u8 ((vGood a3).k), .int .i64 ((vGood a3).n), .string ⟨((vGood a3).t).toArray⟩]) rfl (by kernel_rfl) (by kernel_rfl) (bg bs s7) ((ow.keep hk).box 2 rfl) (Nat.le_of_ble_eq_true rfl) rfl) ⟨fun _ => rfl, fun c => absurd hz c⟩ rfl
      · by_cases hy : (((decide (((vNum (vGood a2)).k : Int) = (4 : Int))) && false) = false)
        · exact stepX_skip (wantN (j := 17) (b := true) (b' := false) rfl ((d17.1 hy).trans (congrArg Value.bool (Bool.eq_false_iff.2 (fun hx => hz ⟨hy, hx⟩)))) rfl) ⟨fun c => absurd c hz, fun _ => rfl⟩ rfl
        · exact stepX_skip (wantU (j := 17) (b := true) rfl (d17.2 hy)) ⟨fun c => absurd c hz, fun _ => rfl⟩ rfl
      ) <|
    arm (fun aa ww hk bs hd => by
      have d17 := dI hd 17 rfl; have d18 := dI hd 18 rfl; have d19 := dI hd 19 rfl
      by_cases hz : (((decide (((vNum (vGood a2)).k : Int) = (4 : Int))) && false) = false) ∧ (((decide (((vNum (vGood a2)).k : Int) ≠ (4 : Int))) && (decide (((vGood a3).k : Int) = (4 : Int)))) = true)
      · exact stepX_same (v := .bool (!sameV ((vBin13 op (vGood a2) (vGood a3)).1) (vGood a3))) (want1 (j := 17) (b := true) rfl ((d17.1 hz.1).trans (congrArg Value.bool hz.2))) (xnev rfl (d18.1 hz) (d19.1 hz)) ⟨fun _ => congrArg Value.bool (by rw [bin_second (f := vNum (vGood a2)) hop.1 hop.2 oa ob (by rw [if_neg (by omega)]) (isE_no (of_decide_eq_true (and_l hz.2))) (by have := of_decide_eq_true (and_r hz.2); omega), sameV_self]; rfl), fun c => absurd hz c⟩ rfl
      · by_cases hy : (((decide (((vNum (vGood a2)).k : Int) = (4 : Int))) && false) = false)
        · exact stepX_skip (wantN (j := 17) (b := true) (b' := false) rfl ((d17.1 hy).trans (congrArg Value.bool (Bool.eq_false_iff.2 (fun hx => hz ⟨hy, hx⟩)))) rfl) ⟨fun c => absurd c hz, fun _ => rfl⟩ rfl
        · exact stepX_skip (wantU (j := 17) (b := true) rfl (d17.2 hy)) ⟨fun c => absurd c hz, fun _ => rfl⟩ rfl
      ) <|
    arm (fun aa ww hk bs hd => by
      have d8 := dp hd 8 rfl; have d17 := dI hd 17 rfl; have d20 := dI hd 20 rfl
      by_cases hz : (((decide (((vNum (vGood a2)).k : Int) = (4 : Int))) && false) = false)
      · exact stepX_same (v := .bool (((decide (((vNum (vGood a2)).k : Int) ≠ (4 : Int))) && (decide (((vGood a3).k : Int) = (4 : Int)))) && false)) (want1 (j := 8) (b := false) rfl (d8.trans (congrArg Value.bool hz))) (xand rfl (d17.1 hz) (fun hb => d20.1 ⟨hz, hb⟩) rfl) ⟨fun _ => rfl, fun c => absurd hz c⟩ rfl
      · exact stepX_skip (wantN (j := 8) (b := false) (b' := true) rfl (d8.trans (congrArg Value.bool ((Bool.not_eq_false _).mp hz))) rfl) ⟨fun c => absurd c hz, fun _ => rfl⟩ rfl
      ) <|
    arm (fun aa ww hk bs hd => by
      have d8 := dp hd 8 rfl; have d21 := dI hd 21 rfl; exact stepX_same (v := .bool (((decide (((vNum (vGood a2)).k : Int) = (4 : Int))) && false) || (((decide (((vNum (vGood a2)).k : Int) ≠ (4 : Int))) && (decide (((vGood a3).k : Int) = (4 : Int)))) && false))) (want0 rfl) (xor_ rfl (d8) rfl (fun hb => d21.1 hb)) rfl rfl
      ) <|
    arm0) fun fa fw bs hv ap z q ow => ?_
  obtain ⟨s6, s7, s8, s0, s11⟩ := b5 bs s6 s7 s8 s0 s11; have s83 := gv hv 22 rfl rfl; refine wt hK26 ?_
  by_cases hc5 : ((((vNum (vGood a2)).k : Int) = (4 : Int)) ∧ (false = true)) ∨ (((((vNum (vGood a2)).k : Int) ≠ (4 : Int)) ∧ (((vGood a3).k : Int) = (4 : Int))) ∧ (false = true))
  ·refine ct s83 ((bor (band (decide_eq_true_iff) (Iff.rfl)) (band (band (decide_eq_true_iff) (decide_eq_true_iff)) (Iff.rfl))).2 hc5) ?_
   refine sq fun hK27 => ?_; exact absurd hc5 (by simp)
  refine cf s83 (bor (band (decide_eq_true_iff) (Iff.rfl)) (band (band (decide_eq_true_iff) (decide_eq_true_iff)) (Iff.rfl))) hc5 ?_; refine wp_skip ?_; refine tn hK25 ?_; refine sq fun hK28 => ?_; have nf : ¬ (fn < 1 ∨ 8 < fn) := by omega
  have l1 : [vGood a2].all vOk = true := by simp [oa]
  have l2 : [vGood a2, vGood a3].all vOk = true := by simp [oa, ob]
  have sm1 : ∀ v ∈ [vGood a2], Small v := fun v hv => by rw [List.mem_singleton] at hv; subst hv; exact sa
  have sm2 := small_ab sa sb; have k1 := call_valid nf l1; have k2 := call_valid nf l2; have i1 := call_in (fun v hv => (sm1 v hv).1) nf l1; have i2 := call_in (fun v hv => (sm2 v hv).1) nf l2
  refine ro [yV _, yV (aggV (vGood a2)), ySlice fw.heap.size 1 (rowObj [vGood a2]), yV (.tuple #[aggV ((vCall13 fn [vGood a2]).1), .int .i64 ((vCall13 fn [vGood a2]).2)]), yV _, yV (aggV ((vCall13 fn [vGood a2]).1)), yV _, yNew fw.heap.size (.cells #[.int .u8 0, .int .i64 0, .string ⟨[].toArray⟩] 25 (0, 0))] 8 144 z q ow (
    mvS s0 rfl rfl rfl rfl <|
    aS (fun hk bs hd => xloadN 3 rfl (by kernel_rfl) (by kernel_rfl) (bg bs s6) ((ow.keep hk).box 3 rfl) (Nat.le_of_ble_eq_true rfl) rfl) rfl <|
    arm (fun aa ww hk bs hd => by
      have d1 := dp hd 1 rfl; exact stepX_new _ (want0 rfl) (xrow1 rfl (d1)) ⟨_, rfl, hk.size, Go.heap_alloc_new _ _⟩ ((Kept.refl _).alloc _) rfl (Nat.le_refl _)
      ) <|
    arm (fun aa ww hk bs hd => by
      have d0 := dp hd 0 rfl; have d2 := dL hd 2 rfl; obtain ⟨g2, e2, _, h2⟩ := d2; exact stepX_enter (want0 rfl) (xcall2 (u := .int .u8 (fn : Int)) (v := .slice (some ⟨g2, 0, none⟩) 1 1) rfl (d0) e2 (en_fnum_Call _ _)) ((call13_any fn (some ⟨g2, 0, none⟩) 1 [vGood a2] ww mx (HM.kept (ow.keep hk).kept) (rowObj_row h2) sm1 (by simp) (Nat.le_of_ble_eq_true rfl)).mono fun _ _ ⟨he, hk2⟩ => ⟨_, he, rfl, hk2⟩) rfl
      ) <|
    mvD 3 rfl rfl rfl rfl rfl rfl <|
    aS (fun hk bs hd => xextract rfl (dp hd 4 rfl) rfl) rfl <|
    aS (fun hk bs hd => xextract rfl (dp hd 4 rfl) rfl) rfl <|
    aP (fun hk bs hd => xalloc rfl (by kernel_rfl)) rfl <|
    arm0) fun fa fw bs hv ap z q ov => ?_
  obtain ⟨s6, s7, s8, s0, s11⟩ := b5 bs s6 s7 s8 s0 s11; have s89 := gv hv 5 rfl rfl; have s90 := gv hv 6 rfl rfl; obtain ⟨gb8, s12, bgb8, hgb8⟩ := gotP hv 7 rfl rfl rfl; have ov := ov.cons hgb8 (Nat.le_trans ow.kept.size bgb8) (ow.below bgb8); have ow := ov; refine ws ow 0 0 s12 s89 fun fw ow => ?_; refine wl_value (v := .int .i64 ((vCall13 fn [vGood a2]).2)) (want0 rfl) (xassign rfl s90) ?_; refine gp6 z q ow s6 s7 s8 s0 s11 s12 fun fa fw z q ow s6 s7 s8 s0 s11 s12 s13 => ?_; refine wt hK28 ?_; refine sq fun hK29 => ?_
  refine ro [yV _, yV (aggV (vGood a2)), yV (aggV (vGood a3)), ySlice fw.heap.size 2 (rowObj [vGood a2, vGood a3]), yV (.tuple #[aggV ((vCall13 fn [vGood a2, vGood a3]).1), .int .i64 ((vCall13 fn [vGood a2, vGood a3]).2)]), yV _, yV (aggV ((vCall13 fn [vGood a2, vGood a3]).1)), yV _, yNew fw.heap.size (.cells #[.int .u8 0, .int .i64 0, .string ⟨[].toArray⟩] 25 (0, 0))] 9 144 z q ow (
    mvS s0 rfl rfl rfl rfl <|
    aS (fun hk bs hd => xloadN 3 rfl (by kernel_rfl) (by kernel_rfl) (bg bs s6) ((ow.keep hk).box 4 rfl) (Nat.le_of_ble_eq_true rfl) rfl) rfl <|
    aS (fun hk bs hd => xloadN 3 rfl (by kernel_rfl) (by kernel_rfl) (bg bs s7) ((ow.keep hk).box 3 rfl) (Nat.le_of_ble_eq_true rfl) rfl) rfl <|
    arm (fun aa ww hk bs hd => by
      have d1 := dp hd 1 rfl; have d2 := dp hd 2 rfl; exact stepX_new _ (want0 rfl) (xrow2 rfl (d1) (d2)) ⟨_, rfl, hk.size, Go.heap_alloc_new _ _⟩ ((Kept.refl _).alloc _) rfl (Nat.le_refl _)
      ) <|
    arm (fun aa ww hk bs hd => by
      have d0 := dp hd 0 rfl; have d3 := dL hd 3 rfl; obtain ⟨g3, e3, _, h3⟩ := d3; exact stepX_enter (want0 rfl) (xcall2 (u := .int .u8 (fn : Int)) (v := .slice (some ⟨g3, 0, none⟩) 2 2) rfl (d0) e3 (en_fnum_Call _ _)) ((call13_any fn (some ⟨g3, 0, none⟩) 2 [vGood a2, vGood a3] ww mx (HM.kept (ow.keep hk).kept) (rowObj_row h3) sm2 (by simp) (Nat.le_of_ble_eq_true rfl)).mono fun _ _ ⟨he, hk2⟩ => ⟨_, he, rfl, hk2⟩) rfl
      ) <|
    mvD 4 rfl rfl rfl rfl rfl rfl <|
    aS (fun hk bs hd => xextract rfl (dp hd 5 rfl) rfl) rfl <|
    aS (fun hk bs hd => xextract rfl (dp hd 5 rfl) rfl) rfl <|
    aP (fun hk bs hd => xalloc rfl (by kernel_rfl)) rfl <|
    arm0) fun fa fw bs hv ap z q ov => ?_
  obtain ⟨s6, s7, s8, s11, s12, s13⟩ := b6 bs s6 s7 s8 s11 s12 s13; have s97 := gv hv 6 rfl rfl; have s98 := gv hv 7 rfl rfl; obtain ⟨gb9, s14, bgb9, hgb9⟩ := gotP hv 8 rfl rfl rfl; have ov := ov.cons hgb9 (Nat.le_trans ow.kept.size bgb9) (ow.below bgb9); have ow := ov; refine ws ow 0 0 s14 s97 fun fw ow => ?_; refine wl_value (v := .int .i64 ((vCall13 fn [vGood a2, vGood a3]).2)) (want0 rfl) (xassign rfl s98) ?_; refine gp7 z q ow s6 s7 s8 s11 s12 s13 s14 fun fa fw z q ow s6 s7 s8 s11 s12 s13 s14 s15 => ?_; refine wt hK29 ?_; refine sq fun hK30 => ?_; refine sq fun hK31 => ?_
  refine ro [yV _, yV _, yV _, yV _, yV (.bool false), yV _, yV (aggV ((vCall13 fn [vGood a2]).1)), yV (.int .i64 0), yV (.bool false), yV _, yV _, yV (aggV ((vCall13 fn [vGood a2, vGood a3]).1)), yV (.int .i64 0), yV (.bool false), yV _] 15 144 z q ow (
    mvS s13 rfl rfl rfl rfl <|
    aS (fun hk bs hd => xeqi rfl (dp hd 0 rfl) rfl) rfl <|
    mvS s15 rfl rfl rfl rfl <|
    aS (fun hk bs hd => xeqi rfl (dp hd 2 rfl) rfl) rfl <|
    aE (fun hk bs hd => xeqB rfl (dp hd 1 rfl) (dp hd 3 rfl)) (congrArg Value.bool (calls_apart k1.2 k2.2)) rfl <|
    mvD 4 rfl rfl rfl rfl rfl rfl <|
    armS (wg (j := 5) (b := false) rfl rfl rfl) (fun aa ww hk bs hd => xloadN 3 rfl (by kernel_rfl) (by kernel_rfl) (bg bs s12) ((ow.keep hk).box 1 rfl) (Nat.le_of_ble_eq_true rfl) rfl) rfl <|
    armC (wg (j := 5) (b := false) rfl rfl rfl) (fun aa ww hk bs hd => xcall1 rfl (dp hd 6 rfl) (en_val_Check _ _)) (fun aa ww hk bs hd => check0_any ((vCall13 fn [vGood a2]).1) ww (small_ok k1.1 i1) k1.1) rfl <|
    armE (wg (j := 5) (b := false) rfl rfl rfl) (fun aa ww hk bs hd => xnei rfl (dp hd 7 rfl) rfl) (congrArg Value.bool rfl) rfl <|
    aS (fun hk bs hd => xpickF rfl (dp hd 5 rfl) (dp hd 8 rfl)) rfl <|
    mvD 9 rfl rfl rfl rfl rfl rfl <|
    armS (wg (j := 10) (b := false) rfl rfl rfl) (fun aa ww hk bs hd => xloadN 3 rfl (by kernel_rfl) (by kernel_rfl) (bg bs s14) ((ow.keep hk).box 0 rfl) (Nat.le_of_ble_eq_true rfl) rfl) rfl <|
    armC (wg (j := 10) (b := false) rfl rfl rfl) (fun aa ww hk bs hd => xcall1 rfl (dp hd 11 rfl) (en_val_Check _ _)) (fun aa ww hk bs hd => check0_any ((vCall13 fn [vGood a2, vGood a3]).1) ww (small_ok k2.1 i2) k2.1) rfl <|
    armE (wg (j := 10) (b := false) rfl rfl rfl) (fun aa ww hk bs hd => xnei rfl (dp hd 12 rfl) rfl) (congrArg Value.bool rfl) rfl <|
    aS (fun hk bs hd => xpickF rfl (dp hd 10 rfl) (dp hd 13 rfl)) rfl <|
    arm0) fun fa fw bs hv ap z q ow => ?_
  obtain ⟨s6, s7, s8, s11, s12, s14, s15⟩ := b7 bs s6 s7 s8 s11 s12 s14 s15; have s113 := gv hv 14 rfl rfl; refine wt hK31 ?_; refine wp_cond_false (s113) ?_; refine wp_skip ?_; refine tn hK30 ?_; refine sq fun hK32 => ?_
  refine ro [yV (aggV ((vCall13 fn [vGood a2]).1)), yV (aggV (vGood a2)), yV (aggV (vNum (vGood a2))), yNew fw.heap.size (.cells #[.int .u8 0, .int .i64 0, .string ⟨[].toArray⟩] 25 (0, 0))] 4 144 z q ow (
    aS (fun hk bs hd => xloadN 3 rfl (by kernel_rfl) (by kernel_rfl) (bg bs s12) ((ow.keep hk).box 1 rfl) (Nat.le_of_ble_eq_true rfl) rfl) rfl <|
    aS (fun hk bs hd => xloadN 3 rfl (by kernel_rfl) (by kernel_rfl) (bg bs s6) ((ow.keep hk).box 5 rfl) (Nat.le_of_ble_eq_true rfl) rfl) rfl <|
    aC (fun hk bs hd => xcall1 rfl (dp hd 1 rfl) (en_val_ToNumber _ _)) (fun hk bs hd => tonum_any (vGood a2) _ mx (HM.kept (ow.keep hk).kept) sa.1 sa.2) rfl <|
    aP (fun hk bs hd => xalloc rfl (by kernel_rfl)) rfl <|
    arm0) fun fa fw bs hv ap z q ov => ?_
  obtain ⟨s7, s8, s11, s14, s15⟩ := b5 bs s7 s8 s11 s14 s15; have s114 := gv hv 0 rfl rfl; have s116 := gv hv 2 rfl rfl; obtain ⟨gb10, s16, bgb10, hgb10⟩ := gotP hv 3 rfl rfl rfl; have ov := ov.cons hgb10 (Nat.le_trans ow.kept.size bgb10) (ow.below bgb10); have ow := ov; refine ws ow 0 0 s16 s114 fun fw ow => ?_; refine ws ow 3 0 s11 s116 fun fw ow => ?_; refine wt hK32 ?_; refine sq fun hK33 => ?_; refine sq fun hK34 => ?_
  refine ro [yV _, yV _] 2 144 z q ow (
    mvS s15 rfl rfl rfl rfl <|
    aS (fun hk bs hd => xeqi rfl (dp hd 0 rfl) rfl) rfl <|
    arm0) fun fa fw bs hv ap z q ow => ?_
  obtain ⟨s7, s8, s11, s14, s16⟩ := b5 bs s7 s8 s11 s14 s16; have s118 := gv hv 1 rfl rfl; refine wt hK34 ?_
  by_cases hc6 : ((vCall13 fn [vGood a2, vGood a3]).2 : Int) = (0 : Int)
  ·refine ct s118 ((decide_eq_true_iff).2 hc6) ?_
   have ht : two13 fn = true := by have h := k2.2; cases e : two13 fn <;> rw [e] at h <;> simp at h <;> first | rfl | omega
   refine sq fun hK35 => ?_
   refine ro [yV (aggV ((vCall13 fn [vGood a2, vGood a3]).1))] 1 144 z q ow (
     aS (fun hk bs hd => xloadN 3 rfl (by kernel_rfl) (by kernel_rfl) (bg bs s14) ((ow.keep hk).box 1 rfl) (Nat.le_of_ble_eq_true rfl) rfl) rfl <|
     arm0) fun fa fw bs hv ap z q ow => ?_
   obtain ⟨s7, s8, s11, s16⟩ := b4 bs s7 s8 s11 s16; have s119 := gv hv 0 rfl rfl; refine ws ow 0 0 s16 s119 fun fw ow => ?_; refine wt hK35 ?_; refine sq fun hK36 => ?_
   refine ro [yV (.pointer (some ⟨gb4, 0, none⟩)), yV _, yV _, yV _, yIf (((decide (((vNum (vGood a2)).k : Int) ≠ (4 : Int))) = true)) (yV (.pointer (some ⟨gb2, 0, none⟩))), yIf (((decide (((vNum (vGood a2)).k : Int) ≠ (4 : Int))) = true)) (yV (.int .u8 ((vGood a3).k))), yIf (((decide (((vNum (vGood a2)).k : Int) ≠ (4 : Int))) = true)) (yV (.bool (decide (((vGood a3).k : Int) = (4 : Int))))), yV _, yV _, yIf ((((decide (((vNum (vGood a2)).k : Int) ≠ (4 : Int))) && (decide (((vGood a3).k : Int) = (4 : Int)))) = true)) (yV (aggV ((vCall13 fn [vGood a2, vGood a3]).1))), yIf ((((decide (((vNum (vGood a2)).k : Int) ≠ (4 : Int))) && (decide (((vGood a3).k : Int) = (4 : Int)))) = true)) (yV (aggV (vGood a3))), yIf ((((decide (((vNum (vGood a2)).k : Int) ≠ (4 : Int))) && (decide (((vGood a3).k : Int) = (4 : Int)))) = true)) (yV (.bool false)), yV _] 13 144 z q ow (
     aS (fun hk bs hd => xfieldAddr rfl (bg bs s11) (by kernel_rfl)) rfl <|
     aS (fun hk bs hd => xloadB rfl (by kernel_rfl) (dp hd 0 rfl) ((ow.keep hk).box 3 rfl) rfl) rfl <|
     aS (fun hk bs hd => xnei rfl (dp hd 1 rfl) rfl) rfl <|
     mvD 2 rfl rfl rfl rfl rfl rfl <|
     arm (fun aa ww hk bs hd => by
       have d3 := dp hd 3 rfl
       by_cases hz : ((decide (((vNum (vGood a2)).k : Int) ≠ (4 : Int))) = true)
       · exact stepX_same (v := .pointer (some ⟨gb2, 0, none⟩)) (want1 (j := 3) (b := true) rfl (d3.trans (congrArg Value.bool hz))) (xfieldAddr rfl (bg bs s7) (by kernel_rfl)) ⟨fun _ => rfl, fun c => absurd hz c⟩ rfl
       · exact stepX_skip (wantN (j := 3) (b := true) (b' := false) rfl (d3.trans (congrArg Value.bool (Bool.eq_false_iff.2 hz))) rfl) ⟨fun c => absurd c hz, fun _ => rfl⟩ rfl
       ) <|
     arm (fun aa ww hk bs hd => by
       have d3 := dp hd 3 rfl; have d4 := dI hd 4 rfl
       by_cases hz : ((decide (((vNum (vGood a2)).k : Int) ≠ (4 : Int))) = true)
       · exact stepX_same (v := .int .u8 ((vGood a3).k)) (want1 (j := 3) (b := true) rfl (d3.trans (congrArg Value.bool hz))) (xloadB rfl (by kernel_rfl) (d4.1 hz) ((ow.keep hk).box 5 rfl) rfl) ⟨fun _ => rfl, fun c => absurd hz c⟩ rfl
       · exact stepX_skip (wantN (j := 3) (b := true) (b' := false) rfl (d3.trans (congrArg Value.bool (Bool.eq_false_iff.2 hz))) rfl) ⟨fun c => absurd c hz, fun _ => rfl⟩ rfl
       ) <|
     arm (fun aa ww hk bs hd => by
       have d3 := dp hd 3 rfl; have d5 := dI hd 5 rfl
       by_cases hz : ((decide (((vNum (vGood a2)).k : Int) ≠ (4 : Int))) = true)
       · exact stepX_same (v := .bool (decide (((vGood a3).k : Int) = (4 : Int)))) (want1 (j := 3) (b := true) rfl (d3.trans (congrArg Value.bool hz))) (xeqi rfl (d5.1 hz) rfl) ⟨fun _ => rfl, fun c => absurd hz c⟩ rfl
       · exact stepX_skip (wantN (j := 3) (b := true) (b' := false) rfl (d3.trans (congrArg Value.bool (Bool.eq_false_iff.2 hz))) rfl) ⟨fun c => absurd c hz, fun _ => rfl⟩ rfl
       ) <|
     arm (fun aa ww hk bs hd => by
       have d3 := dp hd 3 rfl; have d6 := dI hd 6 rfl; exact stepX_same (v := .bool ((decide (((vNum (vGood a2)).k : Int) ≠ (4 : Int))) && (decide (((vGood a3).k : Int) = (4 : Int))))) (want0 rfl) (xand rfl (d3) (fun hb => d6.1 hb) rfl) rfl rfl
       ) <|
     mvD 7 rfl rfl rfl rfl rfl rfl <|
     arm (fun aa ww hk bs hd => by
       have d8 := dp hd 8 rfl
       by_cases hz : (((decide (((vNum (vGood a2)).k : Int) ≠ (4 : Int))) && (decide (((vGood a3).k : Int) = (4 : Int)))) = true)
       · exact stepX_same (v := aggV ((vCall13 fn [vGood a2, vGood a3]).1)) (want1 (j := 8) (b := true) rfl (d8.trans (congrArg Value.bool hz))) (xloadN 3 (vs := [.int .u8 (((vCall13 fn [vGood a2, vGood a3]).1).k), .int .i64 (((vCall13 fn [vGood a2, vGood a3]).1).n), .string ⟨(((vCall13 fn [vGood a2, vGood a3]).1).t).toArray⟩]) rfl (by kernel_rfl) (by kernel_rfl) (bg bs s16) ((ow.keep hk).box 0 rfl) (Nat.le_of_ble_eq_true rfl) rfl) ⟨fun _ => rfl, fun c => absurd hz c⟩ rfl
       · exact stepX_skip (wantN (j := 8) (b := true) (b' := false) rfl (d8.trans (congrArg Value.bool (Bool.eq_false_iff.2 hz))) rfl) ⟨fun c => absurd c hz, fun _ => rfl⟩ rfl
       ) <|
     arm (fun aa ww hk bs hd => by
       have d8 := dp hd 8 rfl
       by_cases hz : (((decide (((vNum (vGood a2)).k : Int) ≠ (4 : Int))) && (decide (((vGood a3).k : Int) = (4 : Int)))) = true)
       · exact stepX_same (v := aggV (vGood a3)) (want1 (j := 8) (b := true) rfl (d8.trans (congrArg Value.bool hz))) (xloadN 3 (vs := [.int .u8 ((vGood a3).k), .int .i64 ((vGood a3).n), .string ⟨((vGood a3).t).toArray⟩]) rfl (by kernel_rfl) (by kernel_rfl) (bg bs s7) ((ow.keep hk).box 5 rfl) (Nat.le_of_ble_eq_true rfl) rfl) ⟨fun _ => rfl, fun c => absurd hz c⟩ rfl
       · exact stepX_skip (wantN (j := 8) (b := true) (b' := false) rfl (d8.trans (congrArg Value.bool (Bool.eq_false_iff.2 hz))) rfl) ⟨fun c => absurd c hz, fun _ => rfl⟩ rfl
       ) <|
     arm (fun aa ww hk bs hd => by
       have d8 := dp hd 8 rfl; have d9 := dI hd 9 rfl; have d10 := dI hd 10 rfl
       by_cases hz : (((decide (((vNum (vGood a2)).k : Int) ≠ (4 : Int))) && (decide (((vGood a3).k : Int) = (4 : Int)))) = true)
       · exact stepX_same (v := .bool (!sameV ((vCall13 fn [vGood a2, vGood a3]).1) (vGood a3))) (want1 (j := 8) (b := true) rfl (d8.trans (congrArg Value.bool hz))) (xnev rfl (d9.1 hz) (d10.1 hz)) ⟨fun _ => congrArg Value.bool (by rw [call_two_snd nf oa ob ht (isE_no (of_decide_eq_true (and_l hz))) (by have := of_decide_eq_true (and_r hz); omega), sameV_self]; rfl), fun c => absurd hz c⟩ rfl
       · exact stepX_skip (wantN (j := 8) (b := true) (b' := false) rfl (d8.trans (congrArg Value.bool (Bool.eq_false_iff.2 hz))) rfl) ⟨fun c => absurd c hz, fun _ => rfl⟩ rfl
       ) <|
     arm (fun aa ww hk bs hd => by
       have d8 := dp hd 8 rfl; have d11 := dI hd 11 rfl; exact stepX_same (v := .bool (((decide (((vNum (vGood a2)).k : Int) ≠ (4 : Int))) && (decide (((vGood a3).k : Int) = (4 : Int)))) && false)) (want0 rfl) (xand rfl (d8) (fun hb => d11.1 hb) rfl) rfl rfl
       ) <|
     arm0) fun fa fw bs hv ap z q ow => ?_
   obtain ⟨s8, s11, s16⟩ := b3 bs s8 s11 s16; have s132 := gv hv 12 rfl rfl; refine wt hK36 ?_
   by_cases hc7 : ((((vNum (vGood a2)).k : Int) ≠ (4 : Int)) ∧ (((vGood a3).k : Int) = (4 : Int))) ∧ (false = true)
   ·refine ct s132 ((band (band (decide_eq_true_iff) (decide_eq_true_iff)) (Iff.rfl)).2 hc7) ?_
    refine sq fun hK37 => ?_; exact absurd hc7 (by simp)
   refine cf s132 (band (band (decide_eq_true_iff) (decide_eq_true_iff)) (Iff.rfl)) hc7 ?_; refine wp_skip ?_; refine tn hK33 ?_; refine sq fun hK38 => ?_
   refine ro [yV (.pointer (some ⟨gb4, 0, none⟩)), yV _, yV _, yV _, yIf (((decide (((vNum (vGood a2)).k : Int) ≠ (4 : Int))) = false)) (yV (aggV ((vCall13 fn [vGood a2, vGood a3]).1))), yIf (((decide (((vNum (vGood a2)).k : Int) ≠ (4 : Int))) = false)) (yV (aggV (vNum (vGood a2)))), yIf (((decide (((vNum (vGood a2)).k : Int) ≠ (4 : Int))) = false)) (yV (.bool true)), yV _, yV _, yIf ((((decide (((vNum (vGood a2)).k : Int) ≠ (4 : Int))) || true) = true)) (yV (.bool true)), yV _, yV _] 12 144 z q ow (
     aS (fun hk bs hd => xfieldAddr rfl (bg bs s11) (by kernel_rfl)) rfl <|
     aS (fun hk bs hd => xloadB rfl (by kernel_rfl) (dp hd 0 rfl) ((ow.keep hk).box 3 rfl) rfl) rfl <|
     aS (fun hk bs hd => xnei rfl (dp hd 1 rfl) rfl) rfl <|
     mvD 2 rfl rfl rfl rfl rfl rfl <|
     arm (fun aa ww hk bs hd => by
       have d3 := dp hd 3 rfl
       by_cases hz : ((decide (((vNum (vGood a2)).k : Int) ≠ (4 : Int))) = false)
       · exact stepX_same (v := aggV ((vCall13 fn [vGood a2, vGood a3]).1)) (want1 (j := 3) (b := false) rfl (d3.trans (congrArg Value.bool hz))) (xloadN 3 (vs := [.int .u8 (((vCall13 fn [vGood a2, vGood a3]).1).k), .int .i64 (((vCall13 fn [vGood a2, vGood a3]).1).n), .string ⟨(((vCall13 fn [vGood a2, vGood a3]).1).t).toArray⟩]) rfl (by kernel_rfl) (by kernel_rfl) (bg bs s16) ((ow.keep hk).box 0 rfl) (Nat.le_of_ble_eq_true rfl) rfl) ⟨fun _ => rfl, fun c => absurd hz c⟩ rfl
       · exact stepX_skip (wantN (j := 3) (b := false) (b' := true) rfl (d3.trans (congrArg Value.bool ((Bool.not_eq_false _).mp hz))) rfl) ⟨fun c => absurd c hz, fun _ => rfl⟩ rfl
       ) <|
     arm (fun aa ww hk bs hd => by
       have d3 := dp hd 3 rfl
       by_cases hz : ((decide (((vNum (vGood a2)).k : Int) ≠ (4 : Int))) = false)
       · exact stepX_same (v := aggV (vNum (vGood a2))) (want1 (j := 3) (b := false) rfl (d3.trans (congrArg Value.bool hz))) (xloadN 3 (vs := [.int .u8 ((vNum (vGood a2)).k), .int .i64 ((vNum (vGood a2)).n), .string ⟨((vNum (vGood a2)).t).toArray⟩]) rfl (by kernel_rfl) (by kernel_rfl) (bg bs s11) ((ow.keep hk).box 3 rfl) (Nat.le_of_ble_eq_true rfl) rfl) ⟨fun _ => rfl, fun c => absurd hz c⟩ rfl
       · exact stepX_skip (wantN (j := 3) (b := false) (b' := true) rfl (d3.trans (congrArg Value.bool ((Bool.not_eq_false _).mp hz))) rfl) ⟨fun c => absurd c hz, fun _ => rfl⟩ rfl
       ) <|
     arm (fun aa ww hk bs hd => by
       have d3 := dp hd 3 rfl; have d4 := dI hd 4 rfl; have d5 := dI hd 5 rfl
       by_cases hz : ((decide (((vNum (vGood a2)).k : Int) ≠ (4 : Int))) = false)
       · exact stepX_same (v := .bool (sameV ((vCall13 fn [vGood a2, vGood a3]).1) (vNum (vGood a2)))) (want1 (j := 3) (b := false) rfl (d3.trans (congrArg Value.bool hz))) (xeqv rfl (d4.1 hz) (d5.1 hz)) ⟨fun _ => congrArg Value.bool (sameV_of (call_two_err nf oa ob ht (isE_yes (by have := of_decide_eq_false hz; omega)))), fun c => absurd hz c⟩ rfl
       · exact stepX_skip (wantN (j := 3) (b := false) (b' := true) rfl (d3.trans (congrArg Value.bool ((Bool.not_eq_false _).mp hz))) rfl) ⟨fun c => absurd c hz, fun _ => rfl⟩ rfl
       ) <|
     arm (fun aa ww hk bs hd => by
       have d3 := dp hd 3 rfl; have d6 := dI hd 6 rfl; exact stepX_same (v := .bool ((decide (((vNum (vGood a2)).k : Int) ≠ (4 : Int))) || true)) (want0 rfl) (xor_ rfl (d3) rfl (fun hb => d6.1 hb)) rfl rfl
       ) <|
     mvD 7 rfl rfl rfl rfl rfl rfl <|
     arm (fun aa ww hk bs hd => by
       have d8 := dp hd 8 rfl
       by_cases hz : (((decide (((vNum (vGood a2)).k : Int) ≠ (4 : Int))) || true) = true)
       · exact stepX_enter (want1 (j := 8) (b := true) rfl (d8.trans (congrArg Value.bool hz))) (xcall0 rfl (en_louvrelaw13_awake _ _)) ((awake13_any ww mx (HM.kept (ow.keep hk).kept)).mono fun _ _ ⟨he, hk2⟩ => ⟨_, he, ⟨fun _ => rfl, fun c => absurd hz c⟩, hk2⟩) rfl
       · exact stepX_skip (wantN (j := 8) (b := true) (b' := false) rfl (d8.trans (congrArg Value.bool (Bool.eq_false_iff.2 hz))) rfl) ⟨fun c => absurd c hz, fun _ => rfl⟩ rfl
       ) <|
     arm (fun aa ww hk bs hd => by
       have d8 := dp hd 8 rfl; have d9 := dI hd 9 rfl; exact stepX_same (v := .bool (((decide (((vNum (vGood a2)).k : Int) ≠ (4 : Int))) || true) && true)) (want0 rfl) (xand rfl (d8) (fun hb => d9.1 hb) rfl) rfl rfl
       ) <|
     asD 10 rfl rfl rfl rfl rfl rfl <|
     arm0) fun fa fw bs hv ap z q ow => ?_
   have s8 := gv hv 11 rfl rfl; refine wt hK38 ?_; refine wp_ret ?_; refine results_one rfl (res_tmp s8) q ?_; exact ⟨(by simp), ow.kept⟩
  refine cf s118 (decide_eq_true_iff) hc6 ?_; have ht : two13 fn = false := by have h := k2.2; cases e : two13 fn <;> rw [e] at h <;> simp at h <;> first | rfl | omega
  refine wp_skip ?_; refine tn hK33 ?_; refine sq fun hK39 => ?_
  refine ro [yV (.pointer (some ⟨gb4, 0, none⟩)), yV _, yV _, yV _, yIf (((decide (((vNum (vGood a2)).k : Int) ≠ (4 : Int))) = false)) (yV (aggV ((vCall13 fn [vGood a2]).1))), yIf (((decide (((vNum (vGood a2)).k : Int) ≠ (4 : Int))) = false)) (yV (aggV (vNum (vGood a2)))), yIf (((decide (((vNum (vGood a2)).k : Int) ≠ (4 : Int))) = false)) (yV (.bool true)), yV _, yV _, yIf ((((decide (((vNum (vGood a2)).k : Int) ≠ (4 : Int))) || true) = true)) (yV (.bool true)), yV _, yV _] 12 144 z q ow (
    aS (fun hk bs hd => xfieldAddr rfl (bg bs s11) (by kernel_rfl)) rfl <|
    aS (fun hk bs hd => xloadB rfl (by kernel_rfl) (dp hd 0 rfl) ((ow.keep hk).box 3 rfl) rfl) rfl <|
    aS (fun hk bs hd => xnei rfl (dp hd 1 rfl) rfl) rfl <|
    mvD 2 rfl rfl rfl rfl rfl rfl <|
    arm (fun aa ww hk bs hd => by
      have d3 := dp hd 3 rfl
      by_cases hz : ((decide (((vNum (vGood a2)).k : Int) ≠ (4 : Int))) = false)
      · exact stepX_same (v := aggV ((vCall13 fn [vGood a2]).1)) (want1 (j := 3) (b := false) rfl (d3.trans (congrArg Value.bool hz))) (xloadN 3 (vs := [.int .u8 (((vCall13 fn [vGood a2]).1).k), .int .i64 (((vCall13 fn [vGood a2]).1).n), .string ⟨(((vCall13 fn [vGood a2]).1).t).toArray⟩]) rfl (by kernel_rfl) (by kernel_rfl) (bg bs s16) ((ow.keep hk).box 0 rfl) (Nat.le_of_ble_eq_true rfl) rfl) ⟨fun _ => rfl, fun c => absurd hz c⟩ rfl
      · exact stepX_skip (wantN (j := 3) (b := false) (b' := true) rfl (d3.trans (congrArg Value.bool ((Bool.not_eq_false _).mp hz))) rfl) ⟨fun c => absurd c hz, fun _ => rfl⟩ rfl
      ) <|
    arm (fun aa ww hk bs hd => by
      have d3 := dp hd 3 rfl
      by_cases hz : ((decide (((vNum (vGood a2)).k : Int) ≠ (4 : Int))) = false)
      · exact stepX_same (v := aggV (vNum (vGood a2))) (want1 (j := 3) (b := false) rfl (d3.trans (congrArg Value.bool hz))) (xloadN 3 (vs := [.int .u8 ((vNum (vGood a2)).k), .int .i64 ((vNum (vGood a2)).n), .string ⟨((vNum (vGood a2)).t).toArray⟩]) rfl (by kernel_rfl) (by kernel_rfl) (bg bs s11) ((ow.keep hk).box 3 rfl) (Nat.le_of_ble_eq_true rfl) rfl) ⟨fun _ => rfl, fun c => absurd hz c⟩ rfl
      · exact stepX_skip (wantN (j := 3) (b := false) (b' := true) rfl (d3.trans (congrArg Value.bool ((Bool.not_eq_false _).mp hz))) rfl) ⟨fun c => absurd c hz, fun _ => rfl⟩ rfl
      ) <|
    arm (fun aa ww hk bs hd => by
      have d3 := dp hd 3 rfl; have d4 := dI hd 4 rfl; have d5 := dI hd 5 rfl
      by_cases hz : ((decide (((vNum (vGood a2)).k : Int) ≠ (4 : Int))) = false)
      · exact stepX_same (v := .bool (sameV ((vCall13 fn [vGood a2]).1) (vNum (vGood a2)))) (want1 (j := 3) (b := false) rfl (d3.trans (congrArg Value.bool hz))) (xeqv rfl (d4.1 hz) (d5.1 hz)) ⟨fun _ => congrArg Value.bool (sameV_of (call_one_err nf oa ht (isE_yes (by have := of_decide_eq_false hz; omega)))), fun c => absurd hz c⟩ rfl
      · exact stepX_skip (wantN (j := 3) (b := false) (b' := true) rfl (d3.trans (congrArg Value.bool ((Bool.not_eq_false _).mp hz))) rfl) ⟨fun c => absurd c hz, fun _ => rfl⟩ rfl
      ) <|
    arm (fun aa ww hk bs hd => by
      have d3 := dp hd 3 rfl; have d6 := dI hd 6 rfl; exact stepX_same (v := .bool ((decide (((vNum (vGood a2)).k : Int) ≠ (4 : Int))) || true)) (want0 rfl) (xor_ rfl (d3) rfl (fun hb => d6.1 hb)) rfl rfl
      ) <|
    mvD 7 rfl rfl rfl rfl rfl rfl <|
    arm (fun aa ww hk bs hd => by
      have d8 := dp hd 8 rfl
      by_cases hz : (((decide (((vNum (vGood a2)).k : Int) ≠ (4 : Int))) || true) = true)
      · exact stepX_enter (want1 (j := 8) (b := true) rfl (d8.trans (congrArg Value.bool hz))) (xcall0 rfl (en_louvrelaw13_awake _ _)) ((awake13_any ww mx (HM.kept (ow.keep hk).kept)).mono fun _ _ ⟨he, hk2⟩ => ⟨_, he, ⟨fun _ => rfl, fun c => absurd hz c⟩, hk2⟩) rfl
      · exact stepX_skip (wantN (j := 8) (b := true) (b' := false) rfl (d8.trans (congrArg Value.bool (Bool.eq_false_iff.2 hz))) rfl) ⟨fun c => absurd c hz, fun _ => rfl⟩ rfl
      ) <|
    arm (fun aa ww hk bs hd => by
      have d8 := dp hd 8 rfl; have d9 := dI hd 9 rfl; exact stepX_same (v := .bool (((decide (((vNum (vGood a2)).k : Int) ≠ (4 : Int))) || true) && true)) (want0 rfl) (xand rfl (d8) (fun hb => d9.1 hb) rfl) rfl rfl
      ) <|
    asD 10 rfl rfl rfl rfl rfl rfl <|
    arm0) fun fa fw bs hv ap z q ow => ?_
  have s8 := gv hv 11 rfl rfl; refine wt hK39 ?_; refine wp_ret ?_; refine results_one rfl (res_tmp s8) q ?_; exact ⟨(by simp), ow.kept⟩
end Go.Proofs.YtbpkfnoenkoabaaGreatDoor
