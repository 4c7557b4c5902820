/- The reference of layer 1: sums. -/
import Derived.Test.YtbpkfnoenkoabaaGreatDoorFgMixAP
import Derived.StillTailTactics
namespace Go.Proofs.YtbpkfnoenkoabaaGreatDoor
set_option linter.unusedVariables false
set_option linter.unusedSimpArgs false
open Go.RowKit Lv
theorem still_same {P : Program} {f : FuncId} {args : Array Value} {w : World} {v : Value} (h : Calls P f args w fun e w' => e = .returned v ∧ w = w') : Calls P f args w fun e w' => e = .returned v ∧ w' = w := h.mono fun _ _ ⟨he, hw⟩ => ⟨he, hw.symm⟩
theorem plus_zero {x : Int} (h : u64 x) : hi64 (wd 0 0 + wd 0 x) = 0 ∧ lo64 (wd 0 0 + wd 0 x) = x := by
  obtain ⟨h1, h2⟩ := h; unfold hi64 lo64 wd; omega
theorem sg_minus {U D : Int} (u0 : 0 ≤ U) (u1 : U < 170141183460469231731687303715884105728) (d0 : 0 ≤ D) (d1 : D < 170141183460469231731687303715884105728) :
    (U < D → fit (sg true (wd (hi64 (D - U)) (lo64 (D - U)))) = fit (U - D)) ∧ (¬ U < D → fit (sg false (wd (hi64 (U - D)) (lo64 (U - D)))) = fit (U - D)) := by
  refine ⟨fun h => ?_, fun h => ?_⟩
  · rw [wd_in (by omega) (by omega)]; congr 1; unfold sg; simp; omega
  · rw [wd_in (by omega) (by omega)]; rfl
set_option maxHeartbeats 1000000 in
set_option maxRecDepth 100000 in
theorem rsub_pp (a b : Int) (w : World) (ha : i64 a) (hb : i64 b) (c1 : 0 ≤ a) (c2 : 0 ≤ b) :
    Calls Tryz.prog 84 #[.int .i64 a, .int .i64 b] w fun e w' => e = .returned (.tuple #[.int .i64 (fit (a - b)).1, .bool (fit (a - b)).2]) ∧ Kept w w' := by
  have Z := Lib.hid (fun w => rsize_any a w ha); have Z2 := Lib.hid (fun w => rsize_any b w hb); have A := abs_u64 ha; have B := abs_u64 hb; have Aa : Lv.abs a = a := by unfold Lv.abs; rw [if_neg (by omega)]
  have Ab : Lv.abs b = b := by unfold Lv.abs; rw [if_neg (by omega)]
  obtain ⟨e1, e2⟩ := plus_zero A; obtain ⟨e3, e4⟩ := plus_zero B; have hU : wd 0 (Lv.abs a) = Lv.abs a := by unfold wd; omega
  have hD : wd 0 (Lv.abs b) = Lv.abs b := by unfold wd; omega
  have A1 := A.1; have A2 := A.2; have B1 := B.1; have B2 := B.2; have M := sg_minus (U := wd 0 (Lv.abs a)) (D := wd 0 (Lv.abs b)) (by omega) (by omega) (by omega) (by omega); have hz : wd 0 (Lv.abs a) - wd 0 (Lv.abs b) = a - b := by omega
  rw [hz] at M; obtain ⟨M1, M2⟩ := M; have S1 := fun w => rsigned_any (hi64 (wd 0 (Lv.abs b) - wd 0 (Lv.abs a))) (lo64 (wd 0 (Lv.abs b) - wd 0 (Lv.abs a))) true w (hi64_u _) (lo64_u _); have S2 := fun w => rsigned_any (hi64 (a - b)) (lo64 (a - b)) false w (hi64_u _) (lo64_u _); have hS1 := Lib.hid (fun h w => (M1 h) ▸ S1 w); have hS2 := Lib.hid (fun h w => (M2 h) ▸ S2 w); have P1 := Lib.hid (fun w => plus_any 0 0 0 (Lv.abs a) w ⟨by omega, by omega⟩ ⟨by omega, by omega⟩ ⟨by omega, by omega⟩ A); rw [e1, e2] at P1; have P2 := Lib.hid (fun w => plus_any 0 0 0 (Lv.abs b) w ⟨by omega, by omega⟩ ⟨by omega, by omega⟩ ⟨by omega, by omega⟩ B); rw [e3, e4] at P2; have Ls := Lib.hid (fun w => less_any 0 (Lv.abs a) 0 (Lv.abs b) w ⟨by omega, by omega⟩ A ⟨by omega, by omega⟩ B); have Mi1 := Lib.hid (fun w => minus_any 0 (Lv.abs b) 0 (Lv.abs a) w ⟨by omega, by omega⟩ B ⟨by omega, by omega⟩ A); have Mi2 := fun w => minus_any 0 (Lv.abs a) 0 (Lv.abs b) w ⟨by omega, by omega⟩ A ⟨by omega, by omega⟩ B; rw [hz] at Mi2; have HMi2 := Lib.hid Mi2; clear Mi2 S1 S2 M1 M2 e1 e2 e3 e4 hz Aa Ab A1 A2 B1 B2 A B ha hb hU hD
  by_cases lt : wd 0 (Lv.abs a) < wd 0 (Lv.abs b)
  · have dl : decide (wd 0 (Lv.abs a) < wd 0 (Lv.abs b)) = true := decide_eq_true lt
    rw [dl] at Ls; have HS := Lib.hid (hS1.out lt); clear hS1 hS2 lt dl; go_enter Tryz.func84, Tryz.ntmps84; go_wp2_with fail; refine wp_region_still_tail 4 (by kernel_rfl) (by kernel_rfl) ?_
    simp only [List.take_succ_cons, List.take_zero, List.drop_succ_cons, List.drop_zero]
    change wpStill _ _ (World.drew _) _ _ _
    repeat still_step
    still_call (still_same (Z.out _))
    repeat still_step
    refine wpStill_nil ?_
    change wpList _ _ _ _ _ (World.drew _)
    go_wp2_with fail; refine (P1.out _).mono ?_; rintro e w1 ⟨rfl, k1⟩; have bu : Box w1 (w.heap.size) 160 #[.int .u64 0, .int .u64 0] := Box.kept k1 bxd; have bd : Box w1 (w.heap.size + 1) 160 #[.int .u64 0, .int .u64 0] := Box.kept k1 bxd; have bu_0 := Box.c0 bu; have bu_1 := Box.c1 bu; have bu_f := Box.loose bu 0; have bu_g := Box.loose bu 1; have bd_0 := Box.c0 bd; have bd_1 := Box.c1 bd; have bd_f := Box.loose bd 0; have bd_g := Box.loose bd 1; go_wp2_with fail; refine wp_region_still_tail 4 (by kernel_rfl) (by kernel_rfl) ?_
    simp only [List.take_succ_cons, List.take_zero, List.drop_succ_cons, List.drop_zero]
    change wpStill _ _ (World.drew _) _ _ _
    repeat still_step
    still_call (still_same (Z2.out _))
    repeat still_step
    refine wpStill_nil ?_
    change wpList _ _ _ _ _ (World.drew _)
    go_wp2_with fail; refine (P2.out _).mono ?_; rintro e w2 ⟨rfl, k2⟩; have bu2 : Box w2 (w.heap.size) 160 #[.int .u64 0, .int .u64 (Lv.abs a)] := Box.kept k2 bxd; have bd2 : Box w2 (w.heap.size + 1) 160 #[.int .u64 0, .int .u64 0] := Box.kept k2 bxd; clear bu_0 bu_1 bu_f bu_g bd_0 bd_1 bd_f bd_g; have bu2_0 := Box.c0 bu2; have bu2_1 := Box.c1 bu2; have bu2_f := Box.loose bu2 0; have bu2_g := Box.loose bu2 1; have bd2_0 := Box.c0 bd2; have bd2_1 := Box.c1 bd2; have bd2_f := Box.loose bd2 0; have bd2_g := Box.loose bd2 1; go_wp2_with fail; refine (Ls.out _).mono ?_; rintro e w3 ⟨rfl, k3⟩; have bu3 : Box w3 (w.heap.size) 160 #[.int .u64 0, .int .u64 (Lv.abs a)] := Box.kept k3 bxd; have bd3 : Box w3 (w.heap.size + 1) 160 #[.int .u64 0, .int .u64 (Lv.abs b)] := Box.kept k3 bxd; clear bu2_0 bu2_1 bu2_f bu2_g bd2_0 bd2_1 bd2_f bd2_g; have bu3_0 := Box.c0 bu3; have bu3_1 := Box.c1 bu3; have bu3_f := Box.loose bu3 0; have bu3_g := Box.loose bu3 1; have bd3_0 := Box.c0 bd3; have bd3_1 := Box.c1 bd3; have bd3_f := Box.loose bd3 0; have bd3_g := Box.loose bd3 1; go_wp2_with fail; refine (Mi1.out _).mono ?_; rintro e w4 ⟨rfl, k4⟩; go_wp2_with fail; refine (HS.out _).mono ?_; rintro e w5 ⟨rfl, k5⟩; go_wp2_with fail; go_ret2; exact ⟨rfl, kpt⟩
  · have dl : decide (wd 0 (Lv.abs a) < wd 0 (Lv.abs b)) = false := decide_eq_false lt
    rw [dl] at Ls; have HS := Lib.hid (hS2.out lt); clear hS1 hS2 lt dl; go_enter Tryz.func84, Tryz.ntmps84; go_wp2_with fail; refine wp_region_still_tail 4 (by kernel_rfl) (by kernel_rfl) ?_
    simp only [List.take_succ_cons, List.take_zero, List.drop_succ_cons, List.drop_zero]
    change wpStill _ _ (World.drew _) _ _ _
    repeat still_step
    still_call (still_same (Z.out _))
    repeat still_step
    refine wpStill_nil ?_
    change wpList _ _ _ _ _ (World.drew _)
    go_wp2_with fail; refine (P1.out _).mono ?_; rintro e w1 ⟨rfl, k1⟩; have bu : Box w1 (w.heap.size) 160 #[.int .u64 0, .int .u64 0] := Box.kept k1 bxd; have bd : Box w1 (w.heap.size + 1) 160 #[.int .u64 0, .int .u64 0] := Box.kept k1 bxd; have bu_0 := Box.c0 bu; have bu_1 := Box.c1 bu; have bu_f := Box.loose bu 0; have bu_g := Box.loose bu 1; have bd_0 := Box.c0 bd; have bd_1 := Box.c1 bd; have bd_f := Box.loose bd 0; have bd_g := Box.loose bd 1; go_wp2_with fail; refine wp_region_still_tail 4 (by kernel_rfl) (by kernel_rfl) ?_
    simp only [List.take_succ_cons, List.take_zero, List.drop_succ_cons, List.drop_zero]
    change wpStill _ _ (World.drew _) _ _ _
    repeat still_step
    still_call (still_same (Z2.out _))
    repeat still_step
    refine wpStill_nil ?_
    change wpList _ _ _ _ _ (World.drew _)
    go_wp2_with fail; refine (P2.out _).mono ?_; rintro e w2 ⟨rfl, k2⟩; have bu2 : Box w2 (w.heap.size) 160 #[.int .u64 0, .int .u64 (Lv.abs a)] := Box.kept k2 bxd; have bd2 : Box w2 (w.heap.size + 1) 160 #[.int .u64 0, .int .u64 0] := Box.kept k2 bxd; clear bu_0 bu_1 bu_f bu_g bd_0 bd_1 bd_f bd_g; have bu2_0 := Box.c0 bu2; have bu2_1 := Box.c1 bu2; have bu2_f := Box.loose bu2 0; have bu2_g := Box.loose bu2 1; have bd2_0 := Box.c0 bd2; have bd2_1 := Box.c1 bd2; have bd2_f := Box.loose bd2 0; have bd2_g := Box.loose bd2 1; go_wp2_with fail; refine (Ls.out _).mono ?_; rintro e w3 ⟨rfl, k3⟩; have bu3 : Box w3 (w.heap.size) 160 #[.int .u64 0, .int .u64 (Lv.abs a)] := Box.kept k3 bxd; have bd3 : Box w3 (w.heap.size + 1) 160 #[.int .u64 0, .int .u64 (Lv.abs b)] := Box.kept k3 bxd; clear bu2_0 bu2_1 bu2_f bu2_g bd2_0 bd2_1 bd2_f bd2_g; have bu3_0 := Box.c0 bu3; have bu3_1 := Box.c1 bu3; have bu3_f := Box.loose bu3 0; have bu3_g := Box.loose bu3 1; have bd3_0 := Box.c0 bd3; have bd3_1 := Box.c1 bd3; have bd3_f := Box.loose bd3 0; have bd3_g := Box.loose bd3 1; go_wp2_with fail; refine (HMi2.out _).mono ?_; rintro e w4 ⟨rfl, k4⟩; go_wp2_with fail; refine (HS.out _).mono ?_; rintro e w5 ⟨rfl, k5⟩; go_wp2_with fail; go_ret2; exact ⟨rfl, kpt⟩
set_option maxHeartbeats 1000000 in
set_option maxRecDepth 100000 in
theorem rsub_pn (a b : Int) (w : World) (ha : i64 a) (hb : i64 b) (c1 : 0 ≤ a) (c2 : b < 0) :
    Calls Tryz.prog 84 #[.int .i64 a, .int .i64 b] w fun e w' => e = .returned (.tuple #[.int .i64 (fit (a - b)).1, .bool (fit (a - b)).2]) ∧ Kept w w' := by
  have Z := Lib.hid (fun w => rsize_any a w ha); have Z2 := Lib.hid (fun w => rsize_any b w hb); have A := abs_u64 ha; have B := abs_u64 hb; have Aa : Lv.abs a = a := by unfold Lv.abs; rw [if_neg (by omega)]
  have Ab : Lv.abs b = -b := by unfold Lv.abs; rw [if_pos c2]
  obtain ⟨e1, e2⟩ := plus_zero A; have hU : wd (hi64 (wd 0 (Lv.abs a) + wd 0 (Lv.abs b))) (lo64 (wd 0 (Lv.abs a) + wd 0 (Lv.abs b))) = Lv.abs a + Lv.abs b := by rw [wd_in (by unfold wd; have := A.1; have := B.1; omega) (by unfold wd; have := A.2; have := B.2; omega)]; unfold wd; omega
  have hD : wd 0 0 = 0 := by unfold wd; omega
  have A1 := A.1; have A2 := A.2; have B1 := B.1; have B2 := B.2; have M := sg_minus (U := wd (hi64 (wd 0 (Lv.abs a) + wd 0 (Lv.abs b))) (lo64 (wd 0 (Lv.abs a) + wd 0 (Lv.abs b)))) (D := wd 0 0) (by omega) (by omega) (by omega) (by omega); have hz : wd (hi64 (wd 0 (Lv.abs a) + wd 0 (Lv.abs b))) (lo64 (wd 0 (Lv.abs a) + wd 0 (Lv.abs b))) - wd 0 0 = a - b := by omega
  rw [hz] at M; obtain ⟨M1, M2⟩ := M; have S1 := fun w => rsigned_any (hi64 (wd 0 0 - wd (hi64 (wd 0 (Lv.abs a) + wd 0 (Lv.abs b))) (lo64 (wd 0 (Lv.abs a) + wd 0 (Lv.abs b))))) (lo64 (wd 0 0 - wd (hi64 (wd 0 (Lv.abs a) + wd 0 (Lv.abs b))) (lo64 (wd 0 (Lv.abs a) + wd 0 (Lv.abs b))))) true w (hi64_u _) (lo64_u _); have S2 := fun w => rsigned_any (hi64 (a - b)) (lo64 (a - b)) false w (hi64_u _) (lo64_u _); have hS1 := Lib.hid (fun h w => (M1 h) ▸ S1 w); have hS2 := Lib.hid (fun h w => (M2 h) ▸ S2 w); have P1 := Lib.hid (fun w => plus_any 0 0 0 (Lv.abs a) w ⟨by omega, by omega⟩ ⟨by omega, by omega⟩ ⟨by omega, by omega⟩ A); rw [e1, e2] at P1; have P2 := Lib.hid (fun w => plus_any 0 (Lv.abs a) 0 (Lv.abs b) w ⟨by omega, by omega⟩ A ⟨by omega, by omega⟩ B); have Ls := Lib.hid (fun w => less_any (hi64 (wd 0 (Lv.abs a) + wd 0 (Lv.abs b))) (lo64 (wd 0 (Lv.abs a) + wd 0 (Lv.abs b))) 0 0 w (hi64_u _) (lo64_u _) ⟨by omega, by omega⟩ ⟨by omega, by omega⟩); have Mi1 := Lib.hid (fun w => minus_any 0 0 (hi64 (wd 0 (Lv.abs a) + wd 0 (Lv.abs b))) (lo64 (wd 0 (Lv.abs a) + wd 0 (Lv.abs b))) w ⟨by omega, by omega⟩ ⟨by omega, by omega⟩ (hi64_u _) (lo64_u _)); have Mi2 := fun w => minus_any (hi64 (wd 0 (Lv.abs a) + wd 0 (Lv.abs b))) (lo64 (wd 0 (Lv.abs a) + wd 0 (Lv.abs b))) 0 0 w (hi64_u _) (lo64_u _) ⟨by omega, by omega⟩ ⟨by omega, by omega⟩; rw [hz] at Mi2; have HMi2 := Lib.hid Mi2; clear Mi2 S1 S2 M1 M2 e1 e2  hz Aa Ab A1 A2 B1 B2 A B ha hb hU hD
  by_cases lt : wd (hi64 (wd 0 (Lv.abs a) + wd 0 (Lv.abs b))) (lo64 (wd 0 (Lv.abs a) + wd 0 (Lv.abs b))) < wd 0 0
  · have dl : decide (wd (hi64 (wd 0 (Lv.abs a) + wd 0 (Lv.abs b))) (lo64 (wd 0 (Lv.abs a) + wd 0 (Lv.abs b))) < wd 0 0) = true := decide_eq_true lt
    rw [dl] at Ls; have HS := Lib.hid (hS1.out lt); clear hS1 hS2 lt dl; go_enter Tryz.func84, Tryz.ntmps84; go_wp2_with fail; refine wp_region_still_tail 4 (by kernel_rfl) (by kernel_rfl) ?_
    simp only [List.take_succ_cons, List.take_zero, List.drop_succ_cons, List.drop_zero]
    change wpStill _ _ (World.drew _) _ _ _
    repeat still_step
    still_call (still_same (Z.out _))
    repeat still_step
    refine wpStill_nil ?_
    change wpList _ _ _ _ _ (World.drew _)
    go_wp2_with fail; refine (P1.out _).mono ?_; rintro e w1 ⟨rfl, k1⟩; have bu : Box w1 (w.heap.size) 160 #[.int .u64 0, .int .u64 0] := Box.kept k1 bxd; have bd : Box w1 (w.heap.size + 1) 160 #[.int .u64 0, .int .u64 0] := Box.kept k1 bxd; have bu_0 := Box.c0 bu; have bu_1 := Box.c1 bu; have bu_f := Box.loose bu 0; have bu_g := Box.loose bu 1; have bd_0 := Box.c0 bd; have bd_1 := Box.c1 bd; have bd_f := Box.loose bd 0; have bd_g := Box.loose bd 1; go_wp2_with fail; refine wp_region_still_tail 4 (by kernel_rfl) (by kernel_rfl) ?_
    simp only [List.take_succ_cons, List.take_zero, List.drop_succ_cons, List.drop_zero]
    change wpStill _ _ (World.drew _) _ _ _
    repeat still_step
    still_call (still_same (Z2.out _))
    repeat still_step
    refine wpStill_nil ?_
    change wpList _ _ _ _ _ (World.drew _)
    go_wp2_with fail; refine (P2.out _).mono ?_; rintro e w2 ⟨rfl, k2⟩; have bu2 : Box w2 (w.heap.size) 160 #[.int .u64 0, .int .u64 (Lv.abs a)] := Box.kept k2 bxd; have bd2 : Box w2 (w.heap.size + 1) 160 #[.int .u64 0, .int .u64 0] := Box.kept k2 bxd; clear bu_0 bu_1 bu_f bu_g bd_0 bd_1 bd_f bd_g; have bu2_0 := Box.c0 bu2; have bu2_1 := Box.c1 bu2; have bu2_f := Box.loose bu2 0; have bu2_g := Box.loose bu2 1; have bd2_0 := Box.c0 bd2; have bd2_1 := Box.c1 bd2; have bd2_f := Box.loose bd2 0; have bd2_g := Box.loose bd2 1; go_wp2_with fail; refine (Ls.out _).mono ?_; rintro e w3 ⟨rfl, k3⟩; have bu3 : Box w3 (w.heap.size) 160 #[.int .u64 (hi64 (wd 0 (Lv.abs a) + wd 0 (Lv.abs b))), .int .u64 (lo64 (wd 0 (Lv.abs a) + wd 0 (Lv.abs b)))] := Box.kept k3 bxd; have bd3 : Box w3 (w.heap.size + 1) 160 #[.int .u64 0, .int .u64 0] := Box.kept k3 bxd; clear bu2_0 bu2_1 bu2_f bu2_g bd2_0 bd2_1 bd2_f bd2_g; have bu3_0 := Box.c0 bu3; have bu3_1 := Box.c1 bu3; have bu3_f := Box.loose bu3 0; have bu3_g := Box.loose bu3 1; have bd3_0 := Box.c0 bd3; have bd3_1 := Box.c1 bd3; have bd3_f := Box.loose bd3 0; have bd3_g := Box.loose bd3 1; go_wp2_with fail; refine (Mi1.out _).mono ?_; rintro e w4 ⟨rfl, k4⟩; go_wp2_with fail; refine (HS.out _).mono ?_; rintro e w5 ⟨rfl, k5⟩; go_wp2_with fail; go_ret2; exact ⟨rfl, kpt⟩
  · have dl : decide (wd (hi64 (wd 0 (Lv.abs a) + wd 0 (Lv.abs b))) (lo64 (wd 0 (Lv.abs a) + wd 0 (Lv.abs b))) < wd 0 0) = false := decide_eq_false lt
    rw [dl] at Ls; have HS := Lib.hid (hS2.out lt); clear hS1 hS2 lt dl; go_enter Tryz.func84, Tryz.ntmps84; go_wp2_with fail; refine wp_region_still_tail 4 (by kernel_rfl) (by kernel_rfl) ?_
    simp only [List.take_succ_cons, List.take_zero, List.drop_succ_cons, List.drop_zero]
    change wpStill _ _ (World.drew _) _ _ _
    repeat still_step
    still_call (still_same (Z.out _))
    repeat still_step
    refine wpStill_nil ?_
    change wpList _ _ _ _ _ (World.drew _)
    go_wp2_with fail; refine (P1.out _).mono ?_; rintro e w1 ⟨rfl, k1⟩; have bu : Box w1 (w.heap.size) 160 #[.int .u64 0, .int .u64 0] := Box.kept k1 bxd; have bd : Box w1 (w.heap.size + 1) 160 #[.int .u64 0, .int .u64 0] := Box.kept k1 bxd; have bu_0 := Box.c0 bu; have bu_1 := Box.c1 bu; have bu_f := Box.loose bu 0; have bu_g := Box.loose bu 1; have bd_0 := Box.c0 bd; have bd_1 := Box.c1 bd; have bd_f := Box.loose bd 0; have bd_g := Box.loose bd 1; go_wp2_with fail; refine wp_region_still_tail 4 (by kernel_rfl) (by kernel_rfl) ?_
    simp only [List.take_succ_cons, List.take_zero, List.drop_succ_cons, List.drop_zero]
    change wpStill _ _ (World.drew _) _ _ _
    repeat still_step
    still_call (still_same (Z2.out _))
    repeat still_step
    refine wpStill_nil ?_
    change wpList _ _ _ _ _ (World.drew _)
    go_wp2_with fail; refine (P2.out _).mono ?_; rintro e w2 ⟨rfl, k2⟩; have bu2 : Box w2 (w.heap.size) 160 #[.int .u64 0, .int .u64 (Lv.abs a)] := Box.kept k2 bxd; have bd2 : Box w2 (w.heap.size + 1) 160 #[.int .u64 0, .int .u64 0] := Box.kept k2 bxd; clear bu_0 bu_1 bu_f bu_g bd_0 bd_1 bd_f bd_g; have bu2_0 := Box.c0 bu2; have bu2_1 := Box.c1 bu2; have bu2_f := Box.loose bu2 0; have bu2_g := Box.loose bu2 1; have bd2_0 := Box.c0 bd2; have bd2_1 := Box.c1 bd2; have bd2_f := Box.loose bd2 0; have bd2_g := Box.loose bd2 1; go_wp2_with fail; refine (Ls.out _).mono ?_; rintro e w3 ⟨rfl, k3⟩; have bu3 : Box w3 (w.heap.size) 160 #[.int .u64 (hi64 (wd 0 (Lv.abs a) + wd 0 (Lv.abs b))), .int .u64 (lo64 (wd 0 (Lv.abs a) + wd 0 (Lv.abs b)))] := Box.kept k3 bxd; have bd3 : Box w3 (w.heap.size + 1) 160 #[.int .u64 0, .int .u64 0] := Box.kept k3 bxd; clear bu2_0 bu2_1 bu2_f bu2_g bd2_0 bd2_1 bd2_f bd2_g; have bu3_0 := Box.c0 bu3; have bu3_1 := Box.c1 bu3; have bu3_f := Box.loose bu3 0; have bu3_g := Box.loose bu3 1; have bd3_0 := Box.c0 bd3; have bd3_1 := Box.c1 bd3; have bd3_f := Box.loose bd3 0; have bd3_g := Box.loose bd3 1; go_wp2_with fail; refine (HMi2.out _).mono ?_; rintro e w4 ⟨rfl, k4⟩; go_wp2_with fail; refine (HS.out _).mono ?_; rintro e w5 ⟨rfl, k5⟩; go_wp2_with fail; go_ret2; exact ⟨rfl, kpt⟩
set_option maxHeartbeats 1000000 in
set_option maxRecDepth 100000 in
theorem rsub_np (a b : Int) (w : World) (ha : i64 a) (hb : i64 b) (c1 : a < 0) (c2 : 0 ≤ b) :
    Calls Tryz.prog 84 #[.int .i64 a, .int .i64 b] w fun e w' => e = .returned (.tuple #[.int .i64 (fit (a - b)).1, .bool (fit (a - b)).2]) ∧ Kept w w' := by
  have Z := Lib.hid (fun w => rsize_any a w ha); have Z2 := Lib.hid (fun w => rsize_any b w hb); have A := abs_u64 ha; have B := abs_u64 hb; have Aa : Lv.abs a = -a := by unfold Lv.abs; rw [if_pos c1]
  have Ab : Lv.abs b = b := by unfold Lv.abs; rw [if_neg (by omega)]
  obtain ⟨e1, e2⟩ := plus_zero A; have hU : wd 0 0 = 0 := by unfold wd; omega
  have hD : wd (hi64 (wd 0 (Lv.abs a) + wd 0 (Lv.abs b))) (lo64 (wd 0 (Lv.abs a) + wd 0 (Lv.abs b))) = Lv.abs a + Lv.abs b := by rw [wd_in (by unfold wd; have := A.1; have := B.1; omega) (by unfold wd; have := A.2; have := B.2; omega)]; unfold wd; omega
  have A1 := A.1; have A2 := A.2; have B1 := B.1; have B2 := B.2; have M := sg_minus (U := wd 0 0) (D := wd (hi64 (wd 0 (Lv.abs a) + wd 0 (Lv.abs b))) (lo64 (wd 0 (Lv.abs a) + wd 0 (Lv.abs b)))) (by omega) (by omega) (by omega) (by omega); have hz : wd 0 0 - wd (hi64 (wd 0 (Lv.abs a) + wd 0 (Lv.abs b))) (lo64 (wd 0 (Lv.abs a) + wd 0 (Lv.abs b))) = a - b := by omega
  rw [hz] at M; obtain ⟨M1, M2⟩ := M; have S1 := fun w => rsigned_any (hi64 (wd (hi64 (wd 0 (Lv.abs a) + wd 0 (Lv.abs b))) (lo64 (wd 0 (Lv.abs a) + wd 0 (Lv.abs b))) - wd 0 0)) (lo64 (wd (hi64 (wd 0 (Lv.abs a) + wd 0 (Lv.abs b))) (lo64 (wd 0 (Lv.abs a) + wd 0 (Lv.abs b))) - wd 0 0)) true w (hi64_u _) (lo64_u _); have S2 := fun w => rsigned_any (hi64 (a - b)) (lo64 (a - b)) false w (hi64_u _) (lo64_u _); have hS1 := Lib.hid (fun h w => (M1 h) ▸ S1 w); have hS2 := Lib.hid (fun h w => (M2 h) ▸ S2 w); have P1 := Lib.hid (fun w => plus_any 0 0 0 (Lv.abs a) w ⟨by omega, by omega⟩ ⟨by omega, by omega⟩ ⟨by omega, by omega⟩ A); rw [e1, e2] at P1; have P2 := Lib.hid (fun w => plus_any 0 (Lv.abs a) 0 (Lv.abs b) w ⟨by omega, by omega⟩ A ⟨by omega, by omega⟩ B); have Ls := Lib.hid (fun w => less_any 0 0 (hi64 (wd 0 (Lv.abs a) + wd 0 (Lv.abs b))) (lo64 (wd 0 (Lv.abs a) + wd 0 (Lv.abs b))) w ⟨by omega, by omega⟩ ⟨by omega, by omega⟩ (hi64_u _) (lo64_u _)); have Mi1 := Lib.hid (fun w => minus_any (hi64 (wd 0 (Lv.abs a) + wd 0 (Lv.abs b))) (lo64 (wd 0 (Lv.abs a) + wd 0 (Lv.abs b))) 0 0 w (hi64_u _) (lo64_u _) ⟨by omega, by omega⟩ ⟨by omega, by omega⟩); have Mi2 := fun w => minus_any 0 0 (hi64 (wd 0 (Lv.abs a) + wd 0 (Lv.abs b))) (lo64 (wd 0 (Lv.abs a) + wd 0 (Lv.abs b))) w ⟨by omega, by omega⟩ ⟨by omega, by omega⟩ (hi64_u _) (lo64_u _); rw [hz] at Mi2; have HMi2 := Lib.hid Mi2; clear Mi2 S1 S2 M1 M2 e1 e2  hz Aa Ab A1 A2 B1 B2 A B ha hb hU hD
  by_cases lt : wd 0 0 < wd (hi64 (wd 0 (Lv.abs a) + wd 0 (Lv.abs b))) (lo64 (wd 0 (Lv.abs a) + wd 0 (Lv.abs b)))
  · have dl : decide (wd 0 0 < wd (hi64 (wd 0 (Lv.abs a) + wd 0 (Lv.abs b))) (lo64 (wd 0 (Lv.abs a) + wd 0 (Lv.abs b)))) = true := decide_eq_true lt
    rw [dl] at Ls; have HS := Lib.hid (hS1.out lt); clear hS1 hS2 lt dl; go_enter Tryz.func84, Tryz.ntmps84; go_wp2_with fail; refine wp_region_still_tail 4 (by kernel_rfl) (by kernel_rfl) ?_
    simp only [List.take_succ_cons, List.take_zero, List.drop_succ_cons, List.drop_zero]
    change wpStill _ _ (World.drew _) _ _ _
    repeat still_step
    still_call (still_same (Z.out _))
    repeat still_step
    refine wpStill_nil ?_
    change wpList _ _ _ _ _ (World.drew _)
    go_wp2_with fail; refine (P1.out _).mono ?_; rintro e w1 ⟨rfl, k1⟩; have bu : Box w1 (w.heap.size) 160 #[.int .u64 0, .int .u64 0] := Box.kept k1 bxd; have bd : Box w1 (w.heap.size + 1) 160 #[.int .u64 0, .int .u64 0] := Box.kept k1 bxd; have bu_0 := Box.c0 bu; have bu_1 := Box.c1 bu; have bu_f := Box.loose bu 0; have bu_g := Box.loose bu 1; have bd_0 := Box.c0 bd; have bd_1 := Box.c1 bd; have bd_f := Box.loose bd 0; have bd_g := Box.loose bd 1; go_wp2_with fail; refine wp_region_still_tail 4 (by kernel_rfl) (by kernel_rfl) ?_
    simp only [List.take_succ_cons, List.take_zero, List.drop_succ_cons, List.drop_zero]
    change wpStill _ _ (World.drew _) _ _ _
    repeat still_step
    still_call (still_same (Z2.out _))
    repeat still_step
    refine wpStill_nil ?_
    change wpList _ _ _ _ _ (World.drew _)
    go_wp2_with fail; refine (P2.out _).mono ?_; rintro e w2 ⟨rfl, k2⟩; have bu2 : Box w2 (w.heap.size) 160 #[.int .u64 0, .int .u64 0] := Box.kept k2 bxd; have bd2 : Box w2 (w.heap.size + 1) 160 #[.int .u64 0, .int .u64 (Lv.abs a)] := Box.kept k2 bxd; clear bu_0 bu_1 bu_f bu_g bd_0 bd_1 bd_f bd_g; have bu2_0 := Box.c0 bu2; have bu2_1 := Box.c1 bu2; have bu2_f := Box.loose bu2 0; have bu2_g := Box.loose bu2 1; have bd2_0 := Box.c0 bd2; have bd2_1 := Box.c1 bd2; have bd2_f := Box.loose bd2 0; have bd2_g := Box.loose bd2 1; go_wp2_with fail; refine (Ls.out _).mono ?_; rintro e w3 ⟨rfl, k3⟩; have bu3 : Box w3 (w.heap.size) 160 #[.int .u64 0, .int .u64 0] := Box.kept k3 bxd; have bd3 : Box w3 (w.heap.size + 1) 160 #[.int .u64 (hi64 (wd 0 (Lv.abs a) + wd 0 (Lv.abs b))), .int .u64 (lo64 (wd 0 (Lv.abs a) + wd 0 (Lv.abs b)))] := Box.kept k3 bxd; clear bu2_0 bu2_1 bu2_f bu2_g bd2_0 bd2_1 bd2_f bd2_g; have bu3_0 := Box.c0 bu3; have bu3_1 := Box.c1 bu3; have bu3_f := Box.loose bu3 0; have bu3_g := Box.loose bu3 1; have bd3_0 := Box.c0 bd3; have bd3_1 := Box.c1 bd3; have bd3_f := Box.loose bd3 0; have bd3_g := Box.loose bd3 1; go_wp2_with fail; refine (Mi1.out _).mono ?_; rintro e w4 ⟨rfl, k4⟩; go_wp2_with fail; refine (HS.out _).mono ?_; rintro e w5 ⟨rfl, k5⟩; go_wp2_with fail; go_ret2; exact ⟨rfl, kpt⟩
  · have dl : decide (wd 0 0 < wd (hi64 (wd 0 (Lv.abs a) + wd 0 (Lv.abs b))) (lo64 (wd 0 (Lv.abs a) + wd 0 (Lv.abs b)))) = false := decide_eq_false lt
    rw [dl] at Ls; have HS := Lib.hid (hS2.out lt); clear hS1 hS2 lt dl; go_enter Tryz.func84, Tryz.ntmps84; go_wp2_with fail; refine wp_region_still_tail 4 (by kernel_rfl) (by kernel_rfl) ?_
    simp only [List.take_succ_cons, List.take_zero, List.drop_succ_cons, List.drop_zero]
    change wpStill _ _ (World.drew _) _ _ _
    repeat still_step
    still_call (still_same (Z.out _))
    repeat still_step
    refine wpStill_nil ?_
    change wpList _ _ _ _ _ (World.drew _)
    go_wp2_with fail; refine (P1.out _).mono ?_; rintro e w1 ⟨rfl, k1⟩; have bu : Box w1 (w.heap.size) 160 #[.int .u64 0, .int .u64 0] := Box.kept k1 bxd; have bd : Box w1 (w.heap.size + 1) 160 #[.int .u64 0, .int .u64 0] := Box.kept k1 bxd; have bu_0 := Box.c0 bu; have bu_1 := Box.c1 bu; have bu_f := Box.loose bu 0; have bu_g := Box.loose bu 1; have bd_0 := Box.c0 bd; have bd_1 := Box.c1 bd; have bd_f := Box.loose bd 0; have bd_g := Box.loose bd 1; go_wp2_with fail; refine wp_region_still_tail 4 (by kernel_rfl) (by kernel_rfl) ?_
    simp only [List.take_succ_cons, List.take_zero, List.drop_succ_cons, List.drop_zero]
    change wpStill _ _ (World.drew _) _ _ _
    repeat still_step
    still_call (still_same (Z2.out _))
    repeat still_step
    refine wpStill_nil ?_
    change wpList _ _ _ _ _ (World.drew _)
    go_wp2_with fail; refine (P2.out _).mono ?_; rintro e w2 ⟨rfl, k2⟩; have bu2 : Box w2 (w.heap.size) 160 #[.int .u64 0, .int .u64 0] := Box.kept k2 bxd; have bd2 : Box w2 (w.heap.size + 1) 160 #[.int .u64 0, .int .u64 (Lv.abs a)] := Box.kept k2 bxd; clear bu_0 bu_1 bu_f bu_g bd_0 bd_1 bd_f bd_g; have bu2_0 := Box.c0 bu2; have bu2_1 := Box.c1 bu2; have bu2_f := Box.loose bu2 0; have bu2_g := Box.loose bu2 1; have bd2_0 := Box.c0 bd2; have bd2_1 := Box.c1 bd2; have bd2_f := Box.loose bd2 0; have bd2_g := Box.loose bd2 1; go_wp2_with fail; refine (Ls.out _).mono ?_; rintro e w3 ⟨rfl, k3⟩; have bu3 : Box w3 (w.heap.size) 160 #[.int .u64 0, .int .u64 0] := Box.kept k3 bxd; have bd3 : Box w3 (w.heap.size + 1) 160 #[.int .u64 (hi64 (wd 0 (Lv.abs a) + wd 0 (Lv.abs b))), .int .u64 (lo64 (wd 0 (Lv.abs a) + wd 0 (Lv.abs b)))] := Box.kept k3 bxd; clear bu2_0 bu2_1 bu2_f bu2_g bd2_0 bd2_1 bd2_f bd2_g; have bu3_0 := Box.c0 bu3; have bu3_1 := Box.c1 bu3; have bu3_f := Box.loose bu3 0; have bu3_g := Box.loose bu3 1; have bd3_0 := Box.c0 bd3; have bd3_1 := Box.c1 bd3; have bd3_f := Box.loose bd3 0; have bd3_g := Box.loose bd3 1; go_wp2_with fail; refine (HMi2.out _).mono ?_; rintro e w4 ⟨rfl, k4⟩; go_wp2_with fail; refine (HS.out _).mono ?_; rintro e w5 ⟨rfl, k5⟩; go_wp2_with fail; go_ret2; exact ⟨rfl, kpt⟩
set_option maxHeartbeats 1000000 in
set_option maxRecDepth 100000 in
theorem rsub_nn (a b : Int) (w : World) (ha : i64 a) (hb : i64 b) (c1 : a < 0) (c2 : b < 0) :
    Calls Tryz.prog 84 #[.int .i64 a, .int .i64 b] w fun e w' => e = .returned (.tuple #[.int .i64 (fit (a - b)).1, .bool (fit (a - b)).2]) ∧ Kept w w' := by
  have Z := Lib.hid (fun w => rsize_any a w ha); have Z2 := Lib.hid (fun w => rsize_any b w hb); have A := abs_u64 ha; have B := abs_u64 hb; have Aa : Lv.abs a = -a := by unfold Lv.abs; rw [if_pos c1]
  have Ab : Lv.abs b = -b := by unfold Lv.abs; rw [if_pos c2]
  obtain ⟨e1, e2⟩ := plus_zero A; obtain ⟨e3, e4⟩ := plus_zero B; have hU : wd 0 (Lv.abs b) = Lv.abs b := by unfold wd; omega
  have hD : wd 0 (Lv.abs a) = Lv.abs a := by unfold wd; omega
  have A1 := A.1; have A2 := A.2; have B1 := B.1; have B2 := B.2; have M := sg_minus (U := wd 0 (Lv.abs b)) (D := wd 0 (Lv.abs a)) (by omega) (by omega) (by omega) (by omega); have hz : wd 0 (Lv.abs b) - wd 0 (Lv.abs a) = a - b := by omega
  rw [hz] at M; obtain ⟨M1, M2⟩ := M; have S1 := fun w => rsigned_any (hi64 (wd 0 (Lv.abs a) - wd 0 (Lv.abs b))) (lo64 (wd 0 (Lv.abs a) - wd 0 (Lv.abs b))) true w (hi64_u _) (lo64_u _); have S2 := fun w => rsigned_any (hi64 (a - b)) (lo64 (a - b)) false w (hi64_u _) (lo64_u _); have hS1 := Lib.hid (fun h w => (M1 h) ▸ S1 w); have hS2 := Lib.hid (fun h w => (M2 h) ▸ S2 w); have P1 := Lib.hid (fun w => plus_any 0 0 0 (Lv.abs a) w ⟨by omega, by omega⟩ ⟨by omega, by omega⟩ ⟨by omega, by omega⟩ A); rw [e1, e2] at P1; have P2 := Lib.hid (fun w => plus_any 0 0 0 (Lv.abs b) w ⟨by omega, by omega⟩ ⟨by omega, by omega⟩ ⟨by omega, by omega⟩ B); rw [e3, e4] at P2; have Ls := Lib.hid (fun w => less_any 0 (Lv.abs b) 0 (Lv.abs a) w ⟨by omega, by omega⟩ B ⟨by omega, by omega⟩ A); have Mi1 := Lib.hid (fun w => minus_any 0 (Lv.abs a) 0 (Lv.abs b) w ⟨by omega, by omega⟩ A ⟨by omega, by omega⟩ B); have Mi2 := fun w => minus_any 0 (Lv.abs b) 0 (Lv.abs a) w ⟨by omega, by omega⟩ B ⟨by omega, by omega⟩ A; rw [hz] at Mi2; have HMi2 := Lib.hid Mi2; clear Mi2 S1 S2 M1 M2 e1 e2 e3 e4 hz Aa Ab A1 A2 B1 B2 A B ha hb hU hD
  by_cases lt : wd 0 (Lv.abs b) < wd 0 (Lv.abs a)
  · have dl : decide (wd 0 (Lv.abs b) < wd 0 (Lv.abs a)) = true := decide_eq_true lt
    rw [dl] at Ls; have HS := Lib.hid (hS1.out lt); clear hS1 hS2 lt dl; go_enter Tryz.func84, Tryz.ntmps84; go_wp2_with fail; refine wp_region_still_tail 4 (by kernel_rfl) (by kernel_rfl) ?_
    simp only [List.take_succ_cons, List.take_zero, List.drop_succ_cons, List.drop_zero]
    change wpStill _ _ (World.drew _) _ _ _
    repeat still_step
    still_call (still_same (Z.out _))
    repeat still_step
    refine wpStill_nil ?_
    change wpList _ _ _ _ _ (World.drew _)
    go_wp2_with fail; refine (P1.out _).mono ?_; rintro e w1 ⟨rfl, k1⟩; have bu : Box w1 (w.heap.size) 160 #[.int .u64 0, .int .u64 0] := Box.kept k1 bxd; have bd : Box w1 (w.heap.size + 1) 160 #[.int .u64 0, .int .u64 0] := Box.kept k1 bxd; have bu_0 := Box.c0 bu; have bu_1 := Box.c1 bu; have bu_f := Box.loose bu 0; have bu_g := Box.loose bu 1; have bd_0 := Box.c0 bd; have bd_1 := Box.c1 bd; have bd_f := Box.loose bd 0; have bd_g := Box.loose bd 1; go_wp2_with fail; refine wp_region_still_tail 4 (by kernel_rfl) (by kernel_rfl) ?_
    simp only [List.take_succ_cons, List.take_zero, List.drop_succ_cons, List.drop_zero]
    change wpStill _ _ (World.drew _) _ _ _
    repeat still_step
    still_call (still_same (Z2.out _))
    repeat still_step
    refine wpStill_nil ?_
    change wpList _ _ _ _ _ (World.drew _)
    go_wp2_with fail; refine (P2.out _).mono ?_; rintro e w2 ⟨rfl, k2⟩; have bu2 : Box w2 (w.heap.size) 160 #[.int .u64 0, .int .u64 0] := Box.kept k2 bxd; have bd2 : Box w2 (w.heap.size + 1) 160 #[.int .u64 0, .int .u64 (Lv.abs a)] := Box.kept k2 bxd; clear bu_0 bu_1 bu_f bu_g bd_0 bd_1 bd_f bd_g; have bu2_0 := Box.c0 bu2; have bu2_1 := Box.c1 bu2; have bu2_f := Box.loose bu2 0; have bu2_g := Box.loose bu2 1; have bd2_0 := Box.c0 bd2; have bd2_1 := Box.c1 bd2; have bd2_f := Box.loose bd2 0; have bd2_g := Box.loose bd2 1; go_wp2_with fail; refine (Ls.out _).mono ?_; rintro e w3 ⟨rfl, k3⟩; have bu3 : Box w3 (w.heap.size) 160 #[.int .u64 0, .int .u64 (Lv.abs b)] := Box.kept k3 bxd; have bd3 : Box w3 (w.heap.size + 1) 160 #[.int .u64 0, .int .u64 (Lv.abs a)] := Box.kept k3 bxd; clear bu2_0 bu2_1 bu2_f bu2_g bd2_0 bd2_1 bd2_f bd2_g; have bu3_0 := Box.c0 bu3; have bu3_1 := Box.c1 bu3; have bu3_f := Box.loose bu3 0; have bu3_g := Box.loose bu3 1; have bd3_0 := Box.c0 bd3; have bd3_1 := Box.c1 bd3; have bd3_f := Box.loose bd3 0; have bd3_g := Box.loose bd3 1; go_wp2_with fail; refine (Mi1.out _).mono ?_; rintro e w4 ⟨rfl, k4⟩; go_wp2_with fail; refine (HS.out _).mono ?_; rintro e w5 ⟨rfl, k5⟩; go_wp2_with fail; go_ret2; exact ⟨rfl, kpt⟩
  · have dl : decide (wd 0 (Lv.abs b) < wd 0 (Lv.abs a)) = false := decide_eq_false lt
    rw [dl] at Ls; have HS := Lib.hid (hS2.out lt); clear hS1 hS2 lt dl; go_enter Tryz.func84, Tryz.ntmps84; go_wp2_with fail; refine wp_region_still_tail 4 (by kernel_rfl) (by kernel_rfl) ?_
    simp only [List.take_succ_cons, List.take_zero, List.drop_succ_cons, List.drop_zero]
    change wpStill _ _ (World.drew _) _ _ _
    repeat still_step
    still_call (still_same (Z.out _))
    repeat still_step
    refine wpStill_nil ?_
    change wpList _ _ _ _ _ (World.drew _)
    go_wp2_with fail; refine (P1.out _).mono ?_; rintro e w1 ⟨rfl, k1⟩; have bu : Box w1 (w.heap.size) 160 #[.int .u64 0, .int .u64 0] := Box.kept k1 bxd; have bd : Box w1 (w.heap.size + 1) 160 #[.int .u64 0, .int .u64 0] := Box.kept k1 bxd; have bu_0 := Box.c0 bu; have bu_1 := Box.c1 bu; have bu_f := Box.loose bu 0; have bu_g := Box.loose bu 1; have bd_0 := Box.c0 bd; have bd_1 := Box.c1 bd; have bd_f := Box.loose bd 0; have bd_g := Box.loose bd 1; go_wp2_with fail; refine wp_region_still_tail 4 (by kernel_rfl) (by kernel_rfl) ?_
    simp only [List.take_succ_cons, List.take_zero, List.drop_succ_cons, List.drop_zero]
    change wpStill _ _ (World.drew _) _ _ _
    repeat still_step
    still_call (still_same (Z2.out _))
    repeat still_step
    refine wpStill_nil ?_
    change wpList _ _ _ _ _ (World.drew _)
    go_wp2_with fail; refine (P2.out _).mono ?_; rintro e w2 ⟨rfl, k2⟩; have bu2 : Box w2 (w.heap.size) 160 #[.int .u64 0, .int .u64 0] := Box.kept k2 bxd; have bd2 : Box w2 (w.heap.size + 1) 160 #[.int .u64 0, .int .u64 (Lv.abs a)] := Box.kept k2 bxd; clear bu_0 bu_1 bu_f bu_g bd_0 bd_1 bd_f bd_g; have bu2_0 := Box.c0 bu2; have bu2_1 := Box.c1 bu2; have bu2_f := Box.loose bu2 0; have bu2_g := Box.loose bu2 1; have bd2_0 := Box.c0 bd2; have bd2_1 := Box.c1 bd2; have bd2_f := Box.loose bd2 0; have bd2_g := Box.loose bd2 1; go_wp2_with fail; refine (Ls.out _).mono ?_; rintro e w3 ⟨rfl, k3⟩; have bu3 : Box w3 (w.heap.size) 160 #[.int .u64 0, .int .u64 (Lv.abs b)] := Box.kept k3 bxd; have bd3 : Box w3 (w.heap.size + 1) 160 #[.int .u64 0, .int .u64 (Lv.abs a)] := Box.kept k3 bxd; clear bu2_0 bu2_1 bu2_f bu2_g bd2_0 bd2_1 bd2_f bd2_g; have bu3_0 := Box.c0 bu3; have bu3_1 := Box.c1 bu3; have bu3_f := Box.loose bu3 0; have bu3_g := Box.loose bu3 1; have bd3_0 := Box.c0 bd3; have bd3_1 := Box.c1 bd3; have bd3_f := Box.loose bd3 0; have bd3_g := Box.loose bd3 1; go_wp2_with fail; refine (HMi2.out _).mono ?_; rintro e w4 ⟨rfl, k4⟩; go_wp2_with fail; refine (HS.out _).mono ?_; rintro e w5 ⟨rfl, k5⟩; go_wp2_with fail; go_ret2; exact ⟨rfl, kpt⟩
theorem rsub_any (a b : Int) (w : World) (ha : i64 a) (hb : i64 b) :
    Calls Tryz.prog 84 #[.int .i64 a, .int .i64 b] w fun e w' => e = .returned (.tuple #[.int .i64 (fit (a - b)).1, .bool (fit (a - b)).2]) ∧ Kept w w' := by
  by_cases c1 : a < 0
  · by_cases c2 : b < 0
    · exact rsub_nn a b w ha hb c1 c2
    · exact rsub_np a b w ha hb c1 (by omega)
  · by_cases c2 : b < 0
    · exact rsub_pn a b w ha hb (by omega) c2
    · exact rsub_pp a b w ha hb (by omega) (by omega)
end Go.Proofs.YtbpkfnoenkoabaaGreatDoor
