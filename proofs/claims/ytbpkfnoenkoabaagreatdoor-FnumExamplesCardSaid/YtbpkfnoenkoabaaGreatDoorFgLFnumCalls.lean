/- The law FnumCalls, walked. -/
import Derived.Test.YtbpkfnoenkoabaaGreatDoorFgGAwake13
import Derived.Test.YtbpkfnoenkoabaaGreatDoorFgGRNum13
import Derived.Test.YtbpkfnoenkoabaaGreatDoorFgMixAT
namespace Go.Proofs.YtbpkfnoenkoabaaGreatDoor
set_option linter.unusedVariables false
set_option linter.unusedSimpArgs false
open Go.RowKit Lv
theorem few_small13 {l : List Vl} (h : ∀ v ∈ l, Wide v) : ∀ v ∈ few l, Small v := fun v hv => by
  have := few_wide h v hv; exact ⟨this.1, by omega⟩
set_option maxHeartbeats 4000000 in
set_option maxRecDepth 100000 in
theorem FnumCalls_walk (a0 : Int) (a1 : Option Addr) (len1 cap1 : Nat) (l1 : List Vl) (w : World) (w0 : (Lit.int .u8 a0).wf = true) (w1 : ValsIn w a1 len1 cap1 l1) (mx : Int) (hm : Mx w mx) :
    Calls Tryz.prog 5 #[.int .u8 a0, .slice a1 len1 cap1] w fun e w' => e = .returned (.bool true) ∧ Below w.heap.size w w' := by
  have rx : 0 ≤ a0 ∧ a0 ≤ 255 := by
    unfold Lit.wf at w0; rw [Bool.and_eq_true, decide_eq_true_eq, decide_eq_true_eq] at w0; exact w0
  obtain ⟨fn, rfl⟩ : ∃ k : Nat, a0 = k := ⟨a0.toNat, by omega⟩; have sm := Lib.hid (few_small13 w1.wide); have F := Lib.hid (fun w' (k : Kept w w') => few_any a1 len1 cap1 l1 w' ⟨w1.row.kept k, w1.len_eq, w1.le, w1.max, w1.wide, w1.nil, w1.addr⟩); have lf : (few l1).length ≤ 20 := by rw [few_length]; omega
  have HM := Lib.hid hm; obtain ⟨n, hn⟩ : ∃ n, n = (few l1).length := ⟨_, rfl⟩; have C := Lib.hid (fun A cap w hm hr hc => call13_any fn A cap (few l1) w mx hm hr sm.out (by omega) hc); have R := Lib.hid (fun A cap w hr => rcall13_any fn A cap (few l1) w hr sm.out (by omega)); have E := Lib.hid (fun A B c d w ha hb => equal_vals A B c d (few l1) w ha hb (by omega)); have AW := Lib.hid (fun w h => awake13_any w mx h); generalize vCall13 fn (few l1) = q at *; obtain ⟨x, er⟩ := q; rw [← hn] at C R E; have HN := Lib.hid hn; clear hm w1 w0 rx lf hn sm; go_enter Tryz.func5, Tryz.ntmps5; go_wp2_with fail; refine (F.out _ (Kept.refl _)).mono ?_; intro e w2 hnew; obtain ⟨A, cap, rfl, hrow, hcap, _, k2⟩ := hnew.open_; rw [← HN.out] at hcap ⊢; have ROW := Lib.hid hrow; have HC := Lib.hid hcap; have K2 := Lib.hid k2; clear hnew hrow hcap k2; go_wp2_with fail; refine (C.out _ _ _ (HM.out.kept K2.out) ROW.out HC.out).mono ?_; rintro e w3 ⟨rfl, k3⟩; have B3 : Hid (Box (w3.alloc (.cells (cellsV x) 25)) w3.heap.size 25 (cellsV x)) := Lib.hid (Box.new w3 _ _); have K3 := Lib.hid (K2.out.trans (k3.alloc (.cells (cellsV x) 25))); have ROW3 := Lib.hid (ROW.out.kept (k3.alloc (.cells (cellsV x) 25))); clear k3; go_wp2_with fail; refine (F.out _ K3.out).mono ?_; intro e w4 hnew; obtain ⟨A', cap', rfl, hrow, hcap, _, k4⟩ := hnew.open_; rw [← HN.out] at hcap ⊢; have ROW' := Lib.hid hrow; have HC' := Lib.hid hcap; have K4 := Lib.hid (K3.out.trans k4); have B4 := Lib.hid (B3.out.kept k4); have ROW4 := Lib.hid (ROW3.out.kept k4)
  clear hnew hrow hcap k4; go_wp2_with fail; refine (R.out _ _ _ ROW'.out).mono ?_; rintro e w5 ⟨rfl, k5⟩; have k5' := k5.alloc (.cells (cellsV x) 25); have B5 : Hid (Box (w5.alloc (.cells (cellsV x) 25)) w5.heap.size 25 (cellsV x)) := Lib.hid (Box.new w5 _ _); have B4 := Lib.hid (B4.out.kept k5'); have K5 := Lib.hid (K4.out.trans k5'); have ROW5 := Lib.hid (ROW4.out.kept k5'); obtain ⟨i0, p0, p1, p2, _⟩ := (B4.out.kept (Kept.refl _)).three; go_wp2_with fail; refine (F.out _ K5.out).mono ?_; intro e w6 hnew; obtain ⟨A'', cap'', rfl, hrow, hcap, _, k6⟩ := hnew.open_; rw [← HN.out]; have ROW'' := Lib.hid hrow; have ROW6 := Lib.hid (ROW5.out.kept k6); have K6 := Lib.hid (K5.out.trans k6); clear hnew hrow hcap k6 p0 p1 p2; go_wp2_with fail; refine (E.out _ _ _ _ _ ROW6.out ROW''.out).mono ?_; rintro e w7 ⟨rfl, k7⟩; have K7 := Lib.hid (K6.out.trans k7); clear k7; go_wp2_with fail; refine (AW.out _ (HM.out.kept K7.out)).mono ?_; rintro e w8 ⟨rfl, k8⟩; go_wp2_with fail; go_ret; exact ⟨rfl, K7.out.trans k8⟩
end Go.Proofs.YtbpkfnoenkoabaaGreatDoor
