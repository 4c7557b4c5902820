/- Layer 16: what the reference asks of layers 8 and 13: how many arguments, which may be areas. -/
import Derived.Test.YtbkjdcpfkepheaaGreatDoorCMixBB
set_option maxHeartbeats 4000000
namespace Go.Proofs.YtbkjdcpfkepheaaGreatDoor
section
set_option linter.unusedVariables false
set_option linter.unusedSimpArgs false
open Go.RowKit Lv
theorem lE {fn : Nat} (h : dw fn = true) : fn = 9 ∨ fn = 10 ∨ fn = 11 ∨ fn = 12 ∨ fn = 13 ∨ fn = 14 ∨ fn = 15 ∨ fn = 16 ∨ fn = 17 ∨ fn = 18 ∨ fn = 19 ∨ fn = 43 ∨ fn = 44 ∨ fn = 45 ∨ fn = 46 ∨ fn = 47 ∨ fn = 48 ∨ fn = 49 ∨ fn = 50 := by
  have := rm h
  omega
theorem mR (fn : Nat) (h : dw fn = true) (w : World) : Calls Tryz.prog 70 #[.int .u8 fn] w fun e w' => e = .returned (.tuple #[.int .i64 (rM fn : Nat), .int .i64 (oE fn : Nat)]) ∧ Kept w w' := by
  rcases lE h with rfl | rfl | rfl | rfl | rfl | rfl | rfl | rfl | rfl | rfl | rfl | rfl | rfl | rfl | rfl | rfl | rfl | rfl | rfl
  all_goals
    go_enter Tryz.func70, Tryz.ntmps70; go_wp2_with fail; go_ret2; exact ⟨rfl, kpt⟩
theorem tG (fn : Nat) (h : dw fn = true) (n : Nat) (w : World) : Calls Tryz.prog 34 #[.int .u8 fn, .int .i64 n] w fun e w' => e = .returned (.bool (decide (rM fn ≤ n) && decide (n ≤ oE fn))) ∧ Kept w w' := by
  have AR := Lib.hid (fun w => mR fn h w); generalize rM fn = lo at *; generalize oE fn = hi at *; clear h
  by_cases c : lo ≤ n
  · by_cases d : n ≤ hi
    · have EF : Hid ((decide (lo ≤ n) && decide (n ≤ hi)) = true) := by rw [decide_eq_true c, decide_eq_true d]; rfl
      go_enter Tryz.func34, Tryz.ntmps34; go_wp2_with fail; refine (AR.out _).mono ?_; rintro e w' ⟨rfl, k1⟩; go_wp2_with fail; go_ret; exact ⟨dM EF.out.symm, k1⟩
    · have EF : Hid ((decide (lo ≤ n) && decide (n ≤ hi)) = false) := by rw [decide_eq_false d, Bool.and_false]; rfl
      have d' : hi < n := by omega
      go_enter Tryz.func34, Tryz.ntmps34; go_wp2_with fail; refine (AR.out _).mono ?_; rintro e w' ⟨rfl, k1⟩; go_wp2_with fail; go_ret; exact ⟨dM EF.out.symm, k1⟩
  · have EF : Hid ((decide (lo ≤ n) && decide (n ≤ hi)) = false) := by rw [decide_eq_false c, Bool.false_and]; rfl
    have d' : n < lo := by omega
    go_enter Tryz.func34, Tryz.ntmps34; go_wp2_with fail; refine (AR.out _).mono ?_; rintro e w' ⟨rfl, k1⟩; go_wp2_with fail; go_ret; exact ⟨dM EF.out.symm, k1⟩
theorem xd (fn : Nat) (h : dw fn = true) (i : Nat) (hi : i < oE fn) (w : World) : Calls Tryz.prog 36 #[.int .u8 fn, .int .i64 i] w fun e w' => e = .returned (.bool (dR fn i)) ∧ Kept w w' := by
  have AR := Lib.hid (fun w => mR fn h w); have h0 : ¬ (i : Int) < 0 := by omega
  have h1 : ¬ ((oE fn : Nat) : Int) ≤ (i : Int) := by omega
  have EF := Lib.hid (rfl : dR fn i = dR fn i)
  by_cases e0 : i = 0
  · subst e0
    rcases lE h with rfl | rfl | rfl | rfl | rfl | rfl | rfl | rfl | rfl | rfl | rfl | rfl | rfl | rfl | rfl | rfl | rfl | rfl | rfl
    all_goals
      go_enter Tryz.func36, Tryz.ntmps36; go_wp2_with fail; refine (AR.out _).mono ?_; rintro e w' ⟨rfl, k1⟩; go_wp2_with fail; go_ret; exact ⟨rfl, k1⟩
  · by_cases e1 : i = 1
    · subst e1
      rcases lE h with rfl | rfl | rfl | rfl | rfl | rfl | rfl | rfl | rfl | rfl | rfl | rfl | rfl | rfl | rfl | rfl | rfl | rfl | rfl
      all_goals first
        | exact absurd hi (by decide)
        | (go_enter Tryz.func36, Tryz.ntmps36
           go_wp2_with fail; refine (AR.out _).mono ?_; rintro e w' ⟨rfl, k1⟩; go_wp2_with fail; go_ret; exact ⟨rfl, k1⟩)
    · rcases lE h with rfl | rfl | rfl | rfl | rfl | rfl | rfl | rfl | rfl | rfl | rfl | rfl | rfl | rfl | rfl | rfl | rfl | rfl | rfl
      all_goals first
        | exact absurd hi (by simp only [oE]; simp; omega)
        | skip
      all_goals
        have z0 : ((i : Int) == 0) = false := by simp; omega
        have z1 : ((i : Int) == 1) = false := by simp; omega
        go_enter Tryz.func36, Tryz.ntmps36; go_wp2_with fail; refine (AR.out _).mono ?_; rintro e w' ⟨rfl, k1⟩; go_wp2_with fail; go_ret; exact ⟨dM (by unfold dR; simp [e0, e1]), k1⟩
