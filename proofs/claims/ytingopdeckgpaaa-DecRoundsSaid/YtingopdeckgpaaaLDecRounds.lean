/- The law DecRounds, walked. -/
import Derived.Test.YtingopdeckgpaaaWRef6
import Derived.Test.YtingopdeckgpaaaWArgs
namespace Go.Proofs.Ytingopdeckgpaaa
set_option linter.unusedVariables false
set_option linter.unusedSimpArgs false
open Go.RowKit Lv

theorem pair_self (p : Int × Bool) : (p.1 != p.1) = false ∧ (p.2 != p.2) = false ∧ (p.1 == p.1) = true ∧ (p.2 == p.2) = true := by simp

set_option maxHeartbeats 800000 in
theorem DecRounds_walk (a0 : Int) (a1 : Int) (a2 : Int) (w0 : (Lit.int .i64 a0).wf = true) (w1 : (Lit.int .i64 a1).wf = true) (w2 : (Lit.int .i64 a2).wf = true) (w : World) :
    Calls Try.prog 10 #[.int .i64 a0, .int .i64 a1, .int .i64 a2] w fun e w' => e = .returned (.bool true) ∧ Below w.heap.size w w' := by
  have h0 := i64_of_lit w0
  have h1 := i64_of_lit w1
  have h2 := i64_of_lit w2
  clear w0 w1 w2
  have R := Lib.hid (fun w => round_any a0 a1 w h0 h1)
  have R' := Lib.hid (fun w => rround_any a0 a1 w h0 h1)
  have T := Lib.hid (fun w => trunc_any a0 w h0)
  have T' := Lib.hid (fun w => rtrunc_any a0 w h0)
  have F := Lib.hid (fun w => floor_any a0 w h0)
  have F' := Lib.hid (fun w => rfloor_any a0 w h0)
  have S := Lib.hid (fun w => sqrt_any a0 w h0)
  have S' := Lib.hid (fun w => rsqrt_any a0 w h0)
  have P := Lib.hid (fun w => power_any a0 a2 w h0 h2)
  have P' := Lib.hid (fun w => rpower_any a0 a2 w h0 h2)
  obtain ⟨r1, r2, _, _⟩ := pair_self (dRound a0 a1)
  obtain ⟨f1, f2, _, _⟩ := pair_self (dFloor a0)
  obtain ⟨s1, s2, _, _⟩ := pair_self (dSqrt a0)
  obtain ⟨_, _, p1, p2⟩ := pair_self (dPow a0 a2)
  have t1 : (dTrunc a0 != dTrunc a0) = false := by simp
  generalize dRound a0 a1 = ro at *
  generalize dFloor a0 = fl at *
  generalize dSqrt a0 = sq at *
  generalize dPow a0 a2 = po at *
  generalize dTrunc a0 = tr at *
  clear h0 h1 h2
  go_enter Try.func10, Try.ntmps10
  go_wp2_with fail
  refine (R.out _).mono ?_
  rintro e w' ⟨rfl, k1⟩
  go_wp2_with fail
  refine (R'.out _).mono ?_
  rintro e w' ⟨rfl, k2⟩
  go_wp2_with fail
  refine (T.out _).mono ?_
  rintro e w' ⟨rfl, rfl⟩
  go_wp2_with fail
  refine (T'.out _).mono ?_
  rintro e w' ⟨rfl, rfl⟩
  go_wp2_with fail
  refine (F.out _).mono ?_
  rintro e w' ⟨rfl, k3⟩
  go_wp2_with fail
  refine (F'.out _).mono ?_
  rintro e w' ⟨rfl, k4⟩
  go_wp2_with fail
  refine (S.out _).mono ?_
  rintro e w' ⟨rfl, rfl⟩
  go_wp2_with fail
  refine (S'.out _).mono ?_
  rintro e w' ⟨rfl, k5⟩
  go_wp2_with fail
  refine (P.out _).mono ?_
  rintro e w' ⟨rfl, k6⟩
  go_wp2_with fail
  refine (P'.out _).mono ?_
  rintro e w' ⟨rfl, k7⟩
  go_wp2_with fail
  go_ret
  exact ⟨rfl, (by repeat (first | with_reducible exact Kept.refl _ | with_reducible apply Kept.drew | with_reducible apply Kept.drewN | with_reducible apply Kept.alloc | (with_reducible refine Kept.setCellX ?_ ?_ _; focus (first | (simp; done) | (simp; omega))) | (with_reducible refine Kept.trans ?_ (by assumption))))⟩
end Go.Proofs.Ytingopdeckgpaaa
