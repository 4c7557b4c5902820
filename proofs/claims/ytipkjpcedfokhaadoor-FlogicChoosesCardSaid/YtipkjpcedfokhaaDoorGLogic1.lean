/- Layer 15: arity, same, last, truth. -/
import Derived.Test.YtipkjpcedfokhaaDoorBunC
import Derived.Test.YtipkjpcedfokhaaDoorMLogic
namespace Go.Proofs.YtipkjpcedfokhaaDoor
set_option linter.unusedVariables false
set_option linter.unusedSimpArgs false
open Go.RowKit Lv

set_option maxHeartbeats 1000000 in
theorem arity_any (fn : Nat) (w : World) : Calls Tryd.prog 88 #[.int .u8 fn] w fun e w' => e = .returned (.tuple #[.int .i64 (lo15 fn : Nat), .int .i64 (hi15 fn : Nat)]) ∧ Kept w w' := by
  by_cases h : fn = 20 ∨ fn = 21 ∨ fn = 22 ∨ fn = 23 ∨ fn = 25 ∨ fn = 30
  · rcases h with rfl | rfl | rfl | rfl | rfl | rfl
    all_goals
      go_enter Tryd.func88, Tryd.ntmps88
      go_wp2_with fail
      go_ret2
      exact ⟨rfl, (by repeat (first | with_reducible exact Kept.refl _ | with_reducible apply Kept.drew | with_reducible apply Kept.drewN | with_reducible apply Kept.alloc | (with_reducible refine Kept.setCellX ?_ ?_ _; focus (first | (simp; done) | (simp; omega))) | (with_reducible refine Kept.trans ?_ (by assumption))))⟩
  · have e1 : lo15 fn = 1 := by unfold lo15; rw [if_neg (by omega)]
    have e2 : hi15 fn = 1 := by unfold hi15; rw [if_neg (by omega), if_neg (by omega), if_neg (by omega)]
    rw [e1, e2]
    have n1 : ((fn : Int) == 20) = false := by rw [beq_eq_false_iff_ne]; omega
    have n2 : ((fn : Int) == 21) = false := by rw [beq_eq_false_iff_ne]; omega
    have n3 : ((fn : Int) == 22) = false := by rw [beq_eq_false_iff_ne]; omega
    have n4 : ((fn : Int) == 23) = false := by rw [beq_eq_false_iff_ne]; omega
    have n5 : ((fn : Int) == 25) = false := by rw [beq_eq_false_iff_ne]; omega
    have n6 : ((fn : Int) == 30) = false := by rw [beq_eq_false_iff_ne]; omega
    clear h e1 e2
    go_enter Tryd.func88, Tryd.ntmps88
    go_wp2_with fail
    go_ret2
    exact ⟨rfl, (by repeat (first | with_reducible exact Kept.refl _ | with_reducible apply Kept.drew | with_reducible apply Kept.drewN | with_reducible apply Kept.alloc | (with_reducible refine Kept.setCellX ?_ ?_ _; focus (first | (simp; done) | (simp; omega))) | (with_reducible refine Kept.trans ?_ (by assumption))))⟩

theorem truth15_any (b : Bool) (w : World) : Calls Tryd.prog 52 #[.bool b] w fun e w' => e = .returned (aggV (vTruth b)) ∧ Kept w w' := by
  cases b
  · go_enter Tryd.func52, Tryd.ntmps52
    go_wp2_with fail
    exact bodyPost_ret (v := .agg #[.int .u8 2, .int .i64 0, .string ⟨#[]⟩]) (by simp [results, Tryd.results52, go_sem]) rfl ⟨rfl, (by repeat (first | with_reducible exact Kept.refl _ | with_reducible apply Kept.drew | with_reducible apply Kept.drewN | with_reducible apply Kept.alloc | (with_reducible refine Kept.setCellX ?_ ?_ _; focus (first | (simp; done) | (simp; omega))) | (with_reducible refine Kept.trans ?_ (by assumption))))⟩
  · go_enter Tryd.func52, Tryd.ntmps52
    go_wp2_with fail
    exact bodyPost_ret (v := .agg #[.int .u8 2, .int .i64 1, .string ⟨#[]⟩]) (by simp [results, Tryd.results52, go_sem]) rfl ⟨rfl, (by repeat (first | with_reducible exact Kept.refl _ | with_reducible apply Kept.drew | with_reducible apply Kept.drewN | with_reducible apply Kept.alloc | (with_reducible refine Kept.setCellX ?_ ?_ _; focus (first | (simp; done) | (simp; omega))) | (with_reducible refine Kept.trans ?_ (by assumption))))⟩
theorem same15_any (v : Vl) (w : World) : Calls Tryd.prog 145 #[aggV v] w fun e w' => e = .returned (aggV v) ∧ Kept w w' := by
  go_enter Tryd.func145, Tryd.ntmps145
  go_wp2_with fail
  exact bodyPost_ret (v := aggV v) (by simp [results, Tryd.results145, go_sem]) rfl ⟨rfl, (by repeat (first | with_reducible exact Kept.refl _ | with_reducible apply Kept.drew | with_reducible apply Kept.drewN | with_reducible apply Kept.alloc | (with_reducible refine Kept.setCellX ?_ ?_ _; focus (first | (simp; done) | (simp; omega))) | (with_reducible refine Kept.trans ?_ (by assumption))))⟩
end Go.Proofs.YtipkjpcedfokhaaDoor
