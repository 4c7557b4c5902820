/- The law ValCompares, walked. -/
import Derived.Test.YtipkjpcedfokhaaDoorBunC
import Derived.Test.YtipkjpcedfokhaaDoorBunV
namespace Go.Proofs.YtipkjpcedfokhaaDoor
set_option linter.unusedVariables false
set_option linter.unusedSimpArgs false
open Go.RowKit Lv

set_option maxHeartbeats 1000000 in
set_option maxRecDepth 100000 in
theorem ValCompares_walk (a0 a1 : Vl) (w0 : i64 a0.n ∧ a0.t.length ≤ maxLen) (w1 : i64 a1.n ∧ a1.t.length ≤ maxLen) (w : World) (mx : Int) (hm : Mx w mx) (wd : Wd w) :
    Calls Tryd.prog 10 #[aggV a0, aggV a1] w fun e w' => e = .returned (.bool true) ∧ Below w.heap.size w w' := by
  obtain ⟨k, n, t⟩ := a0
  obtain ⟨j, m, u⟩ := a1
  obtain ⟨n1, t1⟩ := w0
  obtain ⟨m1, u1⟩ := w1
  simp only at n1 t1 m1 u1
  unfold maxLen at t1 u1
  have LA := Lib.hid (fun w => long_v k n t w (by omega))
  have LB := Lib.hid (fun w => long_v j m u w (by omega))
  have K := Lib.hid (fun w h h' => known5_any w mx h h')
  have HM := Lib.hid hm
  have WD := Lib.hid wd
  have T0 : Hid (∀ w : World, Two ((w.alloc (.cells (cellsV ⟨k, n, t⟩) 35)).alloc (.cells (cellsV ⟨j, m, u⟩) 35)) w.heap.size (w.heap.size + 1) ⟨k, n, t⟩ ⟨j, m, u⟩) := fun w => Two.made
  clear hm wd
  by_cases c1 : 2000 < t.length
  · rw [decide_eq_true c1] at LA
    clear n1 t1 m1 u1 c1
    go_enter Tryd.func10, Tryd.ntmps10
    go_wp2_with fail
    refine (LA.out _).mono ?_
    rintro e w1 ⟨rfl, k1⟩
    have kk := (((Kept.refl w).alloc _).alloc _).trans k1
    go_wp2_with fail
    refine (K.out _ (HM.out.kept kk) (WD.out.kept kk)).mono ?_
    rintro e w2 ⟨rfl, k2⟩
    go_wp2_with fail
    go_ret
    exact ⟨rfl, kk.trans k2⟩
  rw [decide_eq_false c1] at LA
  by_cases c2 : 2000 < u.length
  · rw [decide_eq_true c2] at LB
    clear n1 t1 m1 u1 c1 c2
    go_enter Tryd.func10, Tryd.ntmps10
    go_wp2_with fail
    refine (LA.out _).mono ?_
    rintro e w1 ⟨rfl, k1⟩
    have T := (T0.out w).kept k1
    have kk := (((Kept.refl w).alloc _).alloc _).trans k1
    obtain ⟨p1, q1, a0, a1, a2, b0, b1, b2, fa, fb⟩ := T.facts
    go_wp2_with fail
    refine (LB.out _).mono ?_
    rintro e w2 ⟨rfl, k2⟩
    have kk2 := kk.trans k2
    go_wp2_with fail
    refine (K.out _ (HM.out.kept kk2) (WD.out.kept kk2)).mono ?_
    rintro e w3 ⟨rfl, k3⟩
    go_wp2_with fail
    go_ret
    exact ⟨rfl, kk2.trans k3⟩
  · rw [decide_eq_false c2] at LB
    have A := Lib.hid (fun w => vcompare_any ⟨k, n, t⟩ ⟨j, m, u⟩ w n1 m1 (by simp only; omega) (by simp only; omega))
    have RA := Lib.hid (fun w => rcompare5_any ⟨k, n, t⟩ ⟨j, m, u⟩ w n1 m1 (by simp only; omega) (by simp only; omega))
    have B := Lib.hid (fun w => vcompare_any ⟨j, m, u⟩ ⟨k, n, t⟩ w m1 n1 (by simp only; omega) (by simp only; omega))
    have RB := Lib.hid (fun w => rcompare5_any ⟨j, m, u⟩ ⟨k, n, t⟩ w m1 n1 (by simp only; omega) (by simp only; omega))
    generalize vCmp ⟨k, n, t⟩ ⟨j, m, u⟩ = x at *
    generalize vCmp ⟨j, m, u⟩ ⟨k, n, t⟩ = y at *
    obtain ⟨x1, x2⟩ := x
    obtain ⟨y1, y2⟩ := y
    clear n1 t1 m1 u1 c1 c2 K HM WD
    have STEP : True := trivial
    go_enter Tryd.func10, Tryd.ntmps10
    go_wp2_with fail
    refine (LA.out _).mono ?_
    rintro e w1 ⟨rfl, k1⟩
    have T := (T0.out w).kept k1
    have kk := (((Kept.refl w).alloc _).alloc _).trans k1
    have TT := T.facts
    obtain ⟨p1, q1, a0, a1, a2, b0, b1, b2, fa, fb⟩ := TT
    go_wp2_with fail
    refine (LB.out _).mono ?_
    rintro e w2 ⟨rfl, k2⟩
    have T := T.kept k2
    have kk := kk.trans k2
    clear p1 q1 a0 a1 a2 b0 b1 b2 fa fb k1 k2
    have TT := T.facts
    obtain ⟨p1, q1, a0, a1, a2, b0, b1, b2, fa, fb⟩ := TT
    go_wp2_with fail
    refine (A.out _).mono ?_
    rintro e w3 ⟨rfl, k2⟩
    have T := T.kept k2
    have kk := kk.trans k2
    clear p1 q1 a0 a1 a2 b0 b1 b2 fa fb k2
    have TT := T.facts
    obtain ⟨p1, q1, a0, a1, a2, b0, b1, b2, fa, fb⟩ := TT
    go_wp2_with fail
    refine (RA.out _).mono ?_
    rintro e w4 ⟨rfl, k2⟩
    have T := T.kept k2
    have kk := kk.trans k2
    clear p1 q1 a0 a1 a2 b0 b1 b2 fa fb k2
    have TT := T.facts
    obtain ⟨p1, q1, a0, a1, a2, b0, b1, b2, fa, fb⟩ := TT
    go_wp2_with fail
    refine (B.out _).mono ?_
    rintro e w5 ⟨rfl, k2⟩
    have T := T.kept k2
    have kk := kk.trans k2
    clear p1 q1 a0 a1 a2 b0 b1 b2 fa fb k2
    have TT := T.facts
    obtain ⟨p1, q1, a0, a1, a2, b0, b1, b2, fa, fb⟩ := TT
    go_wp2_with fail
    refine (RB.out _).mono ?_
    rintro e w6 ⟨rfl, k2⟩
    have kk := kk.trans k2
    clear p1 q1 a0 a1 a2 b0 b1 b2 fa fb k2
    go_wp2_with fail
    go_ret
    exact ⟨rfl, kk⟩
end Go.Proofs.YtipkjpcedfokhaaDoor
