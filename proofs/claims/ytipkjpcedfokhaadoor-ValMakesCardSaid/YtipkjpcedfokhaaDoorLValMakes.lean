/- The law ValMakes, walked. -/
import Derived.Test.YtipkjpcedfokhaaDoorBunC
import Derived.Test.YtipkjpcedfokhaaDoorGShow3
import Derived.Test.YtipkjpcedfokhaaDoorMVal3
namespace Go.Proofs.YtipkjpcedfokhaaDoor
set_option linter.unusedVariables false
set_option linter.unusedSimpArgs false
open Go.RowKit Lv

set_option maxHeartbeats 8000000 in
set_option maxRecDepth 100000 in
theorem makes_main (k : Nat) (m n : Int) (t l : List UInt8) (w : World) (mx : Int) (hm : Mx w mx) (wd : Wd w) (b : Bool) (hb : decide (0 < n) = b) (c c1 c2 : Int) (x y z : Vl) (sh : List UInt8) (hl : l.length ≤ 2000)
    (LA : Hid (∀ w, Calls Tryd.prog 39 #[.agg #[.int .u8 k, .int .i64 m, .string ⟨t.toArray⟩]] w fun e w' => e = .returned (.bool false) ∧ Kept w w'))
    (D1 : Hid (∀ w, Wd w → Calls Tryd.prog 54 #[.string ⟨l.toArray⟩] w fun e w' => e = .returned (.tuple #[.int .i64 c1, .int .i64 c2]) ∧ Kept w w'))
    (D2 : Hid (∀ w, Calls Tryd.prog 55 #[.string ⟨l.toArray⟩] w fun e w' => e = .returned (.tuple #[.int .i64 c1, .int .i64 c2]) ∧ Kept w w'))
    (C1 : Hid (∀ w, Calls Tryd.prog 51 #[.agg #[.int .u8 k, .int .i64 m, .string ⟨t.toArray⟩]] w fun e w' => e = .returned (.int .i64 c) ∧ Kept w w'))
    (C2 : Hid (∀ w, Calls Tryd.prog 56 #[.agg #[.int .u8 k, .int .i64 m, .string ⟨t.toArray⟩]] w fun e w' => e = .returned (.int .i64 c) ∧ Kept w w'))
    (M1 : Hid (∀ w, Calls Tryd.prog 57 #[.int .i64 n] w fun e w' => e = .returned (aggV x) ∧ Kept w w'))
    (M2 : Hid (∀ w, Calls Tryd.prog 58 #[.int .i64 n] w fun e w' => e = .returned (aggV x) ∧ Kept w w'))
    (T1 : Hid (∀ w, Calls Tryd.prog 59 #[.bool b] w fun e w' => e = .returned (aggV y) ∧ Kept w w'))
    (T2 : Hid (∀ w, Calls Tryd.prog 60 #[.bool b] w fun e w' => e = .returned (aggV y) ∧ Kept w w'))
    (F1 : Hid (∀ w, Calls Tryd.prog 61 #[.int .i64 n] w fun e w' => e = .returned (aggV z) ∧ Kept w w'))
    (F2 : Hid (∀ w, Calls Tryd.prog 62 #[.int .i64 n] w fun e w' => e = .returned (aggV z) ∧ Kept w w'))
    (S1 : Hid (∀ w, Wd w → Calls Tryd.prog 63 #[.agg #[.int .u8 k, .int .i64 m, .string ⟨t.toArray⟩]] w fun e w' => e = .returned (.string ⟨sh.toArray⟩) ∧ Kept w w'))
    (S2 : Hid (∀ w, Calls Tryd.prog 64 #[.agg #[.int .u8 k, .int .i64 m, .string ⟨t.toArray⟩]] w fun e w' => e = .returned (.string ⟨sh.toArray⟩) ∧ Kept w w')) :
    Calls Tryd.prog 17 #[.agg #[.int .u8 k, .int .i64 m, .string ⟨t.toArray⟩], .int .i64 n, .string ⟨l.toArray⟩] w fun e w' => e = .returned (.bool true) ∧ Kept w w' := by
  have Z := ba_size
  have HM := Lib.hid hm
  have WD := Lib.hid wd
  have hl2 : decide (2000 < l.length) = false := decide_eq_false (by omega)
  have B0 : Hid (∀ w : World, Box (w.alloc (.cells (cellsV ⟨k, m, t⟩) 35)) w.heap.size 35 (cellsV ⟨k, m, t⟩)) := fun w => Box.new w _ _
  clear hm wd
  go_enter Tryd.func17, Tryd.ntmps17
  go_wp2_with fail
  refine (LA.out _).mono ?_
  rintro e w1 ⟨rfl, k1⟩
  have kk := ((Kept.refl w).alloc (.cells (cellsV ⟨k, m, t⟩) 35)).trans k1
  have bx := Lib.hid ((B0.out w).kept k1)
  clear k1
  go_wp2_with fail
  refine (D1.out _ (WD.out.kept kk)).mono ?_
  rintro e w2 ⟨rfl, k2⟩
  have kk2 := kk.trans k2
  have bx := Lib.hid (bx.out.kept k2)
  clear kk k2
  go_wp2_with fail
  refine (D2.out _).mono ?_
  rintro e w3 ⟨rfl, k3⟩
  have kk3 := kk2.trans k3
  have bx := bx.out.kept k3
  clear kk2 k3
  have s0 : w3.cell? ⟨w.heap.size, 0, none⟩ = some (.int .u8 k) := bx.cell 0
  have s1 : w3.cell? ⟨w.heap.size, 1, none⟩ = some (.int .i64 m) := bx.cell 1
  have s2 : w3.cell? ⟨w.heap.size, 2, none⟩ = some (.string ⟨t.toArray⟩) := bx.cell 2
  have WX : Hid (∀ d os, Wd (Go.Sort.grow (redrawn w3 d) os)) := fun d os => (WD.out.kept kk3).kept (below_regrown w3 d os)
  clear bx
  go_wp2_with fail
  have A0 := cell_regrown s0; have A1 := cell_regrown s1; have A2 := cell_regrown s2
  refine wp_region_quiet_below (w := w3) (by kernel_rfl) (by kernel_rfl) ?_
  repeat (quiet_step (first | with_reducible exact Calls.regrown_of (C1.out _) | with_reducible exact Calls.regrown_of (C2.out _) | with_reducible exact Calls.regrown_of (M1.out _) | with_reducible exact Calls.regrown_of (M2.out _) | with_reducible exact Calls.regrown_of (T1.out _) | with_reducible exact Calls.regrown_of (T2.out _) | with_reducible exact Calls.regrown_of (F1.out _) | with_reducible exact Calls.regrown_of (F2.out _) | with_reducible exact Calls.regrown_of (S1.out _ (WX.out _ _)) | with_reducible exact Calls.regrown_of (S2.out _)))
  refine wpQuiet_nil ?_
  intro _ hw'; obtain ⟨⟨dq, osq⟩, hw''⟩ := hw'; subst hw''
  have kq : Kept w3 (Go.Sort.grow (redrawn w3 dq) osq) := below_regrown w3 dq osq
  generalize Go.Sort.grow (redrawn w3 dq) osq = w3q at *
  have kk := kk3.trans kq
  go_wp2_with fail
  go_ret
  exact ⟨rfl, kk⟩

set_option maxHeartbeats 2000000 in
set_option maxRecDepth 100000 in
theorem makes_long (k : Nat) (m n : Int) (t l : List UInt8) (w : World) (mx : Int) (hm : Mx w mx) (wd : Wd w) (b : Bool)
    (LA : Hid (∀ w, Calls Tryd.prog 39 #[.agg #[.int .u8 k, .int .i64 m, .string ⟨t.toArray⟩]] w fun e w' => e = .returned (.bool b) ∧ Kept w w'))
    (h : b = true ∨ b = false ∧ decide (2000 < l.length) = true) (hs : l.length ≤ maxLen) :
    Calls Tryd.prog 17 #[.agg #[.int .u8 k, .int .i64 m, .string ⟨t.toArray⟩], .int .i64 n, .string ⟨l.toArray⟩] w fun e w' => e = .returned (.bool true) ∧ Kept w w' := by
  have K := Lib.hid (fun w h h' => known5_any w mx h h')
  have Z := ba_size
  have HM := Lib.hid hm
  have WD := Lib.hid wd
  unfold maxLen at hs
  clear hm wd
  rcases h with rfl | ⟨rfl, h⟩
  · clear hs
    go_enter Tryd.func17, Tryd.ntmps17
    go_wp2_with fail
    refine (LA.out _).mono ?_
    rintro e w1 ⟨rfl, k1⟩
    have kk := ((Kept.refl w).alloc (.cells (cellsV ⟨k, m, t⟩) 35)).trans k1
    go_wp2_with fail
    refine (K.out _ (HM.out.kept kk) (WD.out.kept kk)).mono ?_
    rintro e w2 ⟨rfl, k2⟩
    go_wp2_with fail
    go_ret
    exact ⟨rfl, kk.trans k2⟩
  · have h2 : 2000 < l.length := of_decide_eq_true h
    clear h
    go_enter Tryd.func17, Tryd.ntmps17
    go_wp2_with fail
    refine (LA.out _).mono ?_
    rintro e w1 ⟨rfl, k1⟩
    have kk := ((Kept.refl w).alloc (.cells (cellsV ⟨k, m, t⟩) 35)).trans k1
    go_wp2_with fail
    refine (K.out _ (HM.out.kept kk) (WD.out.kept kk)).mono ?_
    rintro e w2 ⟨rfl, k2⟩
    go_wp2_with fail
    go_ret
    exact ⟨rfl, kk.trans k2⟩

theorem i64_of_lit6 {a : Int} (h : (Lit.int .i64 a).wf = true) : i64 a := by
  have := Go.bounds_i64 h
  unfold i64; omega

theorem ValMakes_walk (a0 : Vl) (a1 : Int) (a2 : ByteArray) (w0 : i64 a0.n ∧ a0.t.length ≤ maxLen) (w1 : (Lit.int .i64 a1).wf = true) (w2 : a2.size ≤ maxLen) (w : World) (mx : Int) (hm : Mx w mx) (wd : Wd w) :
    Calls Tryd.prog 17 #[aggV a0, .int .i64 a1, .string a2] w fun e w' => e = .returned (.bool true) ∧ Below w.heap.size w w' := by
  obtain ⟨k, m, t⟩ := a0
  obtain ⟨l, rfl⟩ := list_of a2
  have hs : l.length ≤ maxLen := w2
  obtain ⟨n1, t1⟩ := w0
  simp only at n1 t1
  unfold maxLen at t1
  have hi : i64 a1 := i64_of_lit6 w1
  have LA := Lib.hid (fun w => long_v k m t w (by omega))
  by_cases c1 : 2000 < t.length
  · rw [decide_eq_true c1] at LA
    exact makes_long k m a1 t l w mx hm wd true LA (Or.inl rfl) hs
  · rw [decide_eq_false c1] at LA
    by_cases c2 : 2000 < l.length
    · exact makes_long k m a1 t l w mx hm wd false LA (Or.inr ⟨rfl, decide_eq_true c2⟩) hs
    · have hl : l.length ≤ 2000 := by omega
      have ht : t.length ≤ 2000 := by omega
      exact makes_main k m a1 t l w mx hm wd (decide (0 < a1)) rfl (vChk ⟨k, m, t⟩) (vCode l).1 (vCode l).2 (vMake a1) (vTruth (decide (0 < a1))) (vFail a1) (vShow ⟨k, m, t⟩) hl LA
        (fun w h => vcode_any l w h (by omega)) (fun w => rcode_any l w (by omega)) (fun w => vcheck5_any ⟨k, m, t⟩ w n1 (by simp only; omega)) (fun w => rcheck5_any ⟨k, m, t⟩ w n1 (by simp only; omega))
        (fun w => vmake_any a1 w hi.1 hi.2) (fun w => rmake_any a1 w hi.1 hi.2) (fun w => vtruth_any _ w) (fun w => rtruth_any _ w) (fun w => vfail_any a1 w) (fun w => rfail_any a1 w)
        (fun w h => vshow_any ⟨k, m, t⟩ w h n1 (by simp only; omega)) (fun w => rshow_any ⟨k, m, t⟩ w n1 (by simp only; omega))
end Go.Proofs.YtipkjpcedfokhaaDoor
