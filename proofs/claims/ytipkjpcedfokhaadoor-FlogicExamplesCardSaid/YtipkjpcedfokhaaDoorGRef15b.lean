/- The reference of layer 15: value (printed by wip/mkref15b.py). -/
import Derived.Test.YtipkjpcedfokhaaDoorGRef15
import Derived.Test.YtipkjpcedfokhaaDoorGLogic6
namespace Go.Proofs.YtipkjpcedfokhaaDoor
set_option linter.unusedVariables false
set_option linter.unusedSimpArgs false
open Go.RowKit Lv

theorem rTrues_snoc (l : List Vl) (x : Vl) : rTrues (l ++ [x]) = rTrues l + if x.k = 2 ∧ x.n = 1 then 1 else 0 := by
  unfold rTrues
  rw [List.filter_append, List.length_append]
  congr 1
  by_cases h : x.k = 2 ∧ x.n = 1 <;> simp [h]
theorem rTrues_le (l : List Vl) : rTrues l ≤ l.length := List.length_filter_le _ _

set_option maxHeartbeats 8000000 in
set_option maxRecDepth 100000 in
theorem rval_any (fn : Nat) (h1 : 20 ≤ fn) (h2 : fn ≤ 30) (n5 : fn ≠ 25) (n6 : fn ≠ 26) (A : Option Addr) (cap : Nat) (l : List Vl) (w : World) (hr : RowV w A l) (hl : l.length ≤ 100) (hc : l.length ≤ cap) (hs : ∀ v ∈ l, Small v) (hne : 1 ≤ l.length) (h20 : fn = 20 → 2 ≤ l.length ∧ l.length ≤ 3) :
    Calls Tryd.prog 93 #[.int .u8 fn, .slice A l.length cap] w fun e w' => e = .returned (aggV (rVal fn l)) ∧ Kept w w' := by
  obtain ⟨n, hn⟩ : ∃ n, n = l.length := ⟨_, rfl⟩
  have HN := Lib.hid hn
  have HR := Lib.hid hr
  have HS := Lib.hid hs
  have H20 := Lib.hid h20
  have HNE := Lib.hid hne
  obtain ⟨b, off, rfl, _⟩ := hr 0 (by omega)
  rw [← hn] at hl hc ⊢
  have B0 : Hid (Box (w.alloc (.cells #[.int .u8 0, .int .i64 0, .string ⟨#[]⟩] 35)) w.heap.size 35 (cellsV blankV)) := Lib.hid (Box.new w _ _)
  clear hn hr hs h20 hne
  go_enter Tryd.func93, Tryd.ntmps93
  go_wp2_with fail
  go_loopw [5, 6] (fun t i wr => ∃ k z : Nat, k ≤ n ∧ i = .int .i64 k ∧ t = .int .i64 z ∧ z = rTrues (l.take k) ∧ z ≤ k ∧ Kept w wr ∧ Box wr w.heap.size 35 (cellsV blankV)) (fun _ i _ => n - (intOf i).toNat)
  case atStart => exact ⟨0, 0, by omega, rfl, rfl, rfl, by omega, (by repeat (first | with_reducible exact Kept.refl _ | with_reducible apply Kept.drew | with_reducible apply Kept.drewN | with_reducible apply Kept.alloc | (with_reducible refine Kept.setCellX ?_ ?_ _; focus (first | (simp; done) | (simp; omega))) | (with_reducible refine Kept.trans ?_ (by assumption)))), B0.out⟩
  case round =>
    obtain ⟨k, z, hk, rfl, rfl, hz, zk, kw, bx⟩ := hrel
    have HZ := Lib.hid hz
    have KW := Lib.hid kw
    have BX := Lib.hid bx
    clear hz kw bx
    by_cases hlt : k < n
    · have hkl : k < l.length := by rw [← HN.out]; exact hlt
      obtain ⟨_, x0, x1, x2⟩ := (HR.out.kept KW.out).nth k hkl
      have tk : l.take (k + 1) = l.take k ++ [l.getD k blankV] := by
        rw [List.take_succ_eq_append_getElem hkl, show l.getD k blankV = l[k] by simp [List.getD, hkl]]
      have TK := Lib.hid tk
      clear tk
      generalize l.getD k blankV = x at *
      rcases (show (x.k = 2 ∧ x.n = 1) ∨ (x.k = 2 ∧ ¬ x.n = 1) ∨ ¬ x.k = 2 by omega) with ⟨c, d⟩ | ⟨c, d⟩ | c
      · have f1 : ((x.k : Int) == 2) = true := by rw [beq_iff_eq]; omega
        have f2 : (x.n == 1) = true := by rw [beq_iff_eq]; exact d
        have UP : Hid (rTrues (l.take (k + 1)) = z + 1) := by
          show _ = _
          rw [TK.out, rTrues_snoc, ← HZ.out, if_pos ⟨c, d⟩]
        clear c d
        go_wp2_with fail
        go_roundw
        case rel => exact ⟨k + 1, z + 1, by omega, by go_num, by go_num, UP.out.symm, by omega, KW.out, BX.out⟩
        case measure => (simp [intOf]; try omega)
      · have f1 : ((x.k : Int) == 2) = true := by rw [beq_iff_eq]; omega
        have f2 : (x.n == 1) = false := by simpa using d
        have UP : Hid (rTrues (l.take (k + 1)) = z) := by
          show _ = _
          rw [TK.out, rTrues_snoc, ← HZ.out, if_neg (fun x => d x.2), Nat.add_zero]
        clear c d
        go_wp2_with fail
        go_roundw
        case rel => exact ⟨k + 1, z, by omega, by go_num, by go_num, UP.out.symm, by omega, KW.out, BX.out⟩
        case measure => (simp [intOf]; try omega)
      · have f1 : ((x.k : Int) == 2) = false := by rw [beq_eq_false_iff_ne]; omega
        have UP : Hid (rTrues (l.take (k + 1)) = z) := by
          show _ = _
          rw [TK.out, rTrues_snoc, ← HZ.out, if_neg (fun x => c x.1), Nat.add_zero]
        clear c
        go_wp2_with fail
        go_roundw
        case rel => exact ⟨k + 1, z, by omega, by go_num, by go_num, UP.out.symm, by omega, KW.out, BX.out⟩
        case measure => (simp [intOf]; try omega)
    · obtain rfl : k = n := by omega
      have e : l.take k = l := List.take_of_length_le (by rw [← HN.out]; omega)
      have HZ : Hid (z = rTrues l) := Lib.hid (by have := HZ.out; rwa [e] at this)
      obtain ⟨i0, p0, p1, p2, f0, f1, f2⟩ := BX.out.three
      clear e hlt
      have k1 : 1 ≤ k := by have := HNE.out; rw [← HN.out] at this; exact this
      have LOAD := Lib.hid (fun i (hi : i < l.length) => (HR.out.kept KW.out).nth i hi)
      rcases (show fn = 20 ∨ fn = 21 ∨ fn = 22 ∨ fn = 23 ∨ fn = 24 ∨ fn = 27 ∨ fn = 28 ∨ fn = 29 ∨ fn = 30 by omega) with rfl | rfl | rfl | rfl | rfl | rfl | rfl | rfl | rfl
      · obtain ⟨m1, m2⟩ := H20.out rfl
        rw [← HN.out] at m1 m2
        obtain ⟨hb0, y00, y01, y02⟩ := LOAD.out 0 (by rw [← HN.out]; omega)
        simp only [Nat.zero_mul, Nat.add_zero] at y00 y01 y02
        by_cases c : (l.getD 0 blankV).n = 1
        · have cb : ((l.getD 0 blankV).n == 1) = true := by rw [beq_iff_eq]; exact c
          have EF : Hid (rVal 20 l = l.getD 1 blankV) := by
            show _ = _
            unfold rVal; rw [if_pos rfl, if_pos c]
          generalize l.getD 0 blankV = v0 at *
          clear c
          obtain ⟨hb1, y10, y11, y12⟩ := LOAD.out 1 (by rw [← HN.out]; omega)
          simp only [Nat.one_mul] at y10 y11 y12
          go_wp2_with fail
          exact bodyPost_ret (v := aggV (l.getD 1 blankV)) (by simp [results, Tryd.results93, go_sem, p0, p1, p2, i0]) rfl ⟨congrArg (fun z => Ending.returned (aggV z)) EF.out.symm, KW.out.set3 (Nat.le_refl _)⟩
        · have cb : ((l.getD 0 blankV).n == 1) = false := by simpa using c
          by_cases d : k = 3
          · have EF : Hid (rVal 20 l = l.getD 2 blankV) := by
              show _ = _
              unfold rVal; rw [if_pos rfl, if_neg c, if_pos (by rw [← HN.out]; exact d)]
            generalize l.getD 0 blankV = v0 at *
            subst d
            clear c
            obtain ⟨hb2, y20, y21, y22⟩ := LOAD.out 2 (by rw [← HN.out]; omega)
            have y20 := y20; simp only [show 2 * 3 = 6 from rfl] at y20 y21 y22
            go_wp2_with fail
            exact bodyPost_ret (v := aggV (l.getD 2 blankV)) (by simp [results, Tryd.results93, go_sem, p0, p1, p2, i0]) rfl ⟨congrArg (fun z => Ending.returned (aggV z)) EF.out.symm, KW.out.set3 (Nat.le_refl _)⟩
          · have EF : Hid (rVal 20 l = vTruth false) := by
              show _ = _
              unfold rVal; rw [if_pos rfl, if_neg c, if_neg (by rw [← HN.out]; exact d)]
            have db : ((k : Int) == 3) = false := by rw [beq_eq_false_iff_ne]; omega
            have T := Lib.hid (fun w => rtruth_any false w)
            generalize l.getD 0 blankV = v0 at *
            clear c d
            go_wp2_with fail
            refine (T.out _).mono ?_
            rintro e w2 ⟨rfl, k2⟩
            obtain ⟨j0, q0, q1, q2, g0, g1, g2⟩ := (BX.out.kept k2).three
            have KW := Lib.hid (KW.out.trans k2)
            clear k2
            go_wp2_with fail
            exact bodyPost_ret (v := aggV (vTruth false)) (by simp [results, Tryd.results93, go_sem, q0, q1, q2, j0]) rfl ⟨congrArg (fun z => Ending.returned (aggV z)) EF.out.symm, KW.out.set3 (Nat.le_refl _)⟩
      · obtain ⟨bb, hbb⟩ : ∃ bb, bb = ((z : Int) == (k : Int)) := ⟨_, rfl⟩
        have EF : Hid (rVal 21 l = vTruth bb) := by
          show _ = _
          rw [hbb]
          unfold rVal; rw [if_neg (by omega), if_pos rfl, ← HZ.out, ← HN.out]; congr 1; rw [Bool.eq_iff_iff, beq_iff_eq, decide_eq_true_eq]; omega
        have T := Lib.hid (fun w => rtruth_any bb w)
        have yb := hbb.symm
        clear hbb
        go_wp2_with fail
        refine (T.out _).mono ?_
        rintro e w2 ⟨rfl, k2⟩
        obtain ⟨j0, q0, q1, q2, g0, g1, g2⟩ := (BX.out.kept k2).three
        have KW := Lib.hid (KW.out.trans k2)
        clear k2
        go_wp2_with fail
        exact bodyPost_ret (v := aggV (vTruth bb)) (by simp [results, Tryd.results93, go_sem, q0, q1, q2, j0]) rfl ⟨congrArg (fun z => Ending.returned (aggV z)) EF.out.symm, KW.out.set3 (Nat.le_refl _)⟩
      · obtain ⟨bb, hbb⟩ : ∃ bb, bb = (decide (0 < z)) := ⟨_, rfl⟩
        have EF : Hid (rVal 22 l = vTruth bb) := by
          show _ = _
          rw [hbb]
          unfold rVal; rw [if_neg (by omega), if_neg (by omega), if_pos rfl, ← HZ.out]
        have T := Lib.hid (fun w => rtruth_any bb w)
        have yb := hbb.symm
        clear hbb
        go_wp2_with fail
        refine (T.out _).mono ?_
        rintro e w2 ⟨rfl, k2⟩
        obtain ⟨j0, q0, q1, q2, g0, g1, g2⟩ := (BX.out.kept k2).three
        have KW := Lib.hid (KW.out.trans k2)
        clear k2
        go_wp2_with fail
        exact bodyPost_ret (v := aggV (vTruth bb)) (by simp [results, Tryd.results93, go_sem, q0, q1, q2, j0]) rfl ⟨congrArg (fun z => Ending.returned (aggV z)) EF.out.symm, KW.out.set3 (Nat.le_refl _)⟩
      · obtain ⟨bb, hbb⟩ : ∃ bb, bb = ((z : Int) % 2 == 1) := ⟨_, rfl⟩
        have EF : Hid (rVal 23 l = vTruth bb) := by
          show _ = _
          rw [hbb]
          unfold rVal; rw [if_neg (by omega), if_neg (by omega), if_neg (by omega), if_pos rfl, ← HZ.out]; congr 1; rw [Bool.eq_iff_iff, beq_iff_eq, decide_eq_true_eq]; omega
        have T := Lib.hid (fun w => rtruth_any bb w)
        have yb := hbb.symm
        clear hbb
        go_wp2_with fail
        refine (T.out _).mono ?_
        rintro e w2 ⟨rfl, k2⟩
        obtain ⟨j0, q0, q1, q2, g0, g1, g2⟩ := (BX.out.kept k2).three
        have KW := Lib.hid (KW.out.trans k2)
        clear k2
        go_wp2_with fail
        exact bodyPost_ret (v := aggV (vTruth bb)) (by simp [results, Tryd.results93, go_sem, q0, q1, q2, j0]) rfl ⟨congrArg (fun z => Ending.returned (aggV z)) EF.out.symm, KW.out.set3 (Nat.le_refl _)⟩
      · obtain ⟨bb, hbb⟩ : ∃ bb, bb = ((z : Int) == 0) := ⟨_, rfl⟩
        have EF : Hid (rVal 24 l = vTruth bb) := by
          show _ = _
          rw [hbb]
          unfold rVal; rw [if_neg (by omega), if_neg (by omega), if_neg (by omega), if_neg (by omega), if_pos rfl, ← HZ.out]; congr 1; rw [Bool.eq_iff_iff, beq_iff_eq, decide_eq_true_eq]; omega
        have T := Lib.hid (fun w => rtruth_any bb w)
        have yb := hbb.symm
        clear hbb
        go_wp2_with fail
        refine (T.out _).mono ?_
        rintro e w2 ⟨rfl, k2⟩
        obtain ⟨j0, q0, q1, q2, g0, g1, g2⟩ := (BX.out.kept k2).three
        have KW := Lib.hid (KW.out.trans k2)
        clear k2
        go_wp2_with fail
        exact bodyPost_ret (v := aggV (vTruth bb)) (by simp [results, Tryd.results93, go_sem, q0, q1, q2, j0]) rfl ⟨congrArg (fun z => Ending.returned (aggV z)) EF.out.symm, KW.out.set3 (Nat.le_refl _)⟩
      · obtain ⟨bb, hbb⟩ : ∃ bb, bb = (((l.getD 0 blankV).k : Int) == 0) := ⟨_, rfl⟩
        have EF : Hid (rVal 27 l = vTruth bb) := by
          show _ = _
          rw [hbb]
          show vTruth _ = vTruth _
          congr 1; rw [Bool.eq_iff_iff, beq_iff_eq, decide_eq_true_eq]; omega
        obtain ⟨hb0, y00, y01, y02⟩ := LOAD.out 0 (by rw [← HN.out]; omega)
        simp only [Nat.zero_mul, Nat.add_zero] at y00 y01 y02
        generalize l.getD 0 blankV = v0 at *
        have T := Lib.hid (fun w => rtruth_any bb w)
        have yb := hbb.symm
        clear hbb
        go_wp2_with fail
        refine (T.out _).mono ?_
        rintro e w2 ⟨rfl, k2⟩
        obtain ⟨j0, q0, q1, q2, g0, g1, g2⟩ := (BX.out.kept k2).three
        have KW := Lib.hid (KW.out.trans k2)
        clear k2
        go_wp2_with fail
        exact bodyPost_ret (v := aggV (vTruth bb)) (by simp [results, Tryd.results93, go_sem, q0, q1, q2, j0]) rfl ⟨congrArg (fun z => Ending.returned (aggV z)) EF.out.symm, KW.out.set3 (Nat.le_refl _)⟩
      · obtain ⟨bb, hbb⟩ : ∃ bb, bb = (((l.getD 0 blankV).k : Int) == 1) := ⟨_, rfl⟩
        have EF : Hid (rVal 28 l = vTruth bb) := by
          show _ = _
          rw [hbb]
          show vTruth _ = vTruth _
          congr 1; rw [Bool.eq_iff_iff, beq_iff_eq, decide_eq_true_eq]; omega
        obtain ⟨hb0, y00, y01, y02⟩ := LOAD.out 0 (by rw [← HN.out]; omega)
        simp only [Nat.zero_mul, Nat.add_zero] at y00 y01 y02
        generalize l.getD 0 blankV = v0 at *
        have T := Lib.hid (fun w => rtruth_any bb w)
        have yb := hbb.symm
        clear hbb
        go_wp2_with fail
        refine (T.out _).mono ?_
        rintro e w2 ⟨rfl, k2⟩
        obtain ⟨j0, q0, q1, q2, g0, g1, g2⟩ := (BX.out.kept k2).three
        have KW := Lib.hid (KW.out.trans k2)
        clear k2
        go_wp2_with fail
        exact bodyPost_ret (v := aggV (vTruth bb)) (by simp [results, Tryd.results93, go_sem, q0, q1, q2, j0]) rfl ⟨congrArg (fun z => Ending.returned (aggV z)) EF.out.symm, KW.out.set3 (Nat.le_refl _)⟩
      · obtain ⟨bb, hbb⟩ : ∃ bb, bb = (((l.getD 0 blankV).k : Int) == 3) := ⟨_, rfl⟩
        have EF : Hid (rVal 29 l = vTruth bb) := by
          show _ = _
          rw [hbb]
          show vTruth _ = vTruth _
          congr 1; rw [Bool.eq_iff_iff, beq_iff_eq, decide_eq_true_eq]; omega
        obtain ⟨hb0, y00, y01, y02⟩ := LOAD.out 0 (by rw [← HN.out]; omega)
        simp only [Nat.zero_mul, Nat.add_zero] at y00 y01 y02
        generalize l.getD 0 blankV = v0 at *
        have T := Lib.hid (fun w => rtruth_any bb w)
        have yb := hbb.symm
        clear hbb
        go_wp2_with fail
        refine (T.out _).mono ?_
        rintro e w2 ⟨rfl, k2⟩
        obtain ⟨j0, q0, q1, q2, g0, g1, g2⟩ := (BX.out.kept k2).three
        have KW := Lib.hid (KW.out.trans k2)
        clear k2
        go_wp2_with fail
        exact bodyPost_ret (v := aggV (vTruth bb)) (by simp [results, Tryd.results93, go_sem, q0, q1, q2, j0]) rfl ⟨congrArg (fun z => Ending.returned (aggV z)) EF.out.symm, KW.out.set3 (Nat.le_refl _)⟩
      · have ib := (HS.out (l.getD 0 blankV) (by have h0 : 0 < l.length := by { rw [← HN.out]; have := HNE.out; rw [← HN.out] at this; omega }; rw [show l.getD 0 blankV = l[0] by simp [List.getD, h0]]; exact List.getElem_mem h0)).1
        obtain ⟨hb0, y00, y01, y02⟩ := LOAD.out 0 (by rw [← HN.out]; omega)
        simp only [Nat.zero_mul, Nat.add_zero] at y00 y01 y02
        obtain ⟨q, hq⟩ : ∃ q, q = Int.tdiv (l.getD 0 blankV).n 10000 := ⟨_, rfl⟩
        have zb : -9223372036854775808 ≤ q ∧ q ≤ 9223372036854775807 := by
          obtain ⟨ib1, ib2⟩ := ib
          rw [hq]
          rcases Int.lt_or_le (l.getD 0 blankV).n 0 with c | c
          · have := Int.neg_tdiv (a := (l.getD 0 blankV).n) (b := 10000)
            have h3 : Int.tdiv (-(l.getD 0 blankV).n) 10000 = (-(l.getD 0 blankV).n) / 10000 := Int.tdiv_eq_ediv_of_nonneg (by omega)
            omega
          · have h3 : Int.tdiv (l.getD 0 blankV).n 10000 = (l.getD 0 blankV).n / 10000 := Int.tdiv_eq_ediv_of_nonneg c
            omega
        have e30 : rVal 30 l = if 1 ≤ q ∧ q < (l.length : Nat) then l.getD q.toNat blankV else vFail 2 := by rw [hq]; rfl
        rw [← HN.out] at e30
        have e := hq.symm
        clear hq ib
        obtain ⟨zb1, zb2⟩ := zb
        generalize l.getD 0 blankV = v0 at *
        by_cases ok : 1 ≤ q ∧ q < (k : Int)
        · obtain ⟨m, hm⟩ : ∃ m : Nat, q = ((m : Nat) : Int) := ⟨q.toNat, by omega⟩
          have mk : m < l.length := by rw [← HN.out]; omega
          have m1 : 1 ≤ m := by omega
          have EF : Hid (rVal 30 l = l.getD m blankV) := by
            show _ = _
            rw [e30, if_pos ok, show q.toNat = m by omega]
          subst hm
          obtain ⟨ok1, ok2⟩ := ok
          obtain ⟨hb1, y0, y1, y2⟩ := LOAD.out m mk
          clear e30 mk
          generalize l.getD m blankV = v at *
          go_wp2_with fail
          exact bodyPost_ret (v := aggV v) (by simp [results, Tryd.results93, go_sem, p0, p1, p2, i0]) rfl ⟨congrArg (fun z => Ending.returned (aggV z)) EF.out.symm, KW.out.set3 (Nat.le_refl _)⟩
        · have EF : Hid (rVal 30 l = vFail 2) := by
            show _ = _
            rw [e30, if_neg ok]
          have T := Lib.hid (fun w => rfail_any 2 w)
          generalize vFail 2 = fv at *
          clear e30
          by_cases c1 : q < 1
          · clear ok
            go_wp2_with fail
            refine (T.out _).mono ?_
            rintro e w2 ⟨rfl, k2⟩
            obtain ⟨j0, q0, q1, q2, g0, g1, g2⟩ := (BX.out.kept k2).three
            have KW := Lib.hid (KW.out.trans k2)
            clear k2
            go_wp2_with fail
            exact bodyPost_ret (v := aggV fv) (by simp [results, Tryd.results93, go_sem, q0, q1, q2, j0]) rfl ⟨congrArg (fun z => Ending.returned (aggV z)) EF.out.symm, KW.out.set3 (Nat.le_refl _)⟩
          · have c2 : (k : Int) ≤ q := by omega
            clear ok
            go_wp2_with fail
            refine (T.out _).mono ?_
            rintro e w2 ⟨rfl, k2⟩
            obtain ⟨j0, q0, q1, q2, g0, g1, g2⟩ := (BX.out.kept k2).three
            have KW := Lib.hid (KW.out.trans k2)
            clear k2
            go_wp2_with fail
            exact bodyPost_ret (v := aggV fv) (by simp [results, Tryd.results93, go_sem, q0, q1, q2, j0]) rfl ⟨congrArg (fun z => Ending.returned (aggV z)) EF.out.symm, KW.out.set3 (Nat.le_refl _)⟩
end Go.Proofs.YtipkjpcedfokhaaDoor
