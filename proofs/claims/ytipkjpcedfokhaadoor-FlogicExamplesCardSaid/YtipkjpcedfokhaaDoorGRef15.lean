/- The reference of layer 15: Arity, Count, Valid, convert (printed by wip/mkref15.py). -/
import Derived.Test.YtipkjpcedfokhaaDoorGLogic2
namespace Go.Proofs.YtipkjpcedfokhaaDoor
set_option linter.unusedVariables false
set_option linter.unusedSimpArgs false
open Go.RowKit Lv

set_option maxHeartbeats 2000000 in
theorem arity8_any (fn : Nat) (h1 : 20 ≤ fn) (h2 : fn ≤ 30) (w : World) : Calls Tryd.prog 125 #[.int .u8 fn] w fun e w' => e = .returned (.tuple #[.int .i64 (lo15 fn : Nat), .int .i64 (hi15 fn : Nat)]) ∧ Kept w w' := by
  rcases (show fn = 20 ∨ fn = 21 ∨ fn = 22 ∨ fn = 23 ∨ fn = 24 ∨ fn = 25 ∨ fn = 26 ∨ fn = 27 ∨ fn = 28 ∨ fn = 29 ∨ fn = 30 by omega) with rfl | rfl | rfl | rfl | rfl | rfl | rfl | rfl | rfl | rfl | rfl
  all_goals
    go_enter Tryd.func125, Tryd.ntmps125
    go_wp2_with fail
    go_ret2
    exact ⟨rfl, (by repeat (first | with_reducible exact Kept.refl _ | with_reducible apply Kept.drew | with_reducible apply Kept.drewN | with_reducible apply Kept.alloc | (with_reducible refine Kept.setCellX ?_ ?_ _; focus (first | (simp; done) | (simp; omega))) | (with_reducible refine Kept.trans ?_ (by assumption))))⟩
theorem count13_any (fn : Nat) (h1 : 20 ≤ fn) (h2 : fn ≤ 30) (n : Nat) (w : World) : Calls Tryd.prog 90 #[.int .u8 fn, .int .i64 n] w fun e w' => e = .returned (.bool (decide (lo15 fn ≤ n ∧ n ≤ hi15 fn))) ∧ Kept w w' := by
  have AR := Lib.hid (fun w => arity8_any fn h1 h2 w)
  generalize lo15 fn = lo at *
  generalize hi15 fn = hi at *
  clear h1 h2
  by_cases c : lo ≤ n
  · by_cases d : n ≤ hi
    · have EF : Hid (decide (lo ≤ n ∧ n ≤ hi) = true) := decide_eq_true ⟨c, d⟩
      go_enter Tryd.func90, Tryd.ntmps90
      go_wp2_with fail
      refine (AR.out _).mono ?_
      rintro e w' ⟨rfl, k1⟩
      go_wp2_with fail
      go_ret
      exact ⟨ret_bool EF.out.symm, k1⟩
    · have EF : Hid (decide (lo ≤ n ∧ n ≤ hi) = false) := decide_eq_false (fun x => d x.2)
      have d' : hi < n := by omega
      go_enter Tryd.func90, Tryd.ntmps90
      go_wp2_with fail
      refine (AR.out _).mono ?_
      rintro e w' ⟨rfl, k1⟩
      go_wp2_with fail
      go_ret
      exact ⟨ret_bool EF.out.symm, k1⟩
  · have EF : Hid (decide (lo ≤ n ∧ n ≤ hi) = false) := decide_eq_false (fun x => c x.1)
    have d' : n < lo := by omega
    go_enter Tryd.func90, Tryd.ntmps90
    go_wp2_with fail
    refine (AR.out _).mono ?_
    rintro e w' ⟨rfl, k1⟩
    go_wp2_with fail
    go_ret
    exact ⟨ret_bool EF.out.symm, k1⟩

set_option maxHeartbeats 1000000 in
set_option maxRecDepth 100000 in
theorem valid13_any (A : Option Addr) (cap : Nat) (l : List Vl) (w : World) (hr : RowV w A l) (hs : ∀ v ∈ l, Small v) (hl : l.length ≤ 1000000) :
    Calls Tryd.prog 91 #[.slice A l.length cap] w fun e w' => e = .returned (.bool (l.all vOk)) ∧ Kept w w' := by
  obtain ⟨n, hn⟩ : ∃ n, n = l.length := ⟨_, rfl⟩
  have HN := Lib.hid hn
  have HR := Lib.hid hr
  have HS := Lib.hid hs
  rw [← hn] at hl ⊢
  clear hn hr hs
  go_enter Tryd.func91, Tryd.ntmps91
  go_wp2_with fail
  go_loopw [3] (fun i wr => ∃ k : Nat, k ≤ n ∧ i = .int .i64 k ∧ (∀ v ∈ l.take k, vOk v = true) ∧ Kept w wr) (fun i _ => n - (intOf i).toNat)
  case atStart => exact ⟨0, by omega, rfl, fun v hv => by simp at hv, Kept.refl w⟩
  case round =>
    obtain ⟨k, hk, rfl, hok, kw⟩ := hrel
    have HOK := Lib.hid hok
    have KW := Lib.hid kw
    clear hok kw
    by_cases hlt : k < n
    · have hkl : k < l.length := by rw [← HN.out]; exact hlt
      obtain ⟨b, off, rfl, _, x0, x1, x2⟩ := (HR.out.kept KW.out) k hkl
      have hmem : l.getD k blankV ∈ l := by rw [show l.getD k blankV = l[k] by simp [List.getD, hkl]]; exact List.getElem_mem hkl
      have sv := HS.out _ hmem
      have CK := Lib.hid (fun w => rcheck5_any (l.getD k blankV) w sv.1 (by have := sv.2; omega))
      have tk : l.take (k + 1) = l.take k ++ [l.getD k blankV] := by
        rw [List.take_succ_eq_append_getElem hkl, show l.getD k blankV = l[k] by simp [List.getD, hkl]]
      have TK := Lib.hid tk
      have HMEM := Lib.hid hmem
      clear tk sv hmem
      generalize l.getD k blankV = x at *
      by_cases ok : vOk x = true
      · have OK := Lib.hid ok
        rw [chk_yes ok] at CK
        clear ok
        go_wp2_with fail
        refine (CK.out _).mono ?_
        rintro e w2 ⟨rfl, k2⟩
        have K2 := Lib.hid k2
        clear k2
        go_wp2_with fail
        go_roundw
        case rel =>
          refine ⟨k + 1, by omega, by go_num, fun v hv => ?_, KW.out.trans K2.out⟩
          rw [TK.out] at hv
          rcases List.mem_append.1 hv with hv | hv
          · exact HOK.out v hv
          · rw [List.mem_singleton] at hv; subst hv; exact OK.out
        case measure => (simp [intOf]; try omega)
      · rw [chk_no (by simpa using ok)] at CK
        have EF : Hid (l.all vOk = false) := by
          show _ = _
          rw [List.all_eq_false]
          exact ⟨x, HMEM.out, by simpa using ok⟩
        clear ok
        go_wp2_with fail
        refine (CK.out _).mono ?_
        rintro e w2 ⟨rfl, k2⟩
        go_wp2_with fail
        go_ret
        exact ⟨ret_bool EF.out.symm, KW.out.trans k2⟩
    · obtain rfl : k = n := by omega
      have e : l.take k = l := List.take_of_length_le (by rw [← HN.out]; omega)
      have EF : Hid (l.all vOk = true) := by
        show _ = _
        rw [List.all_eq_true]
        have := HOK.out
        rwa [e] at this
      clear e
      go_wp2_with fail
      go_ret
      exact ⟨ret_bool EF.out.symm, KW.out⟩

set_option maxHeartbeats 1000000 in
theorem conv21 (i : Nat) (v : Vl) (w : World) (hs : Small v) : Calls Tryd.prog 92 #[.int .u8 21, .int .i64 i, aggV v] w fun e w' => e = .returned (aggV (vBool v)) ∧ Kept w w' := by
  have C := Lib.hid (fun w => rtobool_any v w hs.1 hs.2)
  have B0 : Hid (Box ((w.alloc (.cells (cellsV v) 35)).alloc (.cells #[.int .u8 0, .int .i64 0, .string ⟨#[]⟩] 35)) (w.heap.size + 1) 35 (cellsV blankV)) := Lib.hid (Box.newAt (by simp) _ _)
  generalize vBool v = y at *
  clear hs
  go_enter Tryd.func92, Tryd.ntmps92
  go_wp2_with fail
  refine (C.out _).mono ?_
  rintro e w1 ⟨rfl, k1⟩
  obtain ⟨i0, p0, p1, p2, f0, f1, f2⟩ := (B0.out.kept k1).three
  have KK : Hid (Kept w w1) := Lib.hid (Kept.trans (by repeat (first | with_reducible exact Kept.refl _ | with_reducible apply Kept.drew | with_reducible apply Kept.drewN | with_reducible apply Kept.alloc | (with_reducible refine Kept.setCellX ?_ ?_ _; focus (first | (simp; done) | (simp; omega))) | (with_reducible refine Kept.trans ?_ (by assumption)))) k1)
  clear k1
  go_wp2_with fail
  exact bodyPost_ret (v := aggV y) (by simp [results, Tryd.results92, go_sem, p0, p1, p2, i0]) rfl ⟨rfl, KK.out.set3 (by omega)⟩

set_option maxHeartbeats 1000000 in
theorem conv22 (i : Nat) (v : Vl) (w : World) (hs : Small v) : Calls Tryd.prog 92 #[.int .u8 22, .int .i64 i, aggV v] w fun e w' => e = .returned (aggV (vBool v)) ∧ Kept w w' := by
  have C := Lib.hid (fun w => rtobool_any v w hs.1 hs.2)
  have B0 : Hid (Box ((w.alloc (.cells (cellsV v) 35)).alloc (.cells #[.int .u8 0, .int .i64 0, .string ⟨#[]⟩] 35)) (w.heap.size + 1) 35 (cellsV blankV)) := Lib.hid (Box.newAt (by simp) _ _)
  generalize vBool v = y at *
  clear hs
  go_enter Tryd.func92, Tryd.ntmps92
  go_wp2_with fail
  refine (C.out _).mono ?_
  rintro e w1 ⟨rfl, k1⟩
  obtain ⟨i0, p0, p1, p2, f0, f1, f2⟩ := (B0.out.kept k1).three
  have KK : Hid (Kept w w1) := Lib.hid (Kept.trans (by repeat (first | with_reducible exact Kept.refl _ | with_reducible apply Kept.drew | with_reducible apply Kept.drewN | with_reducible apply Kept.alloc | (with_reducible refine Kept.setCellX ?_ ?_ _; focus (first | (simp; done) | (simp; omega))) | (with_reducible refine Kept.trans ?_ (by assumption)))) k1)
  clear k1
  go_wp2_with fail
  exact bodyPost_ret (v := aggV y) (by simp [results, Tryd.results92, go_sem, p0, p1, p2, i0]) rfl ⟨rfl, KK.out.set3 (by omega)⟩

set_option maxHeartbeats 1000000 in
theorem conv23 (i : Nat) (v : Vl) (w : World) (hs : Small v) : Calls Tryd.prog 92 #[.int .u8 23, .int .i64 i, aggV v] w fun e w' => e = .returned (aggV (vBool v)) ∧ Kept w w' := by
  have C := Lib.hid (fun w => rtobool_any v w hs.1 hs.2)
  have B0 : Hid (Box ((w.alloc (.cells (cellsV v) 35)).alloc (.cells #[.int .u8 0, .int .i64 0, .string ⟨#[]⟩] 35)) (w.heap.size + 1) 35 (cellsV blankV)) := Lib.hid (Box.newAt (by simp) _ _)
  generalize vBool v = y at *
  clear hs
  go_enter Tryd.func92, Tryd.ntmps92
  go_wp2_with fail
  refine (C.out _).mono ?_
  rintro e w1 ⟨rfl, k1⟩
  obtain ⟨i0, p0, p1, p2, f0, f1, f2⟩ := (B0.out.kept k1).three
  have KK : Hid (Kept w w1) := Lib.hid (Kept.trans (by repeat (first | with_reducible exact Kept.refl _ | with_reducible apply Kept.drew | with_reducible apply Kept.drewN | with_reducible apply Kept.alloc | (with_reducible refine Kept.setCellX ?_ ?_ _; focus (first | (simp; done) | (simp; omega))) | (with_reducible refine Kept.trans ?_ (by assumption)))) k1)
  clear k1
  go_wp2_with fail
  exact bodyPost_ret (v := aggV y) (by simp [results, Tryd.results92, go_sem, p0, p1, p2, i0]) rfl ⟨rfl, KK.out.set3 (by omega)⟩

set_option maxHeartbeats 1000000 in
theorem conv24 (i : Nat) (v : Vl) (w : World) (hs : Small v) : Calls Tryd.prog 92 #[.int .u8 24, .int .i64 i, aggV v] w fun e w' => e = .returned (aggV (vBool v)) ∧ Kept w w' := by
  have C := Lib.hid (fun w => rtobool_any v w hs.1 hs.2)
  have B0 : Hid (Box ((w.alloc (.cells (cellsV v) 35)).alloc (.cells #[.int .u8 0, .int .i64 0, .string ⟨#[]⟩] 35)) (w.heap.size + 1) 35 (cellsV blankV)) := Lib.hid (Box.newAt (by simp) _ _)
  generalize vBool v = y at *
  clear hs
  go_enter Tryd.func92, Tryd.ntmps92
  go_wp2_with fail
  refine (C.out _).mono ?_
  rintro e w1 ⟨rfl, k1⟩
  obtain ⟨i0, p0, p1, p2, f0, f1, f2⟩ := (B0.out.kept k1).three
  have KK : Hid (Kept w w1) := Lib.hid (Kept.trans (by repeat (first | with_reducible exact Kept.refl _ | with_reducible apply Kept.drew | with_reducible apply Kept.drewN | with_reducible apply Kept.alloc | (with_reducible refine Kept.setCellX ?_ ?_ _; focus (first | (simp; done) | (simp; omega))) | (with_reducible refine Kept.trans ?_ (by assumption)))) k1)
  clear k1
  go_wp2_with fail
  exact bodyPost_ret (v := aggV y) (by simp [results, Tryd.results92, go_sem, p0, p1, p2, i0]) rfl ⟨rfl, KK.out.set3 (by omega)⟩

set_option maxHeartbeats 1000000 in
theorem conv20z (i : Nat) (hi : i = 0) (v : Vl) (w : World) (hs : Small v) : Calls Tryd.prog 92 #[.int .u8 20, .int .i64 i, aggV v] w fun e w' => e = .returned (aggV (vBool v)) ∧ Kept w w' := by
  subst hi
  have C := Lib.hid (fun w => rtobool_any v w hs.1 hs.2)
  have B0 : Hid (Box ((w.alloc (.cells (cellsV v) 35)).alloc (.cells #[.int .u8 0, .int .i64 0, .string ⟨#[]⟩] 35)) (w.heap.size + 1) 35 (cellsV blankV)) := Lib.hid (Box.newAt (by simp) _ _)
  generalize vBool v = y at *
  clear hs
  go_enter Tryd.func92, Tryd.ntmps92
  go_wp2_with fail
  refine (C.out _).mono ?_
  rintro e w1 ⟨rfl, k1⟩
  obtain ⟨i0, p0, p1, p2, f0, f1, f2⟩ := (B0.out.kept k1).three
  have KK : Hid (Kept w w1) := Lib.hid (Kept.trans (by repeat (first | with_reducible exact Kept.refl _ | with_reducible apply Kept.drew | with_reducible apply Kept.drewN | with_reducible apply Kept.alloc | (with_reducible refine Kept.setCellX ?_ ?_ _; focus (first | (simp; done) | (simp; omega))) | (with_reducible refine Kept.trans ?_ (by assumption)))) k1)
  clear k1
  go_wp2_with fail
  exact bodyPost_ret (v := aggV y) (by simp [results, Tryd.results92, go_sem, p0, p1, p2, i0]) rfl ⟨rfl, KK.out.set3 (by omega)⟩

set_option maxHeartbeats 1000000 in
theorem conv30z (i : Nat) (hi : i = 0) (v : Vl) (w : World) (hs : Small v) : Calls Tryd.prog 92 #[.int .u8 30, .int .i64 i, aggV v] w fun e w' => e = .returned (aggV (vNum v)) ∧ Kept w w' := by
  subst hi
  have C := Lib.hid (fun w => rtonum_any v w hs.1 hs.2)
  have B0 : Hid (Box ((w.alloc (.cells (cellsV v) 35)).alloc (.cells #[.int .u8 0, .int .i64 0, .string ⟨#[]⟩] 35)) (w.heap.size + 1) 35 (cellsV blankV)) := Lib.hid (Box.newAt (by simp) _ _)
  generalize vNum v = y at *
  clear hs
  go_enter Tryd.func92, Tryd.ntmps92
  go_wp2_with fail
  refine (C.out _).mono ?_
  rintro e w1 ⟨rfl, k1⟩
  obtain ⟨i0, p0, p1, p2, f0, f1, f2⟩ := (B0.out.kept k1).three
  have KK : Hid (Kept w w1) := Lib.hid (Kept.trans (by repeat (first | with_reducible exact Kept.refl _ | with_reducible apply Kept.drew | with_reducible apply Kept.drewN | with_reducible apply Kept.alloc | (with_reducible refine Kept.setCellX ?_ ?_ _; focus (first | (simp; done) | (simp; omega))) | (with_reducible refine Kept.trans ?_ (by assumption)))) k1)
  clear k1
  go_wp2_with fail
  exact bodyPost_ret (v := aggV y) (by simp [results, Tryd.results92, go_sem, p0, p1, p2, i0]) rfl ⟨rfl, KK.out.set3 (by omega)⟩

set_option maxHeartbeats 1000000 in
theorem conv20p (i : Nat) (hi : ¬ i = 0) (v : Vl) (w : World) (hs : Small v) : Calls Tryd.prog 92 #[.int .u8 20, .int .i64 i, aggV v] w fun e w' => e = .returned (aggV (v)) ∧ Kept w w' := by
  have hi2 : ((i : Int) == 0) = false := by rw [beq_eq_false_iff_ne]; omega
  clear hs hi
  go_enter Tryd.func92, Tryd.ntmps92
  go_wp2_with fail
  exact bodyPost_ret (v := aggV v) (by simp [results, Tryd.results92, go_sem]) rfl ⟨rfl, (by repeat (first | with_reducible exact Kept.refl _ | with_reducible apply Kept.drew | with_reducible apply Kept.drewN | with_reducible apply Kept.alloc | (with_reducible refine Kept.setCellX ?_ ?_ _; focus (first | (simp; done) | (simp; omega))) | (with_reducible refine Kept.trans ?_ (by assumption))))⟩

set_option maxHeartbeats 1000000 in
theorem conv30p (i : Nat) (hi : ¬ i = 0) (v : Vl) (w : World) (hs : Small v) : Calls Tryd.prog 92 #[.int .u8 30, .int .i64 i, aggV v] w fun e w' => e = .returned (aggV (v)) ∧ Kept w w' := by
  have hi2 : ((i : Int) == 0) = false := by rw [beq_eq_false_iff_ne]; omega
  clear hs hi
  go_enter Tryd.func92, Tryd.ntmps92
  go_wp2_with fail
  exact bodyPost_ret (v := aggV v) (by simp [results, Tryd.results92, go_sem]) rfl ⟨rfl, (by repeat (first | with_reducible exact Kept.refl _ | with_reducible apply Kept.drew | with_reducible apply Kept.drewN | with_reducible apply Kept.alloc | (with_reducible refine Kept.setCellX ?_ ?_ _; focus (first | (simp; done) | (simp; omega))) | (with_reducible refine Kept.trans ?_ (by assumption))))⟩

set_option maxHeartbeats 1000000 in
theorem conv27 (i : Nat) (v : Vl) (w : World) (hs : Small v) : Calls Tryd.prog 92 #[.int .u8 27, .int .i64 i, aggV v] w fun e w' => e = .returned (aggV (v)) ∧ Kept w w' := by
  clear hs
  go_enter Tryd.func92, Tryd.ntmps92
  go_wp2_with fail
  exact bodyPost_ret (v := aggV v) (by simp [results, Tryd.results92, go_sem]) rfl ⟨rfl, (by repeat (first | with_reducible exact Kept.refl _ | with_reducible apply Kept.drew | with_reducible apply Kept.drewN | with_reducible apply Kept.alloc | (with_reducible refine Kept.setCellX ?_ ?_ _; focus (first | (simp; done) | (simp; omega))) | (with_reducible refine Kept.trans ?_ (by assumption))))⟩

set_option maxHeartbeats 1000000 in
theorem conv28 (i : Nat) (v : Vl) (w : World) (hs : Small v) : Calls Tryd.prog 92 #[.int .u8 28, .int .i64 i, aggV v] w fun e w' => e = .returned (aggV (v)) ∧ Kept w w' := by
  clear hs
  go_enter Tryd.func92, Tryd.ntmps92
  go_wp2_with fail
  exact bodyPost_ret (v := aggV v) (by simp [results, Tryd.results92, go_sem]) rfl ⟨rfl, (by repeat (first | with_reducible exact Kept.refl _ | with_reducible apply Kept.drew | with_reducible apply Kept.drewN | with_reducible apply Kept.alloc | (with_reducible refine Kept.setCellX ?_ ?_ _; focus (first | (simp; done) | (simp; omega))) | (with_reducible refine Kept.trans ?_ (by assumption))))⟩

set_option maxHeartbeats 1000000 in
theorem conv29 (i : Nat) (v : Vl) (w : World) (hs : Small v) : Calls Tryd.prog 92 #[.int .u8 29, .int .i64 i, aggV v] w fun e w' => e = .returned (aggV (v)) ∧ Kept w w' := by
  clear hs
  go_enter Tryd.func92, Tryd.ntmps92
  go_wp2_with fail
  exact bodyPost_ret (v := aggV v) (by simp [results, Tryd.results92, go_sem]) rfl ⟨rfl, (by repeat (first | with_reducible exact Kept.refl _ | with_reducible apply Kept.drew | with_reducible apply Kept.drewN | with_reducible apply Kept.alloc | (with_reducible refine Kept.setCellX ?_ ?_ _; focus (first | (simp; done) | (simp; omega))) | (with_reducible refine Kept.trans ?_ (by assumption))))⟩

theorem conv15_any (fn : Nat) (h1 : 20 ≤ fn) (h2 : fn ≤ 30) (n5 : fn ≠ 25) (n6 : fn ≠ 26) (i : Nat) (v : Vl) (w : World) (hs : Small v) : Calls Tryd.prog 92 #[.int .u8 fn, .int .i64 i, aggV v] w fun e w' => e = .returned (aggV (rConv fn i v)) ∧ Kept w w' := by
  by_cases hi : i = 0
  · rcases (show fn = 20 ∨ fn = 21 ∨ fn = 22 ∨ fn = 23 ∨ fn = 24 ∨ fn = 27 ∨ fn = 28 ∨ fn = 29 ∨ fn = 30 by omega) with rfl | rfl | rfl | rfl | rfl | rfl | rfl | rfl | rfl
    · rw [show rConv 20 i v = vBool v by unfold rConv; rw [if_neg (by omega), if_pos ⟨rfl, hi⟩]]; exact conv20z i hi v w hs
    · exact conv21 i v w hs
    · exact conv22 i v w hs
    · exact conv23 i v w hs
    · exact conv24 i v w hs
    · exact conv27 i v w hs
    · exact conv28 i v w hs
    · exact conv29 i v w hs
    · rw [show rConv 30 i v = vNum v by unfold rConv; rw [if_neg (by omega), if_neg (by omega), if_pos ⟨rfl, hi⟩]]; exact conv30z i hi v w hs
  · rcases (show fn = 20 ∨ fn = 21 ∨ fn = 22 ∨ fn = 23 ∨ fn = 24 ∨ fn = 27 ∨ fn = 28 ∨ fn = 29 ∨ fn = 30 by omega) with rfl | rfl | rfl | rfl | rfl | rfl | rfl | rfl | rfl
    · rw [show rConv 20 i v = v by unfold rConv; rw [if_neg (by omega), if_neg (by omega), if_neg (by omega)]]; exact conv20p i hi v w hs
    · exact conv21 i v w hs
    · exact conv22 i v w hs
    · exact conv23 i v w hs
    · exact conv24 i v w hs
    · exact conv27 i v w hs
    · exact conv28 i v w hs
    · exact conv29 i v w hs
    · rw [show rConv 30 i v = v by unfold rConv; rw [if_neg (by omega), if_neg (by omega), if_neg (by omega)]]; exact conv30p i hi v w hs
end Go.Proofs.YtipkjpcedfokhaaDoor
