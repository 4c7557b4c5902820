/- The law FlogicFolds, walked (printed by wip/mkfold15.py). -/
import Derived.Test.YtipkjpcedfokhaaDoorGFold
namespace Go.Proofs.YtipkjpcedfokhaaDoor
set_option linter.unusedVariables false
set_option linter.unusedSimpArgs false
open Go.RowKit Lv
set_option maxRecDepth 100000
theorem Kept.cell_at {w w' : World} (k : Kept w w') {b o : Nat} (h : b < w.heap.size) : w'.cell? ⟨b, o, none⟩ = w.cell? ⟨b, o, none⟩ := k.cell (p := ⟨b, o, none⟩) h
theorem Kept.inside {w w' : World} (k : Kept w w') {b : Nat} (h : b < w.heap.size) : b < w'.heap.size := Nat.lt_of_lt_of_le h k.size
theorem Own.tail {w0 w : World} {t : Th} {H : List Th} (h : Own w0 (t :: H) w) : Own w0 H w := ⟨h.kept, fun s hs => h.has s (List.mem_cons_of_mem _ hs), fun s hs => h.old s (List.mem_cons_of_mem _ hs), (List.pairwise_cons.1 h.apart).2⟩
theorem bools_row {w : World} {A : Option Addr} {len cap : Nat} {l : List Bool} (h : BoolsIn w A len cap l) (h0 : 0 < len) : ∃ b off, A = some ⟨b, off, none⟩ ∧ b < w.heap.size ∧ ∀ i, i < min len 16 → w.cell? ⟨b, off + i, none⟩ = some (.bool ((l.take 16).getD i false)) := by
  obtain ⟨b, off, hA, hb, _⟩ := h.row 0 (by rw [h.len_eq]; exact h0)
  refine ⟨b, off, hA, hb, fun i hi => ?_⟩
  obtain ⟨b', off', e, _, hc⟩ := h.row i (by rw [h.len_eq]; omega)
  rw [hA] at e
  cases e
  rw [hc]
  simp [List.getD, List.getElem?_take, show i < 16 by omega]
theorem gather_n {Q : Exit → Act → World → Prop} {a : Act} {w : World} (M : Act → World → Prop) (hm : M a w) (h : ∀ b u, M b u → Q .normal b u) : Q .normal a w := h a w hm
theorem xbool1 {a : Act} {w : World} {o : Oper} (ho : o.op = .buildSlice 55 1 #[(0, .const (.bool true))]) : (execOp a.eval o).run Tryd.prog w = .ok (.value (.slice (some ⟨w.heap.size, 0, none⟩) 1 1)) (w.alloc (.cells #[.bool true] 4 (0, 0))) := by
  unfold execOp
  rw [ho]
  simp only [List.map_toArray, List.map_cons, List.map_nil, Act.eval]
  go_simp
theorem en_louvrelaw15_awake (args : Array Value) (w : World) : (callFunc 47 args).run Tryd.prog w = .ok (.enter 47 args) w := by go_simp
theorem en_louvrelaw15_of (args : Array Value) (w : World) : (callFunc 50 args).run Tryd.prog w = .ok (.enter 50 args) w := by go_simp
theorem en_louvrelaw15_truth (args : Array Value) (w : World) : (callFunc 52 args).run Tryd.prog w = .ok (.enter 52 args) w := by go_simp
set_option maxHeartbeats 4000000 in
theorem FlogicFolds_walk (a0 : Option Addr) (len0 cap0 : Nat) (l0 : List Bool) (a1 : Int) (w : World) (w0 : BoolsIn w a0 len0 cap0 l0) (w1 : (Lit.int .i64 a1).wf = true) (mx : Int) (HM : Mx w mx) :
    Calls Tryd.prog 15 #[.slice a0 len0 cap0, .int .i64 a1] w fun e w' => e = .returned (.bool true) ∧ Below w.heap.size w w' := by
  have ra : -9223372036854775808 ≤ a1 ∧ a1 ≤ 9223372036854775807 := by
    unfold Lit.wf at w1
    rw [Bool.and_eq_true, decide_eq_true_eq, decide_eq_true_eq] at w1
    exact w1
  have hlc := w0.le
  go_enter Tryd.func15, Tryd.ntmps15
  refine wp_seq_k fun K1 hK1 => ?_
  refine region_sx [yV (.bool false)] 1 137 (by kernel_rfl) rfl (by kernel_rfl) (by kernel_rfl) (fun i o ho hi aa ww hk bs hd => ?_) (fun fa1 fw1 hk bs hv ap => ?_)
  · match i, ho, hi with
    | 0, ho, hi =>
      cases ho
      exact stepX_same (v := .bool false) (want0 rfl) (xassign rfl rfl) rfl rfl
    | i + 1, ho, hi => exact absurd hi (by omega)
  have zfa1 : fa1.tmps.size = 137 := bs.size.trans rfl
  have dffa1 : fa1.defers = [] := bs.defers.trans rfl
  have ow1 := (Own.start w).keep hk
  have s4_fa1 : fa1.eval (.tmp 4) = .bool false := hv 0 (by decide)
  have s0_fa1 : fa1.eval (.tmp 0) = .slice a0 len0 cap0 := bs.get 0 rfl rfl
  have s1_fa1 : fa1.eval (.tmp 1) = .int .i64 a1 := bs.get 1 rfl rfl
  clear hv ap bs hk
  refine wl_nil (fun fr u => fr.tmps.size = 137 ∧ fr.defers = [] ∧ Own w [] u ∧ fr.eval (.tmp 4) = .bool false ∧ fr.eval (.tmp 0) = .slice a0 len0 cap0 ∧ fr.eval (.tmp 1) = .int .i64 a1) ⟨zfa1, dffa1, ow1, s4_fa1, s0_fa1, s1_fa1⟩ ?_
  rintro fa2 fw2 ⟨zfa2, dffa2, ow2, s4_fa2, s0_fa2, s1_fa2⟩
  refine then_n (hK1 _ _ ?_)
  clear hK1 K1
  refine wp_seq_k fun K2 hK2 => ?_
  refine region_sx [yV (.slice a0 len0 cap0), yV (.slice a0 len0 cap0), yV (.int .i64 ((len0 : Nat) : Int)), yV (.int .i64 ((min (len0) 16 : Nat) : Int)), yV (.slice (fz a0 cap0) (min (len0) 16) cap0)] 5 137 (by kernel_rfl) zfa2 (by kernel_rfl) (by kernel_rfl) (fun i o ho hi aa ww hk bs hd => ?_) (fun fa3 fw3 hk bs hv ap => ?_)
  · match i, ho, hi with
    | 0, ho, hi =>
      cases ho
      exact stepX_same (v := .slice a0 len0 cap0) (want0 rfl) (xmove rfl (bs.get 0 rfl s0_fa2)) rfl rfl
    | 1, ho, hi =>
      cases ho
      exact stepX_same (v := .slice a0 len0 cap0) (want0 rfl) (xmove rfl (bs.get 0 rfl s0_fa2)) rfl rfl
    | 2, ho, hi =>
      cases ho
      have d1 : aa.eval (.tmp 14) = .slice a0 len0 cap0 := depX hd 1 rfl
      exact stepX_same (v := .int .i64 ((len0 : Nat) : Int)) (want0 rfl) (xlen Tryd.underlying55 rfl d1) rfl rfl
    | 3, ho, hi =>
      cases ho
      have d2 : aa.eval (.tmp 15) = .int .i64 ((len0 : Nat) : Int) := depX hd 2 rfl
      exact stepX_same (v := .int .i64 ((min (len0) 16 : Nat) : Int)) (want0 rfl) (xminN rfl rfl rfl (n := (len0)) (m := 16) d2 rfl) rfl rfl
    | 4, ho, hi =>
      cases ho
      have d0 : aa.eval (.tmp 13) = .slice a0 len0 cap0 := depX hd 0 rfl
      have d3 : aa.eval (.tmp 16) = .int .i64 ((min (len0) 16 : Nat) : Int) := depX hd 3 rfl
      exact stepX_same (v := .slice (fz a0 cap0) (min (len0) 16) cap0) (want0 rfl) (xsliceTo Tryd.underlying55 (by kernel_rfl) rfl (h := (min (len0) 16)) d0 d3 (by omega)) rfl rfl
    | i + 5, ho, hi => exact absurd hi (by omega)
  have zfa3 : fa3.tmps.size = 137 := bs.size.trans zfa2
  have dffa3 : fa3.defers = [] := bs.defers.trans dffa2
  have ow3 := ow2.keep hk
  have s17_fa3 : fa3.eval (.tmp 17) = .slice (fz a0 cap0) (min (len0) 16) cap0 := hv 4 (by decide)
  have s4_fa3 : fa3.eval (.tmp 4) = .bool false := bs.get 4 rfl s4_fa2
  have s0_fa3 : fa3.eval (.tmp 0) = .slice a0 len0 cap0 := bs.get 0 rfl s0_fa2
  have s1_fa3 : fa3.eval (.tmp 1) = .int .i64 a1 := bs.get 1 rfl s1_fa2
  clear hv ap bs hk
  refine wl_value (v := .slice (fz a0 cap0) (min (len0) 16) cap0) (want0 rfl) (xassign rfl s17_fa3) ?_
  refine wl_nil (fun fr u => fr.tmps.size = 137 ∧ fr.defers = [] ∧ Own w [] u ∧ fr.eval (.tmp 4) = .bool false ∧ fr.eval (.tmp 1) = .int .i64 a1 ∧ fr.eval (.tmp 0) = .slice (fz a0 cap0) (min (len0) 16) cap0) ⟨put_size zfa3, dffa3, ow3, put_by rfl s4_fa3, put_by rfl s1_fa3, put_at (by rw [zfa3]; decide)⟩ ?_
  rintro fa4 fw4 ⟨zfa4, dffa4, ow4, s4_fa4, s1_fa4, s0_fa4⟩
  refine then_n (hK2 _ _ ?_)
  clear hK2 K2
  refine wp_join (fun fr u => ∃ (L : List Bool), ∃ (b : Nat), ∃ (off : Nat), ∃ (n : Nat), ∃ (cap : Nat), (L.length = n) ∧ (1 ≤ n) ∧ (n ≤ 16) ∧ (b < u.heap.size) ∧ (∀ i, i < n → u.cell? ⟨b, off + i, none⟩ = some (.bool (L.getD i false))) ∧ fr.tmps.size = 137 ∧ fr.defers = [] ∧ Own w [] u ∧ fr.eval (.tmp 0) = .slice (some ⟨b, off, none⟩) n cap ∧ fr.eval (.tmp 1) = .int .i64 a1) ?_ ?_
  · skip
    refine wp_seq_k fun K3 hK3 => ?_
    refine region_sx [yV (.slice (fz a0 cap0) (min (len0) 16) cap0), yV (.int .i64 (((min (len0) 16) : Nat) : Int)), yV (.bool (decide ((((min (len0) 16) : Nat) : Int) = (0 : Int))))] 3 137 (by kernel_rfl) zfa4 (by kernel_rfl) (by kernel_rfl) (fun i o ho hi aa ww hk bs hd => ?_) (fun fa5 fw5 hk bs hv ap => ?_)
    · match i, ho, hi with
      | 0, ho, hi =>
        cases ho
        exact stepX_same (v := .slice (fz a0 cap0) (min (len0) 16) cap0) (want0 rfl) (xmove rfl (bs.get 0 rfl s0_fa4)) rfl rfl
      | 1, ho, hi =>
        cases ho
        have d0 : aa.eval (.tmp 18) = .slice (fz a0 cap0) (min (len0) 16) cap0 := depX hd 0 rfl
        exact stepX_same (v := .int .i64 (((min (len0) 16) : Nat) : Int)) (want0 rfl) (xlen Tryd.underlying55 rfl d0) rfl rfl
      | 2, ho, hi =>
        cases ho
        have d1 : aa.eval (.tmp 19) = .int .i64 (((min (len0) 16) : Nat) : Int) := depX hd 1 rfl
        exact stepX_same (v := .bool (decide ((((min (len0) 16) : Nat) : Int) = (0 : Int)))) (want0 rfl) (xeqi rfl d1 rfl) rfl rfl
      | i + 3, ho, hi => exact absurd hi (by omega)
    have zfa5 : fa5.tmps.size = 137 := bs.size.trans zfa4
    have dffa5 : fa5.defers = [] := bs.defers.trans dffa4
    have ow5 := ow4.keep hk
    have s20_fa5 : fa5.eval (.tmp 20) = .bool (decide ((((min (len0) 16) : Nat) : Int) = (0 : Int))) := hv 2 (by decide)
    have s4_fa5 : fa5.eval (.tmp 4) = .bool false := bs.get 4 rfl s4_fa4
    have s1_fa5 : fa5.eval (.tmp 1) = .int .i64 a1 := bs.get 1 rfl s1_fa4
    have s0_fa5 : fa5.eval (.tmp 0) = .slice (fz a0 cap0) (min (len0) 16) cap0 := bs.get 0 rfl s0_fa4
    clear hv ap bs hk
    refine wl_nil (fun fr u => fr.tmps.size = 137 ∧ fr.defers = [] ∧ Own w [] u ∧ fr.eval (.tmp 20) = .bool (decide ((((min (len0) 16) : Nat) : Int) = (0 : Int))) ∧ fr.eval (.tmp 4) = .bool false ∧ fr.eval (.tmp 1) = .int .i64 a1 ∧ fr.eval (.tmp 0) = .slice (fz a0 cap0) (min (len0) 16) cap0) ⟨zfa5, dffa5, ow5, s20_fa5, s4_fa5, s1_fa5, s0_fa5⟩ ?_
    rintro fa6 fw6 ⟨zfa6, dffa6, ow6, s20_fa6, s4_fa6, s1_fa6, s0_fa6⟩
    refine then_n (hK3 _ _ ?_)
    clear hK3 K3
    by_cases hc1 : (((min (len0) 16) : Nat) : Int) = (0 : Int)
    · refine wp_cond_true (s20_fa6.trans (congrArg Value.bool (decide_eq_true hc1))) ?_
      refine region_sx [ySlice fw6.heap.size 1 (.cells #[.bool true] 4 (0, 0))] 1 137 (by kernel_rfl) zfa6 (by kernel_rfl) (by kernel_rfl) (fun i o ho hi aa ww hk bs hd => ?_) (fun fa7 fw7 hk bs hv ap => ?_)
      · match i, ho, hi with
        | 0, ho, hi =>
          cases ho
          exact stepX_new _ (want0 rfl) (xbool1 rfl) ⟨_, rfl, hk.size, Go.heap_alloc_new _ _⟩ ((Kept.refl _).alloc _) rfl (Nat.le_refl _)
        | i + 1, ho, hi => exact absurd hi (by omega)
      have zfa7 : fa7.tmps.size = 137 := bs.size.trans zfa6
      have dffa7 : fa7.defers = [] := bs.defers.trans dffa6
      have ow7 := ow6.keep hk
      obtain ⟨gb1, qgb1, bgb1, hgb1⟩ := hv 0 (by decide)
      have ow8 := ow7.cons hgb1 (Nat.le_trans ow6.kept.size bgb1) (ow6.below bgb1)
      have s21_fa7 : fa7.eval (.tmp 21) = .slice (some ⟨gb1, 0, none⟩) 1 1 := qgb1
      have s4_fa7 : fa7.eval (.tmp 4) = .bool false := bs.get 4 rfl s4_fa6
      have s1_fa7 : fa7.eval (.tmp 1) = .int .i64 a1 := bs.get 1 rfl s1_fa6
      have s0_fa7 : fa7.eval (.tmp 0) = .slice (fz a0 cap0) (min (len0) 16) cap0 := bs.get 0 rfl s0_fa6
      clear hv ap bs hk
      refine wl_value (v := .slice (some ⟨gb1, 0, none⟩) 1 1) (want0 rfl) (xassign rfl s21_fa7) ?_
      refine wl_nil (fun fr u => fr.tmps.size = 137 ∧ fr.defers = [] ∧ Own w [Th.obj gb1 (.cells #[.bool true] 4 (0, 0))] u ∧ fr.eval (.tmp 4) = .bool false ∧ fr.eval (.tmp 1) = .int .i64 a1 ∧ fr.eval (.tmp 0) = .slice (some ⟨gb1, 0, none⟩) 1 1) ⟨put_size zfa7, dffa7, ow8, put_by rfl s4_fa7, put_by rfl s1_fa7, put_at (by rw [zfa7]; decide)⟩ ?_
      rintro fa8 fw8 ⟨zfa8, dffa8, ow9, s4_fa8, s1_fa8, s0_fa8⟩
      refine then_n ?_
      exact ⟨[true], gb1, 0, 1, 1, rfl, (Nat.le_refl _), (by omega), (ow9.box 0 rfl).inside, (fun i hi => (by obtain rfl : i = 0 := (by omega); exact (ow9.box 0 rfl).cell 0)), zfa8, dffa8, ow9.drop, s0_fa8, s1_fa8⟩
    refine wp_cond_false (s20_fa6.trans (congrArg Value.bool (decide_eq_false hc1))) ?_
    refine wp_skip ?_
    refine then_n ?_
    obtain ⟨bA, oA, hA, hbA, hrow⟩ := bools_row w0 (by omega)
    have hmin1 : 1 ≤ min len0 16 := by omega
    exact ⟨(l0.take 16), bA, oA, (min len0 16), cap0, (by rw [List.length_take, w0.len_eq]; omega), hmin1, (Nat.min_le_right _ _), (ow6.kept.inside hbA), (fun i hi => (Kept.cell_at ow6.kept hbA).trans (hrow i hi)), zfa6, dffa6, ow6.drop, (s0_fa6.trans (by rw [hA, fz_some])), s1_fa6⟩
  rintro fa9 fw9 ⟨L, b, off, n, cap, hn, h1, h16, hb, BR, zfa9, dffa9, ow10, s0_fa9, s1_fa9⟩
  have kj := ow10.kept
  have ow := Own.start fw9
  subst hn
  have lpos : 0 < L.length := h1
  have l1 := h16
  obtain ⟨t0, t1, t2, t3⟩ := turn_range a1 L.length lpos h16
  refine wp_seq_k fun K4 hK4 => ?_
  refine region_sx [yV (.int .i64 a1), yV (.slice (some ⟨b, off, none⟩) L.length cap), yV (.int .i64 ((L.length : Nat) : Int)), yV (.int .i64 (Int.tmod a1 (((L.length : Nat) : Int) : Int))), yV (.slice (some ⟨b, off, none⟩) L.length cap), yV (.int .i64 ((L.length : Nat) : Int)), yV (.int .i64 ((Int.tmod a1 (((L.length : Nat) : Int) : Int)) + ((L.length : Nat) : Int))), yV (.slice (some ⟨b, off, none⟩) L.length cap), yV (.int .i64 ((L.length : Nat) : Int)), yV (.int .i64 (Int.tmod ((Int.tmod a1 (((L.length : Nat) : Int) : Int)) + ((L.length : Nat) : Int)) (((L.length : Nat) : Int) : Int)))] 10 137 (by kernel_rfl) zfa9 (by kernel_rfl) (by kernel_rfl) (fun i o ho hi aa ww hk bs hd => ?_) (fun fa10 fw10 hk bs hv ap => ?_)
  · match i, ho, hi with
    | 0, ho, hi =>
      cases ho
      exact stepX_same (v := .int .i64 a1) (want0 rfl) (xmove rfl (bs.get 1 rfl s1_fa9)) rfl rfl
    | 1, ho, hi =>
      cases ho
      exact stepX_same (v := .slice (some ⟨b, off, none⟩) L.length cap) (want0 rfl) (xmove rfl (bs.get 0 rfl s0_fa9)) rfl rfl
    | 2, ho, hi =>
      cases ho
      have d1 : aa.eval (.tmp 23) = .slice (some ⟨b, off, none⟩) L.length cap := depX hd 1 rfl
      exact stepX_same (v := .int .i64 ((L.length : Nat) : Int)) (want0 rfl) (xlen Tryd.underlying55 rfl d1) rfl rfl
    | 3, ho, hi =>
      cases ho
      have d0 : aa.eval (.tmp 22) = .int .i64 a1 := depX hd 0 rfl
      have d2 : aa.eval (.tmp 24) = .int .i64 ((L.length : Nat) : Int) := depX hd 2 rfl
      exact stepX_same (v := .int .i64 (Int.tmod a1 (((L.length : Nat) : Int) : Int))) (want0 rfl) (xrem (Or.inl rfl) rfl d0 d2 (by omega) (by omega) (by omega)) rfl rfl
    | 4, ho, hi =>
      cases ho
      exact stepX_same (v := .slice (some ⟨b, off, none⟩) L.length cap) (want0 rfl) (xmove rfl (bs.get 0 rfl s0_fa9)) rfl rfl
    | 5, ho, hi =>
      cases ho
      have d4 : aa.eval (.tmp 26) = .slice (some ⟨b, off, none⟩) L.length cap := depX hd 4 rfl
      exact stepX_same (v := .int .i64 ((L.length : Nat) : Int)) (want0 rfl) (xlen Tryd.underlying55 rfl d4) rfl rfl
    | 6, ho, hi =>
      cases ho
      have d3 : aa.eval (.tmp 25) = .int .i64 (Int.tmod a1 (((L.length : Nat) : Int) : Int)) := depX hd 3 rfl
      have d5 : aa.eval (.tmp 27) = .int .i64 ((L.length : Nat) : Int) := depX hd 5 rfl
      exact stepX_same (v := .int .i64 ((Int.tmod a1 (((L.length : Nat) : Int) : Int)) + ((L.length : Nat) : Int))) (want0 rfl) (xadd (Or.inl rfl) rfl (n := Int.tmod a1 (((L.length : Nat) : Int) : Int)) (m := ((L.length : Nat) : Int)) d3 d5 (by omega) (by omega)) rfl rfl
    | 7, ho, hi =>
      cases ho
      exact stepX_same (v := .slice (some ⟨b, off, none⟩) L.length cap) (want0 rfl) (xmove rfl (bs.get 0 rfl s0_fa9)) rfl rfl
    | 8, ho, hi =>
      cases ho
      have d7 : aa.eval (.tmp 29) = .slice (some ⟨b, off, none⟩) L.length cap := depX hd 7 rfl
      exact stepX_same (v := .int .i64 ((L.length : Nat) : Int)) (want0 rfl) (xlen Tryd.underlying55 rfl d7) rfl rfl
    | 9, ho, hi =>
      cases ho
      have d6 : aa.eval (.tmp 28) = .int .i64 ((Int.tmod a1 (((L.length : Nat) : Int) : Int)) + ((L.length : Nat) : Int)) := depX hd 6 rfl
      have d8 : aa.eval (.tmp 30) = .int .i64 ((L.length : Nat) : Int) := depX hd 8 rfl
      exact stepX_same (v := .int .i64 (Int.tmod ((Int.tmod a1 (((L.length : Nat) : Int) : Int)) + ((L.length : Nat) : Int)) (((L.length : Nat) : Int) : Int))) (want0 rfl) (xrem (Or.inl rfl) rfl d6 d8 (by omega) (by omega) (by omega)) rfl rfl
    | i + 10, ho, hi => exact absurd hi (by omega)
  have zfa10 : fa10.tmps.size = 137 := bs.size.trans zfa9
  have dffa10 : fa10.defers = [] := bs.defers.trans dffa9
  have ow11 := ow.keep hk
  have s31_fa10 : fa10.eval (.tmp 31) = .int .i64 (Int.tmod ((Int.tmod a1 (((L.length : Nat) : Int) : Int)) + ((L.length : Nat) : Int)) (((L.length : Nat) : Int) : Int)) := hv 9 (by decide)
  have s0_fa10 : fa10.eval (.tmp 0) = .slice (some ⟨b, off, none⟩) L.length cap := bs.get 0 rfl s0_fa9
  have s1_fa10 : fa10.eval (.tmp 1) = .int .i64 a1 := bs.get 1 rfl s1_fa9
  clear hv ap bs hk
  refine wl_value (v := .int .i64 (Int.tmod ((Int.tmod a1 (((L.length : Nat) : Int) : Int)) + ((L.length : Nat) : Int)) (((L.length : Nat) : Int) : Int))) (want0 rfl) (xassign rfl s31_fa10) ?_
  refine wl_nil (fun fr u => ∃ (tn : Nat), (tn ≤ L.length) ∧ fr.tmps.size = 137 ∧ fr.defers = [] ∧ Own fw9 [] u ∧ fr.eval (.tmp 0) = .slice (some ⟨b, off, none⟩) L.length cap ∧ fr.eval (.tmp 1) = .int .i64 (tn : Int)) ⟨(Int.tmod ((Int.tmod a1 (((L.length : Nat) : Int) : Int)) + ((L.length : Nat) : Int)) (((L.length : Nat) : Int) : Int)).toNat, (by omega), put_size zfa10, dffa10, ow11, put_by rfl s0_fa10, ((put_at (by rw [zfa10]; decide)).trans (congrArg (Value.int .i64) (Int.toNat_of_nonneg t2).symm))⟩ ?_
  rintro fa11 fw11 ⟨tn, tl, zfa11, dffa11, ow12, s0_fa11, s1_fa11⟩
  refine then_n (hK4 _ _ ?_)
  clear hK4 K4
  refine wp_seq_k fun K5 hK5 => ?_
  refine region_sx [yV (.slice none 0 0), yV (.slice none 0 0), yV (.slice none 0 0)] 3 137 (by kernel_rfl) zfa11 (by kernel_rfl) (by kernel_rfl) (fun i o ho hi aa ww hk bs hd => ?_) (fun fa12 fw12 hk bs hv ap => ?_)
  · match i, ho, hi with
    | 0, ho, hi =>
      cases ho
      exact stepX_same (v := .slice none 0 0) (want0 rfl) (xassign rfl rfl) rfl rfl
    | 1, ho, hi =>
      cases ho
      exact stepX_same (v := .slice none 0 0) (want0 rfl) (xassign rfl rfl) rfl rfl
    | 2, ho, hi =>
      cases ho
      exact stepX_same (v := .slice none 0 0) (want0 rfl) (xassign rfl rfl) rfl rfl
    | i + 3, ho, hi => exact absurd hi (by omega)
  have zfa12 : fa12.tmps.size = 137 := bs.size.trans zfa11
  have dffa12 : fa12.defers = [] := bs.defers.trans dffa11
  have ow13 := ow12.keep hk
  have s5_fa12 : fa12.eval (.tmp 5) = .slice none 0 0 := hv 0 (by decide)
  have s6_fa12 : fa12.eval (.tmp 6) = .slice none 0 0 := hv 1 (by decide)
  have s7_fa12 : fa12.eval (.tmp 7) = .slice none 0 0 := hv 2 (by decide)
  have s0_fa12 : fa12.eval (.tmp 0) = .slice (some ⟨b, off, none⟩) L.length cap := bs.get 0 rfl s0_fa11
  have s1_fa12 : fa12.eval (.tmp 1) = .int .i64 (tn : Int) := bs.get 1 rfl s1_fa11
  clear hv ap bs hk
  refine wl_nil (fun fr u => fr.tmps.size = 137 ∧ fr.defers = [] ∧ Own fw9 [] u ∧ fr.eval (.tmp 5) = .slice none 0 0 ∧ fr.eval (.tmp 6) = .slice none 0 0 ∧ fr.eval (.tmp 7) = .slice none 0 0 ∧ fr.eval (.tmp 0) = .slice (some ⟨b, off, none⟩) L.length cap ∧ fr.eval (.tmp 1) = .int .i64 (tn : Int)) ⟨zfa12, dffa12, ow13, s5_fa12, s6_fa12, s7_fa12, s0_fa12, s1_fa12⟩ ?_
  rintro fa13 fw13 ⟨zfa13, dffa13, ow14, s5_fa13, s6_fa13, s7_fa13, s0_fa13, s1_fa13⟩
  refine then_n (hK5 _ _ ?_)
  clear hK5 K5
  refine wp_seq_k fun K6 hK6 => ?_
  refine region_sx [yV (.int .i64 0)] 1 137 (by kernel_rfl) zfa13 (by kernel_rfl) (by kernel_rfl) (fun i o ho hi aa ww hk bs hd => ?_) (fun fa14 fw14 hk bs hv ap => ?_)
  · match i, ho, hi with
    | 0, ho, hi =>
      cases ho
      exact stepX_same (v := .int .i64 0) (want0 rfl) (xassign rfl rfl) rfl rfl
    | i + 1, ho, hi => exact absurd hi (by omega)
  have zfa14 : fa14.tmps.size = 137 := bs.size.trans zfa13
  have dffa14 : fa14.defers = [] := bs.defers.trans dffa13
  have ow15 := ow14.keep hk
  have s8_fa14 : fa14.eval (.tmp 8) = .int .i64 0 := hv 0 (by decide)
  have s5_fa14 : fa14.eval (.tmp 5) = .slice none 0 0 := bs.get 5 rfl s5_fa13
  have s6_fa14 : fa14.eval (.tmp 6) = .slice none 0 0 := bs.get 6 rfl s6_fa13
  have s7_fa14 : fa14.eval (.tmp 7) = .slice none 0 0 := bs.get 7 rfl s7_fa13
  have s0_fa14 : fa14.eval (.tmp 0) = .slice (some ⟨b, off, none⟩) L.length cap := bs.get 0 rfl s0_fa13
  have s1_fa14 : fa14.eval (.tmp 1) = .int .i64 (tn : Int) := bs.get 1 rfl s1_fa13
  clear hv ap bs hk
  refine wl_nil (fun fr u => fr.tmps.size = 137 ∧ fr.defers = [] ∧ Own fw9 [] u ∧ fr.eval (.tmp 8) = .int .i64 0 ∧ fr.eval (.tmp 5) = .slice none 0 0 ∧ fr.eval (.tmp 6) = .slice none 0 0 ∧ fr.eval (.tmp 7) = .slice none 0 0 ∧ fr.eval (.tmp 0) = .slice (some ⟨b, off, none⟩) L.length cap ∧ fr.eval (.tmp 1) = .int .i64 (tn : Int)) ⟨zfa14, dffa14, ow15, s8_fa14, s5_fa14, s6_fa14, s7_fa14, s0_fa14, s1_fa14⟩ ?_
  rintro fa15 fw15 ⟨zfa15, dffa15, ow16, s8_fa15, s5_fa15, s6_fa15, s7_fa15, s0_fa15, s1_fa15⟩
  refine then_n (hK6 _ _ ?_)
  clear hK6 K6
  refine wp_join (fun fr u => ∃ (va : Value), ∃ (vb : Value), ∃ (vc : Value), fr.tmps.size = 137 ∧ fr.defers = [] ∧ Own fw9 [Th.row fw9.heap.size 35 3 va ((L.map vTruth).length) (flatV (L.map vTruth)), Th.row fw9.heap.size 35 3 vb (((L.map (!·)).map vTruth).length) (flatV ((L.map (!·)).map vTruth)), Th.row fw9.heap.size 35 3 vc (((turned L tn).map vTruth).length) (flatV ((turned L tn).map vTruth))] u ∧ fr.eval (.tmp 0) = .slice (some ⟨b, off, none⟩) L.length cap ∧ fr.eval (.tmp 5) = va ∧ fr.eval (.tmp 6) = vb ∧ fr.eval (.tmp 7) = vc ∧ fr.eval (.tmp 8) = .int .i64 ((yes L : Nat) : Int)) ?_ ?_
  · skip
    refine wp_seq_k fun K7 hK7 => ?_
    refine region_sx [yV (.int .i64 0)] 1 137 (by kernel_rfl) zfa15 (by kernel_rfl) (by kernel_rfl) (fun i o ho hi aa ww hk bs hd => ?_) (fun fa16 fw16 hk bs hv ap => ?_)
    · match i, ho, hi with
      | 0, ho, hi =>
        cases ho
        exact stepX_same (v := .int .i64 0) (want0 rfl) (xassign rfl rfl) rfl rfl
      | i + 1, ho, hi => exact absurd hi (by omega)
    have zfa16 : fa16.tmps.size = 137 := bs.size.trans zfa15
    have dffa16 : fa16.defers = [] := bs.defers.trans dffa15
    have ow17 := ow16.keep hk
    have s9_fa16 : fa16.eval (.tmp 9) = .int .i64 0 := hv 0 (by decide)
    have s8_fa16 : fa16.eval (.tmp 8) = .int .i64 0 := bs.get 8 rfl s8_fa15
    have s5_fa16 : fa16.eval (.tmp 5) = .slice none 0 0 := bs.get 5 rfl s5_fa15
    have s6_fa16 : fa16.eval (.tmp 6) = .slice none 0 0 := bs.get 6 rfl s6_fa15
    have s7_fa16 : fa16.eval (.tmp 7) = .slice none 0 0 := bs.get 7 rfl s7_fa15
    have s0_fa16 : fa16.eval (.tmp 0) = .slice (some ⟨b, off, none⟩) L.length cap := bs.get 0 rfl s0_fa15
    have s1_fa16 : fa16.eval (.tmp 1) = .int .i64 (tn : Int) := bs.get 1 rfl s1_fa15
    clear hv ap bs hk
    refine wl_nil (fun fr u => fr.tmps.size = 137 ∧ fr.defers = [] ∧ Own fw9 [] u ∧ fr.eval (.tmp 9) = .int .i64 0 ∧ fr.eval (.tmp 8) = .int .i64 0 ∧ fr.eval (.tmp 5) = .slice none 0 0 ∧ fr.eval (.tmp 6) = .slice none 0 0 ∧ fr.eval (.tmp 7) = .slice none 0 0 ∧ fr.eval (.tmp 0) = .slice (some ⟨b, off, none⟩) L.length cap ∧ fr.eval (.tmp 1) = .int .i64 (tn : Int)) ⟨zfa16, dffa16, ow17, s9_fa16, s8_fa16, s5_fa16, s6_fa16, s7_fa16, s0_fa16, s1_fa16⟩ ?_
    rintro fa17 fw17 ⟨zfa17, dffa17, ow18, s9_fa17, s8_fa17, s5_fa17, s6_fa17, s7_fa17, s0_fa17, s1_fa17⟩
    refine then_n (hK7 _ _ ?_)
    clear hK7 K7
    refine wp_block ?_
    refine wp_loop_g (fun (k : Nat) fr u => ∃ (va : Value), ∃ (vb : Value), ∃ (vc : Value), (k ≤ L.length) ∧ fr.tmps.size = 137 ∧ fr.defers = [] ∧ Own fw9 [Th.row fw9.heap.size 35 3 va ((fA L k).length) (flatV (fA L k)), Th.row fw9.heap.size 35 3 vb ((fB L k).length) (flatV (fB L k)), Th.row fw9.heap.size 35 3 vc ((fC L tn k).length) (flatV (fC L tn k))] u ∧ fr.eval (.tmp 0) = .slice (some ⟨b, off, none⟩) L.length cap ∧ fr.eval (.tmp 1) = .int .i64 (tn : Int) ∧ fr.eval (.tmp 5) = va ∧ fr.eval (.tmp 6) = vb ∧ fr.eval (.tmp 7) = vc ∧ fr.eval (.tmp 8) = .int .i64 ((yes (L.take k) : Nat) : Int) ∧ fr.eval (.tmp 9) = .int .i64 (k : Int)) (fun k => L.length - k) 0 ⟨.slice none 0 0, .slice none 0 0, .slice none 0 0, (Nat.zero_le _), zfa17, dffa17, (((ow18.nil 35 3).nil 35 3).nil 35 3), s0_fa17, s1_fa17, s5_fa17, s6_fa17, s7_fa17, s8_fa17, s9_fa17⟩ (fun k b_ u_ hI => ?_)
    revert b_ u_; intro fa18 fw18 hI
    obtain ⟨va, vb, vc, hk, zfa18, dffa18, ow19, s0_fa18, s1_fa18, s5_fa18, s6_fa18, s7_fa18, s8_fa18, s9_fa18⟩ := hI
    refine wp_seq_k fun K8 hK8 => ?_
    refine wp_seq_k fun K9 hK9 => ?_
    refine region_sx [yV (.int .i64 (k : Int)), yV (.slice (some ⟨b, off, none⟩) L.length cap), yV (.int .i64 ((L.length : Nat) : Int)), yV (.bool (decide ((k : Int) < ((L.length : Nat) : Int))))] 4 137 (by kernel_rfl) zfa18 (by kernel_rfl) (by kernel_rfl) (fun i o ho hi aa ww hk bs hd => ?_) (fun fa19 fw19 hk bs hv ap => ?_)
    · match i, ho, hi with
      | 0, ho, hi =>
        cases ho
        exact stepX_same (v := .int .i64 (k : Int)) (want0 rfl) (xmove rfl (bs.get 9 rfl s9_fa18)) rfl rfl
      | 1, ho, hi =>
        cases ho
        exact stepX_same (v := .slice (some ⟨b, off, none⟩) L.length cap) (want0 rfl) (xmove rfl (bs.get 0 rfl s0_fa18)) rfl rfl
      | 2, ho, hi =>
        cases ho
        have d1 : aa.eval (.tmp 33) = .slice (some ⟨b, off, none⟩) L.length cap := depX hd 1 rfl
        exact stepX_same (v := .int .i64 ((L.length : Nat) : Int)) (want0 rfl) (xlen Tryd.underlying55 rfl d1) rfl rfl
      | 3, ho, hi =>
        cases ho
        have d0 : aa.eval (.tmp 32) = .int .i64 (k : Int) := depX hd 0 rfl
        have d2 : aa.eval (.tmp 34) = .int .i64 ((L.length : Nat) : Int) := depX hd 2 rfl
        exact stepX_same (v := .bool (decide ((k : Int) < ((L.length : Nat) : Int)))) (want0 rfl) (xlss rfl d0 d2) rfl rfl
      | i + 4, ho, hi => exact absurd hi (by omega)
    have zfa19 : fa19.tmps.size = 137 := bs.size.trans zfa18
    have dffa19 : fa19.defers = [] := bs.defers.trans dffa18
    have ow20 := ow19.keep hk
    have s35_fa19 : fa19.eval (.tmp 35) = .bool (decide ((k : Int) < ((L.length : Nat) : Int))) := hv 3 (by decide)
    have s0_fa19 : fa19.eval (.tmp 0) = .slice (some ⟨b, off, none⟩) L.length cap := bs.get 0 rfl s0_fa18
    have s1_fa19 : fa19.eval (.tmp 1) = .int .i64 (tn : Int) := bs.get 1 rfl s1_fa18
    have s5_fa19 : fa19.eval (.tmp 5) = va := bs.get 5 rfl s5_fa18
    have s6_fa19 : fa19.eval (.tmp 6) = vb := bs.get 6 rfl s6_fa18
    have s7_fa19 : fa19.eval (.tmp 7) = vc := bs.get 7 rfl s7_fa18
    have s8_fa19 : fa19.eval (.tmp 8) = .int .i64 ((yes (L.take k) : Nat) : Int) := bs.get 8 rfl s8_fa18
    have s9_fa19 : fa19.eval (.tmp 9) = .int .i64 (k : Int) := bs.get 9 rfl s9_fa18
    clear hv ap bs hk
    refine wl_nil (fun fr u => fr.tmps.size = 137 ∧ fr.defers = [] ∧ Own fw9 [Th.row fw9.heap.size 35 3 va ((fA L k).length) (flatV (fA L k)), Th.row fw9.heap.size 35 3 vb ((fB L k).length) (flatV (fB L k)), Th.row fw9.heap.size 35 3 vc ((fC L tn k).length) (flatV (fC L tn k))] u ∧ fr.eval (.tmp 35) = .bool (decide ((k : Int) < ((L.length : Nat) : Int))) ∧ fr.eval (.tmp 0) = .slice (some ⟨b, off, none⟩) L.length cap ∧ fr.eval (.tmp 1) = .int .i64 (tn : Int) ∧ fr.eval (.tmp 5) = va ∧ fr.eval (.tmp 6) = vb ∧ fr.eval (.tmp 7) = vc ∧ fr.eval (.tmp 8) = .int .i64 ((yes (L.take k) : Nat) : Int) ∧ fr.eval (.tmp 9) = .int .i64 (k : Int)) ⟨zfa19, dffa19, ow20, s35_fa19, s0_fa19, s1_fa19, s5_fa19, s6_fa19, s7_fa19, s8_fa19, s9_fa19⟩ ?_
    rintro fa20 fw20 ⟨zfa20, dffa20, ow21, s35_fa20, s0_fa20, s1_fa20, s5_fa20, s6_fa20, s7_fa20, s8_fa20, s9_fa20⟩
    refine then_n (hK9 _ _ ?_)
    clear hK9 K9
    by_cases hc2 : (k : Int) < ((L.length : Nat) : Int)
    · refine wp_cond_true (s35_fa20.trans (congrArg Value.bool (decide_eq_true hc2))) ?_
      refine wp_skip ?_
      refine then_n (hK8 _ _ ?_)
      clear hK8 K8
      refine wp_seq_k fun K10 hK10 => ?_
      refine wp_block ?_
      refine wp_seq_k fun K11 hK11 => ?_
      have hlt : k < L.length := by omega
      refine region_chain [5, 6, 7, 14, 15, 16, 27, 28, 29, 30, 31, 32] [fun v => v = va, fun v => v = .slice (some ⟨b, off, none⟩) L.length cap, fun v => v = .int .i64 (k : Int), fun v => v = .pointer (some ⟨b, off + k, none⟩), fun v => v = .bool (L.getD k false), fun v => v = aggV (vTruth (L.getD k false)), fun _ => True, fun _ => True, fun v => v = vb, fun v => v = .slice (some ⟨b, off, none⟩) L.length cap, fun v => v = .int .i64 (k : Int), fun v => v = .pointer (some ⟨b, off + k, none⟩), fun v => v = .bool (L.getD k false), fun v => v = .bool (!(L.getD k false)), fun v => v = aggV (vTruth (!(L.getD k false))), fun _ => True, fun _ => True, fun v => v = vc, fun v => v = .slice (some ⟨b, off, none⟩) L.length cap, fun v => v = .int .i64 (k : Int), fun v => v = .int .i64 (tn : Int), fun v => v = .int .i64 ((k + tn : Nat) : Int), fun v => v = .slice (some ⟨b, off, none⟩) L.length cap, fun v => v = .int .i64 ((L.length : Nat) : Int), fun v => v = .int .i64 (((k + tn) % (L.length) : Nat) : Int), fun v => v = .pointer (some ⟨b, off + ((k + tn) % (L.length)), none⟩), fun v => v = .bool (L.getD ((k + tn) % (L.length)) false), fun v => v = aggV (vTruth (L.getD ((k + tn) % (L.length)) false)), fun _ => True, fun _ => True, fun _ => True, fun _ => True, fun _ => True] (Stages fw9 [⟨fun gs ys => True, fun gs ys => [Th.row fw9.heap.size 35 3 va ((fA L k).length) (flatV (fA L k)), Th.row fw9.heap.size 35 3 vb ((fB L k).length) (flatV (fB L k)), Th.row fw9.heap.size 35 3 vc ((fC L tn k).length) (flatV (fC L tn k))]⟩, ⟨fun gs ys => True, fun gs ys => [Th.row fw9.heap.size 35 3 va ((fA L k).length) (flatV (fA L k)), Th.row fw9.heap.size 35 3 vb ((fB L k).length) (flatV (fB L k)), Th.row fw9.heap.size 35 3 vc ((fC L tn k).length) (flatV (fC L tn k))]⟩, ⟨fun gs ys => ys.getD 1 undef = .slice (some ⟨(gs.getD 0 0), 0, none⟩) 1 1 ∧ True, fun gs ys => [Th.obj (gs.getD 0 0) (rowObj [vTruth (L.getD k false)]), Th.row fw9.heap.size 35 3 va ((fA L k).length) (flatV (fA L k)), Th.row fw9.heap.size 35 3 vb ((fB L k).length) (flatV (fB L k)), Th.row fw9.heap.size 35 3 vc ((fC L tn k).length) (flatV (fC L tn k))]⟩, ⟨fun gs ys => ys.getD 1 undef = .slice (some ⟨(gs.getD 0 0), 0, none⟩) 1 1 ∧ True, fun gs ys => [Th.obj (gs.getD 0 0) (rowObj [vTruth (L.getD k false)]), Th.row fw9.heap.size 35 3 (ys.getD 2 undef) (((fA L k) ++ [vTruth (L.getD k false)]).length) (flatV ((fA L k) ++ [vTruth (L.getD k false)])), Th.row fw9.heap.size 35 3 vb ((fB L k).length) (flatV (fB L k)), Th.row fw9.heap.size 35 3 vc ((fC L tn k).length) (flatV (fC L tn k))]⟩, ⟨fun gs ys => ys.getD 1 undef = .slice (some ⟨(gs.getD 0 0), 0, none⟩) 1 1 ∧ True, fun gs ys => [Th.obj (gs.getD 0 0) (rowObj [vTruth (L.getD k false)]), Th.row fw9.heap.size 35 3 (ys.getD 2 undef) (((fA L k) ++ [vTruth (L.getD k false)]).length) (flatV ((fA L k) ++ [vTruth (L.getD k false)])), Th.row fw9.heap.size 35 3 vb ((fB L k).length) (flatV (fB L k)), Th.row fw9.heap.size 35 3 vc ((fC L tn k).length) (flatV (fC L tn k))]⟩, ⟨fun gs ys => ys.getD 1 undef = .slice (some ⟨(gs.getD 0 0), 0, none⟩) 1 1 ∧ ys.getD 4 undef = .slice (some ⟨(gs.getD 1 0), 0, none⟩) 1 1 ∧ True, fun gs ys => [Th.obj (gs.getD 1 0) (rowObj [vTruth (!(L.getD k false))]), Th.obj (gs.getD 0 0) (rowObj [vTruth (L.getD k false)]), Th.row fw9.heap.size 35 3 (ys.getD 2 undef) (((fA L k) ++ [vTruth (L.getD k false)]).length) (flatV ((fA L k) ++ [vTruth (L.getD k false)])), Th.row fw9.heap.size 35 3 vb ((fB L k).length) (flatV (fB L k)), Th.row fw9.heap.size 35 3 vc ((fC L tn k).length) (flatV (fC L tn k))]⟩, ⟨fun gs ys => ys.getD 1 undef = .slice (some ⟨(gs.getD 0 0), 0, none⟩) 1 1 ∧ ys.getD 4 undef = .slice (some ⟨(gs.getD 1 0), 0, none⟩) 1 1 ∧ True, fun gs ys => [Th.obj (gs.getD 1 0) (rowObj [vTruth (!(L.getD k false))]), Th.obj (gs.getD 0 0) (rowObj [vTruth (L.getD k false)]), Th.row fw9.heap.size 35 3 (ys.getD 2 undef) (((fA L k) ++ [vTruth (L.getD k false)]).length) (flatV ((fA L k) ++ [vTruth (L.getD k false)])), Th.row fw9.heap.size 35 3 (ys.getD 5 undef) (((fB L k) ++ [vTruth (!(L.getD k false))]).length) (flatV ((fB L k) ++ [vTruth (!(L.getD k false))])), Th.row fw9.heap.size 35 3 vc ((fC L tn k).length) (flatV (fC L tn k))]⟩, ⟨fun gs ys => ys.getD 1 undef = .slice (some ⟨(gs.getD 0 0), 0, none⟩) 1 1 ∧ ys.getD 4 undef = .slice (some ⟨(gs.getD 1 0), 0, none⟩) 1 1 ∧ True, fun gs ys => [Th.obj (gs.getD 1 0) (rowObj [vTruth (!(L.getD k false))]), Th.obj (gs.getD 0 0) (rowObj [vTruth (L.getD k false)]), Th.row fw9.heap.size 35 3 (ys.getD 2 undef) (((fA L k) ++ [vTruth (L.getD k false)]).length) (flatV ((fA L k) ++ [vTruth (L.getD k false)])), Th.row fw9.heap.size 35 3 (ys.getD 5 undef) (((fB L k) ++ [vTruth (!(L.getD k false))]).length) (flatV ((fB L k) ++ [vTruth (!(L.getD k false))])), Th.row fw9.heap.size 35 3 vc ((fC L tn k).length) (flatV (fC L tn k))]⟩, ⟨fun gs ys => ys.getD 1 undef = .slice (some ⟨(gs.getD 0 0), 0, none⟩) 1 1 ∧ ys.getD 4 undef = .slice (some ⟨(gs.getD 1 0), 0, none⟩) 1 1 ∧ ys.getD 7 undef = .slice (some ⟨(gs.getD 2 0), 0, none⟩) 1 1 ∧ True, fun gs ys => [Th.obj (gs.getD 2 0) (rowObj [vTruth (L.getD ((k + tn) % (L.length)) false)]), Th.obj (gs.getD 1 0) (rowObj [vTruth (!(L.getD k false))]), Th.obj (gs.getD 0 0) (rowObj [vTruth (L.getD k false)]), Th.row fw9.heap.size 35 3 (ys.getD 2 undef) (((fA L k) ++ [vTruth (L.getD k false)]).length) (flatV ((fA L k) ++ [vTruth (L.getD k false)])), Th.row fw9.heap.size 35 3 (ys.getD 5 undef) (((fB L k) ++ [vTruth (!(L.getD k false))]).length) (flatV ((fB L k) ++ [vTruth (!(L.getD k false))])), Th.row fw9.heap.size 35 3 vc ((fC L tn k).length) (flatV (fC L tn k))]⟩, ⟨fun gs ys => ys.getD 1 undef = .slice (some ⟨(gs.getD 0 0), 0, none⟩) 1 1 ∧ ys.getD 4 undef = .slice (some ⟨(gs.getD 1 0), 0, none⟩) 1 1 ∧ ys.getD 7 undef = .slice (some ⟨(gs.getD 2 0), 0, none⟩) 1 1 ∧ True, fun gs ys => [Th.obj (gs.getD 2 0) (rowObj [vTruth (L.getD ((k + tn) % (L.length)) false)]), Th.obj (gs.getD 1 0) (rowObj [vTruth (!(L.getD k false))]), Th.obj (gs.getD 0 0) (rowObj [vTruth (L.getD k false)]), Th.row fw9.heap.size 35 3 (ys.getD 2 undef) (((fA L k) ++ [vTruth (L.getD k false)]).length) (flatV ((fA L k) ++ [vTruth (L.getD k false)])), Th.row fw9.heap.size 35 3 (ys.getD 5 undef) (((fB L k) ++ [vTruth (!(L.getD k false))]).length) (flatV ((fB L k) ++ [vTruth (!(L.getD k false))])), Th.row fw9.heap.size 35 3 (ys.getD 8 undef) (((fC L tn k) ++ [vTruth (L.getD ((k + tn) % (L.length)) false)]).length) (flatV ((fC L tn k) ++ [vTruth (L.getD ((k + tn) % (L.length)) false)]))]⟩, ⟨fun gs ys => ys.getD 1 undef = .slice (some ⟨(gs.getD 0 0), 0, none⟩) 1 1 ∧ ys.getD 4 undef = .slice (some ⟨(gs.getD 1 0), 0, none⟩) 1 1 ∧ ys.getD 7 undef = .slice (some ⟨(gs.getD 2 0), 0, none⟩) 1 1 ∧ ys.getD 9 undef = ys.getD 2 undef ∧ True, fun gs ys => [Th.obj (gs.getD 2 0) (rowObj [vTruth (L.getD ((k + tn) % (L.length)) false)]), Th.obj (gs.getD 1 0) (rowObj [vTruth (!(L.getD k false))]), Th.obj (gs.getD 0 0) (rowObj [vTruth (L.getD k false)]), Th.row fw9.heap.size 35 3 (ys.getD 2 undef) (((fA L k) ++ [vTruth (L.getD k false)]).length) (flatV ((fA L k) ++ [vTruth (L.getD k false)])), Th.row fw9.heap.size 35 3 (ys.getD 5 undef) (((fB L k) ++ [vTruth (!(L.getD k false))]).length) (flatV ((fB L k) ++ [vTruth (!(L.getD k false))])), Th.row fw9.heap.size 35 3 (ys.getD 8 undef) (((fC L tn k) ++ [vTruth (L.getD ((k + tn) % (L.length)) false)]).length) (flatV ((fC L tn k) ++ [vTruth (L.getD ((k + tn) % (L.length)) false)]))]⟩, ⟨fun gs ys => ys.getD 1 undef = .slice (some ⟨(gs.getD 0 0), 0, none⟩) 1 1 ∧ ys.getD 4 undef = .slice (some ⟨(gs.getD 1 0), 0, none⟩) 1 1 ∧ ys.getD 7 undef = .slice (some ⟨(gs.getD 2 0), 0, none⟩) 1 1 ∧ ys.getD 9 undef = ys.getD 2 undef ∧ ys.getD 10 undef = ys.getD 5 undef ∧ True, fun gs ys => [Th.obj (gs.getD 2 0) (rowObj [vTruth (L.getD ((k + tn) % (L.length)) false)]), Th.obj (gs.getD 1 0) (rowObj [vTruth (!(L.getD k false))]), Th.obj (gs.getD 0 0) (rowObj [vTruth (L.getD k false)]), Th.row fw9.heap.size 35 3 (ys.getD 2 undef) (((fA L k) ++ [vTruth (L.getD k false)]).length) (flatV ((fA L k) ++ [vTruth (L.getD k false)])), Th.row fw9.heap.size 35 3 (ys.getD 5 undef) (((fB L k) ++ [vTruth (!(L.getD k false))]).length) (flatV ((fB L k) ++ [vTruth (!(L.getD k false))])), Th.row fw9.heap.size 35 3 (ys.getD 8 undef) (((fC L tn k) ++ [vTruth (L.getD ((k + tn) % (L.length)) false)]).length) (flatV ((fC L tn k) ++ [vTruth (L.getD ((k + tn) % (L.length)) false)]))]⟩, ⟨fun gs ys => ys.getD 1 undef = .slice (some ⟨(gs.getD 0 0), 0, none⟩) 1 1 ∧ ys.getD 4 undef = .slice (some ⟨(gs.getD 1 0), 0, none⟩) 1 1 ∧ ys.getD 7 undef = .slice (some ⟨(gs.getD 2 0), 0, none⟩) 1 1 ∧ ys.getD 9 undef = ys.getD 2 undef ∧ ys.getD 10 undef = ys.getD 5 undef ∧ ys.getD 11 undef = ys.getD 8 undef ∧ True, fun gs ys => [Th.obj (gs.getD 2 0) (rowObj [vTruth (L.getD ((k + tn) % (L.length)) false)]), Th.obj (gs.getD 1 0) (rowObj [vTruth (!(L.getD k false))]), Th.obj (gs.getD 0 0) (rowObj [vTruth (L.getD k false)]), Th.row fw9.heap.size 35 3 (ys.getD 2 undef) (((fA L k) ++ [vTruth (L.getD k false)]).length) (flatV ((fA L k) ++ [vTruth (L.getD k false)])), Th.row fw9.heap.size 35 3 (ys.getD 5 undef) (((fB L k) ++ [vTruth (!(L.getD k false))]).length) (flatV ((fB L k) ++ [vTruth (!(L.getD k false))])), Th.row fw9.heap.size 35 3 (ys.getD 8 undef) (((fC L tn k) ++ [vTruth (L.getD ((k + tn) % (L.length)) false)]).length) (flatV ((fC L tn k) ++ [vTruth (L.getD ((k + tn) % (L.length)) false)]))]⟩]) (Kept fw9) 137 (by kernel_rfl) zfa20 (by kernel_rfl) (by kernel_rfl) (Stages.kept _ _) (Stages.drew _ _) ⟨[], trivial, ow21⟩ (fun i o ho hn aa ww hk bs hd => ?_) (fun t i o ht ho aa ww bs hS hd => ?_) (fun fa21 fw21 bs hv hS => ?_)
      · match i, ho, hn with
        | 0, ho, hn =>
          cases ho
          exact ⟨va, xmove rfl ((bs 5 rfl).trans s5_fa20), rfl⟩
        | 1, ho, hn =>
          cases ho
          exact ⟨.slice (some ⟨b, off, none⟩) L.length cap, xmove rfl ((bs 0 rfl).trans s0_fa20), rfl⟩
        | 2, ho, hn =>
          cases ho
          exact ⟨.int .i64 (k : Int), xmove rfl ((bs 9 rfl).trans s9_fa20), rfl⟩
        | 3, ho, hn =>
          cases ho
          have d1 : aa.eval (.tmp 39) = .slice (some ⟨b, off, none⟩) L.length cap := depP hd 1 rfl
          have d2 : aa.eval (.tmp 40) = .int .i64 (k : Int) := depP hd 2 rfl
          exact ⟨.pointer (some ⟨b, off + k, none⟩), xplaceB rfl (k := k) d1 d2 hlt, rfl⟩
        | 4, ho, hn =>
          cases ho
          have d3 : aa.eval (.tmp 41) = .pointer (some ⟨b, off + k, none⟩) := depP hd 3 rfl
          exact ⟨.bool (L.getD k false), xload1 (Or.inl rfl) rfl d3 ((Kept.cell_at hk hb).trans (BR k hlt)), rfl⟩
        | 8, ho, hn =>
          cases ho
          exact ⟨vb, xmove rfl ((bs 6 rfl).trans s6_fa20), rfl⟩
        | 9, ho, hn =>
          cases ho
          exact ⟨.slice (some ⟨b, off, none⟩) L.length cap, xmove rfl ((bs 0 rfl).trans s0_fa20), rfl⟩
        | 10, ho, hn =>
          cases ho
          exact ⟨.int .i64 (k : Int), xmove rfl ((bs 9 rfl).trans s9_fa20), rfl⟩
        | 11, ho, hn =>
          cases ho
          have d9 : aa.eval (.tmp 47) = .slice (some ⟨b, off, none⟩) L.length cap := depP hd 9 rfl
          have d10 : aa.eval (.tmp 48) = .int .i64 (k : Int) := depP hd 10 rfl
          exact ⟨.pointer (some ⟨b, off + k, none⟩), xplaceB rfl (k := k) d9 d10 hlt, rfl⟩
        | 12, ho, hn =>
          cases ho
          have d11 : aa.eval (.tmp 49) = .pointer (some ⟨b, off + k, none⟩) := depP hd 11 rfl
          exact ⟨.bool (L.getD k false), xload1 (Or.inl rfl) rfl d11 ((Kept.cell_at hk hb).trans (BR k hlt)), rfl⟩
        | 13, ho, hn =>
          cases ho
          have d12 : aa.eval (.tmp 50) = .bool (L.getD k false) := depP hd 12 rfl
          exact ⟨.bool (!(L.getD k false)), xnot rfl d12, rfl⟩
        | 17, ho, hn =>
          cases ho
          exact ⟨vc, xmove rfl ((bs 7 rfl).trans s7_fa20), rfl⟩
        | 18, ho, hn =>
          cases ho
          exact ⟨.slice (some ⟨b, off, none⟩) L.length cap, xmove rfl ((bs 0 rfl).trans s0_fa20), rfl⟩
        | 19, ho, hn =>
          cases ho
          exact ⟨.int .i64 (k : Int), xmove rfl ((bs 9 rfl).trans s9_fa20), rfl⟩
        | 20, ho, hn =>
          cases ho
          exact ⟨.int .i64 (tn : Int), xmove rfl ((bs 1 rfl).trans s1_fa20), rfl⟩
        | 21, ho, hn =>
          cases ho
          have d19 : aa.eval (.tmp 57) = .int .i64 (k : Int) := depP hd 19 rfl
          have d20 : aa.eval (.tmp 58) = .int .i64 (tn : Int) := depP hd 20 rfl
          exact ⟨.int .i64 ((k + tn : Nat) : Int), xadd (Or.inl rfl) rfl (n := (k : Int)) (m := (tn : Int)) d19 d20 (by omega) (by omega), rfl⟩
        | 22, ho, hn =>
          cases ho
          exact ⟨.slice (some ⟨b, off, none⟩) L.length cap, xmove rfl ((bs 0 rfl).trans s0_fa20), rfl⟩
        | 23, ho, hn =>
          cases ho
          have d22 : aa.eval (.tmp 60) = .slice (some ⟨b, off, none⟩) L.length cap := depP hd 22 rfl
          exact ⟨.int .i64 ((L.length : Nat) : Int), xlen Tryd.underlying55 rfl d22, rfl⟩
        | 24, ho, hn =>
          cases ho
          have d21 : aa.eval (.tmp 59) = .int .i64 ((k + tn : Nat) : Int) := depP hd 21 rfl
          have d23 : aa.eval (.tmp 61) = .int .i64 ((L.length : Nat) : Int) := depP hd 23 rfl
          exact ⟨.int .i64 (((k + tn) % (L.length) : Nat) : Int), xremN (Or.inl rfl) rfl (n := (k + tn)) (m := (L.length)) d21 d23 (by omega) (by omega), rfl⟩
        | 25, ho, hn =>
          cases ho
          have d18 : aa.eval (.tmp 56) = .slice (some ⟨b, off, none⟩) L.length cap := depP hd 18 rfl
          have d24 : aa.eval (.tmp 62) = .int .i64 (((k + tn) % (L.length) : Nat) : Int) := depP hd 24 rfl
          exact ⟨.pointer (some ⟨b, off + ((k + tn) % (L.length)), none⟩), xplaceB rfl (k := ((k + tn) % (L.length))) d18 d24 (Nat.mod_lt _ (by omega)), rfl⟩
        | 26, ho, hn =>
          cases ho
          have d25 : aa.eval (.tmp 63) = .pointer (some ⟨b, off + ((k + tn) % (L.length)), none⟩) := depP hd 25 rfl
          exact ⟨.bool (L.getD ((k + tn) % (L.length)) false), xload1 (Or.inl rfl) rfl d25 ((Kept.cell_at hk hb).trans (BR ((k + tn) % (L.length)) (Nat.mod_lt _ (by omega)))), rfl⟩
        | 5, ho, hn => exact absurd (by decide) hn
        | 6, ho, hn => exact absurd (by decide) hn
        | 7, ho, hn => exact absurd (by decide) hn
        | 14, ho, hn => exact absurd (by decide) hn
        | 15, ho, hn => exact absurd (by decide) hn
        | 16, ho, hn => exact absurd (by decide) hn
        | 27, ho, hn => exact absurd (by decide) hn
        | 28, ho, hn => exact absurd (by decide) hn
        | 29, ho, hn => exact absurd (by decide) hn
        | 30, ho, hn => exact absurd (by decide) hn
        | 31, ho, hn => exact absurd (by decide) hn
        | 32, ho, hn => exact absurd (by decide) hn
        | i + 33, ho, hn => exact absurd ho (by simp)
      · match t, ht with
        | 0, ht =>
          cases ht; cases ho
          have d4 : aa.eval (.tmp 42) = .bool (L.getD k false) := depP hd 4 rfl
          obtain ⟨gs, hc, ow⟩ := (show ∃ gs : List Nat, (True) ∧ Own fw9 [Th.row fw9.heap.size 35 3 va ((fA L k).length) (flatV (fA L k)), Th.row fw9.heap.size 35 3 vb ((fB L k).length) (flatV (fB L k)), Th.row fw9.heap.size 35 3 vc ((fC L tn k).length) (flatV (fC L tn k))] ww from hS)
          obtain ⟨_⟩ := hc
          exact stepC_enter (xcall1 rfl d4 (en_louvrelaw15_truth _ _)) ((truth15_any (L.getD k false) ww).mono fun _ _ ⟨he, hk2⟩ => ⟨_, he, rfl, ⟨[], trivial, ow.keep hk2⟩⟩)
        | 1, ht =>
          cases ht; cases ho
          have d5 : aa.eval (.tmp 43) = aggV (vTruth (L.getD k false)) := depP hd 5 rfl
          obtain ⟨gs, hc, ow⟩ := (show ∃ gs : List Nat, (True) ∧ Own fw9 [Th.row fw9.heap.size 35 3 va ((fA L k).length) (flatV (fA L k)), Th.row fw9.heap.size 35 3 vb ((fB L k).length) (flatV (fB L k)), Th.row fw9.heap.size 35 3 vc ((fC L tn k).length) (flatV (fC L tn k))] ww from hS)
          obtain ⟨_⟩ := hc
          exact stepC_value (xrow1 rfl d5) trivial ⟨[ww.heap.size], ⟨rfl, trivial⟩, ow.add (t := Th.obj ww.heap.size (rowObj [vTruth (L.getD k false)])) (Go.heap_alloc_new _ _) ((Kept.refl _).alloc _) (fun g e => by cases e; exact Nat.le_refl _)⟩
        | 2, ht =>
          cases ht; cases ho
          have d0 : aa.eval (.tmp 38) = va := depP hd 0 rfl
          obtain ⟨gs, hc, ow⟩ := (show ∃ gs : List Nat, (aa.eval (.tmp 44) = .slice (some ⟨(gs.getD 0 0), 0, none⟩) 1 1 ∧ True) ∧ Own fw9 [Th.obj (gs.getD 0 0) (rowObj [vTruth (L.getD k false)]), Th.row fw9.heap.size 35 3 va ((fA L k).length) (flatV (fA L k)), Th.row fw9.heap.size 35 3 vb ((fB L k).length) (flatV (fB L k)), Th.row fw9.heap.size 35 3 vc ((fC L tn k).length) (flatV (fC L tn k))] ww from hS)
          generalize gs.getD 0 0 = g0 at hc ow
          obtain ⟨e6, _⟩ := hc
          exact stepC_appendV rfl d0 e6 (ow.row 1 rfl) (rowObj_row (l := [vTruth (L.getD k false)]) (ow.get 0 rfl)) (by rw [fA_length hk]; simp; omega) ow.kept.size (fun v' w' ho' hg hb => ⟨trivial, ⟨[g0], ⟨e6, trivial⟩, ow.turn 1 rfl (t' := Th.row fw9.heap.size 35 3 v' (((fA L k) ++ [vTruth (L.getD k false)])).length (flatV ((fA L k) ++ [vTruth (L.getD k false)]))) ho' hg (hb.imp (fun e => e) (fun e g c => by have := (show some w'.heap.size = some w'.heap.size from rfl); have z := e.symm.trans c; cases z; exact Nat.le_refl _))⟩⟩)
        | 3, ht =>
          cases ht; cases ho
          have d13 : aa.eval (.tmp 51) = .bool (!(L.getD k false)) := depP hd 13 rfl
          obtain ⟨gs, hc, ow⟩ := (show ∃ gs : List Nat, (aa.eval (.tmp 44) = .slice (some ⟨(gs.getD 0 0), 0, none⟩) 1 1 ∧ True) ∧ Own fw9 [Th.obj (gs.getD 0 0) (rowObj [vTruth (L.getD k false)]), Th.row fw9.heap.size 35 3 (aa.eval (.tmp 45)) (((fA L k) ++ [vTruth (L.getD k false)]).length) (flatV ((fA L k) ++ [vTruth (L.getD k false)])), Th.row fw9.heap.size 35 3 vb ((fB L k).length) (flatV (fB L k)), Th.row fw9.heap.size 35 3 vc ((fC L tn k).length) (flatV (fC L tn k))] ww from hS)
          generalize gs.getD 0 0 = g0 at hc ow
          obtain ⟨e6, _⟩ := hc
          exact stepC_enter (xcall1 rfl d13 (en_louvrelaw15_truth _ _)) ((truth15_any (!(L.getD k false)) ww).mono fun _ _ ⟨he, hk2⟩ => ⟨_, he, rfl, ⟨[g0], ⟨e6, trivial⟩, ow.keep hk2⟩⟩)
        | 4, ht =>
          cases ht; cases ho
          have d14 : aa.eval (.tmp 52) = aggV (vTruth (!(L.getD k false))) := depP hd 14 rfl
          obtain ⟨gs, hc, ow⟩ := (show ∃ gs : List Nat, (aa.eval (.tmp 44) = .slice (some ⟨(gs.getD 0 0), 0, none⟩) 1 1 ∧ True) ∧ Own fw9 [Th.obj (gs.getD 0 0) (rowObj [vTruth (L.getD k false)]), Th.row fw9.heap.size 35 3 (aa.eval (.tmp 45)) (((fA L k) ++ [vTruth (L.getD k false)]).length) (flatV ((fA L k) ++ [vTruth (L.getD k false)])), Th.row fw9.heap.size 35 3 vb ((fB L k).length) (flatV (fB L k)), Th.row fw9.heap.size 35 3 vc ((fC L tn k).length) (flatV (fC L tn k))] ww from hS)
          generalize gs.getD 0 0 = g0 at hc ow
          obtain ⟨e6, _⟩ := hc
          exact stepC_value (xrow1 rfl d14) trivial ⟨[g0, ww.heap.size], ⟨e6, rfl, trivial⟩, ow.add (t := Th.obj ww.heap.size (rowObj [vTruth (!(L.getD k false))])) (Go.heap_alloc_new _ _) ((Kept.refl _).alloc _) (fun g e => by cases e; exact Nat.le_refl _)⟩
        | 5, ht =>
          cases ht; cases ho
          have d8 : aa.eval (.tmp 46) = vb := depP hd 8 rfl
          obtain ⟨gs, hc, ow⟩ := (show ∃ gs : List Nat, (aa.eval (.tmp 44) = .slice (some ⟨(gs.getD 0 0), 0, none⟩) 1 1 ∧ aa.eval (.tmp 53) = .slice (some ⟨(gs.getD 1 0), 0, none⟩) 1 1 ∧ True) ∧ Own fw9 [Th.obj (gs.getD 1 0) (rowObj [vTruth (!(L.getD k false))]), Th.obj (gs.getD 0 0) (rowObj [vTruth (L.getD k false)]), Th.row fw9.heap.size 35 3 (aa.eval (.tmp 45)) (((fA L k) ++ [vTruth (L.getD k false)]).length) (flatV ((fA L k) ++ [vTruth (L.getD k false)])), Th.row fw9.heap.size 35 3 vb ((fB L k).length) (flatV (fB L k)), Th.row fw9.heap.size 35 3 vc ((fC L tn k).length) (flatV (fC L tn k))] ww from hS)
          generalize gs.getD 0 0 = g0 at hc ow
          generalize gs.getD 1 0 = g1 at hc ow
          obtain ⟨e6, e15, _⟩ := hc
          exact stepC_appendV rfl d8 e15 (ow.row 3 rfl) (rowObj_row (l := [vTruth (!(L.getD k false))]) (ow.get 0 rfl)) (by rw [fB_length hk]; simp; omega) ow.kept.size (fun v' w' ho' hg hb => ⟨trivial, ⟨[g0, g1], ⟨e6, e15, trivial⟩, ow.turn 3 rfl (t' := Th.row fw9.heap.size 35 3 v' (((fB L k) ++ [vTruth (!(L.getD k false))])).length (flatV ((fB L k) ++ [vTruth (!(L.getD k false))]))) ho' hg (hb.imp (fun e => e) (fun e g c => by have := (show some w'.heap.size = some w'.heap.size from rfl); have z := e.symm.trans c; cases z; exact Nat.le_refl _))⟩⟩)
        | 6, ht =>
          cases ht; cases ho
          have d26 : aa.eval (.tmp 64) = .bool (L.getD ((k + tn) % (L.length)) false) := depP hd 26 rfl
          obtain ⟨gs, hc, ow⟩ := (show ∃ gs : List Nat, (aa.eval (.tmp 44) = .slice (some ⟨(gs.getD 0 0), 0, none⟩) 1 1 ∧ aa.eval (.tmp 53) = .slice (some ⟨(gs.getD 1 0), 0, none⟩) 1 1 ∧ True) ∧ Own fw9 [Th.obj (gs.getD 1 0) (rowObj [vTruth (!(L.getD k false))]), Th.obj (gs.getD 0 0) (rowObj [vTruth (L.getD k false)]), Th.row fw9.heap.size 35 3 (aa.eval (.tmp 45)) (((fA L k) ++ [vTruth (L.getD k false)]).length) (flatV ((fA L k) ++ [vTruth (L.getD k false)])), Th.row fw9.heap.size 35 3 (aa.eval (.tmp 54)) (((fB L k) ++ [vTruth (!(L.getD k false))]).length) (flatV ((fB L k) ++ [vTruth (!(L.getD k false))])), Th.row fw9.heap.size 35 3 vc ((fC L tn k).length) (flatV (fC L tn k))] ww from hS)
          generalize gs.getD 0 0 = g0 at hc ow
          generalize gs.getD 1 0 = g1 at hc ow
          obtain ⟨e6, e15, _⟩ := hc
          exact stepC_enter (xcall1 rfl d26 (en_louvrelaw15_truth _ _)) ((truth15_any (L.getD ((k + tn) % (L.length)) false) ww).mono fun _ _ ⟨he, hk2⟩ => ⟨_, he, rfl, ⟨[g0, g1], ⟨e6, e15, trivial⟩, ow.keep hk2⟩⟩)
        | 7, ht =>
          cases ht; cases ho
          have d27 : aa.eval (.tmp 65) = aggV (vTruth (L.getD ((k + tn) % (L.length)) false)) := depP hd 27 rfl
          obtain ⟨gs, hc, ow⟩ := (show ∃ gs : List Nat, (aa.eval (.tmp 44) = .slice (some ⟨(gs.getD 0 0), 0, none⟩) 1 1 ∧ aa.eval (.tmp 53) = .slice (some ⟨(gs.getD 1 0), 0, none⟩) 1 1 ∧ True) ∧ Own fw9 [Th.obj (gs.getD 1 0) (rowObj [vTruth (!(L.getD k false))]), Th.obj (gs.getD 0 0) (rowObj [vTruth (L.getD k false)]), Th.row fw9.heap.size 35 3 (aa.eval (.tmp 45)) (((fA L k) ++ [vTruth (L.getD k false)]).length) (flatV ((fA L k) ++ [vTruth (L.getD k false)])), Th.row fw9.heap.size 35 3 (aa.eval (.tmp 54)) (((fB L k) ++ [vTruth (!(L.getD k false))]).length) (flatV ((fB L k) ++ [vTruth (!(L.getD k false))])), Th.row fw9.heap.size 35 3 vc ((fC L tn k).length) (flatV (fC L tn k))] ww from hS)
          generalize gs.getD 0 0 = g0 at hc ow
          generalize gs.getD 1 0 = g1 at hc ow
          obtain ⟨e6, e15, _⟩ := hc
          exact stepC_value (xrow1 rfl d27) trivial ⟨[g0, g1, ww.heap.size], ⟨e6, e15, rfl, trivial⟩, ow.add (t := Th.obj ww.heap.size (rowObj [vTruth (L.getD ((k + tn) % (L.length)) false)])) (Go.heap_alloc_new _ _) ((Kept.refl _).alloc _) (fun g e => by cases e; exact Nat.le_refl _)⟩
        | 8, ht =>
          cases ht; cases ho
          have d17 : aa.eval (.tmp 55) = vc := depP hd 17 rfl
          obtain ⟨gs, hc, ow⟩ := (show ∃ gs : List Nat, (aa.eval (.tmp 44) = .slice (some ⟨(gs.getD 0 0), 0, none⟩) 1 1 ∧ aa.eval (.tmp 53) = .slice (some ⟨(gs.getD 1 0), 0, none⟩) 1 1 ∧ aa.eval (.tmp 66) = .slice (some ⟨(gs.getD 2 0), 0, none⟩) 1 1 ∧ True) ∧ Own fw9 [Th.obj (gs.getD 2 0) (rowObj [vTruth (L.getD ((k + tn) % (L.length)) false)]), Th.obj (gs.getD 1 0) (rowObj [vTruth (!(L.getD k false))]), Th.obj (gs.getD 0 0) (rowObj [vTruth (L.getD k false)]), Th.row fw9.heap.size 35 3 (aa.eval (.tmp 45)) (((fA L k) ++ [vTruth (L.getD k false)]).length) (flatV ((fA L k) ++ [vTruth (L.getD k false)])), Th.row fw9.heap.size 35 3 (aa.eval (.tmp 54)) (((fB L k) ++ [vTruth (!(L.getD k false))]).length) (flatV ((fB L k) ++ [vTruth (!(L.getD k false))])), Th.row fw9.heap.size 35 3 vc ((fC L tn k).length) (flatV (fC L tn k))] ww from hS)
          generalize gs.getD 0 0 = g0 at hc ow
          generalize gs.getD 1 0 = g1 at hc ow
          generalize gs.getD 2 0 = g2 at hc ow
          obtain ⟨e6, e15, e28, _⟩ := hc
          exact stepC_appendV rfl d17 e28 (ow.row 5 rfl) (rowObj_row (l := [vTruth (L.getD ((k + tn) % (L.length)) false)]) (ow.get 0 rfl)) (by rw [fC_length tl hk]; simp; omega) ow.kept.size (fun v' w' ho' hg hb => ⟨trivial, ⟨[g0, g1, g2], ⟨e6, e15, e28, trivial⟩, ow.turn 5 rfl (t' := Th.row fw9.heap.size 35 3 v' (((fC L tn k) ++ [vTruth (L.getD ((k + tn) % (L.length)) false)])).length (flatV ((fC L tn k) ++ [vTruth (L.getD ((k + tn) % (L.length)) false)]))) ho' hg (hb.imp (fun e => e) (fun e g c => by have := (show some w'.heap.size = some w'.heap.size from rfl); have z := e.symm.trans c; cases z; exact Nat.le_refl _))⟩⟩)
        | 9, ht =>
          cases ht; cases ho
          obtain ⟨gs, hc, ow⟩ := (show ∃ gs : List Nat, (aa.eval (.tmp 44) = .slice (some ⟨(gs.getD 0 0), 0, none⟩) 1 1 ∧ aa.eval (.tmp 53) = .slice (some ⟨(gs.getD 1 0), 0, none⟩) 1 1 ∧ aa.eval (.tmp 66) = .slice (some ⟨(gs.getD 2 0), 0, none⟩) 1 1 ∧ True) ∧ Own fw9 [Th.obj (gs.getD 2 0) (rowObj [vTruth (L.getD ((k + tn) % (L.length)) false)]), Th.obj (gs.getD 1 0) (rowObj [vTruth (!(L.getD k false))]), Th.obj (gs.getD 0 0) (rowObj [vTruth (L.getD k false)]), Th.row fw9.heap.size 35 3 (aa.eval (.tmp 45)) (((fA L k) ++ [vTruth (L.getD k false)]).length) (flatV ((fA L k) ++ [vTruth (L.getD k false)])), Th.row fw9.heap.size 35 3 (aa.eval (.tmp 54)) (((fB L k) ++ [vTruth (!(L.getD k false))]).length) (flatV ((fB L k) ++ [vTruth (!(L.getD k false))])), Th.row fw9.heap.size 35 3 (aa.eval (.tmp 67)) (((fC L tn k) ++ [vTruth (L.getD ((k + tn) % (L.length)) false)]).length) (flatV ((fC L tn k) ++ [vTruth (L.getD ((k + tn) % (L.length)) false)]))] ww from hS)
          generalize gs.getD 0 0 = g0 at hc ow
          generalize gs.getD 1 0 = g1 at hc ow
          generalize gs.getD 2 0 = g2 at hc ow
          obtain ⟨e6, e15, e28, _⟩ := hc
          exact stepC_value (xassign rfl rfl) trivial ⟨[g0, g1, g2], ⟨e6, e15, e28, rfl, trivial⟩, ow⟩
        | 10, ht =>
          cases ht; cases ho
          obtain ⟨gs, hc, ow⟩ := (show ∃ gs : List Nat, (aa.eval (.tmp 44) = .slice (some ⟨(gs.getD 0 0), 0, none⟩) 1 1 ∧ aa.eval (.tmp 53) = .slice (some ⟨(gs.getD 1 0), 0, none⟩) 1 1 ∧ aa.eval (.tmp 66) = .slice (some ⟨(gs.getD 2 0), 0, none⟩) 1 1 ∧ aa.eval (.tmp 5) = aa.eval (.tmp 45) ∧ True) ∧ Own fw9 [Th.obj (gs.getD 2 0) (rowObj [vTruth (L.getD ((k + tn) % (L.length)) false)]), Th.obj (gs.getD 1 0) (rowObj [vTruth (!(L.getD k false))]), Th.obj (gs.getD 0 0) (rowObj [vTruth (L.getD k false)]), Th.row fw9.heap.size 35 3 (aa.eval (.tmp 45)) (((fA L k) ++ [vTruth (L.getD k false)]).length) (flatV ((fA L k) ++ [vTruth (L.getD k false)])), Th.row fw9.heap.size 35 3 (aa.eval (.tmp 54)) (((fB L k) ++ [vTruth (!(L.getD k false))]).length) (flatV ((fB L k) ++ [vTruth (!(L.getD k false))])), Th.row fw9.heap.size 35 3 (aa.eval (.tmp 67)) (((fC L tn k) ++ [vTruth (L.getD ((k + tn) % (L.length)) false)]).length) (flatV ((fC L tn k) ++ [vTruth (L.getD ((k + tn) % (L.length)) false)]))] ww from hS)
          generalize gs.getD 0 0 = g0 at hc ow
          generalize gs.getD 1 0 = g1 at hc ow
          generalize gs.getD 2 0 = g2 at hc ow
          obtain ⟨e6, e15, e28, q30, _⟩ := hc
          exact stepC_value (xassign rfl rfl) trivial ⟨[g0, g1, g2], ⟨e6, e15, e28, q30, rfl, trivial⟩, ow⟩
        | 11, ht =>
          cases ht; cases ho
          obtain ⟨gs, hc, ow⟩ := (show ∃ gs : List Nat, (aa.eval (.tmp 44) = .slice (some ⟨(gs.getD 0 0), 0, none⟩) 1 1 ∧ aa.eval (.tmp 53) = .slice (some ⟨(gs.getD 1 0), 0, none⟩) 1 1 ∧ aa.eval (.tmp 66) = .slice (some ⟨(gs.getD 2 0), 0, none⟩) 1 1 ∧ aa.eval (.tmp 5) = aa.eval (.tmp 45) ∧ aa.eval (.tmp 6) = aa.eval (.tmp 54) ∧ True) ∧ Own fw9 [Th.obj (gs.getD 2 0) (rowObj [vTruth (L.getD ((k + tn) % (L.length)) false)]), Th.obj (gs.getD 1 0) (rowObj [vTruth (!(L.getD k false))]), Th.obj (gs.getD 0 0) (rowObj [vTruth (L.getD k false)]), Th.row fw9.heap.size 35 3 (aa.eval (.tmp 45)) (((fA L k) ++ [vTruth (L.getD k false)]).length) (flatV ((fA L k) ++ [vTruth (L.getD k false)])), Th.row fw9.heap.size 35 3 (aa.eval (.tmp 54)) (((fB L k) ++ [vTruth (!(L.getD k false))]).length) (flatV ((fB L k) ++ [vTruth (!(L.getD k false))])), Th.row fw9.heap.size 35 3 (aa.eval (.tmp 67)) (((fC L tn k) ++ [vTruth (L.getD ((k + tn) % (L.length)) false)]).length) (flatV ((fC L tn k) ++ [vTruth (L.getD ((k + tn) % (L.length)) false)]))] ww from hS)
          generalize gs.getD 0 0 = g0 at hc ow
          generalize gs.getD 1 0 = g1 at hc ow
          generalize gs.getD 2 0 = g2 at hc ow
          obtain ⟨e6, e15, e28, q30, q31, _⟩ := hc
          exact stepC_value (xassign rfl rfl) trivial ⟨[g0, g1, g2], ⟨e6, e15, e28, q30, q31, rfl, trivial⟩, ow⟩
        | t + 12, ht => exact absurd ht (by simp)
      obtain ⟨gs, hc, ow⟩ := (show ∃ gs : List Nat, (fa21.eval (.tmp 44) = .slice (some ⟨(gs.getD 0 0), 0, none⟩) 1 1 ∧ fa21.eval (.tmp 53) = .slice (some ⟨(gs.getD 1 0), 0, none⟩) 1 1 ∧ fa21.eval (.tmp 66) = .slice (some ⟨(gs.getD 2 0), 0, none⟩) 1 1 ∧ fa21.eval (.tmp 5) = fa21.eval (.tmp 45) ∧ fa21.eval (.tmp 6) = fa21.eval (.tmp 54) ∧ fa21.eval (.tmp 7) = fa21.eval (.tmp 67) ∧ True) ∧ Own fw9 [Th.obj (gs.getD 2 0) (rowObj [vTruth (L.getD ((k + tn) % (L.length)) false)]), Th.obj (gs.getD 1 0) (rowObj [vTruth (!(L.getD k false))]), Th.obj (gs.getD 0 0) (rowObj [vTruth (L.getD k false)]), Th.row fw9.heap.size 35 3 (fa21.eval (.tmp 45)) (((fA L k) ++ [vTruth (L.getD k false)]).length) (flatV ((fA L k) ++ [vTruth (L.getD k false)])), Th.row fw9.heap.size 35 3 (fa21.eval (.tmp 54)) (((fB L k) ++ [vTruth (!(L.getD k false))]).length) (flatV ((fB L k) ++ [vTruth (!(L.getD k false))])), Th.row fw9.heap.size 35 3 (fa21.eval (.tmp 67)) (((fC L tn k) ++ [vTruth (L.getD ((k + tn) % (L.length)) false)]).length) (flatV ((fC L tn k) ++ [vTruth (L.getD ((k + tn) % (L.length)) false)]))] fw21 from hS)
      generalize gs.getD 0 0 = g0 at hc ow
      generalize gs.getD 1 0 = g1 at hc ow
      generalize gs.getD 2 0 = g2 at hc ow
      obtain ⟨e6, e15, e28, q30, q31, q32, _⟩ := hc
      have zfa21 : fa21.tmps.size = 137 := bs.size.trans zfa20
      have dffa21 : fa21.defers = [] := bs.defers.trans dffa20
      have s0_fa21 : fa21.eval (.tmp 0) = .slice (some ⟨b, off, none⟩) L.length cap := (bs.same 0 (by kernel_rfl)).trans s0_fa20
      have s1_fa21 : fa21.eval (.tmp 1) = .int .i64 (tn : Int) := (bs.same 1 (by kernel_rfl)).trans s1_fa20
      have s8_fa21 : fa21.eval (.tmp 8) = .int .i64 ((yes (L.take k) : Nat) : Int) := (bs.same 8 (by kernel_rfl)).trans s8_fa20
      have s9_fa21 : fa21.eval (.tmp 9) = .int .i64 (k : Int) := (bs.same 9 (by kernel_rfl)).trans s9_fa20
      refine gather_n (fun fr u => ∃ (ua : Value), ∃ (ub : Value), ∃ (uc : Value), fr.tmps.size = 137 ∧ fr.defers = [] ∧ Own fw9 [Th.row fw9.heap.size 35 3 ua (((fA L k) ++ [vTruth (L.getD k false)]).length) (flatV ((fA L k) ++ [vTruth (L.getD k false)])), Th.row fw9.heap.size 35 3 ub (((fB L k) ++ [vTruth (!(L.getD k false))]).length) (flatV ((fB L k) ++ [vTruth (!(L.getD k false))])), Th.row fw9.heap.size 35 3 uc (((fC L tn k) ++ [vTruth (L.getD ((k + tn) % (L.length)) false)]).length) (flatV ((fC L tn k) ++ [vTruth (L.getD ((k + tn) % (L.length)) false)]))] u ∧ fr.eval (.tmp 0) = .slice (some ⟨b, off, none⟩) L.length cap ∧ fr.eval (.tmp 1) = .int .i64 (tn : Int) ∧ fr.eval (.tmp 8) = .int .i64 ((yes (L.take k) : Nat) : Int) ∧ fr.eval (.tmp 9) = .int .i64 (k : Int) ∧ fr.eval (.tmp 5) = ua ∧ fr.eval (.tmp 6) = ub ∧ fr.eval (.tmp 7) = uc) ⟨fa21.eval (.tmp 45), fa21.eval (.tmp 54), fa21.eval (.tmp 67), zfa21, dffa21, ow.tail.tail.tail, s0_fa21, s1_fa21, s8_fa21, s9_fa21, q30, q31, q32⟩ ?_
      rintro fa22 fw22 ⟨ua, ub, uc, zfa22, dffa22, ow22, s0_fa22, s1_fa22, s8_fa22, s9_fa22, s5_fa22, s6_fa22, s7_fa22⟩
      refine then_n (hK11 _ _ ?_)
      clear hK11 K11
      refine wp_seq_k fun K12 hK12 => ?_
      refine region_sx [yV (.slice (some ⟨b, off, none⟩) L.length cap), yV (.int .i64 (k : Int)), yV (.pointer (some ⟨b, off + k, none⟩)), yV (.bool (L.getD k false))] 4 137 (by kernel_rfl) zfa22 (by kernel_rfl) (by kernel_rfl) (fun i o ho hi aa ww hk bs hd => ?_) (fun fa23 fw23 hk bs hv ap => ?_)
      · match i, ho, hi with
        | 0, ho, hi =>
          cases ho
          exact stepX_same (v := .slice (some ⟨b, off, none⟩) L.length cap) (want0 rfl) (xmove rfl (bs.get 0 rfl s0_fa22)) rfl rfl
        | 1, ho, hi =>
          cases ho
          exact stepX_same (v := .int .i64 (k : Int)) (want0 rfl) (xmove rfl (bs.get 9 rfl s9_fa22)) rfl rfl
        | 2, ho, hi =>
          cases ho
          have d0 : aa.eval (.tmp 68) = .slice (some ⟨b, off, none⟩) L.length cap := depX hd 0 rfl
          have d1 : aa.eval (.tmp 69) = .int .i64 (k : Int) := depX hd 1 rfl
          exact stepX_same (v := .pointer (some ⟨b, off + k, none⟩)) (want0 rfl) (xplaceB rfl (k := k) d0 d1 hlt) rfl rfl
        | 3, ho, hi =>
          cases ho
          have d2 : aa.eval (.tmp 70) = .pointer (some ⟨b, off + k, none⟩) := depX hd 2 rfl
          exact stepX_same (v := .bool (L.getD k false)) (want0 rfl) (xload1 (Or.inl rfl) rfl d2 ((Kept.cell_at ((ow22.keep hk).kept) hb).trans (BR k hlt))) rfl rfl
        | i + 4, ho, hi => exact absurd hi (by omega)
      have zfa23 : fa23.tmps.size = 137 := bs.size.trans zfa22
      have dffa23 : fa23.defers = [] := bs.defers.trans dffa22
      have ow23 := ow22.keep hk
      have s71_fa23 : fa23.eval (.tmp 71) = .bool (L.getD k false) := hv 3 (by decide)
      have s0_fa23 : fa23.eval (.tmp 0) = .slice (some ⟨b, off, none⟩) L.length cap := bs.get 0 rfl s0_fa22
      have s1_fa23 : fa23.eval (.tmp 1) = .int .i64 (tn : Int) := bs.get 1 rfl s1_fa22
      have s8_fa23 : fa23.eval (.tmp 8) = .int .i64 ((yes (L.take k) : Nat) : Int) := bs.get 8 rfl s8_fa22
      have s9_fa23 : fa23.eval (.tmp 9) = .int .i64 (k : Int) := bs.get 9 rfl s9_fa22
      have s5_fa23 : fa23.eval (.tmp 5) = ua := bs.get 5 rfl s5_fa22
      have s6_fa23 : fa23.eval (.tmp 6) = ub := bs.get 6 rfl s6_fa22
      have s7_fa23 : fa23.eval (.tmp 7) = uc := bs.get 7 rfl s7_fa22
      clear hv ap bs hk
      refine wl_nil (fun fr u => fr.tmps.size = 137 ∧ fr.defers = [] ∧ Own fw9 [Th.row fw9.heap.size 35 3 ua (((fA L k) ++ [vTruth (L.getD k false)]).length) (flatV ((fA L k) ++ [vTruth (L.getD k false)])), Th.row fw9.heap.size 35 3 ub (((fB L k) ++ [vTruth (!(L.getD k false))]).length) (flatV ((fB L k) ++ [vTruth (!(L.getD k false))])), Th.row fw9.heap.size 35 3 uc (((fC L tn k) ++ [vTruth (L.getD ((k + tn) % (L.length)) false)]).length) (flatV ((fC L tn k) ++ [vTruth (L.getD ((k + tn) % (L.length)) false)]))] u ∧ fr.eval (.tmp 71) = .bool (L.getD k false) ∧ fr.eval (.tmp 0) = .slice (some ⟨b, off, none⟩) L.length cap ∧ fr.eval (.tmp 1) = .int .i64 (tn : Int) ∧ fr.eval (.tmp 8) = .int .i64 ((yes (L.take k) : Nat) : Int) ∧ fr.eval (.tmp 9) = .int .i64 (k : Int) ∧ fr.eval (.tmp 5) = ua ∧ fr.eval (.tmp 6) = ub ∧ fr.eval (.tmp 7) = uc) ⟨zfa23, dffa23, ow23, s71_fa23, s0_fa23, s1_fa23, s8_fa23, s9_fa23, s5_fa23, s6_fa23, s7_fa23⟩ ?_
      rintro fa24 fw24 ⟨zfa24, dffa24, ow24, s71_fa24, s0_fa24, s1_fa24, s8_fa24, s9_fa24, s5_fa24, s6_fa24, s7_fa24⟩
      refine then_n (hK12 _ _ ?_)
      clear hK12 K12
      by_cases hc3 : (L.getD k false) = true
      · refine wp_cond_true (s71_fa24.trans (congrArg Value.bool (hc3))) ?_
        refine region_sx [yV (.int .i64 ((yes (L.take k) : Nat) : Int)), yV (.int .i64 (((yes (L.take k)) + 1 : Nat) : Int))] 2 137 (by kernel_rfl) zfa24 (by kernel_rfl) (by kernel_rfl) (fun i o ho hi aa ww hk bs hd => ?_) (fun fa25 fw25 hk bs hv ap => ?_)
        · match i, ho, hi with
          | 0, ho, hi =>
            cases ho
            exact stepX_same (v := .int .i64 ((yes (L.take k) : Nat) : Int)) (want0 rfl) (xmove rfl (bs.get 8 rfl s8_fa24)) rfl rfl
          | 1, ho, hi =>
            cases ho
            have d0 : aa.eval (.tmp 72) = .int .i64 ((yes (L.take k) : Nat) : Int) := depX hd 0 rfl
            exact stepX_same (v := .int .i64 (((yes (L.take k)) + 1 : Nat) : Int)) (want0 rfl) (xadd (Or.inl rfl) rfl (n := ((yes (L.take k) : Nat) : Int)) (m := 1) d0 rfl (by omega) (by have := yes_le (L.take k); rw [List.length_take] at this; omega)) rfl rfl
          | i + 2, ho, hi => exact absurd hi (by omega)
        have zfa25 : fa25.tmps.size = 137 := bs.size.trans zfa24
        have dffa25 : fa25.defers = [] := bs.defers.trans dffa24
        have ow25 := ow24.keep hk
        have s73_fa25 : fa25.eval (.tmp 73) = .int .i64 (((yes (L.take k)) + 1 : Nat) : Int) := hv 1 (by decide)
        have s0_fa25 : fa25.eval (.tmp 0) = .slice (some ⟨b, off, none⟩) L.length cap := bs.get 0 rfl s0_fa24
        have s1_fa25 : fa25.eval (.tmp 1) = .int .i64 (tn : Int) := bs.get 1 rfl s1_fa24
        have s8_fa25 : fa25.eval (.tmp 8) = .int .i64 ((yes (L.take k) : Nat) : Int) := bs.get 8 rfl s8_fa24
        have s9_fa25 : fa25.eval (.tmp 9) = .int .i64 (k : Int) := bs.get 9 rfl s9_fa24
        have s5_fa25 : fa25.eval (.tmp 5) = ua := bs.get 5 rfl s5_fa24
        have s6_fa25 : fa25.eval (.tmp 6) = ub := bs.get 6 rfl s6_fa24
        have s7_fa25 : fa25.eval (.tmp 7) = uc := bs.get 7 rfl s7_fa24
        clear hv ap bs hk
        refine wl_value (v := .int .i64 (((yes (L.take k)) + 1 : Nat) : Int)) (want0 rfl) (xassign rfl s73_fa25) ?_
        refine wl_nil (fun fr u => fr.tmps.size = 137 ∧ fr.defers = [] ∧ Own fw9 [Th.row fw9.heap.size 35 3 ua (((fA L k) ++ [vTruth (L.getD k false)]).length) (flatV ((fA L k) ++ [vTruth (L.getD k false)])), Th.row fw9.heap.size 35 3 ub (((fB L k) ++ [vTruth (!(L.getD k false))]).length) (flatV ((fB L k) ++ [vTruth (!(L.getD k false))])), Th.row fw9.heap.size 35 3 uc (((fC L tn k) ++ [vTruth (L.getD ((k + tn) % (L.length)) false)]).length) (flatV ((fC L tn k) ++ [vTruth (L.getD ((k + tn) % (L.length)) false)]))] u ∧ fr.eval (.tmp 0) = .slice (some ⟨b, off, none⟩) L.length cap ∧ fr.eval (.tmp 1) = .int .i64 (tn : Int) ∧ fr.eval (.tmp 9) = .int .i64 (k : Int) ∧ fr.eval (.tmp 5) = ua ∧ fr.eval (.tmp 6) = ub ∧ fr.eval (.tmp 7) = uc ∧ fr.eval (.tmp 8) = .int .i64 (((yes (L.take k)) + 1 : Nat) : Int)) ⟨put_size zfa25, dffa25, ow25, put_by rfl s0_fa25, put_by rfl s1_fa25, put_by rfl s9_fa25, put_by rfl s5_fa25, put_by rfl s6_fa25, put_by rfl s7_fa25, put_at (by rw [zfa25]; decide)⟩ ?_
        rintro fa26 fw26 ⟨zfa26, dffa26, ow26, s0_fa26, s1_fa26, s9_fa26, s5_fa26, s6_fa26, s7_fa26, s8_fa26⟩
        refine block_n ?_
        refine then_n (hK10 _ _ ?_)
        clear hK10 K10
        refine region_sx [yV (.int .i64 (k : Int)), yV (.int .i64 ((k + 1 : Nat) : Int))] 2 137 (by kernel_rfl) zfa26 (by kernel_rfl) (by kernel_rfl) (fun i o ho hi aa ww hk bs hd => ?_) (fun fa27 fw27 hk bs hv ap => ?_)
        · match i, ho, hi with
          | 0, ho, hi =>
            cases ho
            exact stepX_same (v := .int .i64 (k : Int)) (want0 rfl) (xmove rfl (bs.get 9 rfl s9_fa26)) rfl rfl
          | 1, ho, hi =>
            cases ho
            have d0 : aa.eval (.tmp 36) = .int .i64 (k : Int) := depX hd 0 rfl
            exact stepX_same (v := .int .i64 ((k + 1 : Nat) : Int)) (want0 rfl) (xadd (Or.inl rfl) rfl (n := (k : Int)) (m := 1) d0 rfl (by omega) (by omega)) rfl rfl
          | i + 2, ho, hi => exact absurd hi (by omega)
        have zfa27 : fa27.tmps.size = 137 := bs.size.trans zfa26
        have dffa27 : fa27.defers = [] := bs.defers.trans dffa26
        have ow27 := ow26.keep hk
        have s37_fa27 : fa27.eval (.tmp 37) = .int .i64 ((k + 1 : Nat) : Int) := hv 1 (by decide)
        have s0_fa27 : fa27.eval (.tmp 0) = .slice (some ⟨b, off, none⟩) L.length cap := bs.get 0 rfl s0_fa26
        have s1_fa27 : fa27.eval (.tmp 1) = .int .i64 (tn : Int) := bs.get 1 rfl s1_fa26
        have s9_fa27 : fa27.eval (.tmp 9) = .int .i64 (k : Int) := bs.get 9 rfl s9_fa26
        have s5_fa27 : fa27.eval (.tmp 5) = ua := bs.get 5 rfl s5_fa26
        have s6_fa27 : fa27.eval (.tmp 6) = ub := bs.get 6 rfl s6_fa26
        have s7_fa27 : fa27.eval (.tmp 7) = uc := bs.get 7 rfl s7_fa26
        have s8_fa27 : fa27.eval (.tmp 8) = .int .i64 (((yes (L.take k)) + 1 : Nat) : Int) := bs.get 8 rfl s8_fa26
        clear hv ap bs hk
        refine wl_value (v := .int .i64 ((k + 1 : Nat) : Int)) (want0 rfl) (xassign rfl s37_fa27) ?_
        refine wl_nil (fun fr u => fr.tmps.size = 137 ∧ fr.defers = [] ∧ Own fw9 [Th.row fw9.heap.size 35 3 ua (((fA L k) ++ [vTruth (L.getD k false)]).length) (flatV ((fA L k) ++ [vTruth (L.getD k false)])), Th.row fw9.heap.size 35 3 ub (((fB L k) ++ [vTruth (!(L.getD k false))]).length) (flatV ((fB L k) ++ [vTruth (!(L.getD k false))])), Th.row fw9.heap.size 35 3 uc (((fC L tn k) ++ [vTruth (L.getD ((k + tn) % (L.length)) false)]).length) (flatV ((fC L tn k) ++ [vTruth (L.getD ((k + tn) % (L.length)) false)]))] u ∧ fr.eval (.tmp 0) = .slice (some ⟨b, off, none⟩) L.length cap ∧ fr.eval (.tmp 1) = .int .i64 (tn : Int) ∧ fr.eval (.tmp 5) = ua ∧ fr.eval (.tmp 6) = ub ∧ fr.eval (.tmp 7) = uc ∧ fr.eval (.tmp 8) = .int .i64 (((yes (L.take k)) + 1 : Nat) : Int) ∧ fr.eval (.tmp 9) = .int .i64 ((k + 1 : Nat) : Int)) ⟨put_size zfa27, dffa27, ow27, put_by rfl s0_fa27, put_by rfl s1_fa27, put_by rfl s5_fa27, put_by rfl s6_fa27, put_by rfl s7_fa27, put_by rfl s8_fa27, put_at (by rw [zfa27]; decide)⟩ ?_
        rintro fa28 fw28 ⟨zfa28, dffa28, ow28, s0_fa28, s1_fa28, s5_fa28, s6_fa28, s7_fa28, s8_fa28, s9_fa28⟩
        exact then_n ⟨(k + 1), ⟨ua, ub, uc, hlt, zfa28, dffa28, (by have o := ow28; rw [← fA_succ hlt, ← fB_succ hlt, ← fC_succ tl hlt] at o; exact o), s0_fa28, s1_fa28, s5_fa28, s6_fa28, s7_fa28, (s8_fa28.trans (congrArg (Value.int .i64) (congrArg Int.ofNat (by rw [yes_succ hlt, show L.getD k false = true from hc3]; simp)))), s9_fa28⟩, (show L.length - (k + 1) < L.length - k by omega)⟩
      refine wp_cond_false (s71_fa24.trans (congrArg Value.bool (Bool.eq_false_iff.2 hc3))) ?_
      refine wp_skip ?_
      refine block_n ?_
      refine then_n (hK10 _ _ ?_)
      clear hK10 K10
      refine region_sx [yV (.int .i64 (k : Int)), yV (.int .i64 ((k + 1 : Nat) : Int))] 2 137 (by kernel_rfl) zfa24 (by kernel_rfl) (by kernel_rfl) (fun i o ho hi aa ww hk bs hd => ?_) (fun fa29 fw29 hk bs hv ap => ?_)
      · match i, ho, hi with
        | 0, ho, hi =>
          cases ho
          exact stepX_same (v := .int .i64 (k : Int)) (want0 rfl) (xmove rfl (bs.get 9 rfl s9_fa24)) rfl rfl
        | 1, ho, hi =>
          cases ho
          have d0 : aa.eval (.tmp 36) = .int .i64 (k : Int) := depX hd 0 rfl
          exact stepX_same (v := .int .i64 ((k + 1 : Nat) : Int)) (want0 rfl) (xadd (Or.inl rfl) rfl (n := (k : Int)) (m := 1) d0 rfl (by omega) (by omega)) rfl rfl
        | i + 2, ho, hi => exact absurd hi (by omega)
      have zfa29 : fa29.tmps.size = 137 := bs.size.trans zfa24
      have dffa29 : fa29.defers = [] := bs.defers.trans dffa24
      have ow29 := ow24.keep hk
      have s37_fa29 : fa29.eval (.tmp 37) = .int .i64 ((k + 1 : Nat) : Int) := hv 1 (by decide)
      have s0_fa29 : fa29.eval (.tmp 0) = .slice (some ⟨b, off, none⟩) L.length cap := bs.get 0 rfl s0_fa24
      have s1_fa29 : fa29.eval (.tmp 1) = .int .i64 (tn : Int) := bs.get 1 rfl s1_fa24
      have s8_fa29 : fa29.eval (.tmp 8) = .int .i64 ((yes (L.take k) : Nat) : Int) := bs.get 8 rfl s8_fa24
      have s9_fa29 : fa29.eval (.tmp 9) = .int .i64 (k : Int) := bs.get 9 rfl s9_fa24
      have s5_fa29 : fa29.eval (.tmp 5) = ua := bs.get 5 rfl s5_fa24
      have s6_fa29 : fa29.eval (.tmp 6) = ub := bs.get 6 rfl s6_fa24
      have s7_fa29 : fa29.eval (.tmp 7) = uc := bs.get 7 rfl s7_fa24
      clear hv ap bs hk
      refine wl_value (v := .int .i64 ((k + 1 : Nat) : Int)) (want0 rfl) (xassign rfl s37_fa29) ?_
      refine wl_nil (fun fr u => fr.tmps.size = 137 ∧ fr.defers = [] ∧ Own fw9 [Th.row fw9.heap.size 35 3 ua (((fA L k) ++ [vTruth (L.getD k false)]).length) (flatV ((fA L k) ++ [vTruth (L.getD k false)])), Th.row fw9.heap.size 35 3 ub (((fB L k) ++ [vTruth (!(L.getD k false))]).length) (flatV ((fB L k) ++ [vTruth (!(L.getD k false))])), Th.row fw9.heap.size 35 3 uc (((fC L tn k) ++ [vTruth (L.getD ((k + tn) % (L.length)) false)]).length) (flatV ((fC L tn k) ++ [vTruth (L.getD ((k + tn) % (L.length)) false)]))] u ∧ fr.eval (.tmp 0) = .slice (some ⟨b, off, none⟩) L.length cap ∧ fr.eval (.tmp 1) = .int .i64 (tn : Int) ∧ fr.eval (.tmp 8) = .int .i64 ((yes (L.take k) : Nat) : Int) ∧ fr.eval (.tmp 5) = ua ∧ fr.eval (.tmp 6) = ub ∧ fr.eval (.tmp 7) = uc ∧ fr.eval (.tmp 9) = .int .i64 ((k + 1 : Nat) : Int)) ⟨put_size zfa29, dffa29, ow29, put_by rfl s0_fa29, put_by rfl s1_fa29, put_by rfl s8_fa29, put_by rfl s5_fa29, put_by rfl s6_fa29, put_by rfl s7_fa29, put_at (by rw [zfa29]; decide)⟩ ?_
      rintro fa30 fw30 ⟨zfa30, dffa30, ow30, s0_fa30, s1_fa30, s8_fa30, s5_fa30, s6_fa30, s7_fa30, s9_fa30⟩
      exact then_n ⟨(k + 1), ⟨ua, ub, uc, hlt, zfa30, dffa30, (by have o := ow30; rw [← fA_succ hlt, ← fB_succ hlt, ← fC_succ tl hlt] at o; exact o), s0_fa30, s1_fa30, s5_fa30, s6_fa30, s7_fa30, (s8_fa30.trans (congrArg (Value.int .i64) (congrArg Int.ofNat (by rw [yes_succ hlt, show L.getD k false = false from Bool.eq_false_iff.2 hc3]; simp)))), s9_fa30⟩, (show L.length - (k + 1) < L.length - k by omega)⟩
    refine wp_cond_false (s35_fa20.trans (congrArg Value.bool (decide_eq_false hc2))) ?_
    refine wp_exit ?_
    refine then_e ?_
    refine then_e ?_
    refine block_hit ?_
    refine then_n ?_
    exact ⟨va, vb, vc, zfa20, dffa20, (by have o := ow21; rw [show k = L.length by omega, fA_all, fB_all, fC_all L tn tl] at o; exact o), s0_fa20, s5_fa20, s6_fa20, s7_fa20, (s8_fa20.trans (by rw [show k = L.length by omega, List.take_length]))⟩
  rintro fa31 fw31 ⟨va, vb, vc, zfa31, dffa31, ow31, s0_fa31, s5_fa31, s6_fa31, s7_fa31, s8_fa31⟩
  have hy := yes_le L
  refine wp_seq_k fun K13 hK13 => ?_
  refine region_sx [yV (va), yV (aggV (vTruth (foldB 21 L))), yV (va), yV (aggV (vTruth (foldB 22 L))), yV (va), yV (aggV (vTruth (foldB 23 L))), yNew fw31.heap.size (zeroObj), yNew fw31.heap.size (zeroObj), yNew fw31.heap.size (zeroObj)] 9 137 (by kernel_rfl) zfa31 (by kernel_rfl) (by kernel_rfl) (fun i o ho hi aa ww hk bs hd => ?_) (fun fa32 fw32 hk bs hv ap => ?_)
  · match i, ho, hi with
    | 0, ho, hi =>
      cases ho
      exact stepX_same (v := va) (want0 rfl) (xmove rfl (bs.get 5 rfl s5_fa31)) rfl rfl
    | 1, ho, hi =>
      cases ho
      have d0 : aa.eval (.tmp 74) = va := depX hd 0 rfl
      exact stepX_enter (want0 rfl) (xcall2 (u := .int .u8 21) (v := va) rfl rfl d0 (en_louvrelaw15_of _ _)) ((of15_fold 21 (by decide) L lpos l1 va ww mx (HM.kept (kj.trans (ow31.keep hk).kept)) ((ow31.keep hk).row 0 rfl)).mono fun _ _ ⟨he, hk2⟩ => ⟨_, he, rfl, hk2⟩) rfl
    | 2, ho, hi =>
      cases ho
      exact stepX_same (v := va) (want0 rfl) (xmove rfl (bs.get 5 rfl s5_fa31)) rfl rfl
    | 3, ho, hi =>
      cases ho
      have d2 : aa.eval (.tmp 76) = va := depX hd 2 rfl
      exact stepX_enter (want0 rfl) (xcall2 (u := .int .u8 22) (v := va) rfl rfl d2 (en_louvrelaw15_of _ _)) ((of15_fold 22 (by decide) L lpos l1 va ww mx (HM.kept (kj.trans (ow31.keep hk).kept)) ((ow31.keep hk).row 0 rfl)).mono fun _ _ ⟨he, hk2⟩ => ⟨_, he, rfl, hk2⟩) rfl
    | 4, ho, hi =>
      cases ho
      exact stepX_same (v := va) (want0 rfl) (xmove rfl (bs.get 5 rfl s5_fa31)) rfl rfl
    | 5, ho, hi =>
      cases ho
      have d4 : aa.eval (.tmp 78) = va := depX hd 4 rfl
      exact stepX_enter (want0 rfl) (xcall2 (u := .int .u8 23) (v := va) rfl rfl d4 (en_louvrelaw15_of _ _)) ((of15_fold 23 (by decide) L lpos l1 va ww mx (HM.kept (kj.trans (ow31.keep hk).kept)) ((ow31.keep hk).row 0 rfl)).mono fun _ _ ⟨he, hk2⟩ => ⟨_, he, rfl, hk2⟩) rfl
    | 6, ho, hi =>
      cases ho
      exact stepX_new _ (want0 rfl) (xalloc3 rfl) ⟨_, rfl, hk.size, Go.heap_alloc_new _ _⟩ ((Kept.refl _).alloc _) rfl (Nat.le_refl _)
    | 7, ho, hi =>
      cases ho
      exact stepX_new _ (want0 rfl) (xalloc3 rfl) ⟨_, rfl, hk.size, Go.heap_alloc_new _ _⟩ ((Kept.refl _).alloc _) rfl (Nat.le_refl _)
    | 8, ho, hi =>
      cases ho
      exact stepX_new _ (want0 rfl) (xalloc3 rfl) ⟨_, rfl, hk.size, Go.heap_alloc_new _ _⟩ ((Kept.refl _).alloc _) rfl (Nat.le_refl _)
    | i + 9, ho, hi => exact absurd hi (by omega)
  have zfa32 : fa32.tmps.size = 137 := bs.size.trans zfa31
  have dffa32 : fa32.defers = [] := bs.defers.trans dffa31
  have ow32 := ow31.keep hk
  have s75_fa32 : fa32.eval (.tmp 75) = aggV (vTruth (foldB 21 L)) := hv 1 (by decide)
  have s77_fa32 : fa32.eval (.tmp 77) = aggV (vTruth (foldB 22 L)) := hv 3 (by decide)
  have s79_fa32 : fa32.eval (.tmp 79) = aggV (vTruth (foldB 23 L)) := hv 5 (by decide)
  obtain ⟨gb2, qgb2, bgb2, hgb2⟩ := hv 6 (by decide)
  have ow33 := ow32.cons hgb2 (Nat.le_trans ow31.kept.size bgb2) (ow31.below bgb2)
  have s10_fa32 : fa32.eval (.tmp 10) = .pointer (some ⟨gb2, 0, none⟩) := qgb2
  obtain ⟨gb3, qgb3, bgb3, hgb3⟩ := hv 7 (by decide)
  have ow34 := ow33.cons hgb3 (Nat.le_trans ow31.kept.size bgb3) (ne_cons (fun c => ap 6 7 (by decide) (by decide) (by decide) rfl rfl (by rw [qgb2, qgb3]; exact c)) (ow31.below bgb3))
  have s11_fa32 : fa32.eval (.tmp 11) = .pointer (some ⟨gb3, 0, none⟩) := qgb3
  obtain ⟨gb4, qgb4, bgb4, hgb4⟩ := hv 8 (by decide)
  have ow35 := ow34.cons hgb4 (Nat.le_trans ow31.kept.size bgb4) (ne_cons (fun c => ap 7 8 (by decide) (by decide) (by decide) rfl rfl (by rw [qgb3, qgb4]; exact c)) (ne_cons (fun c => ap 6 8 (by decide) (by decide) (by decide) rfl rfl (by rw [qgb2, qgb4]; exact c)) (ow31.below bgb4)))
  have s12_fa32 : fa32.eval (.tmp 12) = .pointer (some ⟨gb4, 0, none⟩) := qgb4
  have s0_fa32 : fa32.eval (.tmp 0) = .slice (some ⟨b, off, none⟩) L.length cap := bs.get 0 rfl s0_fa31
  have s6_fa32 : fa32.eval (.tmp 6) = vb := bs.get 6 rfl s6_fa31
  have s7_fa32 : fa32.eval (.tmp 7) = vc := bs.get 7 rfl s7_fa31
  have s8_fa32 : fa32.eval (.tmp 8) = .int .i64 ((yes L : Nat) : Int) := bs.get 8 rfl s8_fa31
  clear hv ap bs hk
  refine wl_skip (want0 rfl) rfl (xstore3 rfl s10_fa32 s75_fa32 (ow35.box 2 rfl)) ?_
  have ow36 : Own fw9 [Th.obj gb4 (.cells #[.int .u8 0, .int .i64 0, .string ⟨#[]⟩] 35 (0, 0)), Th.obj gb3 (.cells #[.int .u8 0, .int .i64 0, .string ⟨#[]⟩] 35 (0, 0)), Th.obj gb2 (.cells #[.int .u8 (vTruth (foldB 21 L)).k, .int .i64 (vTruth (foldB 21 L)).n, .string ⟨(vTruth (foldB 21 L)).t.toArray⟩] 35 (0, 0)), Th.row fw9.heap.size 35 3 va ((L.map vTruth).length) (flatV (L.map vTruth)), Th.row fw9.heap.size 35 3 vb (((L.map (!·)).map vTruth).length) (flatV ((L.map (!·)).map vTruth)), Th.row fw9.heap.size 35 3 vc (((turned L tn).map vTruth).length) (flatV ((turned L tn).map vTruth))] _ := ow35.store3 2 rfl (vTruth (foldB 21 L))
  refine wl_skip (want0 rfl) rfl (xstore3 rfl s11_fa32 s77_fa32 (ow36.box 1 rfl)) ?_
  have ow37 : Own fw9 [Th.obj gb4 (.cells #[.int .u8 0, .int .i64 0, .string ⟨#[]⟩] 35 (0, 0)), Th.obj gb3 (.cells #[.int .u8 (vTruth (foldB 22 L)).k, .int .i64 (vTruth (foldB 22 L)).n, .string ⟨(vTruth (foldB 22 L)).t.toArray⟩] 35 (0, 0)), Th.obj gb2 (.cells #[.int .u8 (vTruth (foldB 21 L)).k, .int .i64 (vTruth (foldB 21 L)).n, .string ⟨(vTruth (foldB 21 L)).t.toArray⟩] 35 (0, 0)), Th.row fw9.heap.size 35 3 va ((L.map vTruth).length) (flatV (L.map vTruth)), Th.row fw9.heap.size 35 3 vb (((L.map (!·)).map vTruth).length) (flatV ((L.map (!·)).map vTruth)), Th.row fw9.heap.size 35 3 vc (((turned L tn).map vTruth).length) (flatV ((turned L tn).map vTruth))] _ := ow36.store3 1 rfl (vTruth (foldB 22 L))
  refine wl_skip (want0 rfl) rfl (xstore3 rfl s12_fa32 s79_fa32 (ow37.box 0 rfl)) ?_
  have ow38 : Own fw9 [Th.obj gb4 (.cells #[.int .u8 (vTruth (foldB 23 L)).k, .int .i64 (vTruth (foldB 23 L)).n, .string ⟨(vTruth (foldB 23 L)).t.toArray⟩] 35 (0, 0)), Th.obj gb3 (.cells #[.int .u8 (vTruth (foldB 22 L)).k, .int .i64 (vTruth (foldB 22 L)).n, .string ⟨(vTruth (foldB 22 L)).t.toArray⟩] 35 (0, 0)), Th.obj gb2 (.cells #[.int .u8 (vTruth (foldB 21 L)).k, .int .i64 (vTruth (foldB 21 L)).n, .string ⟨(vTruth (foldB 21 L)).t.toArray⟩] 35 (0, 0)), Th.row fw9.heap.size 35 3 va ((L.map vTruth).length) (flatV (L.map vTruth)), Th.row fw9.heap.size 35 3 vb (((L.map (!·)).map vTruth).length) (flatV ((L.map (!·)).map vTruth)), Th.row fw9.heap.size 35 3 vc (((turned L tn).map vTruth).length) (flatV ((turned L tn).map vTruth))] _ := ow37.store3 0 rfl (vTruth (foldB 23 L))
  refine wl_nil (fun fr u => fr.tmps.size = 137 ∧ fr.defers = [] ∧ Own fw9 [Th.obj gb4 (.cells #[.int .u8 (vTruth (foldB 23 L)).k, .int .i64 (vTruth (foldB 23 L)).n, .string ⟨(vTruth (foldB 23 L)).t.toArray⟩] 35 (0, 0)), Th.obj gb3 (.cells #[.int .u8 (vTruth (foldB 22 L)).k, .int .i64 (vTruth (foldB 22 L)).n, .string ⟨(vTruth (foldB 22 L)).t.toArray⟩] 35 (0, 0)), Th.obj gb2 (.cells #[.int .u8 (vTruth (foldB 21 L)).k, .int .i64 (vTruth (foldB 21 L)).n, .string ⟨(vTruth (foldB 21 L)).t.toArray⟩] 35 (0, 0)), Th.row fw9.heap.size 35 3 va ((L.map vTruth).length) (flatV (L.map vTruth)), Th.row fw9.heap.size 35 3 vb (((L.map (!·)).map vTruth).length) (flatV ((L.map (!·)).map vTruth)), Th.row fw9.heap.size 35 3 vc (((turned L tn).map vTruth).length) (flatV ((turned L tn).map vTruth))] u ∧ fr.eval (.tmp 10) = .pointer (some ⟨gb2, 0, none⟩) ∧ fr.eval (.tmp 11) = .pointer (some ⟨gb3, 0, none⟩) ∧ fr.eval (.tmp 12) = .pointer (some ⟨gb4, 0, none⟩) ∧ fr.eval (.tmp 0) = .slice (some ⟨b, off, none⟩) L.length cap ∧ fr.eval (.tmp 6) = vb ∧ fr.eval (.tmp 7) = vc ∧ fr.eval (.tmp 8) = .int .i64 ((yes L : Nat) : Int)) ⟨zfa32, dffa32, ow38, s10_fa32, s11_fa32, s12_fa32, s0_fa32, s6_fa32, s7_fa32, s8_fa32⟩ ?_
  rintro fa33 fw33 ⟨zfa33, dffa33, ow39, s10_fa33, s11_fa33, s12_fa33, s0_fa33, s6_fa33, s7_fa33, s8_fa33⟩
  refine then_n (hK13 _ _ ?_)
  clear hK13 K13
  refine wp_seq_k fun K14 hK14 => ?_
  refine wp_seq_k fun K15 hK15 => ?_
  refine region_sx [yV (aggV (vTruth (foldB 21 L))), yV (.int .i64 ((yes L : Nat) : Int)), yV (.slice (some ⟨b, off, none⟩) L.length cap), yV (.int .i64 ((L.length : Nat) : Int)), yV (.bool (decide (((yes L : Nat) : Int) = ((L.length : Nat) : Int)))), yV (aggV (vTruth (decide (((yes L : Nat) : Int) = ((L.length : Nat) : Int))))), yV (.bool false), yV (.bool false), yV (aggV (vTruth (foldB 22 L))), yV (.int .i64 ((yes L : Nat) : Int)), yV (.bool (decide ((0 : Int) < ((yes L : Nat) : Int)))), yV (aggV (vTruth (decide ((0 : Int) < ((yes L : Nat) : Int))))), yV (.bool false), yV (.bool false), yV (.bool false), yV (aggV (vTruth (foldB 23 L))), yV (.int .i64 ((yes L : Nat) : Int)), yV (.int .i64 (((yes L) % 2 : Nat) : Int)), yV (.bool (decide ((((yes L) % 2 : Nat) : Int) = (1 : Int)))), yV (aggV (vTruth (decide ((((yes L) % 2 : Nat) : Int) = (1 : Int))))), yV (.bool false), yV (.bool false)] 22 137 (by kernel_rfl) zfa33 (by kernel_rfl) (by kernel_rfl) (fun i o ho hi aa ww hk bs hd => ?_) (fun fa34 fw34 hk bs hv ap => ?_)
  · match i, ho, hi with
    | 0, ho, hi =>
      cases ho
      exact stepX_same (v := aggV (vTruth (foldB 21 L))) (want0 rfl) (xload3 rfl (bs.get 10 rfl s10_fa33) ((ow39.keep hk).box 2 rfl)) rfl rfl
    | 1, ho, hi =>
      cases ho
      exact stepX_same (v := .int .i64 ((yes L : Nat) : Int)) (want0 rfl) (xmove rfl (bs.get 8 rfl s8_fa33)) rfl rfl
    | 2, ho, hi =>
      cases ho
      exact stepX_same (v := .slice (some ⟨b, off, none⟩) L.length cap) (want0 rfl) (xmove rfl (bs.get 0 rfl s0_fa33)) rfl rfl
    | 3, ho, hi =>
      cases ho
      have d2 : aa.eval (.tmp 82) = .slice (some ⟨b, off, none⟩) L.length cap := depX hd 2 rfl
      exact stepX_same (v := .int .i64 ((L.length : Nat) : Int)) (want0 rfl) (xlen Tryd.underlying55 rfl d2) rfl rfl
    | 4, ho, hi =>
      cases ho
      have d1 : aa.eval (.tmp 81) = .int .i64 ((yes L : Nat) : Int) := depX hd 1 rfl
      have d3 : aa.eval (.tmp 83) = .int .i64 ((L.length : Nat) : Int) := depX hd 3 rfl
      exact stepX_same (v := .bool (decide (((yes L : Nat) : Int) = ((L.length : Nat) : Int)))) (want0 rfl) (xeqi rfl d1 d3) rfl rfl
    | 5, ho, hi =>
      cases ho
      have d4 : aa.eval (.tmp 84) = .bool (decide (((yes L : Nat) : Int) = ((L.length : Nat) : Int))) := depX hd 4 rfl
      exact stepX_enter (want0 rfl) (xcall1 (u := .bool (decide (((yes L : Nat) : Int) = ((L.length : Nat) : Int)))) rfl d4 (en_louvrelaw15_truth _ _)) ((truth15_any (decide (((yes L : Nat) : Int) = ((L.length : Nat) : Int))) ww).mono fun _ _ ⟨he, hk2⟩ => ⟨_, he, rfl, hk2⟩) rfl
    | 6, ho, hi =>
      cases ho
      have d0 : aa.eval (.tmp 80) = aggV (vTruth (foldB 21 L)) := depX hd 0 rfl
      have d5 : aa.eval (.tmp 85) = aggV (vTruth (decide (((yes L : Nat) : Int) = ((L.length : Nat) : Int)))) := depX hd 5 rfl
      exact stepX_same (v := .bool (!sameV (vTruth (foldB 21 L)) (vTruth (decide (((yes L : Nat) : Int) = ((L.length : Nat) : Int)))))) (want0 rfl) (xnev rfl d0 d5) (congrArg Value.bool (by rw [sameV_of (congrArg vTruth (fold_and L))]; rfl)) rfl
    | 7, ho, hi =>
      cases ho
      have d6 : aa.eval (.tmp 86) = .bool false := depX hd 6 rfl
      exact stepX_same (v := .bool false) (want0 rfl) (xmove rfl d6) rfl rfl
    | 8, ho, hi =>
      cases ho
      have d7 : aa.eval (.tmp 87) = .bool false := depX hd 7 rfl
      exact stepX_same (v := aggV (vTruth (foldB 22 L))) (want1 (j := 7) (b := false) rfl d7) (xload3 rfl (bs.get 11 rfl s11_fa33) ((ow39.keep hk).box 1 rfl)) rfl rfl
    | 9, ho, hi =>
      cases ho
      have d7 : aa.eval (.tmp 87) = .bool false := depX hd 7 rfl
      exact stepX_same (v := .int .i64 ((yes L : Nat) : Int)) (want1 (j := 7) (b := false) rfl d7) (xmove rfl (bs.get 8 rfl s8_fa33)) rfl rfl
    | 10, ho, hi =>
      cases ho
      have d9 : aa.eval (.tmp 89) = .int .i64 ((yes L : Nat) : Int) := depX hd 9 rfl
      have d7 : aa.eval (.tmp 87) = .bool false := depX hd 7 rfl
      exact stepX_same (v := .bool (decide ((0 : Int) < ((yes L : Nat) : Int)))) (want1 (j := 7) (b := false) rfl d7) (xgtr rfl d9 rfl) rfl rfl
    | 11, ho, hi =>
      cases ho
      have d10 : aa.eval (.tmp 90) = .bool (decide ((0 : Int) < ((yes L : Nat) : Int))) := depX hd 10 rfl
      have d7 : aa.eval (.tmp 87) = .bool false := depX hd 7 rfl
      exact stepX_enter (want1 (j := 7) (b := false) rfl d7) (xcall1 (u := .bool (decide ((0 : Int) < ((yes L : Nat) : Int)))) rfl d10 (en_louvrelaw15_truth _ _)) ((truth15_any (decide ((0 : Int) < ((yes L : Nat) : Int))) ww).mono fun _ _ ⟨he, hk2⟩ => ⟨_, he, rfl, hk2⟩) rfl
    | 12, ho, hi =>
      cases ho
      have d8 : aa.eval (.tmp 88) = aggV (vTruth (foldB 22 L)) := depX hd 8 rfl
      have d11 : aa.eval (.tmp 91) = aggV (vTruth (decide ((0 : Int) < ((yes L : Nat) : Int)))) := depX hd 11 rfl
      have d7 : aa.eval (.tmp 87) = .bool false := depX hd 7 rfl
      exact stepX_same (v := .bool (!sameV (vTruth (foldB 22 L)) (vTruth (decide ((0 : Int) < ((yes L : Nat) : Int)))))) (want1 (j := 7) (b := false) rfl d7) (xnev rfl d8 d11) (congrArg Value.bool (by rw [sameV_of (congrArg vTruth (fold_or L))]; rfl)) rfl
    | 13, ho, hi =>
      cases ho
      have d7 : aa.eval (.tmp 87) = .bool false := depX hd 7 rfl
      have d12 : aa.eval (.tmp 92) = .bool false := depX hd 12 rfl
      exact stepX_same (v := .bool false) (want0 rfl) (xpickF rfl d7 d12) rfl rfl
    | 14, ho, hi =>
      cases ho
      have d13 : aa.eval (.tmp 93) = .bool false := depX hd 13 rfl
      exact stepX_same (v := .bool false) (want0 rfl) (xmove rfl d13) rfl rfl
    | 15, ho, hi =>
      cases ho
      have d14 : aa.eval (.tmp 94) = .bool false := depX hd 14 rfl
      exact stepX_same (v := aggV (vTruth (foldB 23 L))) (want1 (j := 14) (b := false) rfl d14) (xload3 rfl (bs.get 12 rfl s12_fa33) ((ow39.keep hk).box 0 rfl)) rfl rfl
    | 16, ho, hi =>
      cases ho
      have d14 : aa.eval (.tmp 94) = .bool false := depX hd 14 rfl
      exact stepX_same (v := .int .i64 ((yes L : Nat) : Int)) (want1 (j := 14) (b := false) rfl d14) (xmove rfl (bs.get 8 rfl s8_fa33)) rfl rfl
    | 17, ho, hi =>
      cases ho
      have d16 : aa.eval (.tmp 96) = .int .i64 ((yes L : Nat) : Int) := depX hd 16 rfl
      have d14 : aa.eval (.tmp 94) = .bool false := depX hd 14 rfl
      exact stepX_same (v := .int .i64 (((yes L) % 2 : Nat) : Int)) (want1 (j := 14) (b := false) rfl d14) (xremN (Or.inl rfl) rfl (n := (yes L)) (m := 2) d16 rfl (by omega) (by omega)) rfl rfl
    | 18, ho, hi =>
      cases ho
      have d17 : aa.eval (.tmp 97) = .int .i64 (((yes L) % 2 : Nat) : Int) := depX hd 17 rfl
      have d14 : aa.eval (.tmp 94) = .bool false := depX hd 14 rfl
      exact stepX_same (v := .bool (decide ((((yes L) % 2 : Nat) : Int) = (1 : Int)))) (want1 (j := 14) (b := false) rfl d14) (xeqi rfl d17 rfl) rfl rfl
    | 19, ho, hi =>
      cases ho
      have d18 : aa.eval (.tmp 98) = .bool (decide ((((yes L) % 2 : Nat) : Int) = (1 : Int))) := depX hd 18 rfl
      have d14 : aa.eval (.tmp 94) = .bool false := depX hd 14 rfl
      exact stepX_enter (want1 (j := 14) (b := false) rfl d14) (xcall1 (u := .bool (decide ((((yes L) % 2 : Nat) : Int) = (1 : Int)))) rfl d18 (en_louvrelaw15_truth _ _)) ((truth15_any (decide ((((yes L) % 2 : Nat) : Int) = (1 : Int))) ww).mono fun _ _ ⟨he, hk2⟩ => ⟨_, he, rfl, hk2⟩) rfl
    | 20, ho, hi =>
      cases ho
      have d15 : aa.eval (.tmp 95) = aggV (vTruth (foldB 23 L)) := depX hd 15 rfl
      have d19 : aa.eval (.tmp 99) = aggV (vTruth (decide ((((yes L) % 2 : Nat) : Int) = (1 : Int)))) := depX hd 19 rfl
      have d14 : aa.eval (.tmp 94) = .bool false := depX hd 14 rfl
      exact stepX_same (v := .bool (!sameV (vTruth (foldB 23 L)) (vTruth (decide ((((yes L) % 2 : Nat) : Int) = (1 : Int)))))) (want1 (j := 14) (b := false) rfl d14) (xnev rfl d15 d19) (congrArg Value.bool (by rw [sameV_of (congrArg vTruth (fold_xor L))]; rfl)) rfl
    | 21, ho, hi =>
      cases ho
      have d14 : aa.eval (.tmp 94) = .bool false := depX hd 14 rfl
      have d20 : aa.eval (.tmp 100) = .bool false := depX hd 20 rfl
      exact stepX_same (v := .bool false) (want0 rfl) (xpickF rfl d14 d20) rfl rfl
    | i + 22, ho, hi => exact absurd hi (by omega)
  have zfa34 : fa34.tmps.size = 137 := bs.size.trans zfa33
  have dffa34 : fa34.defers = [] := bs.defers.trans dffa33
  have ow40 := ow39.keep hk
  have s101_fa34 : fa34.eval (.tmp 101) = .bool false := hv 21 (by decide)
  have s10_fa34 : fa34.eval (.tmp 10) = .pointer (some ⟨gb2, 0, none⟩) := bs.get 10 rfl s10_fa33
  have s11_fa34 : fa34.eval (.tmp 11) = .pointer (some ⟨gb3, 0, none⟩) := bs.get 11 rfl s11_fa33
  have s12_fa34 : fa34.eval (.tmp 12) = .pointer (some ⟨gb4, 0, none⟩) := bs.get 12 rfl s12_fa33
  have s6_fa34 : fa34.eval (.tmp 6) = vb := bs.get 6 rfl s6_fa33
  have s7_fa34 : fa34.eval (.tmp 7) = vc := bs.get 7 rfl s7_fa33
  clear hv ap bs hk
  refine wl_nil (fun fr u => fr.tmps.size = 137 ∧ fr.defers = [] ∧ Own fw9 [Th.obj gb4 (.cells #[.int .u8 (vTruth (foldB 23 L)).k, .int .i64 (vTruth (foldB 23 L)).n, .string ⟨(vTruth (foldB 23 L)).t.toArray⟩] 35 (0, 0)), Th.obj gb3 (.cells #[.int .u8 (vTruth (foldB 22 L)).k, .int .i64 (vTruth (foldB 22 L)).n, .string ⟨(vTruth (foldB 22 L)).t.toArray⟩] 35 (0, 0)), Th.obj gb2 (.cells #[.int .u8 (vTruth (foldB 21 L)).k, .int .i64 (vTruth (foldB 21 L)).n, .string ⟨(vTruth (foldB 21 L)).t.toArray⟩] 35 (0, 0)), Th.row fw9.heap.size 35 3 va ((L.map vTruth).length) (flatV (L.map vTruth)), Th.row fw9.heap.size 35 3 vb (((L.map (!·)).map vTruth).length) (flatV ((L.map (!·)).map vTruth)), Th.row fw9.heap.size 35 3 vc (((turned L tn).map vTruth).length) (flatV ((turned L tn).map vTruth))] u ∧ fr.eval (.tmp 101) = .bool false ∧ fr.eval (.tmp 10) = .pointer (some ⟨gb2, 0, none⟩) ∧ fr.eval (.tmp 11) = .pointer (some ⟨gb3, 0, none⟩) ∧ fr.eval (.tmp 12) = .pointer (some ⟨gb4, 0, none⟩) ∧ fr.eval (.tmp 6) = vb ∧ fr.eval (.tmp 7) = vc) ⟨zfa34, dffa34, ow40, s101_fa34, s10_fa34, s11_fa34, s12_fa34, s6_fa34, s7_fa34⟩ ?_
  rintro fa35 fw35 ⟨zfa35, dffa35, ow41, s101_fa35, s10_fa35, s11_fa35, s12_fa35, s6_fa35, s7_fa35⟩
  refine then_n (hK15 _ _ ?_)
  clear hK15 K15
  refine wp_cond_false (s101_fa35) ?_
  refine wp_skip ?_
  refine then_n (hK14 _ _ ?_)
  clear hK14 K14
  refine wp_seq_k fun K16 hK16 => ?_
  refine region_sx [yV (aggV (vTruth (foldB 21 L))), ySlice fw35.heap.size 1 (rowObj [vTruth (foldB 21 L)]), yV (aggV (vTruth (!(foldB 21 L)))), yV (vb), yV (aggV (vTruth (foldB 22 (L.map (!·))))), yV (.bool true), yV (.bool true), yV (aggV (vTruth (foldB 22 L))), ySlice fw35.heap.size 1 (rowObj [vTruth (foldB 22 L)]), yV (aggV (vTruth (!(foldB 22 L)))), yV (vb), yV (aggV (vTruth (foldB 21 (L.map (!·))))), yV (.bool true), yV (.bool true), yV (.bool true), yV (vc), yV (aggV (vTruth (foldB 21 (turned L tn)))), yV (aggV (vTruth (foldB 21 L))), yV (.bool true), yV (.bool true), yV (.bool true), yV (vc), yV (aggV (vTruth (foldB 22 (turned L tn)))), yV (aggV (vTruth (foldB 22 L))), yV (.bool true), yV (.bool true), yV (.bool true), yV (vc), yV (aggV (vTruth (foldB 23 (turned L tn)))), yV (aggV (vTruth (foldB 23 L))), yV (.bool true), yV (.bool true), yV (.bool true), yV (.bool true), yV (.bool true), yV (.bool true)] 36 137 (by kernel_rfl) zfa35 (by kernel_rfl) (by kernel_rfl) (fun i o ho hi aa ww hk bs hd => ?_) (fun fa36 fw36 hk bs hv ap => ?_)
  · match i, ho, hi with
    | 0, ho, hi =>
      cases ho
      exact stepX_same (v := aggV (vTruth (foldB 21 L))) (want0 rfl) (xload3 rfl (bs.get 10 rfl s10_fa35) ((ow41.keep hk).box 2 rfl)) rfl rfl
    | 1, ho, hi =>
      cases ho
      have d0 : aa.eval (.tmp 102) = aggV (vTruth (foldB 21 L)) := depX hd 0 rfl
      exact stepX_new _ (want0 rfl) (xrow1 rfl d0) ⟨_, rfl, hk.size, Go.heap_alloc_new _ _⟩ ((Kept.refl _).alloc _) rfl (Nat.le_refl _)
    | 2, ho, hi =>
      cases ho
      have d1 : ∃ g, aa.eval (.tmp 103) = .slice (some ⟨g, 0, none⟩) 1 1 ∧ fw35.heap.size ≤ g ∧ ww.heap[g]? = some (rowObj [vTruth (foldB 21 L)]) := depX hd 1 rfl
      obtain ⟨g1, e1, _, h1⟩ := d1
      exact stepX_enter (want0 rfl) (xcall2 (u := .int .u8 24) (v := .slice (some ⟨g1, 0, none⟩) 1 1) rfl rfl e1 (en_louvrelaw15_of _ _)) ((of15_not (foldB 21 L) g1 ww mx (HM.kept (kj.trans (ow41.keep hk).kept)) (rowObj_row h1)).mono fun _ _ ⟨he, hk2⟩ => ⟨_, he, rfl, hk2⟩) rfl
    | 3, ho, hi =>
      cases ho
      exact stepX_same (v := vb) (want0 rfl) (xmove rfl (bs.get 6 rfl s6_fa35)) rfl rfl
    | 4, ho, hi =>
      cases ho
      have d3 : aa.eval (.tmp 105) = vb := depX hd 3 rfl
      exact stepX_enter (want0 rfl) (xcall2 (u := .int .u8 22) (v := vb) rfl rfl d3 (en_louvrelaw15_of _ _)) ((of15_fold 22 (by decide) (L.map (!·)) (by rw [List.length_map]; exact lpos) (by rw [List.length_map]; exact l1) vb ww mx (HM.kept (kj.trans (ow41.keep hk).kept)) ((ow41.keep hk).row 4 rfl)).mono fun _ _ ⟨he, hk2⟩ => ⟨_, he, rfl, hk2⟩) rfl
    | 5, ho, hi =>
      cases ho
      have d2 : aa.eval (.tmp 104) = aggV (vTruth (!(foldB 21 L))) := depX hd 2 rfl
      have d4 : aa.eval (.tmp 106) = aggV (vTruth (foldB 22 (L.map (!·)))) := depX hd 4 rfl
      exact stepX_same (v := .bool (sameV (vTruth (!(foldB 21 L))) (vTruth (foldB 22 (L.map (!·)))))) (want0 rfl) (xeqv rfl d2 d4) (congrArg Value.bool (sameV_of (congrArg vTruth (fold_not_and L)))) rfl
    | 6, ho, hi =>
      cases ho
      have d5 : aa.eval (.tmp 107) = .bool true := depX hd 5 rfl
      exact stepX_same (v := .bool true) (want0 rfl) (xmove rfl d5) rfl rfl
    | 7, ho, hi =>
      cases ho
      have d6 : aa.eval (.tmp 108) = .bool true := depX hd 6 rfl
      exact stepX_same (v := aggV (vTruth (foldB 22 L))) (want1 (j := 6) (b := true) rfl d6) (xload3 rfl (bs.get 11 rfl s11_fa35) ((ow41.keep hk).box 1 rfl)) rfl rfl
    | 8, ho, hi =>
      cases ho
      have d7 : aa.eval (.tmp 109) = aggV (vTruth (foldB 22 L)) := depX hd 7 rfl
      have d6 : aa.eval (.tmp 108) = .bool true := depX hd 6 rfl
      exact stepX_new _ (want1 (j := 6) (b := true) rfl d6) (xrow1 rfl d7) ⟨_, rfl, hk.size, Go.heap_alloc_new _ _⟩ ((Kept.refl _).alloc _) rfl (Nat.le_refl _)
    | 9, ho, hi =>
      cases ho
      have d8 : ∃ g, aa.eval (.tmp 110) = .slice (some ⟨g, 0, none⟩) 1 1 ∧ fw35.heap.size ≤ g ∧ ww.heap[g]? = some (rowObj [vTruth (foldB 22 L)]) := depX hd 8 rfl
      have d6 : aa.eval (.tmp 108) = .bool true := depX hd 6 rfl
      obtain ⟨g8, e8, _, h8⟩ := d8
      exact stepX_enter (want1 (j := 6) (b := true) rfl d6) (xcall2 (u := .int .u8 24) (v := .slice (some ⟨g8, 0, none⟩) 1 1) rfl rfl e8 (en_louvrelaw15_of _ _)) ((of15_not (foldB 22 L) g8 ww mx (HM.kept (kj.trans (ow41.keep hk).kept)) (rowObj_row h8)).mono fun _ _ ⟨he, hk2⟩ => ⟨_, he, rfl, hk2⟩) rfl
    | 10, ho, hi =>
      cases ho
      have d6 : aa.eval (.tmp 108) = .bool true := depX hd 6 rfl
      exact stepX_same (v := vb) (want1 (j := 6) (b := true) rfl d6) (xmove rfl (bs.get 6 rfl s6_fa35)) rfl rfl
    | 11, ho, hi =>
      cases ho
      have d10 : aa.eval (.tmp 112) = vb := depX hd 10 rfl
      have d6 : aa.eval (.tmp 108) = .bool true := depX hd 6 rfl
      exact stepX_enter (want1 (j := 6) (b := true) rfl d6) (xcall2 (u := .int .u8 21) (v := vb) rfl rfl d10 (en_louvrelaw15_of _ _)) ((of15_fold 21 (by decide) (L.map (!·)) (by rw [List.length_map]; exact lpos) (by rw [List.length_map]; exact l1) vb ww mx (HM.kept (kj.trans (ow41.keep hk).kept)) ((ow41.keep hk).row 4 rfl)).mono fun _ _ ⟨he, hk2⟩ => ⟨_, he, rfl, hk2⟩) rfl
    | 12, ho, hi =>
      cases ho
      have d9 : aa.eval (.tmp 111) = aggV (vTruth (!(foldB 22 L))) := depX hd 9 rfl
      have d11 : aa.eval (.tmp 113) = aggV (vTruth (foldB 21 (L.map (!·)))) := depX hd 11 rfl
      have d6 : aa.eval (.tmp 108) = .bool true := depX hd 6 rfl
      exact stepX_same (v := .bool (sameV (vTruth (!(foldB 22 L))) (vTruth (foldB 21 (L.map (!·)))))) (want1 (j := 6) (b := true) rfl d6) (xeqv rfl d9 d11) (congrArg Value.bool (sameV_of (congrArg vTruth (fold_not_or L)))) rfl
    | 13, ho, hi =>
      cases ho
      have d6 : aa.eval (.tmp 108) = .bool true := depX hd 6 rfl
      have d12 : aa.eval (.tmp 114) = .bool true := depX hd 12 rfl
      exact stepX_same (v := .bool true) (want0 rfl) (xpickT rfl d6 d12) rfl rfl
    | 14, ho, hi =>
      cases ho
      have d13 : aa.eval (.tmp 115) = .bool true := depX hd 13 rfl
      exact stepX_same (v := .bool true) (want0 rfl) (xmove rfl d13) rfl rfl
    | 15, ho, hi =>
      cases ho
      have d14 : aa.eval (.tmp 116) = .bool true := depX hd 14 rfl
      exact stepX_same (v := vc) (want1 (j := 14) (b := true) rfl d14) (xmove rfl (bs.get 7 rfl s7_fa35)) rfl rfl
    | 16, ho, hi =>
      cases ho
      have d15 : aa.eval (.tmp 117) = vc := depX hd 15 rfl
      have d14 : aa.eval (.tmp 116) = .bool true := depX hd 14 rfl
      exact stepX_enter (want1 (j := 14) (b := true) rfl d14) (xcall2 (u := .int .u8 21) (v := vc) rfl rfl d15 (en_louvrelaw15_of _ _)) ((of15_fold 21 (by decide) (turned L tn) (by rw [turned_length L tn tl]; exact lpos) (by rw [turned_length L tn tl]; exact l1) vc ww mx (HM.kept (kj.trans (ow41.keep hk).kept)) ((ow41.keep hk).row 5 rfl)).mono fun _ _ ⟨he, hk2⟩ => ⟨_, he, rfl, hk2⟩) rfl
    | 17, ho, hi =>
      cases ho
      have d14 : aa.eval (.tmp 116) = .bool true := depX hd 14 rfl
      exact stepX_same (v := aggV (vTruth (foldB 21 L))) (want1 (j := 14) (b := true) rfl d14) (xload3 rfl (bs.get 10 rfl s10_fa35) ((ow41.keep hk).box 2 rfl)) rfl rfl
    | 18, ho, hi =>
      cases ho
      have d16 : aa.eval (.tmp 118) = aggV (vTruth (foldB 21 (turned L tn))) := depX hd 16 rfl
      have d17 : aa.eval (.tmp 119) = aggV (vTruth (foldB 21 L)) := depX hd 17 rfl
      have d14 : aa.eval (.tmp 116) = .bool true := depX hd 14 rfl
      exact stepX_same (v := .bool (sameV (vTruth (foldB 21 (turned L tn))) (vTruth (foldB 21 L)))) (want1 (j := 14) (b := true) rfl d14) (xeqv rfl d16 d17) (congrArg Value.bool (sameV_of (congrArg vTruth (fold_turned 21 L tn tl)))) rfl
    | 19, ho, hi =>
      cases ho
      have d14 : aa.eval (.tmp 116) = .bool true := depX hd 14 rfl
      have d18 : aa.eval (.tmp 120) = .bool true := depX hd 18 rfl
      exact stepX_same (v := .bool true) (want0 rfl) (xpickT rfl d14 d18) rfl rfl
    | 20, ho, hi =>
      cases ho
      have d19 : aa.eval (.tmp 121) = .bool true := depX hd 19 rfl
      exact stepX_same (v := .bool true) (want0 rfl) (xmove rfl d19) rfl rfl
    | 21, ho, hi =>
      cases ho
      have d20 : aa.eval (.tmp 122) = .bool true := depX hd 20 rfl
      exact stepX_same (v := vc) (want1 (j := 20) (b := true) rfl d20) (xmove rfl (bs.get 7 rfl s7_fa35)) rfl rfl
    | 22, ho, hi =>
      cases ho
      have d21 : aa.eval (.tmp 123) = vc := depX hd 21 rfl
      have d20 : aa.eval (.tmp 122) = .bool true := depX hd 20 rfl
      exact stepX_enter (want1 (j := 20) (b := true) rfl d20) (xcall2 (u := .int .u8 22) (v := vc) rfl rfl d21 (en_louvrelaw15_of _ _)) ((of15_fold 22 (by decide) (turned L tn) (by rw [turned_length L tn tl]; exact lpos) (by rw [turned_length L tn tl]; exact l1) vc ww mx (HM.kept (kj.trans (ow41.keep hk).kept)) ((ow41.keep hk).row 5 rfl)).mono fun _ _ ⟨he, hk2⟩ => ⟨_, he, rfl, hk2⟩) rfl
    | 23, ho, hi =>
      cases ho
      have d20 : aa.eval (.tmp 122) = .bool true := depX hd 20 rfl
      exact stepX_same (v := aggV (vTruth (foldB 22 L))) (want1 (j := 20) (b := true) rfl d20) (xload3 rfl (bs.get 11 rfl s11_fa35) ((ow41.keep hk).box 1 rfl)) rfl rfl
    | 24, ho, hi =>
      cases ho
      have d22 : aa.eval (.tmp 124) = aggV (vTruth (foldB 22 (turned L tn))) := depX hd 22 rfl
      have d23 : aa.eval (.tmp 125) = aggV (vTruth (foldB 22 L)) := depX hd 23 rfl
      have d20 : aa.eval (.tmp 122) = .bool true := depX hd 20 rfl
      exact stepX_same (v := .bool (sameV (vTruth (foldB 22 (turned L tn))) (vTruth (foldB 22 L)))) (want1 (j := 20) (b := true) rfl d20) (xeqv rfl d22 d23) (congrArg Value.bool (sameV_of (congrArg vTruth (fold_turned 22 L tn tl)))) rfl
    | 25, ho, hi =>
      cases ho
      have d20 : aa.eval (.tmp 122) = .bool true := depX hd 20 rfl
      have d24 : aa.eval (.tmp 126) = .bool true := depX hd 24 rfl
      exact stepX_same (v := .bool true) (want0 rfl) (xpickT rfl d20 d24) rfl rfl
    | 26, ho, hi =>
      cases ho
      have d25 : aa.eval (.tmp 127) = .bool true := depX hd 25 rfl
      exact stepX_same (v := .bool true) (want0 rfl) (xmove rfl d25) rfl rfl
    | 27, ho, hi =>
      cases ho
      have d26 : aa.eval (.tmp 128) = .bool true := depX hd 26 rfl
      exact stepX_same (v := vc) (want1 (j := 26) (b := true) rfl d26) (xmove rfl (bs.get 7 rfl s7_fa35)) rfl rfl
    | 28, ho, hi =>
      cases ho
      have d27 : aa.eval (.tmp 129) = vc := depX hd 27 rfl
      have d26 : aa.eval (.tmp 128) = .bool true := depX hd 26 rfl
      exact stepX_enter (want1 (j := 26) (b := true) rfl d26) (xcall2 (u := .int .u8 23) (v := vc) rfl rfl d27 (en_louvrelaw15_of _ _)) ((of15_fold 23 (by decide) (turned L tn) (by rw [turned_length L tn tl]; exact lpos) (by rw [turned_length L tn tl]; exact l1) vc ww mx (HM.kept (kj.trans (ow41.keep hk).kept)) ((ow41.keep hk).row 5 rfl)).mono fun _ _ ⟨he, hk2⟩ => ⟨_, he, rfl, hk2⟩) rfl
    | 29, ho, hi =>
      cases ho
      have d26 : aa.eval (.tmp 128) = .bool true := depX hd 26 rfl
      exact stepX_same (v := aggV (vTruth (foldB 23 L))) (want1 (j := 26) (b := true) rfl d26) (xload3 rfl (bs.get 12 rfl s12_fa35) ((ow41.keep hk).box 0 rfl)) rfl rfl
    | 30, ho, hi =>
      cases ho
      have d28 : aa.eval (.tmp 130) = aggV (vTruth (foldB 23 (turned L tn))) := depX hd 28 rfl
      have d29 : aa.eval (.tmp 131) = aggV (vTruth (foldB 23 L)) := depX hd 29 rfl
      have d26 : aa.eval (.tmp 128) = .bool true := depX hd 26 rfl
      exact stepX_same (v := .bool (sameV (vTruth (foldB 23 (turned L tn))) (vTruth (foldB 23 L)))) (want1 (j := 26) (b := true) rfl d26) (xeqv rfl d28 d29) (congrArg Value.bool (sameV_of (congrArg vTruth (fold_turned 23 L tn tl)))) rfl
    | 31, ho, hi =>
      cases ho
      have d26 : aa.eval (.tmp 128) = .bool true := depX hd 26 rfl
      have d30 : aa.eval (.tmp 132) = .bool true := depX hd 30 rfl
      exact stepX_same (v := .bool true) (want0 rfl) (xpickT rfl d26 d30) rfl rfl
    | 32, ho, hi =>
      cases ho
      have d31 : aa.eval (.tmp 133) = .bool true := depX hd 31 rfl
      exact stepX_same (v := .bool true) (want0 rfl) (xmove rfl d31) rfl rfl
    | 33, ho, hi =>
      cases ho
      have d32 : aa.eval (.tmp 134) = .bool true := depX hd 32 rfl
      exact stepX_enter (want1 (j := 32) (b := true) rfl d32) (xcall0 rfl (en_louvrelaw15_awake _ _)) ((awake15_any ww mx (HM.kept (kj.trans (ow41.keep hk).kept))).mono fun _ _ ⟨he, hk2⟩ => ⟨_, he, rfl, hk2⟩) rfl
    | 34, ho, hi =>
      cases ho
      have d32 : aa.eval (.tmp 134) = .bool true := depX hd 32 rfl
      have d33 : aa.eval (.tmp 135) = .bool true := depX hd 33 rfl
      exact stepX_same (v := .bool true) (want0 rfl) (xpickT rfl d32 d33) rfl rfl
    | 35, ho, hi =>
      cases ho
      have d34 : aa.eval (.tmp 136) = .bool true := depX hd 34 rfl
      exact stepX_same (v := .bool true) (want0 rfl) (xassign rfl d34) rfl rfl
    | i + 36, ho, hi => exact absurd hi (by omega)
  have zfa36 : fa36.tmps.size = 137 := bs.size.trans zfa35
  have dffa36 : fa36.defers = [] := bs.defers.trans dffa35
  have ow42 := ow41.keep hk
  have s4_fa36 : fa36.eval (.tmp 4) = .bool true := hv 35 (by decide)
  clear hv ap bs hk
  refine wl_nil (fun fr u => fr.tmps.size = 137 ∧ fr.defers = [] ∧ Own fw9 [Th.obj gb4 (.cells #[.int .u8 (vTruth (foldB 23 L)).k, .int .i64 (vTruth (foldB 23 L)).n, .string ⟨(vTruth (foldB 23 L)).t.toArray⟩] 35 (0, 0)), Th.obj gb3 (.cells #[.int .u8 (vTruth (foldB 22 L)).k, .int .i64 (vTruth (foldB 22 L)).n, .string ⟨(vTruth (foldB 22 L)).t.toArray⟩] 35 (0, 0)), Th.obj gb2 (.cells #[.int .u8 (vTruth (foldB 21 L)).k, .int .i64 (vTruth (foldB 21 L)).n, .string ⟨(vTruth (foldB 21 L)).t.toArray⟩] 35 (0, 0)), Th.row fw9.heap.size 35 3 va ((L.map vTruth).length) (flatV (L.map vTruth)), Th.row fw9.heap.size 35 3 vb (((L.map (!·)).map vTruth).length) (flatV ((L.map (!·)).map vTruth)), Th.row fw9.heap.size 35 3 vc (((turned L tn).map vTruth).length) (flatV ((turned L tn).map vTruth))] u ∧ fr.eval (.tmp 4) = .bool true) ⟨zfa36, dffa36, ow42, s4_fa36⟩ ?_
  rintro fa37 fw37 ⟨zfa37, dffa37, ow43, s4_fa37⟩
  refine then_n (hK16 _ _ ?_)
  clear hK16 K16
  refine wp_ret ?_
  refine results1 rfl s4_fa37 dffa37 ?_
  exact ⟨rfl, kj.trans ow43.kept⟩
end Go.Proofs.YtipkjpcedfokhaaDoor
