/- The law FlogicChooses, walked (printed by wip/mkchooses15.py). -/
import Derived.Test.YtipkjpcedfokhaaDoorGChoose4
namespace Go.Proofs.YtipkjpcedfokhaaDoor
set_option linter.unusedVariables false
set_option linter.unusedSimpArgs false
open Go.RowKit Lv
set_option maxRecDepth 100000
theorem Own.tail {w0 w : World} {t : Th} {H : List Th} (h : Own w0 (t :: H) w) : Own w0 H w := ⟨h.kept, fun s hs => h.has s (List.mem_cons_of_mem _ hs), fun s hs => h.old s (List.mem_cons_of_mem _ hs), (List.pairwise_cons.1 h.apart).2⟩
theorem fine_nil : ∀ v ∈ ([] : List Vl), vOk v = true ∧ Small v := fun v hv => by cases hv
theorem fine_cons {x : Vl} {l : List Vl} (h : vOk x = true ∧ Small x) (t : ∀ v ∈ l, vOk v = true ∧ Small v) : ∀ v ∈ x :: l, vOk v = true ∧ Small v := fun v hv => (List.mem_cons.1 hv).elim (fun e => by rw [e]; exact h) (t v)
theorem en_louvrelaw13_Good (args : Array Value) (w : World) : (callFunc 49 args).run Tryd.prog w = .ok (.enter 49 args) w := by go_simp
theorem en_louvrelaw15_awake (args : Array Value) (w : World) : (callFunc 47 args).run Tryd.prog w = .ok (.enter 47 args) w := by go_simp
theorem en_louvrelaw15_of (args : Array Value) (w : World) : (callFunc 50 args).run Tryd.prog w = .ok (.enter 50 args) w := by go_simp
theorem en_louvrelaw15_truth (args : Array Value) (w : World) : (callFunc 52 args).run Tryd.prog w = .ok (.enter 52 args) w := by go_simp
theorem en_val_Check (args : Array Value) (w : World) : (callFunc 51 args).run Tryd.prog w = .ok (.enter 51 args) w := by go_simp
set_option maxHeartbeats 4000000 in
theorem FlogicChooses_walk (x0 y0 z0 : Vl) (w : World) (w0 : Wide x0 ∧ Wide y0 ∧ Wide z0) (mx : Int) (HM : Mx w mx) :
    Calls Tryd.prog 14 #[.agg #[.int .u8 x0.k, .int .i64 x0.n, .string ⟨x0.t.toArray⟩, .int .u8 y0.k, .int .i64 y0.n, .string ⟨y0.t.toArray⟩, .int .u8 z0.k, .int .i64 z0.n, .string ⟨z0.t.toArray⟩]] w fun e w' => e = .returned (.bool true) ∧ Below w.heap.size w w' := by
  have Fc := fine_good w0.1
  have Fa := fine_good w0.2.1
  have Fb := fine_good w0.2.2
  have GX := fun u => good_any x0 u w0.1
  have GY := fun u => good_any y0 u w0.2.1
  have GZ := fun u => good_any z0 u w0.2.2
  generalize vGood x0 = c at *
  generalize vGood y0 = a at *
  generalize vGood z0 = b at *
  go_enter Tryd.func14, Tryd.ntmps14
  refine wp_seq_k fun K1 hK1 => ?_
  refine region_sx [yNew w.heap.size (.cells #[.int .u8 x0.k, .int .i64 x0.n, .string ⟨x0.t.toArray⟩, .int .u8 y0.k, .int .i64 y0.n, .string ⟨y0.t.toArray⟩, .int .u8 z0.k, .int .i64 z0.n, .string ⟨z0.t.toArray⟩] 49 (0, 0)), yV (.bool false)] 2 164 (by kernel_rfl) rfl (by kernel_rfl) (by kernel_rfl) (fun i o ho hi aa ww hk bs hd => ?_) (fun fa1 fw1 hk bs hv ap => ?_)
  · match i, ho, hi with
    | 0, ho, hi =>
      cases ho
      exact stepX_new _ (want0 rfl) (xbox (b := .cells #[.int .u8 x0.k, .int .i64 x0.n, .string ⟨x0.t.toArray⟩, .int .u8 y0.k, .int .i64 y0.n, .string ⟨y0.t.toArray⟩, .int .u8 z0.k, .int .i64 z0.n, .string ⟨z0.t.toArray⟩] 49 (0, 0)) rfl (bs.get 0 rfl rfl) (by kernel_rfl)) ⟨_, rfl, hk.size, Go.heap_alloc_new _ _⟩ ((Kept.refl _).alloc _) rfl (Nat.le_refl _)
    | 1, ho, hi =>
      cases ho
      exact stepX_same (v := .bool false) (want0 rfl) (xassign rfl rfl) rfl rfl
    | i + 2, ho, hi => exact absurd hi (by omega)
  have zfa1 : fa1.tmps.size = 164 := bs.size.trans rfl
  have dffa1 : fa1.defers = [] := bs.defers.trans rfl
  have ow1 := (Own.start w).keep hk
  obtain ⟨gb1, qgb1, bgb1, hgb1⟩ := hv 0 (by decide)
  have ow2 := ow1.cons hgb1 (Nat.le_trans (Own.start w).kept.size bgb1) ((Own.start w).below bgb1)
  have s1_fa1 : fa1.eval (.tmp 1) = .pointer (some ⟨gb1, 0, none⟩) := qgb1
  have s2_fa1 : fa1.eval (.tmp 2) = .bool false := hv 1 (by decide)
  clear hv ap bs hk
  refine wl_nil (fun fr u => fr.tmps.size = 164 ∧ fr.defers = [] ∧ Own w [Th.obj gb1 (.cells #[.int .u8 x0.k, .int .i64 x0.n, .string ⟨x0.t.toArray⟩, .int .u8 y0.k, .int .i64 y0.n, .string ⟨y0.t.toArray⟩, .int .u8 z0.k, .int .i64 z0.n, .string ⟨z0.t.toArray⟩] 49 (0, 0))] u ∧ fr.eval (.tmp 1) = .pointer (some ⟨gb1, 0, none⟩) ∧ fr.eval (.tmp 2) = .bool false) ⟨zfa1, dffa1, ow2, s1_fa1, s2_fa1⟩ ?_
  rintro fa2 fw2 ⟨zfa2, dffa2, ow3, s1_fa2, s2_fa2⟩
  refine then_n (hK1 _ _ ?_)
  try clear hK1 K1
  refine wp_seq_k fun K2 hK2 => ?_
  refine region_sx [yV (.pointer (some ⟨gb1, 0, none⟩)), yV (aggV x0), yV (aggV c), yV (.pointer (some ⟨gb1, 3, none⟩)), yV (aggV y0), yV (aggV a), yV (.pointer (some ⟨gb1, 6, none⟩)), yV (aggV z0), yV (aggV b), yNew fw2.heap.size (.cells #[.int .u8 0, .int .i64 0, .string ⟨[].toArray⟩] 35 (0, 0)), yNew fw2.heap.size (.cells #[.int .u8 0, .int .i64 0, .string ⟨[].toArray⟩] 35 (0, 0)), yNew fw2.heap.size (.cells #[.int .u8 0, .int .i64 0, .string ⟨[].toArray⟩] 35 (0, 0))] 12 164 (by kernel_rfl) zfa2 (by kernel_rfl) (by kernel_rfl) (fun i o ho hi aa ww hk bs hd => ?_) (fun fa3 fw3 hk bs hv ap => ?_)
  · match i, ho, hi with
    | 0, ho, hi =>
      cases ho
      exact stepX_same (v := .pointer (some ⟨gb1, 0, none⟩)) (want0 rfl) (xindexAddr rfl (bs.get 1 rfl s1_fa2) rfl (by kernel_rfl)) rfl rfl
    | 1, ho, hi =>
      cases ho
      have d0 : aa.eval (.tmp 12) = .pointer (some ⟨gb1, 0, none⟩) := depX hd 0 rfl
      exact stepX_same (v := aggV x0) (want0 rfl) (xloadN 3 (vs := [.int .u8 x0.k, .int .i64 x0.n, .string ⟨x0.t.toArray⟩]) rfl (by kernel_rfl) (by kernel_rfl) d0 ((ow3.keep hk).box 0 rfl) (Nat.le_of_ble_eq_true rfl) rfl) rfl rfl
    | 2, ho, hi =>
      cases ho
      have d1 : aa.eval (.tmp 13) = aggV x0 := depX hd 1 rfl
      exact stepX_enter (want0 rfl) (xcall1 (u := aggV x0) rfl d1 (en_louvrelaw13_Good _ _)) ((GX ww).mono fun _ _ ⟨he, hk2⟩ => ⟨_, he, rfl, hk2⟩) rfl
    | 3, ho, hi =>
      cases ho
      exact stepX_same (v := .pointer (some ⟨gb1, 3, none⟩)) (want0 rfl) (xindexAddr rfl (bs.get 1 rfl s1_fa2) rfl (by kernel_rfl)) rfl rfl
    | 4, ho, hi =>
      cases ho
      have d3 : aa.eval (.tmp 15) = .pointer (some ⟨gb1, 3, none⟩) := depX hd 3 rfl
      exact stepX_same (v := aggV y0) (want0 rfl) (xloadN 3 (vs := [.int .u8 y0.k, .int .i64 y0.n, .string ⟨y0.t.toArray⟩]) rfl (by kernel_rfl) (by kernel_rfl) d3 ((ow3.keep hk).box 0 rfl) (Nat.le_of_ble_eq_true rfl) rfl) rfl rfl
    | 5, ho, hi =>
      cases ho
      have d4 : aa.eval (.tmp 16) = aggV y0 := depX hd 4 rfl
      exact stepX_enter (want0 rfl) (xcall1 (u := aggV y0) rfl d4 (en_louvrelaw13_Good _ _)) ((GY ww).mono fun _ _ ⟨he, hk2⟩ => ⟨_, he, rfl, hk2⟩) rfl
    | 6, ho, hi =>
      cases ho
      exact stepX_same (v := .pointer (some ⟨gb1, 6, none⟩)) (want0 rfl) (xindexAddr rfl (bs.get 1 rfl s1_fa2) rfl (by kernel_rfl)) rfl rfl
    | 7, ho, hi =>
      cases ho
      have d6 : aa.eval (.tmp 18) = .pointer (some ⟨gb1, 6, none⟩) := depX hd 6 rfl
      exact stepX_same (v := aggV z0) (want0 rfl) (xloadN 3 (vs := [.int .u8 z0.k, .int .i64 z0.n, .string ⟨z0.t.toArray⟩]) rfl (by kernel_rfl) (by kernel_rfl) d6 ((ow3.keep hk).box 0 rfl) (Nat.le_of_ble_eq_true rfl) rfl) rfl rfl
    | 8, ho, hi =>
      cases ho
      have d7 : aa.eval (.tmp 19) = aggV z0 := depX hd 7 rfl
      exact stepX_enter (want0 rfl) (xcall1 (u := aggV z0) rfl d7 (en_louvrelaw13_Good _ _)) ((GZ ww).mono fun _ _ ⟨he, hk2⟩ => ⟨_, he, rfl, hk2⟩) rfl
    | 9, ho, hi =>
      cases ho
      exact stepX_new _ (want0 rfl) (xalloc (b := .cells #[.int .u8 0, .int .i64 0, .string ⟨[].toArray⟩] 35 (0, 0)) rfl (by kernel_rfl)) ⟨_, rfl, hk.size, Go.heap_alloc_new _ _⟩ ((Kept.refl _).alloc _) rfl (Nat.le_refl _)
    | 10, ho, hi =>
      cases ho
      exact stepX_new _ (want0 rfl) (xalloc (b := .cells #[.int .u8 0, .int .i64 0, .string ⟨[].toArray⟩] 35 (0, 0)) rfl (by kernel_rfl)) ⟨_, rfl, hk.size, Go.heap_alloc_new _ _⟩ ((Kept.refl _).alloc _) rfl (Nat.le_refl _)
    | 11, ho, hi =>
      cases ho
      exact stepX_new _ (want0 rfl) (xalloc (b := .cells #[.int .u8 0, .int .i64 0, .string ⟨[].toArray⟩] 35 (0, 0)) rfl (by kernel_rfl)) ⟨_, rfl, hk.size, Go.heap_alloc_new _ _⟩ ((Kept.refl _).alloc _) rfl (Nat.le_refl _)
    | i + 12, ho, hi => exact absurd hi (by omega)
  have zfa3 : fa3.tmps.size = 164 := bs.size.trans zfa2
  have dffa3 : fa3.defers = [] := bs.defers.trans dffa2
  have ow4 := ow3.keep hk
  have s14_fa3 : fa3.eval (.tmp 14) = aggV c := hv 2 (by decide)
  have s17_fa3 : fa3.eval (.tmp 17) = aggV a := hv 5 (by decide)
  have s20_fa3 : fa3.eval (.tmp 20) = aggV b := hv 8 (by decide)
  obtain ⟨gb2, qgb2, bgb2, hgb2⟩ := hv 9 (by decide)
  have ow5 := ow4.cons hgb2 (Nat.le_trans ow3.kept.size bgb2) (ow3.below bgb2)
  have s3_fa3 : fa3.eval (.tmp 3) = .pointer (some ⟨gb2, 0, none⟩) := qgb2
  obtain ⟨gb3, qgb3, bgb3, hgb3⟩ := hv 10 (by decide)
  have ow6 := ow5.cons hgb3 (Nat.le_trans ow3.kept.size bgb3) (ne_cons (fun c => ap 9 10 (by decide) (by decide) (by decide) rfl rfl (by rw [qgb2, qgb3]; exact c)) (ow3.below bgb3))
  have s4_fa3 : fa3.eval (.tmp 4) = .pointer (some ⟨gb3, 0, none⟩) := qgb3
  obtain ⟨gb4, qgb4, bgb4, hgb4⟩ := hv 11 (by decide)
  have ow7 := ow6.cons hgb4 (Nat.le_trans ow3.kept.size bgb4) (ne_cons (fun c => ap 10 11 (by decide) (by decide) (by decide) rfl rfl (by rw [qgb3, qgb4]; exact c)) (ne_cons (fun c => ap 9 11 (by decide) (by decide) (by decide) rfl rfl (by rw [qgb2, qgb4]; exact c)) (ow3.below bgb4)))
  have s5_fa3 : fa3.eval (.tmp 5) = .pointer (some ⟨gb4, 0, none⟩) := qgb4
  have s2_fa3 : fa3.eval (.tmp 2) = .bool false := bs.get 2 rfl s2_fa2
  clear hv ap bs hk
  refine wl_skip (want0 rfl) rfl (xstoreN (off := 0) rfl s3_fa3 s14_fa3 (by kernel_rfl) (ow7.box 2 rfl) rfl (Nat.le_of_ble_eq_true rfl)) ?_
  have ow8 : Own w [Th.obj gb4 (.cells #[.int .u8 0, .int .i64 0, .string ⟨[].toArray⟩] 35 (0, 0)), Th.obj gb3 (.cells #[.int .u8 0, .int .i64 0, .string ⟨[].toArray⟩] 35 (0, 0)), Th.obj gb2 (.cells #[.int .u8 c.k, .int .i64 c.n, .string ⟨c.t.toArray⟩] 35 (0, 0)), Th.obj gb1 (.cells #[.int .u8 x0.k, .int .i64 x0.n, .string ⟨x0.t.toArray⟩, .int .u8 y0.k, .int .i64 y0.n, .string ⟨y0.t.toArray⟩, .int .u8 z0.k, .int .i64 z0.n, .string ⟨z0.t.toArray⟩] 49 (0, 0))] _ := ow7.put 2 rfl 0 [.int .u8 c.k, .int .i64 c.n, .string ⟨c.t.toArray⟩]
  refine wl_skip (want0 rfl) rfl (xstoreN (off := 0) rfl s4_fa3 s17_fa3 (by kernel_rfl) (ow8.box 1 rfl) rfl (Nat.le_of_ble_eq_true rfl)) ?_
  have ow9 : Own w [Th.obj gb4 (.cells #[.int .u8 0, .int .i64 0, .string ⟨[].toArray⟩] 35 (0, 0)), Th.obj gb3 (.cells #[.int .u8 a.k, .int .i64 a.n, .string ⟨a.t.toArray⟩] 35 (0, 0)), Th.obj gb2 (.cells #[.int .u8 c.k, .int .i64 c.n, .string ⟨c.t.toArray⟩] 35 (0, 0)), Th.obj gb1 (.cells #[.int .u8 x0.k, .int .i64 x0.n, .string ⟨x0.t.toArray⟩, .int .u8 y0.k, .int .i64 y0.n, .string ⟨y0.t.toArray⟩, .int .u8 z0.k, .int .i64 z0.n, .string ⟨z0.t.toArray⟩] 49 (0, 0))] _ := ow8.put 1 rfl 0 [.int .u8 a.k, .int .i64 a.n, .string ⟨a.t.toArray⟩]
  refine wl_skip (want0 rfl) rfl (xstoreN (off := 0) rfl s5_fa3 s20_fa3 (by kernel_rfl) (ow9.box 0 rfl) rfl (Nat.le_of_ble_eq_true rfl)) ?_
  have ow10 : Own w [Th.obj gb4 (.cells #[.int .u8 b.k, .int .i64 b.n, .string ⟨b.t.toArray⟩] 35 (0, 0)), Th.obj gb3 (.cells #[.int .u8 a.k, .int .i64 a.n, .string ⟨a.t.toArray⟩] 35 (0, 0)), Th.obj gb2 (.cells #[.int .u8 c.k, .int .i64 c.n, .string ⟨c.t.toArray⟩] 35 (0, 0)), Th.obj gb1 (.cells #[.int .u8 x0.k, .int .i64 x0.n, .string ⟨x0.t.toArray⟩, .int .u8 y0.k, .int .i64 y0.n, .string ⟨y0.t.toArray⟩, .int .u8 z0.k, .int .i64 z0.n, .string ⟨z0.t.toArray⟩] 49 (0, 0))] _ := ow9.put 0 rfl 0 [.int .u8 b.k, .int .i64 b.n, .string ⟨b.t.toArray⟩]
  refine wl_nil (fun fr u => fr.tmps.size = 164 ∧ fr.defers = [] ∧ Own w [Th.obj gb4 (.cells #[.int .u8 b.k, .int .i64 b.n, .string ⟨b.t.toArray⟩] 35 (0, 0)), Th.obj gb3 (.cells #[.int .u8 a.k, .int .i64 a.n, .string ⟨a.t.toArray⟩] 35 (0, 0)), Th.obj gb2 (.cells #[.int .u8 c.k, .int .i64 c.n, .string ⟨c.t.toArray⟩] 35 (0, 0)), Th.obj gb1 (.cells #[.int .u8 x0.k, .int .i64 x0.n, .string ⟨x0.t.toArray⟩, .int .u8 y0.k, .int .i64 y0.n, .string ⟨y0.t.toArray⟩, .int .u8 z0.k, .int .i64 z0.n, .string ⟨z0.t.toArray⟩] 49 (0, 0))] u ∧ fr.eval (.tmp 3) = .pointer (some ⟨gb2, 0, none⟩) ∧ fr.eval (.tmp 4) = .pointer (some ⟨gb3, 0, none⟩) ∧ fr.eval (.tmp 5) = .pointer (some ⟨gb4, 0, none⟩) ∧ fr.eval (.tmp 2) = .bool false) ⟨zfa3, dffa3, ow10, s3_fa3, s4_fa3, s5_fa3, s2_fa3⟩ ?_
  rintro fa4 fw4 ⟨zfa4, dffa4, ow11, s3_fa4, s4_fa4, s5_fa4, s2_fa4⟩
  refine then_n (hK2 _ _ ?_)
  try clear hK2 K2
  refine wp_seq_k fun K3 hK3 => ?_
  obtain ⟨r20, e20⟩ : ∃ r, vLogic 20 c [a, b] = r := ⟨_, rfl⟩
  obtain ⟨r25, e25⟩ : ∃ r, vLogic 25 c [a] = r := ⟨_, rfl⟩
  obtain ⟨r30, e30⟩ : ∃ r, vLogic 30 c [a, b] = r := ⟨_, rfl⟩
  have f20 : Fine c a b r20 := e20 ▸ fine20 Fc Fa Fb
  have f25 : Fine c a b r25 := e25 ▸ fine25 Fc Fa
  have f30 : Fine c a b r30 := e30 ▸ fine30 Fc Fa Fb
  refine region_sx [yV (aggV c), yV (aggV a), yV (aggV b), ySlice fw4.heap.size 3 (rowObj [c, a, b]), yV (aggV r20), yV (aggV c), yV (aggV a), ySlice fw4.heap.size 2 (rowObj [c, a]), yV (aggV r25), yV (aggV c), yV (aggV a), yV (aggV b), ySlice fw4.heap.size 3 (rowObj [c, a, b]), yV (aggV r30), yNew fw4.heap.size (.cells #[.int .u8 0, .int .i64 0, .string ⟨[].toArray⟩] 35 (0, 0)), yNew fw4.heap.size (.cells #[.int .u8 0, .int .i64 0, .string ⟨[].toArray⟩] 35 (0, 0)), yNew fw4.heap.size (.cells #[.int .u8 0, .int .i64 0, .string ⟨[].toArray⟩] 35 (0, 0))] 17 164 (by kernel_rfl) zfa4 (by kernel_rfl) (by kernel_rfl) (fun i o ho hi aa ww hk bs hd => ?_) (fun fa5 fw5 hk bs hv ap => ?_)
  · match i, ho, hi with
    | 0, ho, hi =>
      cases ho
      exact stepX_same (v := aggV c) (want0 rfl) (xloadN 3 (vs := [.int .u8 c.k, .int .i64 c.n, .string ⟨c.t.toArray⟩]) rfl (by kernel_rfl) (by kernel_rfl) (bs.get 3 rfl s3_fa4) ((ow11.keep hk).box 2 rfl) (Nat.le_of_ble_eq_true rfl) rfl) rfl rfl
    | 1, ho, hi =>
      cases ho
      exact stepX_same (v := aggV a) (want0 rfl) (xloadN 3 (vs := [.int .u8 a.k, .int .i64 a.n, .string ⟨a.t.toArray⟩]) rfl (by kernel_rfl) (by kernel_rfl) (bs.get 4 rfl s4_fa4) ((ow11.keep hk).box 1 rfl) (Nat.le_of_ble_eq_true rfl) rfl) rfl rfl
    | 2, ho, hi =>
      cases ho
      exact stepX_same (v := aggV b) (want0 rfl) (xloadN 3 (vs := [.int .u8 b.k, .int .i64 b.n, .string ⟨b.t.toArray⟩]) rfl (by kernel_rfl) (by kernel_rfl) (bs.get 5 rfl s5_fa4) ((ow11.keep hk).box 0 rfl) (Nat.le_of_ble_eq_true rfl) rfl) rfl rfl
    | 3, ho, hi =>
      cases ho
      have d0 : aa.eval (.tmp 21) = aggV c := depX hd 0 rfl
      have d1 : aa.eval (.tmp 22) = aggV a := depX hd 1 rfl
      have d2 : aa.eval (.tmp 23) = aggV b := depX hd 2 rfl
      exact stepX_new _ (want0 rfl) (xrow3 rfl d0 d1 d2) ⟨_, rfl, hk.size, Go.heap_alloc_new _ _⟩ ((Kept.refl _).alloc _) rfl (Nat.le_refl _)
    | 4, ho, hi =>
      cases ho
      have d3 : ∃ g, aa.eval (.tmp 24) = .slice (some ⟨g, 0, none⟩) 3 3 ∧ fw4.heap.size ≤ g ∧ ww.heap[g]? = some (rowObj [c, a, b]) := depX hd 3 rfl
      obtain ⟨g3, e3, _, h3⟩ := d3
      exact stepX_enter (want0 rfl) (xcall2 (u := .int .u8 20) (v := .slice (some ⟨g3, 0, none⟩) 3 3) rfl rfl e3 (en_louvrelaw15_of _ _)) ((of15_ok 20 g3 c [a, b] ww mx (HM.kept (ow11.keep hk).kept) (rowObj_row h3) (fine_cons Fc (fine_cons Fa (fine_cons Fb fine_nil))) (by simp) (by omega) (by omega) (by simp [lo15]) (by simp [hi15])).mono fun _ _ ⟨he, hk2⟩ => ⟨_, he, congrArg aggV e20, hk2⟩) rfl
    | 5, ho, hi =>
      cases ho
      exact stepX_same (v := aggV c) (want0 rfl) (xloadN 3 (vs := [.int .u8 c.k, .int .i64 c.n, .string ⟨c.t.toArray⟩]) rfl (by kernel_rfl) (by kernel_rfl) (bs.get 3 rfl s3_fa4) ((ow11.keep hk).box 2 rfl) (Nat.le_of_ble_eq_true rfl) rfl) rfl rfl
    | 6, ho, hi =>
      cases ho
      exact stepX_same (v := aggV a) (want0 rfl) (xloadN 3 (vs := [.int .u8 a.k, .int .i64 a.n, .string ⟨a.t.toArray⟩]) rfl (by kernel_rfl) (by kernel_rfl) (bs.get 4 rfl s4_fa4) ((ow11.keep hk).box 1 rfl) (Nat.le_of_ble_eq_true rfl) rfl) rfl rfl
    | 7, ho, hi =>
      cases ho
      have d5 : aa.eval (.tmp 26) = aggV c := depX hd 5 rfl
      have d6 : aa.eval (.tmp 27) = aggV a := depX hd 6 rfl
      exact stepX_new _ (want0 rfl) (xrow2 rfl d5 d6) ⟨_, rfl, hk.size, Go.heap_alloc_new _ _⟩ ((Kept.refl _).alloc _) rfl (Nat.le_refl _)
    | 8, ho, hi =>
      cases ho
      have d7 : ∃ g, aa.eval (.tmp 28) = .slice (some ⟨g, 0, none⟩) 2 2 ∧ fw4.heap.size ≤ g ∧ ww.heap[g]? = some (rowObj [c, a]) := depX hd 7 rfl
      obtain ⟨g7, e7, _, h7⟩ := d7
      exact stepX_enter (want0 rfl) (xcall2 (u := .int .u8 25) (v := .slice (some ⟨g7, 0, none⟩) 2 2) rfl rfl e7 (en_louvrelaw15_of _ _)) ((of15_ok 25 g7 c [a] ww mx (HM.kept (ow11.keep hk).kept) (rowObj_row h7) (fine_cons Fc (fine_cons Fa fine_nil)) (by simp) (by omega) (by omega) (by simp [lo15]) (by simp [hi15])).mono fun _ _ ⟨he, hk2⟩ => ⟨_, he, congrArg aggV e25, hk2⟩) rfl
    | 9, ho, hi =>
      cases ho
      exact stepX_same (v := aggV c) (want0 rfl) (xloadN 3 (vs := [.int .u8 c.k, .int .i64 c.n, .string ⟨c.t.toArray⟩]) rfl (by kernel_rfl) (by kernel_rfl) (bs.get 3 rfl s3_fa4) ((ow11.keep hk).box 2 rfl) (Nat.le_of_ble_eq_true rfl) rfl) rfl rfl
    | 10, ho, hi =>
      cases ho
      exact stepX_same (v := aggV a) (want0 rfl) (xloadN 3 (vs := [.int .u8 a.k, .int .i64 a.n, .string ⟨a.t.toArray⟩]) rfl (by kernel_rfl) (by kernel_rfl) (bs.get 4 rfl s4_fa4) ((ow11.keep hk).box 1 rfl) (Nat.le_of_ble_eq_true rfl) rfl) rfl rfl
    | 11, ho, hi =>
      cases ho
      exact stepX_same (v := aggV b) (want0 rfl) (xloadN 3 (vs := [.int .u8 b.k, .int .i64 b.n, .string ⟨b.t.toArray⟩]) rfl (by kernel_rfl) (by kernel_rfl) (bs.get 5 rfl s5_fa4) ((ow11.keep hk).box 0 rfl) (Nat.le_of_ble_eq_true rfl) rfl) rfl rfl
    | 12, ho, hi =>
      cases ho
      have d9 : aa.eval (.tmp 30) = aggV c := depX hd 9 rfl
      have d10 : aa.eval (.tmp 31) = aggV a := depX hd 10 rfl
      have d11 : aa.eval (.tmp 32) = aggV b := depX hd 11 rfl
      exact stepX_new _ (want0 rfl) (xrow3 rfl d9 d10 d11) ⟨_, rfl, hk.size, Go.heap_alloc_new _ _⟩ ((Kept.refl _).alloc _) rfl (Nat.le_refl _)
    | 13, ho, hi =>
      cases ho
      have d12 : ∃ g, aa.eval (.tmp 33) = .slice (some ⟨g, 0, none⟩) 3 3 ∧ fw4.heap.size ≤ g ∧ ww.heap[g]? = some (rowObj [c, a, b]) := depX hd 12 rfl
      obtain ⟨g12, e12, _, h12⟩ := d12
      exact stepX_enter (want0 rfl) (xcall2 (u := .int .u8 30) (v := .slice (some ⟨g12, 0, none⟩) 3 3) rfl rfl e12 (en_louvrelaw15_of _ _)) ((of15_ok 30 g12 c [a, b] ww mx (HM.kept (ow11.keep hk).kept) (rowObj_row h12) (fine_cons Fc (fine_cons Fa (fine_cons Fb fine_nil))) (by simp) (by omega) (by omega) (by simp [lo15]) (by simp [hi15])).mono fun _ _ ⟨he, hk2⟩ => ⟨_, he, congrArg aggV e30, hk2⟩) rfl
    | 14, ho, hi =>
      cases ho
      exact stepX_new _ (want0 rfl) (xalloc (b := .cells #[.int .u8 0, .int .i64 0, .string ⟨[].toArray⟩] 35 (0, 0)) rfl (by kernel_rfl)) ⟨_, rfl, hk.size, Go.heap_alloc_new _ _⟩ ((Kept.refl _).alloc _) rfl (Nat.le_refl _)
    | 15, ho, hi =>
      cases ho
      exact stepX_new _ (want0 rfl) (xalloc (b := .cells #[.int .u8 0, .int .i64 0, .string ⟨[].toArray⟩] 35 (0, 0)) rfl (by kernel_rfl)) ⟨_, rfl, hk.size, Go.heap_alloc_new _ _⟩ ((Kept.refl _).alloc _) rfl (Nat.le_refl _)
    | 16, ho, hi =>
      cases ho
      exact stepX_new _ (want0 rfl) (xalloc (b := .cells #[.int .u8 0, .int .i64 0, .string ⟨[].toArray⟩] 35 (0, 0)) rfl (by kernel_rfl)) ⟨_, rfl, hk.size, Go.heap_alloc_new _ _⟩ ((Kept.refl _).alloc _) rfl (Nat.le_refl _)
    | i + 17, ho, hi => exact absurd hi (by omega)
  have zfa5 : fa5.tmps.size = 164 := bs.size.trans zfa4
  have dffa5 : fa5.defers = [] := bs.defers.trans dffa4
  have ow12 := ow11.keep hk
  have s25_fa5 : fa5.eval (.tmp 25) = aggV r20 := hv 4 (by decide)
  have s29_fa5 : fa5.eval (.tmp 29) = aggV r25 := hv 8 (by decide)
  have s34_fa5 : fa5.eval (.tmp 34) = aggV r30 := hv 13 (by decide)
  obtain ⟨gb5, qgb5, bgb5, hgb5⟩ := hv 14 (by decide)
  have ow13 := ow12.cons hgb5 (Nat.le_trans ow11.kept.size bgb5) (ow11.below bgb5)
  have s6_fa5 : fa5.eval (.tmp 6) = .pointer (some ⟨gb5, 0, none⟩) := qgb5
  obtain ⟨gb6, qgb6, bgb6, hgb6⟩ := hv 15 (by decide)
  have ow14 := ow13.cons hgb6 (Nat.le_trans ow11.kept.size bgb6) (ne_cons (fun c => ap 14 15 (by decide) (by decide) (by decide) rfl rfl (by rw [qgb5, qgb6]; exact c)) (ow11.below bgb6))
  have s7_fa5 : fa5.eval (.tmp 7) = .pointer (some ⟨gb6, 0, none⟩) := qgb6
  obtain ⟨gb7, qgb7, bgb7, hgb7⟩ := hv 16 (by decide)
  have ow15 := ow14.cons hgb7 (Nat.le_trans ow11.kept.size bgb7) (ne_cons (fun c => ap 15 16 (by decide) (by decide) (by decide) rfl rfl (by rw [qgb6, qgb7]; exact c)) (ne_cons (fun c => ap 14 16 (by decide) (by decide) (by decide) rfl rfl (by rw [qgb5, qgb7]; exact c)) (ow11.below bgb7)))
  have s8_fa5 : fa5.eval (.tmp 8) = .pointer (some ⟨gb7, 0, none⟩) := qgb7
  have s3_fa5 : fa5.eval (.tmp 3) = .pointer (some ⟨gb2, 0, none⟩) := bs.get 3 rfl s3_fa4
  have s4_fa5 : fa5.eval (.tmp 4) = .pointer (some ⟨gb3, 0, none⟩) := bs.get 4 rfl s4_fa4
  have s5_fa5 : fa5.eval (.tmp 5) = .pointer (some ⟨gb4, 0, none⟩) := bs.get 5 rfl s5_fa4
  have s2_fa5 : fa5.eval (.tmp 2) = .bool false := bs.get 2 rfl s2_fa4
  clear hv ap bs hk
  refine wl_skip (want0 rfl) rfl (xstoreN (off := 0) rfl s6_fa5 s25_fa5 (by kernel_rfl) (ow15.box 2 rfl) rfl (Nat.le_of_ble_eq_true rfl)) ?_
  have ow16 : Own w [Th.obj gb7 (.cells #[.int .u8 0, .int .i64 0, .string ⟨[].toArray⟩] 35 (0, 0)), Th.obj gb6 (.cells #[.int .u8 0, .int .i64 0, .string ⟨[].toArray⟩] 35 (0, 0)), Th.obj gb5 (.cells #[.int .u8 r20.k, .int .i64 r20.n, .string ⟨r20.t.toArray⟩] 35 (0, 0)), Th.obj gb4 (.cells #[.int .u8 b.k, .int .i64 b.n, .string ⟨b.t.toArray⟩] 35 (0, 0)), Th.obj gb3 (.cells #[.int .u8 a.k, .int .i64 a.n, .string ⟨a.t.toArray⟩] 35 (0, 0)), Th.obj gb2 (.cells #[.int .u8 c.k, .int .i64 c.n, .string ⟨c.t.toArray⟩] 35 (0, 0)), Th.obj gb1 (.cells #[.int .u8 x0.k, .int .i64 x0.n, .string ⟨x0.t.toArray⟩, .int .u8 y0.k, .int .i64 y0.n, .string ⟨y0.t.toArray⟩, .int .u8 z0.k, .int .i64 z0.n, .string ⟨z0.t.toArray⟩] 49 (0, 0))] _ := ow15.put 2 rfl 0 [.int .u8 r20.k, .int .i64 r20.n, .string ⟨r20.t.toArray⟩]
  refine wl_skip (want0 rfl) rfl (xstoreN (off := 0) rfl s7_fa5 s29_fa5 (by kernel_rfl) (ow16.box 1 rfl) rfl (Nat.le_of_ble_eq_true rfl)) ?_
  have ow17 : Own w [Th.obj gb7 (.cells #[.int .u8 0, .int .i64 0, .string ⟨[].toArray⟩] 35 (0, 0)), Th.obj gb6 (.cells #[.int .u8 r25.k, .int .i64 r25.n, .string ⟨r25.t.toArray⟩] 35 (0, 0)), Th.obj gb5 (.cells #[.int .u8 r20.k, .int .i64 r20.n, .string ⟨r20.t.toArray⟩] 35 (0, 0)), Th.obj gb4 (.cells #[.int .u8 b.k, .int .i64 b.n, .string ⟨b.t.toArray⟩] 35 (0, 0)), Th.obj gb3 (.cells #[.int .u8 a.k, .int .i64 a.n, .string ⟨a.t.toArray⟩] 35 (0, 0)), Th.obj gb2 (.cells #[.int .u8 c.k, .int .i64 c.n, .string ⟨c.t.toArray⟩] 35 (0, 0)), Th.obj gb1 (.cells #[.int .u8 x0.k, .int .i64 x0.n, .string ⟨x0.t.toArray⟩, .int .u8 y0.k, .int .i64 y0.n, .string ⟨y0.t.toArray⟩, .int .u8 z0.k, .int .i64 z0.n, .string ⟨z0.t.toArray⟩] 49 (0, 0))] _ := ow16.put 1 rfl 0 [.int .u8 r25.k, .int .i64 r25.n, .string ⟨r25.t.toArray⟩]
  refine wl_skip (want0 rfl) rfl (xstoreN (off := 0) rfl s8_fa5 s34_fa5 (by kernel_rfl) (ow17.box 0 rfl) rfl (Nat.le_of_ble_eq_true rfl)) ?_
  have ow18 : Own w [Th.obj gb7 (.cells #[.int .u8 r30.k, .int .i64 r30.n, .string ⟨r30.t.toArray⟩] 35 (0, 0)), Th.obj gb6 (.cells #[.int .u8 r25.k, .int .i64 r25.n, .string ⟨r25.t.toArray⟩] 35 (0, 0)), Th.obj gb5 (.cells #[.int .u8 r20.k, .int .i64 r20.n, .string ⟨r20.t.toArray⟩] 35 (0, 0)), Th.obj gb4 (.cells #[.int .u8 b.k, .int .i64 b.n, .string ⟨b.t.toArray⟩] 35 (0, 0)), Th.obj gb3 (.cells #[.int .u8 a.k, .int .i64 a.n, .string ⟨a.t.toArray⟩] 35 (0, 0)), Th.obj gb2 (.cells #[.int .u8 c.k, .int .i64 c.n, .string ⟨c.t.toArray⟩] 35 (0, 0)), Th.obj gb1 (.cells #[.int .u8 x0.k, .int .i64 x0.n, .string ⟨x0.t.toArray⟩, .int .u8 y0.k, .int .i64 y0.n, .string ⟨y0.t.toArray⟩, .int .u8 z0.k, .int .i64 z0.n, .string ⟨z0.t.toArray⟩] 49 (0, 0))] _ := ow17.put 0 rfl 0 [.int .u8 r30.k, .int .i64 r30.n, .string ⟨r30.t.toArray⟩]
  refine wl_nil (fun fr u => fr.tmps.size = 164 ∧ fr.defers = [] ∧ Own w [Th.obj gb7 (.cells #[.int .u8 r30.k, .int .i64 r30.n, .string ⟨r30.t.toArray⟩] 35 (0, 0)), Th.obj gb6 (.cells #[.int .u8 r25.k, .int .i64 r25.n, .string ⟨r25.t.toArray⟩] 35 (0, 0)), Th.obj gb5 (.cells #[.int .u8 r20.k, .int .i64 r20.n, .string ⟨r20.t.toArray⟩] 35 (0, 0)), Th.obj gb4 (.cells #[.int .u8 b.k, .int .i64 b.n, .string ⟨b.t.toArray⟩] 35 (0, 0)), Th.obj gb3 (.cells #[.int .u8 a.k, .int .i64 a.n, .string ⟨a.t.toArray⟩] 35 (0, 0)), Th.obj gb2 (.cells #[.int .u8 c.k, .int .i64 c.n, .string ⟨c.t.toArray⟩] 35 (0, 0)), Th.obj gb1 (.cells #[.int .u8 x0.k, .int .i64 x0.n, .string ⟨x0.t.toArray⟩, .int .u8 y0.k, .int .i64 y0.n, .string ⟨y0.t.toArray⟩, .int .u8 z0.k, .int .i64 z0.n, .string ⟨z0.t.toArray⟩] 49 (0, 0))] u ∧ fr.eval (.tmp 6) = .pointer (some ⟨gb5, 0, none⟩) ∧ fr.eval (.tmp 7) = .pointer (some ⟨gb6, 0, none⟩) ∧ fr.eval (.tmp 8) = .pointer (some ⟨gb7, 0, none⟩) ∧ fr.eval (.tmp 3) = .pointer (some ⟨gb2, 0, none⟩) ∧ fr.eval (.tmp 4) = .pointer (some ⟨gb3, 0, none⟩) ∧ fr.eval (.tmp 5) = .pointer (some ⟨gb4, 0, none⟩) ∧ fr.eval (.tmp 2) = .bool false) ⟨zfa5, dffa5, ow18, s6_fa5, s7_fa5, s8_fa5, s3_fa5, s4_fa5, s5_fa5, s2_fa5⟩ ?_
  rintro fa6 fw6 ⟨zfa6, dffa6, ow19, s6_fa6, s7_fa6, s8_fa6, s3_fa6, s4_fa6, s5_fa6, s2_fa6⟩
  refine then_n (hK3 _ _ ?_)
  try clear hK3 K3
  refine wp_seq_k fun K4 hK4 => ?_
  refine wp_seq_k fun K5 hK5 => ?_
  refine region_sx [yV (aggV r20), yV (aggV r25), yV (aggV r30), yV (.agg #[.int .u8 r20.k, .int .i64 r20.n, .string ⟨r20.t.toArray⟩, .int .u8 r25.k, .int .i64 r25.n, .string ⟨r25.t.toArray⟩, .int .u8 r30.k, .int .i64 r30.n, .string ⟨r30.t.toArray⟩]), yV (.int .i64 0)] 5 164 (by kernel_rfl) zfa6 (by kernel_rfl) (by kernel_rfl) (fun i o ho hi aa ww hk bs hd => ?_) (fun fa7 fw7 hk bs hv ap => ?_)
  · match i, ho, hi with
    | 0, ho, hi =>
      cases ho
      exact stepX_same (v := aggV r20) (want0 rfl) (xloadN 3 (vs := [.int .u8 r20.k, .int .i64 r20.n, .string ⟨r20.t.toArray⟩]) rfl (by kernel_rfl) (by kernel_rfl) (bs.get 6 rfl s6_fa6) ((ow19.keep hk).box 2 rfl) (Nat.le_of_ble_eq_true rfl) rfl) rfl rfl
    | 1, ho, hi =>
      cases ho
      exact stepX_same (v := aggV r25) (want0 rfl) (xloadN 3 (vs := [.int .u8 r25.k, .int .i64 r25.n, .string ⟨r25.t.toArray⟩]) rfl (by kernel_rfl) (by kernel_rfl) (bs.get 7 rfl s7_fa6) ((ow19.keep hk).box 1 rfl) (Nat.le_of_ble_eq_true rfl) rfl) rfl rfl
    | 2, ho, hi =>
      cases ho
      exact stepX_same (v := aggV r30) (want0 rfl) (xloadN 3 (vs := [.int .u8 r30.k, .int .i64 r30.n, .string ⟨r30.t.toArray⟩]) rfl (by kernel_rfl) (by kernel_rfl) (bs.get 8 rfl s8_fa6) ((ow19.keep hk).box 0 rfl) (Nat.le_of_ble_eq_true rfl) rfl) rfl rfl
    | 3, ho, hi =>
      cases ho
      have d0 : aa.eval (.tmp 35) = aggV r20 := depX hd 0 rfl
      have d1 : aa.eval (.tmp 36) = aggV r25 := depX hd 1 rfl
      have d2 : aa.eval (.tmp 37) = aggV r30 := depX hd 2 rfl
      exact stepX_same (v := .agg #[.int .u8 r20.k, .int .i64 r20.n, .string ⟨r20.t.toArray⟩, .int .u8 r25.k, .int .i64 r25.n, .string ⟨r25.t.toArray⟩, .int .u8 r30.k, .int .i64 r30.n, .string ⟨r30.t.toArray⟩]) (want0 rfl) (xbuild (us := #[(0, aggV r20), (1, aggV r25), (2, aggV r30)]) rfl (by simp only [List.map_toArray, List.map_cons, List.map_nil, d0, d1, d2]) (by kernel_rfl)) rfl rfl
    | 4, ho, hi =>
      cases ho
      exact stepX_same (v := .int .i64 0) (want0 rfl) (xmove rfl rfl) rfl rfl
    | i + 5, ho, hi => exact absurd hi (by omega)
  have zfa7 : fa7.tmps.size = 164 := bs.size.trans zfa6
  have dffa7 : fa7.defers = [] := bs.defers.trans dffa6
  have ow20 := ow19.keep hk
  have s38_fa7 : fa7.eval (.tmp 38) = .agg #[.int .u8 r20.k, .int .i64 r20.n, .string ⟨r20.t.toArray⟩, .int .u8 r25.k, .int .i64 r25.n, .string ⟨r25.t.toArray⟩, .int .u8 r30.k, .int .i64 r30.n, .string ⟨r30.t.toArray⟩] := hv 3 (by decide)
  have s39_fa7 : fa7.eval (.tmp 39) = .int .i64 0 := hv 4 (by decide)
  have s6_fa7 : fa7.eval (.tmp 6) = .pointer (some ⟨gb5, 0, none⟩) := bs.get 6 rfl s6_fa6
  have s7_fa7 : fa7.eval (.tmp 7) = .pointer (some ⟨gb6, 0, none⟩) := bs.get 7 rfl s7_fa6
  have s8_fa7 : fa7.eval (.tmp 8) = .pointer (some ⟨gb7, 0, none⟩) := bs.get 8 rfl s8_fa6
  have s3_fa7 : fa7.eval (.tmp 3) = .pointer (some ⟨gb2, 0, none⟩) := bs.get 3 rfl s3_fa6
  have s4_fa7 : fa7.eval (.tmp 4) = .pointer (some ⟨gb3, 0, none⟩) := bs.get 4 rfl s4_fa6
  have s5_fa7 : fa7.eval (.tmp 5) = .pointer (some ⟨gb4, 0, none⟩) := bs.get 5 rfl s5_fa6
  have s2_fa7 : fa7.eval (.tmp 2) = .bool false := bs.get 2 rfl s2_fa6
  clear hv ap bs hk
  refine wl_nil (fun fr u => fr.tmps.size = 164 ∧ fr.defers = [] ∧ Own w [Th.obj gb7 (.cells #[.int .u8 r30.k, .int .i64 r30.n, .string ⟨r30.t.toArray⟩] 35 (0, 0)), Th.obj gb6 (.cells #[.int .u8 r25.k, .int .i64 r25.n, .string ⟨r25.t.toArray⟩] 35 (0, 0)), Th.obj gb5 (.cells #[.int .u8 r20.k, .int .i64 r20.n, .string ⟨r20.t.toArray⟩] 35 (0, 0)), Th.obj gb4 (.cells #[.int .u8 b.k, .int .i64 b.n, .string ⟨b.t.toArray⟩] 35 (0, 0)), Th.obj gb3 (.cells #[.int .u8 a.k, .int .i64 a.n, .string ⟨a.t.toArray⟩] 35 (0, 0)), Th.obj gb2 (.cells #[.int .u8 c.k, .int .i64 c.n, .string ⟨c.t.toArray⟩] 35 (0, 0)), Th.obj gb1 (.cells #[.int .u8 x0.k, .int .i64 x0.n, .string ⟨x0.t.toArray⟩, .int .u8 y0.k, .int .i64 y0.n, .string ⟨y0.t.toArray⟩, .int .u8 z0.k, .int .i64 z0.n, .string ⟨z0.t.toArray⟩] 49 (0, 0))] u ∧ fr.eval (.tmp 38) = .agg #[.int .u8 r20.k, .int .i64 r20.n, .string ⟨r20.t.toArray⟩, .int .u8 r25.k, .int .i64 r25.n, .string ⟨r25.t.toArray⟩, .int .u8 r30.k, .int .i64 r30.n, .string ⟨r30.t.toArray⟩] ∧ fr.eval (.tmp 39) = .int .i64 0 ∧ fr.eval (.tmp 6) = .pointer (some ⟨gb5, 0, none⟩) ∧ fr.eval (.tmp 7) = .pointer (some ⟨gb6, 0, none⟩) ∧ fr.eval (.tmp 8) = .pointer (some ⟨gb7, 0, none⟩) ∧ fr.eval (.tmp 3) = .pointer (some ⟨gb2, 0, none⟩) ∧ fr.eval (.tmp 4) = .pointer (some ⟨gb3, 0, none⟩) ∧ fr.eval (.tmp 5) = .pointer (some ⟨gb4, 0, none⟩) ∧ fr.eval (.tmp 2) = .bool false) ⟨zfa7, dffa7, ow20, s38_fa7, s39_fa7, s6_fa7, s7_fa7, s8_fa7, s3_fa7, s4_fa7, s5_fa7, s2_fa7⟩ ?_
  rintro fa8 fw8 ⟨zfa8, dffa8, ow21, s38_fa8, s39_fa8, s6_fa8, s7_fa8, s8_fa8, s3_fa8, s4_fa8, s5_fa8, s2_fa8⟩
  refine then_n (hK5 _ _ ?_)
  try clear hK5 K5
  refine wp_block ?_
  refine wp_loop_g (fun (k : Nat) fr u => (k ≤ 3) ∧ fr.tmps.size = 164 ∧ fr.defers = [] ∧ Own w [Th.obj gb7 (.cells #[.int .u8 r30.k, .int .i64 r30.n, .string ⟨r30.t.toArray⟩] 35 (0, 0)), Th.obj gb6 (.cells #[.int .u8 r25.k, .int .i64 r25.n, .string ⟨r25.t.toArray⟩] 35 (0, 0)), Th.obj gb5 (.cells #[.int .u8 r20.k, .int .i64 r20.n, .string ⟨r20.t.toArray⟩] 35 (0, 0)), Th.obj gb4 (.cells #[.int .u8 b.k, .int .i64 b.n, .string ⟨b.t.toArray⟩] 35 (0, 0)), Th.obj gb3 (.cells #[.int .u8 a.k, .int .i64 a.n, .string ⟨a.t.toArray⟩] 35 (0, 0)), Th.obj gb2 (.cells #[.int .u8 c.k, .int .i64 c.n, .string ⟨c.t.toArray⟩] 35 (0, 0)), Th.obj gb1 (.cells #[.int .u8 x0.k, .int .i64 x0.n, .string ⟨x0.t.toArray⟩, .int .u8 y0.k, .int .i64 y0.n, .string ⟨y0.t.toArray⟩, .int .u8 z0.k, .int .i64 z0.n, .string ⟨z0.t.toArray⟩] 49 (0, 0))] u ∧ fr.eval (.tmp 3) = .pointer (some ⟨gb2, 0, none⟩) ∧ fr.eval (.tmp 4) = .pointer (some ⟨gb3, 0, none⟩) ∧ fr.eval (.tmp 5) = .pointer (some ⟨gb4, 0, none⟩) ∧ fr.eval (.tmp 6) = .pointer (some ⟨gb5, 0, none⟩) ∧ fr.eval (.tmp 7) = .pointer (some ⟨gb6, 0, none⟩) ∧ fr.eval (.tmp 8) = .pointer (some ⟨gb7, 0, none⟩) ∧ fr.eval (.tmp 38) = .agg #[.int .u8 r20.k, .int .i64 r20.n, .string ⟨r20.t.toArray⟩, .int .u8 r25.k, .int .i64 r25.n, .string ⟨r25.t.toArray⟩, .int .u8 r30.k, .int .i64 r30.n, .string ⟨r30.t.toArray⟩] ∧ fr.eval (.tmp 39) = .int .i64 (k : Int)) (fun k => 3 - k) 0 ⟨(by omega), zfa8, dffa8, ow21, s3_fa8, s4_fa8, s5_fa8, s6_fa8, s7_fa8, s8_fa8, s38_fa8, s39_fa8⟩ (fun k b_ u_ hI => ?_)
  revert b_ u_; intro fa9 fw9 hI
  obtain ⟨hk3, zfa9, dffa9, ow22, s3_fa9, s4_fa9, s5_fa9, s6_fa9, s7_fa9, s8_fa9, s38_fa9, s39_fa9⟩ := hI
  refine wp_seq_k fun K6 hK6 => ?_
  refine region_sx [yV (.bool (decide ((k : Int) < (3 : Int))))] 1 164 (by kernel_rfl) zfa9 (by kernel_rfl) (by kernel_rfl) (fun i o ho hi aa ww hk bs hd => ?_) (fun fa10 fw10 hk bs hv ap => ?_)
  · match i, ho, hi with
    | 0, ho, hi =>
      cases ho
      exact stepX_same (v := .bool (decide ((k : Int) < (3 : Int)))) (want0 rfl) (xlss rfl (bs.get 39 rfl s39_fa9) rfl) rfl rfl
    | i + 1, ho, hi => exact absurd hi (by omega)
  have zfa10 : fa10.tmps.size = 164 := bs.size.trans zfa9
  have dffa10 : fa10.defers = [] := bs.defers.trans dffa9
  have ow23 := ow22.keep hk
  have s40_fa10 : fa10.eval (.tmp 40) = .bool (decide ((k : Int) < (3 : Int))) := hv 0 (by decide)
  have s3_fa10 : fa10.eval (.tmp 3) = .pointer (some ⟨gb2, 0, none⟩) := bs.get 3 rfl s3_fa9
  have s4_fa10 : fa10.eval (.tmp 4) = .pointer (some ⟨gb3, 0, none⟩) := bs.get 4 rfl s4_fa9
  have s5_fa10 : fa10.eval (.tmp 5) = .pointer (some ⟨gb4, 0, none⟩) := bs.get 5 rfl s5_fa9
  have s6_fa10 : fa10.eval (.tmp 6) = .pointer (some ⟨gb5, 0, none⟩) := bs.get 6 rfl s6_fa9
  have s7_fa10 : fa10.eval (.tmp 7) = .pointer (some ⟨gb6, 0, none⟩) := bs.get 7 rfl s7_fa9
  have s8_fa10 : fa10.eval (.tmp 8) = .pointer (some ⟨gb7, 0, none⟩) := bs.get 8 rfl s8_fa9
  have s38_fa10 : fa10.eval (.tmp 38) = .agg #[.int .u8 r20.k, .int .i64 r20.n, .string ⟨r20.t.toArray⟩, .int .u8 r25.k, .int .i64 r25.n, .string ⟨r25.t.toArray⟩, .int .u8 r30.k, .int .i64 r30.n, .string ⟨r30.t.toArray⟩] := bs.get 38 rfl s38_fa9
  have s39_fa10 : fa10.eval (.tmp 39) = .int .i64 (k : Int) := bs.get 39 rfl s39_fa9
  clear hv ap bs hk
  refine wl_nil (fun fr u => fr.tmps.size = 164 ∧ fr.defers = [] ∧ Own w [Th.obj gb7 (.cells #[.int .u8 r30.k, .int .i64 r30.n, .string ⟨r30.t.toArray⟩] 35 (0, 0)), Th.obj gb6 (.cells #[.int .u8 r25.k, .int .i64 r25.n, .string ⟨r25.t.toArray⟩] 35 (0, 0)), Th.obj gb5 (.cells #[.int .u8 r20.k, .int .i64 r20.n, .string ⟨r20.t.toArray⟩] 35 (0, 0)), Th.obj gb4 (.cells #[.int .u8 b.k, .int .i64 b.n, .string ⟨b.t.toArray⟩] 35 (0, 0)), Th.obj gb3 (.cells #[.int .u8 a.k, .int .i64 a.n, .string ⟨a.t.toArray⟩] 35 (0, 0)), Th.obj gb2 (.cells #[.int .u8 c.k, .int .i64 c.n, .string ⟨c.t.toArray⟩] 35 (0, 0)), Th.obj gb1 (.cells #[.int .u8 x0.k, .int .i64 x0.n, .string ⟨x0.t.toArray⟩, .int .u8 y0.k, .int .i64 y0.n, .string ⟨y0.t.toArray⟩, .int .u8 z0.k, .int .i64 z0.n, .string ⟨z0.t.toArray⟩] 49 (0, 0))] u ∧ fr.eval (.tmp 40) = .bool (decide ((k : Int) < (3 : Int))) ∧ fr.eval (.tmp 3) = .pointer (some ⟨gb2, 0, none⟩) ∧ fr.eval (.tmp 4) = .pointer (some ⟨gb3, 0, none⟩) ∧ fr.eval (.tmp 5) = .pointer (some ⟨gb4, 0, none⟩) ∧ fr.eval (.tmp 6) = .pointer (some ⟨gb5, 0, none⟩) ∧ fr.eval (.tmp 7) = .pointer (some ⟨gb6, 0, none⟩) ∧ fr.eval (.tmp 8) = .pointer (some ⟨gb7, 0, none⟩) ∧ fr.eval (.tmp 38) = .agg #[.int .u8 r20.k, .int .i64 r20.n, .string ⟨r20.t.toArray⟩, .int .u8 r25.k, .int .i64 r25.n, .string ⟨r25.t.toArray⟩, .int .u8 r30.k, .int .i64 r30.n, .string ⟨r30.t.toArray⟩] ∧ fr.eval (.tmp 39) = .int .i64 (k : Int)) ⟨zfa10, dffa10, ow23, s40_fa10, s3_fa10, s4_fa10, s5_fa10, s6_fa10, s7_fa10, s8_fa10, s38_fa10, s39_fa10⟩ ?_
  rintro fa11 fw11 ⟨zfa11, dffa11, ow24, s40_fa11, s3_fa11, s4_fa11, s5_fa11, s6_fa11, s7_fa11, s8_fa11, s38_fa11, s39_fa11⟩
  refine then_n (hK6 _ _ ?_)
  try clear hK6 K6
  refine wp_seq_k fun K7 hK7 => ?_
  by_cases hc1 : (k : Int) < (3 : Int)
  · refine wp_cond_true (s40_fa11.trans (congrArg Value.bool (decide_eq_true hc1))) ?_
    refine wp_skip ?_
    refine then_n (hK7 _ _ ?_)
    try clear hK7 K7
    refine wp_seq_k fun K8 hK8 => ?_
    refine wp_block ?_
    refine wp_seq_k fun K9 hK9 => ?_
    refine region_sx [yV (aggV (pick3 r20 r25 r30 k)), yNew fw11.heap.size (.cells #[.int .u8 0, .int .i64 0, .string ⟨[].toArray⟩] 35 (0, 0))] 2 164 (by kernel_rfl) zfa11 (by kernel_rfl) (by kernel_rfl) (fun i o ho hi aa ww hk bs hd => ?_) (fun fa12 fw12 hk bs hv ap => ?_)
    · match i, ho, hi with
      | 0, ho, hi =>
        cases ho
        exact stepX_same (v := aggV (pick3 r20 r25 r30 k)) (want0 rfl) (xindex (u := .agg #[.int .u8 r20.k, .int .i64 r20.n, .string ⟨r20.t.toArray⟩, .int .u8 r25.k, .int .i64 r25.n, .string ⟨r25.t.toArray⟩, .int .u8 r30.k, .int .i64 r30.n, .string ⟨r30.t.toArray⟩]) (z := .int .i64 (k : Int)) rfl (bs.get 38 rfl s38_fa11) (bs.get 39 rfl s39_fa11) (index3 r20 r25 r30 k (by omega) _)) rfl rfl
      | 1, ho, hi =>
        cases ho
        exact stepX_new _ (want0 rfl) (xalloc (b := .cells #[.int .u8 0, .int .i64 0, .string ⟨[].toArray⟩] 35 (0, 0)) rfl (by kernel_rfl)) ⟨_, rfl, hk.size, Go.heap_alloc_new _ _⟩ ((Kept.refl _).alloc _) rfl (Nat.le_refl _)
      | i + 2, ho, hi => exact absurd hi (by omega)
    have zfa12 : fa12.tmps.size = 164 := bs.size.trans zfa11
    have dffa12 : fa12.defers = [] := bs.defers.trans dffa11
    have ow25 := ow24.keep hk
    have s41_fa12 : fa12.eval (.tmp 41) = aggV (pick3 r20 r25 r30 k) := hv 0 (by decide)
    obtain ⟨gb8, qgb8, bgb8, hgb8⟩ := hv 1 (by decide)
    have ow26 := ow25.cons hgb8 (Nat.le_trans ow24.kept.size bgb8) (ow24.below bgb8)
    have s10_fa12 : fa12.eval (.tmp 10) = .pointer (some ⟨gb8, 0, none⟩) := qgb8
    have s3_fa12 : fa12.eval (.tmp 3) = .pointer (some ⟨gb2, 0, none⟩) := bs.get 3 rfl s3_fa11
    have s4_fa12 : fa12.eval (.tmp 4) = .pointer (some ⟨gb3, 0, none⟩) := bs.get 4 rfl s4_fa11
    have s5_fa12 : fa12.eval (.tmp 5) = .pointer (some ⟨gb4, 0, none⟩) := bs.get 5 rfl s5_fa11
    have s6_fa12 : fa12.eval (.tmp 6) = .pointer (some ⟨gb5, 0, none⟩) := bs.get 6 rfl s6_fa11
    have s7_fa12 : fa12.eval (.tmp 7) = .pointer (some ⟨gb6, 0, none⟩) := bs.get 7 rfl s7_fa11
    have s8_fa12 : fa12.eval (.tmp 8) = .pointer (some ⟨gb7, 0, none⟩) := bs.get 8 rfl s8_fa11
    have s38_fa12 : fa12.eval (.tmp 38) = .agg #[.int .u8 r20.k, .int .i64 r20.n, .string ⟨r20.t.toArray⟩, .int .u8 r25.k, .int .i64 r25.n, .string ⟨r25.t.toArray⟩, .int .u8 r30.k, .int .i64 r30.n, .string ⟨r30.t.toArray⟩] := bs.get 38 rfl s38_fa11
    have s39_fa12 : fa12.eval (.tmp 39) = .int .i64 (k : Int) := bs.get 39 rfl s39_fa11
    clear hv ap bs hk
    refine wl_skip (want0 rfl) rfl (xstoreN (off := 0) rfl s10_fa12 s41_fa12 (by kernel_rfl) (ow26.box 0 rfl) rfl (Nat.le_of_ble_eq_true rfl)) ?_
    have ow27 : Own w [Th.obj gb8 (.cells #[.int .u8 ((pick3 r20 r25 r30 k).k), .int .i64 ((pick3 r20 r25 r30 k).n), .string ⟨((pick3 r20 r25 r30 k).t).toArray⟩] 35 (0, 0)), Th.obj gb7 (.cells #[.int .u8 r30.k, .int .i64 r30.n, .string ⟨r30.t.toArray⟩] 35 (0, 0)), Th.obj gb6 (.cells #[.int .u8 r25.k, .int .i64 r25.n, .string ⟨r25.t.toArray⟩] 35 (0, 0)), Th.obj gb5 (.cells #[.int .u8 r20.k, .int .i64 r20.n, .string ⟨r20.t.toArray⟩] 35 (0, 0)), Th.obj gb4 (.cells #[.int .u8 b.k, .int .i64 b.n, .string ⟨b.t.toArray⟩] 35 (0, 0)), Th.obj gb3 (.cells #[.int .u8 a.k, .int .i64 a.n, .string ⟨a.t.toArray⟩] 35 (0, 0)), Th.obj gb2 (.cells #[.int .u8 c.k, .int .i64 c.n, .string ⟨c.t.toArray⟩] 35 (0, 0)), Th.obj gb1 (.cells #[.int .u8 x0.k, .int .i64 x0.n, .string ⟨x0.t.toArray⟩, .int .u8 y0.k, .int .i64 y0.n, .string ⟨y0.t.toArray⟩, .int .u8 z0.k, .int .i64 z0.n, .string ⟨z0.t.toArray⟩] 49 (0, 0))] _ := ow26.put 0 rfl 0 [.int .u8 ((pick3 r20 r25 r30 k).k), .int .i64 ((pick3 r20 r25 r30 k).n), .string ⟨((pick3 r20 r25 r30 k).t).toArray⟩]
    refine wl_nil (fun fr u => ∃ (y : Vl), (Fine c a b y) ∧ fr.tmps.size = 164 ∧ fr.defers = [] ∧ Own w [Th.obj gb8 (.cells #[.int .u8 y.k, .int .i64 y.n, .string ⟨y.t.toArray⟩] 35 (0, 0)), Th.obj gb7 (.cells #[.int .u8 r30.k, .int .i64 r30.n, .string ⟨r30.t.toArray⟩] 35 (0, 0)), Th.obj gb6 (.cells #[.int .u8 r25.k, .int .i64 r25.n, .string ⟨r25.t.toArray⟩] 35 (0, 0)), Th.obj gb5 (.cells #[.int .u8 r20.k, .int .i64 r20.n, .string ⟨r20.t.toArray⟩] 35 (0, 0)), Th.obj gb4 (.cells #[.int .u8 b.k, .int .i64 b.n, .string ⟨b.t.toArray⟩] 35 (0, 0)), Th.obj gb3 (.cells #[.int .u8 a.k, .int .i64 a.n, .string ⟨a.t.toArray⟩] 35 (0, 0)), Th.obj gb2 (.cells #[.int .u8 c.k, .int .i64 c.n, .string ⟨c.t.toArray⟩] 35 (0, 0)), Th.obj gb1 (.cells #[.int .u8 x0.k, .int .i64 x0.n, .string ⟨x0.t.toArray⟩, .int .u8 y0.k, .int .i64 y0.n, .string ⟨y0.t.toArray⟩, .int .u8 z0.k, .int .i64 z0.n, .string ⟨z0.t.toArray⟩] 49 (0, 0))] u ∧ fr.eval (.tmp 10) = .pointer (some ⟨gb8, 0, none⟩) ∧ fr.eval (.tmp 3) = .pointer (some ⟨gb2, 0, none⟩) ∧ fr.eval (.tmp 4) = .pointer (some ⟨gb3, 0, none⟩) ∧ fr.eval (.tmp 5) = .pointer (some ⟨gb4, 0, none⟩) ∧ fr.eval (.tmp 6) = .pointer (some ⟨gb5, 0, none⟩) ∧ fr.eval (.tmp 7) = .pointer (some ⟨gb6, 0, none⟩) ∧ fr.eval (.tmp 8) = .pointer (some ⟨gb7, 0, none⟩) ∧ fr.eval (.tmp 38) = .agg #[.int .u8 r20.k, .int .i64 r20.n, .string ⟨r20.t.toArray⟩, .int .u8 r25.k, .int .i64 r25.n, .string ⟨r25.t.toArray⟩, .int .u8 r30.k, .int .i64 r30.n, .string ⟨r30.t.toArray⟩] ∧ fr.eval (.tmp 39) = .int .i64 (k : Int)) ⟨pick3 r20 r25 r30 k, (Fine.pick f20 f25 f30 k), zfa12, dffa12, ow27, s10_fa12, s3_fa12, s4_fa12, s5_fa12, s6_fa12, s7_fa12, s8_fa12, s38_fa12, s39_fa12⟩ ?_
    rintro fa13 fw13 ⟨y, hf, zfa13, dffa13, ow28, s10_fa13, s3_fa13, s4_fa13, s5_fa13, s6_fa13, s7_fa13, s8_fa13, s38_fa13, s39_fa13⟩
    refine then_n (hK9 _ _ ?_)
    try clear hK9 K9
    refine wp_seq_k fun K10 hK10 => ?_
    refine region_sx [yV (aggV y), yV (.int .i64 0), yV (.bool false), yV (.bool false), yV (.pointer (some ⟨gb8, 0, none⟩)), yV (.int .u8 y.k), yV (.bool (decide ((y.k : Int) ≠ (4 : Int)))), yV (.bool (decide ((y.k : Int) ≠ (4 : Int)))), yIf ((decide ((y.k : Int) ≠ (4 : Int))) = true) (yV (aggV y)), yIf ((decide ((y.k : Int) ≠ (4 : Int))) = true) (yV (aggV a)), yIf ((decide ((y.k : Int) ≠ (4 : Int))) = true) (yV (.bool (!sameV y a))), yV (.bool ((decide ((y.k : Int) ≠ (4 : Int))) && (!sameV y a))), yV (.bool ((decide ((y.k : Int) ≠ (4 : Int))) && (!sameV y a))), yIf (((decide ((y.k : Int) ≠ (4 : Int))) && (!sameV y a)) = true) (yV (aggV y)), yIf (((decide ((y.k : Int) ≠ (4 : Int))) && (!sameV y a)) = true) (yV (aggV b)), yIf (((decide ((y.k : Int) ≠ (4 : Int))) && (!sameV y a)) = true) (yV (.bool (!sameV y b))), yV (.bool (((decide ((y.k : Int) ≠ (4 : Int))) && (!sameV y a)) && (!sameV y b))), yV (.bool (((decide ((y.k : Int) ≠ (4 : Int))) && (!sameV y a)) && (!sameV y b))), yIf ((((decide ((y.k : Int) ≠ (4 : Int))) && (!sameV y a)) && (!sameV y b)) = true) (yV (aggV y)), yIf ((((decide ((y.k : Int) ≠ (4 : Int))) && (!sameV y a)) && (!sameV y b)) = true) (yV (aggV c)), yIf ((((decide ((y.k : Int) ≠ (4 : Int))) && (!sameV y a)) && (!sameV y b)) = true) (yV (.bool (!sameV y c))), yV (.bool ((((decide ((y.k : Int) ≠ (4 : Int))) && (!sameV y a)) && (!sameV y b)) && (!sameV y c))), yV (.bool ((((decide ((y.k : Int) ≠ (4 : Int))) && (!sameV y a)) && (!sameV y b)) && (!sameV y c))), yIf (((((decide ((y.k : Int) ≠ (4 : Int))) && (!sameV y a)) && (!sameV y b)) && (!sameV y c)) = true) (yV (aggV y)), yIf (((((decide ((y.k : Int) ≠ (4 : Int))) && (!sameV y a)) && (!sameV y b)) && (!sameV y c)) = true) (yV (aggV (vTruth false))), yIf (((((decide ((y.k : Int) ≠ (4 : Int))) && (!sameV y a)) && (!sameV y b)) && (!sameV y c)) = true) (yV (.bool (!sameV y (vTruth false)))), yV (.bool (((((decide ((y.k : Int) ≠ (4 : Int))) && (!sameV y a)) && (!sameV y b)) && (!sameV y c)) && (!sameV y (vTruth false)))), yV (.bool (((((decide ((y.k : Int) ≠ (4 : Int))) && (!sameV y a)) && (!sameV y b)) && (!sameV y c)) && (!sameV y (vTruth false))))] 28 164 (by kernel_rfl) zfa13 (by kernel_rfl) (by kernel_rfl) (fun i o ho hi aa ww hk bs hd => ?_) (fun fa14 fw14 hk bs hv ap => ?_)
    · match i, ho, hi with
      | 0, ho, hi =>
        cases ho
        exact stepX_same (v := aggV y) (want0 rfl) (xloadN 3 (vs := [.int .u8 y.k, .int .i64 y.n, .string ⟨y.t.toArray⟩]) rfl (by kernel_rfl) (by kernel_rfl) (bs.get 10 rfl s10_fa13) ((ow28.keep hk).box 0 rfl) (Nat.le_of_ble_eq_true rfl) rfl) rfl rfl
      | 1, ho, hi =>
        cases ho
        have d0 : aa.eval (.tmp 42) = aggV y := depX hd 0 rfl
        exact stepX_enter (want0 rfl) (xcall1 (u := aggV y) rfl d0 (en_val_Check _ _)) ((vcheck5_any y ww hf.sm.1 (by have := hf.sm.2; omega)).mono fun _ _ ⟨he, hk2⟩ => ⟨_, he, congrArg (Value.int .i64) (chk_yes hf.ok), hk2⟩) rfl
      | 2, ho, hi =>
        cases ho
        have d1 : aa.eval (.tmp 43) = .int .i64 0 := depX hd 1 rfl
        exact stepX_same (v := .bool (decide ((0 : Int) ≠ (0 : Int)))) (want0 rfl) (xnei rfl d1 rfl) (congrArg Value.bool rfl) rfl
      | 3, ho, hi =>
        cases ho
        have d2 : aa.eval (.tmp 44) = .bool false := depX hd 2 rfl
        exact stepX_same (v := .bool false) (want0 rfl) (xmove rfl d2) rfl rfl
      | 4, ho, hi =>
        cases ho
        have d3 : aa.eval (.tmp 45) = .bool false := depX hd 3 rfl
        exact stepX_same (v := .pointer (some ⟨gb8, 0, none⟩)) (want1 (j := 3) (b := false) rfl d3) (xfieldAddr rfl (bs.get 10 rfl s10_fa13) (by kernel_rfl)) rfl rfl
      | 5, ho, hi =>
        cases ho
        have d4 : aa.eval (.tmp 46) = .pointer (some ⟨gb8, 0, none⟩) := depX hd 4 rfl
        have d3 : aa.eval (.tmp 45) = .bool false := depX hd 3 rfl
        exact stepX_same (v := .int .u8 y.k) (want1 (j := 3) (b := false) rfl d3) (xloadB rfl (by kernel_rfl) d4 ((ow28.keep hk).box 0 rfl) rfl) rfl rfl
      | 6, ho, hi =>
        cases ho
        have d5 : aa.eval (.tmp 47) = .int .u8 y.k := depX hd 5 rfl
        have d3 : aa.eval (.tmp 45) = .bool false := depX hd 3 rfl
        exact stepX_same (v := .bool (decide ((y.k : Int) ≠ (4 : Int)))) (want1 (j := 3) (b := false) rfl d3) (xnei rfl d5 rfl) rfl rfl
      | 7, ho, hi =>
        cases ho
        have d6 : aa.eval (.tmp 48) = .bool (decide ((y.k : Int) ≠ (4 : Int))) := depX hd 6 rfl
        have d3 : aa.eval (.tmp 45) = .bool false := depX hd 3 rfl
        exact stepX_same (v := .bool (decide ((y.k : Int) ≠ (4 : Int)))) (want1 (j := 3) (b := false) rfl d3) (xmove rfl d6) rfl rfl
      | 8, ho, hi =>
        cases ho
        have d7 : aa.eval (.tmp 49) = .bool (decide ((y.k : Int) ≠ (4 : Int))) := depX hd 7 rfl
        by_cases hz : (decide ((y.k : Int) ≠ (4 : Int))) = true
        · exact stepX_same (v := aggV y) (want1 (j := 7) (b := true) rfl (d7.trans (congrArg Value.bool hz))) (xloadN 3 (vs := [.int .u8 y.k, .int .i64 y.n, .string ⟨y.t.toArray⟩]) rfl (by kernel_rfl) (by kernel_rfl) (bs.get 10 rfl s10_fa13) ((ow28.keep hk).box 0 rfl) (Nat.le_of_ble_eq_true rfl) rfl) (fun _ => rfl) rfl
        · exact stepX_skip (wantN (j := 7) (b := true) (b' := false) rfl (d7.trans (congrArg Value.bool (Bool.eq_false_iff.2 hz))) rfl) (fun c => absurd c hz) rfl
      | 9, ho, hi =>
        cases ho
        have d7 : aa.eval (.tmp 49) = .bool (decide ((y.k : Int) ≠ (4 : Int))) := depX hd 7 rfl
        by_cases hz : (decide ((y.k : Int) ≠ (4 : Int))) = true
        · exact stepX_same (v := aggV a) (want1 (j := 7) (b := true) rfl (d7.trans (congrArg Value.bool hz))) (xloadN 3 (vs := [.int .u8 a.k, .int .i64 a.n, .string ⟨a.t.toArray⟩]) rfl (by kernel_rfl) (by kernel_rfl) (bs.get 4 rfl s4_fa13) ((ow28.keep hk).box 5 rfl) (Nat.le_of_ble_eq_true rfl) rfl) (fun _ => rfl) rfl
        · exact stepX_skip (wantN (j := 7) (b := true) (b' := false) rfl (d7.trans (congrArg Value.bool (Bool.eq_false_iff.2 hz))) rfl) (fun c => absurd c hz) rfl
      | 10, ho, hi =>
        cases ho
        have d8 : (decide ((y.k : Int) ≠ (4 : Int))) = true → aa.eval (.tmp 50) = aggV y := depX hd 8 rfl
        have d9 : (decide ((y.k : Int) ≠ (4 : Int))) = true → aa.eval (.tmp 51) = aggV a := depX hd 9 rfl
        have d7 : aa.eval (.tmp 49) = .bool (decide ((y.k : Int) ≠ (4 : Int))) := depX hd 7 rfl
        by_cases hz : (decide ((y.k : Int) ≠ (4 : Int))) = true
        · exact stepX_same (v := .bool (!sameV y a)) (want1 (j := 7) (b := true) rfl (d7.trans (congrArg Value.bool hz))) (xnev rfl (d8 hz) (d9 hz)) (fun _ => rfl) rfl
        · exact stepX_skip (wantN (j := 7) (b := true) (b' := false) rfl (d7.trans (congrArg Value.bool (Bool.eq_false_iff.2 hz))) rfl) (fun c => absurd c hz) rfl
      | 11, ho, hi =>
        cases ho
        have d7 : aa.eval (.tmp 49) = .bool (decide ((y.k : Int) ≠ (4 : Int))) := depX hd 7 rfl
        have d10 : (decide ((y.k : Int) ≠ (4 : Int))) = true → aa.eval (.tmp 52) = .bool (!sameV y a) := depX hd 10 rfl
        have d3 : aa.eval (.tmp 45) = .bool false := depX hd 3 rfl
        exact stepX_same (v := .bool ((decide ((y.k : Int) ≠ (4 : Int))) && (!sameV y a))) (want1 (j := 3) (b := false) rfl d3) (xand rfl d7 d10 rfl) rfl rfl
      | 12, ho, hi =>
        cases ho
        have d11 : aa.eval (.tmp 53) = .bool ((decide ((y.k : Int) ≠ (4 : Int))) && (!sameV y a)) := depX hd 11 rfl
        have d3 : aa.eval (.tmp 45) = .bool false := depX hd 3 rfl
        exact stepX_same (v := .bool ((decide ((y.k : Int) ≠ (4 : Int))) && (!sameV y a))) (want1 (j := 3) (b := false) rfl d3) (xmove rfl d11) rfl rfl
      | 13, ho, hi =>
        cases ho
        have d12 : aa.eval (.tmp 54) = .bool ((decide ((y.k : Int) ≠ (4 : Int))) && (!sameV y a)) := depX hd 12 rfl
        by_cases hz : ((decide ((y.k : Int) ≠ (4 : Int))) && (!sameV y a)) = true
        · exact stepX_same (v := aggV y) (want1 (j := 12) (b := true) rfl (d12.trans (congrArg Value.bool hz))) (xloadN 3 (vs := [.int .u8 y.k, .int .i64 y.n, .string ⟨y.t.toArray⟩]) rfl (by kernel_rfl) (by kernel_rfl) (bs.get 10 rfl s10_fa13) ((ow28.keep hk).box 0 rfl) (Nat.le_of_ble_eq_true rfl) rfl) (fun _ => rfl) rfl
        · exact stepX_skip (wantN (j := 12) (b := true) (b' := false) rfl (d12.trans (congrArg Value.bool (Bool.eq_false_iff.2 hz))) rfl) (fun c => absurd c hz) rfl
      | 14, ho, hi =>
        cases ho
        have d12 : aa.eval (.tmp 54) = .bool ((decide ((y.k : Int) ≠ (4 : Int))) && (!sameV y a)) := depX hd 12 rfl
        by_cases hz : ((decide ((y.k : Int) ≠ (4 : Int))) && (!sameV y a)) = true
        · exact stepX_same (v := aggV b) (want1 (j := 12) (b := true) rfl (d12.trans (congrArg Value.bool hz))) (xloadN 3 (vs := [.int .u8 b.k, .int .i64 b.n, .string ⟨b.t.toArray⟩]) rfl (by kernel_rfl) (by kernel_rfl) (bs.get 5 rfl s5_fa13) ((ow28.keep hk).box 4 rfl) (Nat.le_of_ble_eq_true rfl) rfl) (fun _ => rfl) rfl
        · exact stepX_skip (wantN (j := 12) (b := true) (b' := false) rfl (d12.trans (congrArg Value.bool (Bool.eq_false_iff.2 hz))) rfl) (fun c => absurd c hz) rfl
      | 15, ho, hi =>
        cases ho
        have d13 : ((decide ((y.k : Int) ≠ (4 : Int))) && (!sameV y a)) = true → aa.eval (.tmp 55) = aggV y := depX hd 13 rfl
        have d14 : ((decide ((y.k : Int) ≠ (4 : Int))) && (!sameV y a)) = true → aa.eval (.tmp 56) = aggV b := depX hd 14 rfl
        have d12 : aa.eval (.tmp 54) = .bool ((decide ((y.k : Int) ≠ (4 : Int))) && (!sameV y a)) := depX hd 12 rfl
        by_cases hz : ((decide ((y.k : Int) ≠ (4 : Int))) && (!sameV y a)) = true
        · exact stepX_same (v := .bool (!sameV y b)) (want1 (j := 12) (b := true) rfl (d12.trans (congrArg Value.bool hz))) (xnev rfl (d13 hz) (d14 hz)) (fun _ => rfl) rfl
        · exact stepX_skip (wantN (j := 12) (b := true) (b' := false) rfl (d12.trans (congrArg Value.bool (Bool.eq_false_iff.2 hz))) rfl) (fun c => absurd c hz) rfl
      | 16, ho, hi =>
        cases ho
        have d12 : aa.eval (.tmp 54) = .bool ((decide ((y.k : Int) ≠ (4 : Int))) && (!sameV y a)) := depX hd 12 rfl
        have d15 : ((decide ((y.k : Int) ≠ (4 : Int))) && (!sameV y a)) = true → aa.eval (.tmp 57) = .bool (!sameV y b) := depX hd 15 rfl
        have d3 : aa.eval (.tmp 45) = .bool false := depX hd 3 rfl
        exact stepX_same (v := .bool (((decide ((y.k : Int) ≠ (4 : Int))) && (!sameV y a)) && (!sameV y b))) (want1 (j := 3) (b := false) rfl d3) (xand rfl d12 d15 rfl) rfl rfl
      | 17, ho, hi =>
        cases ho
        have d16 : aa.eval (.tmp 58) = .bool (((decide ((y.k : Int) ≠ (4 : Int))) && (!sameV y a)) && (!sameV y b)) := depX hd 16 rfl
        have d3 : aa.eval (.tmp 45) = .bool false := depX hd 3 rfl
        exact stepX_same (v := .bool (((decide ((y.k : Int) ≠ (4 : Int))) && (!sameV y a)) && (!sameV y b))) (want1 (j := 3) (b := false) rfl d3) (xmove rfl d16) rfl rfl
      | 18, ho, hi =>
        cases ho
        have d17 : aa.eval (.tmp 59) = .bool (((decide ((y.k : Int) ≠ (4 : Int))) && (!sameV y a)) && (!sameV y b)) := depX hd 17 rfl
        by_cases hz : (((decide ((y.k : Int) ≠ (4 : Int))) && (!sameV y a)) && (!sameV y b)) = true
        · exact stepX_same (v := aggV y) (want1 (j := 17) (b := true) rfl (d17.trans (congrArg Value.bool hz))) (xloadN 3 (vs := [.int .u8 y.k, .int .i64 y.n, .string ⟨y.t.toArray⟩]) rfl (by kernel_rfl) (by kernel_rfl) (bs.get 10 rfl s10_fa13) ((ow28.keep hk).box 0 rfl) (Nat.le_of_ble_eq_true rfl) rfl) (fun _ => rfl) rfl
        · exact stepX_skip (wantN (j := 17) (b := true) (b' := false) rfl (d17.trans (congrArg Value.bool (Bool.eq_false_iff.2 hz))) rfl) (fun c => absurd c hz) rfl
      | 19, ho, hi =>
        cases ho
        have d17 : aa.eval (.tmp 59) = .bool (((decide ((y.k : Int) ≠ (4 : Int))) && (!sameV y a)) && (!sameV y b)) := depX hd 17 rfl
        by_cases hz : (((decide ((y.k : Int) ≠ (4 : Int))) && (!sameV y a)) && (!sameV y b)) = true
        · exact stepX_same (v := aggV c) (want1 (j := 17) (b := true) rfl (d17.trans (congrArg Value.bool hz))) (xloadN 3 (vs := [.int .u8 c.k, .int .i64 c.n, .string ⟨c.t.toArray⟩]) rfl (by kernel_rfl) (by kernel_rfl) (bs.get 3 rfl s3_fa13) ((ow28.keep hk).box 6 rfl) (Nat.le_of_ble_eq_true rfl) rfl) (fun _ => rfl) rfl
        · exact stepX_skip (wantN (j := 17) (b := true) (b' := false) rfl (d17.trans (congrArg Value.bool (Bool.eq_false_iff.2 hz))) rfl) (fun c => absurd c hz) rfl
      | 20, ho, hi =>
        cases ho
        have d18 : (((decide ((y.k : Int) ≠ (4 : Int))) && (!sameV y a)) && (!sameV y b)) = true → aa.eval (.tmp 60) = aggV y := depX hd 18 rfl
        have d19 : (((decide ((y.k : Int) ≠ (4 : Int))) && (!sameV y a)) && (!sameV y b)) = true → aa.eval (.tmp 61) = aggV c := depX hd 19 rfl
        have d17 : aa.eval (.tmp 59) = .bool (((decide ((y.k : Int) ≠ (4 : Int))) && (!sameV y a)) && (!sameV y b)) := depX hd 17 rfl
        by_cases hz : (((decide ((y.k : Int) ≠ (4 : Int))) && (!sameV y a)) && (!sameV y b)) = true
        · exact stepX_same (v := .bool (!sameV y c)) (want1 (j := 17) (b := true) rfl (d17.trans (congrArg Value.bool hz))) (xnev rfl (d18 hz) (d19 hz)) (fun _ => rfl) rfl
        · exact stepX_skip (wantN (j := 17) (b := true) (b' := false) rfl (d17.trans (congrArg Value.bool (Bool.eq_false_iff.2 hz))) rfl) (fun c => absurd c hz) rfl
      | 21, ho, hi =>
        cases ho
        have d17 : aa.eval (.tmp 59) = .bool (((decide ((y.k : Int) ≠ (4 : Int))) && (!sameV y a)) && (!sameV y b)) := depX hd 17 rfl
        have d20 : (((decide ((y.k : Int) ≠ (4 : Int))) && (!sameV y a)) && (!sameV y b)) = true → aa.eval (.tmp 62) = .bool (!sameV y c) := depX hd 20 rfl
        have d3 : aa.eval (.tmp 45) = .bool false := depX hd 3 rfl
        exact stepX_same (v := .bool ((((decide ((y.k : Int) ≠ (4 : Int))) && (!sameV y a)) && (!sameV y b)) && (!sameV y c))) (want1 (j := 3) (b := false) rfl d3) (xand rfl d17 d20 rfl) rfl rfl
      | 22, ho, hi =>
        cases ho
        have d21 : aa.eval (.tmp 63) = .bool ((((decide ((y.k : Int) ≠ (4 : Int))) && (!sameV y a)) && (!sameV y b)) && (!sameV y c)) := depX hd 21 rfl
        have d3 : aa.eval (.tmp 45) = .bool false := depX hd 3 rfl
        exact stepX_same (v := .bool ((((decide ((y.k : Int) ≠ (4 : Int))) && (!sameV y a)) && (!sameV y b)) && (!sameV y c))) (want1 (j := 3) (b := false) rfl d3) (xmove rfl d21) rfl rfl
      | 23, ho, hi =>
        cases ho
        have d22 : aa.eval (.tmp 64) = .bool ((((decide ((y.k : Int) ≠ (4 : Int))) && (!sameV y a)) && (!sameV y b)) && (!sameV y c)) := depX hd 22 rfl
        by_cases hz : ((((decide ((y.k : Int) ≠ (4 : Int))) && (!sameV y a)) && (!sameV y b)) && (!sameV y c)) = true
        · exact stepX_same (v := aggV y) (want1 (j := 22) (b := true) rfl (d22.trans (congrArg Value.bool hz))) (xloadN 3 (vs := [.int .u8 y.k, .int .i64 y.n, .string ⟨y.t.toArray⟩]) rfl (by kernel_rfl) (by kernel_rfl) (bs.get 10 rfl s10_fa13) ((ow28.keep hk).box 0 rfl) (Nat.le_of_ble_eq_true rfl) rfl) (fun _ => rfl) rfl
        · exact stepX_skip (wantN (j := 22) (b := true) (b' := false) rfl (d22.trans (congrArg Value.bool (Bool.eq_false_iff.2 hz))) rfl) (fun c => absurd c hz) rfl
      | 24, ho, hi =>
        cases ho
        have d22 : aa.eval (.tmp 64) = .bool ((((decide ((y.k : Int) ≠ (4 : Int))) && (!sameV y a)) && (!sameV y b)) && (!sameV y c)) := depX hd 22 rfl
        by_cases hz : ((((decide ((y.k : Int) ≠ (4 : Int))) && (!sameV y a)) && (!sameV y b)) && (!sameV y c)) = true
        · exact stepX_enter (want1 (j := 22) (b := true) rfl (d22.trans (congrArg Value.bool hz))) (xcall1 (u := .bool false) rfl rfl (en_louvrelaw15_truth _ _)) ((truth15_any false ww).mono fun _ _ ⟨he, hk2⟩ => ⟨_, he, fun _ => rfl, hk2⟩) rfl
        · exact stepX_skip (wantN (j := 22) (b := true) (b' := false) rfl (d22.trans (congrArg Value.bool (Bool.eq_false_iff.2 hz))) rfl) (fun c => absurd c hz) rfl
      | 25, ho, hi =>
        cases ho
        have d23 : ((((decide ((y.k : Int) ≠ (4 : Int))) && (!sameV y a)) && (!sameV y b)) && (!sameV y c)) = true → aa.eval (.tmp 65) = aggV y := depX hd 23 rfl
        have d24 : ((((decide ((y.k : Int) ≠ (4 : Int))) && (!sameV y a)) && (!sameV y b)) && (!sameV y c)) = true → aa.eval (.tmp 66) = aggV (vTruth false) := depX hd 24 rfl
        have d22 : aa.eval (.tmp 64) = .bool ((((decide ((y.k : Int) ≠ (4 : Int))) && (!sameV y a)) && (!sameV y b)) && (!sameV y c)) := depX hd 22 rfl
        by_cases hz : ((((decide ((y.k : Int) ≠ (4 : Int))) && (!sameV y a)) && (!sameV y b)) && (!sameV y c)) = true
        · exact stepX_same (v := .bool (!sameV y (vTruth false))) (want1 (j := 22) (b := true) rfl (d22.trans (congrArg Value.bool hz))) (xnev rfl (d23 hz) (d24 hz)) (fun _ => rfl) rfl
        · exact stepX_skip (wantN (j := 22) (b := true) (b' := false) rfl (d22.trans (congrArg Value.bool (Bool.eq_false_iff.2 hz))) rfl) (fun c => absurd c hz) rfl
      | 26, ho, hi =>
        cases ho
        have d22 : aa.eval (.tmp 64) = .bool ((((decide ((y.k : Int) ≠ (4 : Int))) && (!sameV y a)) && (!sameV y b)) && (!sameV y c)) := depX hd 22 rfl
        have d25 : ((((decide ((y.k : Int) ≠ (4 : Int))) && (!sameV y a)) && (!sameV y b)) && (!sameV y c)) = true → aa.eval (.tmp 67) = .bool (!sameV y (vTruth false)) := depX hd 25 rfl
        have d3 : aa.eval (.tmp 45) = .bool false := depX hd 3 rfl
        exact stepX_same (v := .bool (((((decide ((y.k : Int) ≠ (4 : Int))) && (!sameV y a)) && (!sameV y b)) && (!sameV y c)) && (!sameV y (vTruth false)))) (want1 (j := 3) (b := false) rfl d3) (xand rfl d22 d25 rfl) rfl rfl
      | 27, ho, hi =>
        cases ho
        have d3 : aa.eval (.tmp 45) = .bool false := depX hd 3 rfl
        have d26 : aa.eval (.tmp 68) = .bool (((((decide ((y.k : Int) ≠ (4 : Int))) && (!sameV y a)) && (!sameV y b)) && (!sameV y c)) && (!sameV y (vTruth false))) := depX hd 26 rfl
        exact stepX_same (v := .bool (((((decide ((y.k : Int) ≠ (4 : Int))) && (!sameV y a)) && (!sameV y b)) && (!sameV y c)) && (!sameV y (vTruth false)))) (want0 rfl) (xpickF rfl d3 d26) rfl rfl
      | i + 28, ho, hi => exact absurd hi (by omega)
    have zfa14 : fa14.tmps.size = 164 := bs.size.trans zfa13
    have dffa14 : fa14.defers = [] := bs.defers.trans dffa13
    have ow29 := ow28.keep hk
    have s69_fa14 : fa14.eval (.tmp 69) = .bool (((((decide ((y.k : Int) ≠ (4 : Int))) && (!sameV y a)) && (!sameV y b)) && (!sameV y c)) && (!sameV y (vTruth false))) := hv 27 (by decide)
    have s3_fa14 : fa14.eval (.tmp 3) = .pointer (some ⟨gb2, 0, none⟩) := bs.get 3 rfl s3_fa13
    have s4_fa14 : fa14.eval (.tmp 4) = .pointer (some ⟨gb3, 0, none⟩) := bs.get 4 rfl s4_fa13
    have s5_fa14 : fa14.eval (.tmp 5) = .pointer (some ⟨gb4, 0, none⟩) := bs.get 5 rfl s5_fa13
    have s6_fa14 : fa14.eval (.tmp 6) = .pointer (some ⟨gb5, 0, none⟩) := bs.get 6 rfl s6_fa13
    have s7_fa14 : fa14.eval (.tmp 7) = .pointer (some ⟨gb6, 0, none⟩) := bs.get 7 rfl s7_fa13
    have s8_fa14 : fa14.eval (.tmp 8) = .pointer (some ⟨gb7, 0, none⟩) := bs.get 8 rfl s8_fa13
    have s38_fa14 : fa14.eval (.tmp 38) = .agg #[.int .u8 r20.k, .int .i64 r20.n, .string ⟨r20.t.toArray⟩, .int .u8 r25.k, .int .i64 r25.n, .string ⟨r25.t.toArray⟩, .int .u8 r30.k, .int .i64 r30.n, .string ⟨r30.t.toArray⟩] := bs.get 38 rfl s38_fa13
    have s39_fa14 : fa14.eval (.tmp 39) = .int .i64 (k : Int) := bs.get 39 rfl s39_fa13
    clear hv ap bs hk
    refine wl_nil (fun fr u => fr.tmps.size = 164 ∧ fr.defers = [] ∧ Own w [Th.obj gb8 (.cells #[.int .u8 y.k, .int .i64 y.n, .string ⟨y.t.toArray⟩] 35 (0, 0)), Th.obj gb7 (.cells #[.int .u8 r30.k, .int .i64 r30.n, .string ⟨r30.t.toArray⟩] 35 (0, 0)), Th.obj gb6 (.cells #[.int .u8 r25.k, .int .i64 r25.n, .string ⟨r25.t.toArray⟩] 35 (0, 0)), Th.obj gb5 (.cells #[.int .u8 r20.k, .int .i64 r20.n, .string ⟨r20.t.toArray⟩] 35 (0, 0)), Th.obj gb4 (.cells #[.int .u8 b.k, .int .i64 b.n, .string ⟨b.t.toArray⟩] 35 (0, 0)), Th.obj gb3 (.cells #[.int .u8 a.k, .int .i64 a.n, .string ⟨a.t.toArray⟩] 35 (0, 0)), Th.obj gb2 (.cells #[.int .u8 c.k, .int .i64 c.n, .string ⟨c.t.toArray⟩] 35 (0, 0)), Th.obj gb1 (.cells #[.int .u8 x0.k, .int .i64 x0.n, .string ⟨x0.t.toArray⟩, .int .u8 y0.k, .int .i64 y0.n, .string ⟨y0.t.toArray⟩, .int .u8 z0.k, .int .i64 z0.n, .string ⟨z0.t.toArray⟩] 49 (0, 0))] u ∧ fr.eval (.tmp 69) = .bool (((((decide ((y.k : Int) ≠ (4 : Int))) && (!sameV y a)) && (!sameV y b)) && (!sameV y c)) && (!sameV y (vTruth false))) ∧ fr.eval (.tmp 3) = .pointer (some ⟨gb2, 0, none⟩) ∧ fr.eval (.tmp 4) = .pointer (some ⟨gb3, 0, none⟩) ∧ fr.eval (.tmp 5) = .pointer (some ⟨gb4, 0, none⟩) ∧ fr.eval (.tmp 6) = .pointer (some ⟨gb5, 0, none⟩) ∧ fr.eval (.tmp 7) = .pointer (some ⟨gb6, 0, none⟩) ∧ fr.eval (.tmp 8) = .pointer (some ⟨gb7, 0, none⟩) ∧ fr.eval (.tmp 38) = .agg #[.int .u8 r20.k, .int .i64 r20.n, .string ⟨r20.t.toArray⟩, .int .u8 r25.k, .int .i64 r25.n, .string ⟨r25.t.toArray⟩, .int .u8 r30.k, .int .i64 r30.n, .string ⟨r30.t.toArray⟩] ∧ fr.eval (.tmp 39) = .int .i64 (k : Int)) ⟨zfa14, dffa14, ow29, s69_fa14, s3_fa14, s4_fa14, s5_fa14, s6_fa14, s7_fa14, s8_fa14, s38_fa14, s39_fa14⟩ ?_
    rintro fa15 fw15 ⟨zfa15, dffa15, ow30, s69_fa15, s3_fa15, s4_fa15, s5_fa15, s6_fa15, s7_fa15, s8_fa15, s38_fa15, s39_fa15⟩
    refine then_n (hK10 _ _ ?_)
    try clear hK10 K10
    refine wp_cond_false (s69_fa15.trans (congrArg Value.bool (chosen_no hf.ch))) ?_
    refine wp_skip ?_
    refine block_n ?_
    refine then_n (hK8 _ _ ?_)
    try clear hK8 K8
    refine region_sx [yV (.int .i64 ((k + 1 : Nat) : Int))] 1 164 (by kernel_rfl) zfa15 (by kernel_rfl) (by kernel_rfl) (fun i o ho hi aa ww hk bs hd => ?_) (fun fa16 fw16 hk bs hv ap => ?_)
    · match i, ho, hi with
      | 0, ho, hi =>
        cases ho
        exact stepX_same (v := .int .i64 ((k + 1 : Nat) : Int)) (want0 rfl) (xadd (Or.inl rfl) rfl (n := (k : Int)) (m := 1) (bs.get 39 rfl s39_fa15) rfl (by omega) (by omega)) rfl rfl
      | i + 1, ho, hi => exact absurd hi (by omega)
    have zfa16 : fa16.tmps.size = 164 := bs.size.trans zfa15
    have dffa16 : fa16.defers = [] := bs.defers.trans dffa15
    have ow31 := ow30.keep hk
    have s70_fa16 : fa16.eval (.tmp 70) = .int .i64 ((k + 1 : Nat) : Int) := hv 0 (by decide)
    have s3_fa16 : fa16.eval (.tmp 3) = .pointer (some ⟨gb2, 0, none⟩) := bs.get 3 rfl s3_fa15
    have s4_fa16 : fa16.eval (.tmp 4) = .pointer (some ⟨gb3, 0, none⟩) := bs.get 4 rfl s4_fa15
    have s5_fa16 : fa16.eval (.tmp 5) = .pointer (some ⟨gb4, 0, none⟩) := bs.get 5 rfl s5_fa15
    have s6_fa16 : fa16.eval (.tmp 6) = .pointer (some ⟨gb5, 0, none⟩) := bs.get 6 rfl s6_fa15
    have s7_fa16 : fa16.eval (.tmp 7) = .pointer (some ⟨gb6, 0, none⟩) := bs.get 7 rfl s7_fa15
    have s8_fa16 : fa16.eval (.tmp 8) = .pointer (some ⟨gb7, 0, none⟩) := bs.get 8 rfl s8_fa15
    have s38_fa16 : fa16.eval (.tmp 38) = .agg #[.int .u8 r20.k, .int .i64 r20.n, .string ⟨r20.t.toArray⟩, .int .u8 r25.k, .int .i64 r25.n, .string ⟨r25.t.toArray⟩, .int .u8 r30.k, .int .i64 r30.n, .string ⟨r30.t.toArray⟩] := bs.get 38 rfl s38_fa15
    have s39_fa16 : fa16.eval (.tmp 39) = .int .i64 (k : Int) := bs.get 39 rfl s39_fa15
    clear hv ap bs hk
    refine wl_value (v := .int .i64 ((k + 1 : Nat) : Int)) (want0 rfl) (xmove rfl s70_fa16) ?_
    refine wl_nil (fun fr u => fr.tmps.size = 164 ∧ fr.defers = [] ∧ Own w [Th.obj gb8 (.cells #[.int .u8 y.k, .int .i64 y.n, .string ⟨y.t.toArray⟩] 35 (0, 0)), Th.obj gb7 (.cells #[.int .u8 r30.k, .int .i64 r30.n, .string ⟨r30.t.toArray⟩] 35 (0, 0)), Th.obj gb6 (.cells #[.int .u8 r25.k, .int .i64 r25.n, .string ⟨r25.t.toArray⟩] 35 (0, 0)), Th.obj gb5 (.cells #[.int .u8 r20.k, .int .i64 r20.n, .string ⟨r20.t.toArray⟩] 35 (0, 0)), Th.obj gb4 (.cells #[.int .u8 b.k, .int .i64 b.n, .string ⟨b.t.toArray⟩] 35 (0, 0)), Th.obj gb3 (.cells #[.int .u8 a.k, .int .i64 a.n, .string ⟨a.t.toArray⟩] 35 (0, 0)), Th.obj gb2 (.cells #[.int .u8 c.k, .int .i64 c.n, .string ⟨c.t.toArray⟩] 35 (0, 0)), Th.obj gb1 (.cells #[.int .u8 x0.k, .int .i64 x0.n, .string ⟨x0.t.toArray⟩, .int .u8 y0.k, .int .i64 y0.n, .string ⟨y0.t.toArray⟩, .int .u8 z0.k, .int .i64 z0.n, .string ⟨z0.t.toArray⟩] 49 (0, 0))] u ∧ fr.eval (.tmp 3) = .pointer (some ⟨gb2, 0, none⟩) ∧ fr.eval (.tmp 4) = .pointer (some ⟨gb3, 0, none⟩) ∧ fr.eval (.tmp 5) = .pointer (some ⟨gb4, 0, none⟩) ∧ fr.eval (.tmp 6) = .pointer (some ⟨gb5, 0, none⟩) ∧ fr.eval (.tmp 7) = .pointer (some ⟨gb6, 0, none⟩) ∧ fr.eval (.tmp 8) = .pointer (some ⟨gb7, 0, none⟩) ∧ fr.eval (.tmp 38) = .agg #[.int .u8 r20.k, .int .i64 r20.n, .string ⟨r20.t.toArray⟩, .int .u8 r25.k, .int .i64 r25.n, .string ⟨r25.t.toArray⟩, .int .u8 r30.k, .int .i64 r30.n, .string ⟨r30.t.toArray⟩] ∧ fr.eval (.tmp 39) = .int .i64 ((k + 1 : Nat) : Int)) ⟨put_size zfa16, dffa16, ow31, put_by rfl s3_fa16, put_by rfl s4_fa16, put_by rfl s5_fa16, put_by rfl s6_fa16, put_by rfl s7_fa16, put_by rfl s8_fa16, put_by rfl s38_fa16, put_at (by rw [zfa16]; decide)⟩ ?_
    rintro fa17 fw17 ⟨zfa17, dffa17, ow32, s3_fa17, s4_fa17, s5_fa17, s6_fa17, s7_fa17, s8_fa17, s38_fa17, s39_fa17⟩
    exact then_n ⟨(k + 1), ⟨(by omega), zfa17, dffa17, ow32.tail, s3_fa17, s4_fa17, s5_fa17, s6_fa17, s7_fa17, s8_fa17, s38_fa17, s39_fa17⟩, (show 3 - (k + 1) < 3 - k by omega)⟩
  refine wp_cond_false (s40_fa11.trans (congrArg Value.bool (decide_eq_false hc1))) ?_
  refine wp_exit ?_
  refine then_e ?_
  refine then_e ?_
  refine block_hit ?_
  refine then_n (hK4 _ _ ?_)
  try clear hK4 K4
  refine wp_seq_k fun K11 hK11 => ?_
  refine wp_seq_k fun K12 hK12 => ?_
  refine region_sx [yV (.pointer (some ⟨gb2, 0, none⟩)), yV (.int .u8 c.k), yV (.bool (decide ((c.k : Int) = (4 : Int))))] 3 164 (by kernel_rfl) zfa11 (by kernel_rfl) (by kernel_rfl) (fun i o ho hi aa ww hk bs hd => ?_) (fun fa18 fw18 hk bs hv ap => ?_)
  · match i, ho, hi with
    | 0, ho, hi =>
      cases ho
      exact stepX_same (v := .pointer (some ⟨gb2, 0, none⟩)) (want0 rfl) (xfieldAddr rfl (bs.get 3 rfl s3_fa11) (by kernel_rfl)) rfl rfl
    | 1, ho, hi =>
      cases ho
      have d0 : aa.eval (.tmp 71) = .pointer (some ⟨gb2, 0, none⟩) := depX hd 0 rfl
      exact stepX_same (v := .int .u8 c.k) (want0 rfl) (xloadB rfl (by kernel_rfl) d0 ((ow24.keep hk).box 5 rfl) rfl) rfl rfl
    | 2, ho, hi =>
      cases ho
      have d1 : aa.eval (.tmp 72) = .int .u8 c.k := depX hd 1 rfl
      exact stepX_same (v := .bool (decide ((c.k : Int) = (4 : Int)))) (want0 rfl) (xeqi rfl d1 rfl) rfl rfl
    | i + 3, ho, hi => exact absurd hi (by omega)
  have zfa18 : fa18.tmps.size = 164 := bs.size.trans zfa11
  have dffa18 : fa18.defers = [] := bs.defers.trans dffa11
  have ow33 := ow24.keep hk
  have s73_fa18 : fa18.eval (.tmp 73) = .bool (decide ((c.k : Int) = (4 : Int))) := hv 2 (by decide)
  have s3_fa18 : fa18.eval (.tmp 3) = .pointer (some ⟨gb2, 0, none⟩) := bs.get 3 rfl s3_fa11
  have s4_fa18 : fa18.eval (.tmp 4) = .pointer (some ⟨gb3, 0, none⟩) := bs.get 4 rfl s4_fa11
  have s5_fa18 : fa18.eval (.tmp 5) = .pointer (some ⟨gb4, 0, none⟩) := bs.get 5 rfl s5_fa11
  have s6_fa18 : fa18.eval (.tmp 6) = .pointer (some ⟨gb5, 0, none⟩) := bs.get 6 rfl s6_fa11
  have s7_fa18 : fa18.eval (.tmp 7) = .pointer (some ⟨gb6, 0, none⟩) := bs.get 7 rfl s7_fa11
  have s8_fa18 : fa18.eval (.tmp 8) = .pointer (some ⟨gb7, 0, none⟩) := bs.get 8 rfl s8_fa11
  clear hv ap bs hk
  refine wl_nil (fun fr u => fr.tmps.size = 164 ∧ fr.defers = [] ∧ Own w [Th.obj gb7 (.cells #[.int .u8 r30.k, .int .i64 r30.n, .string ⟨r30.t.toArray⟩] 35 (0, 0)), Th.obj gb6 (.cells #[.int .u8 r25.k, .int .i64 r25.n, .string ⟨r25.t.toArray⟩] 35 (0, 0)), Th.obj gb5 (.cells #[.int .u8 r20.k, .int .i64 r20.n, .string ⟨r20.t.toArray⟩] 35 (0, 0)), Th.obj gb4 (.cells #[.int .u8 b.k, .int .i64 b.n, .string ⟨b.t.toArray⟩] 35 (0, 0)), Th.obj gb3 (.cells #[.int .u8 a.k, .int .i64 a.n, .string ⟨a.t.toArray⟩] 35 (0, 0)), Th.obj gb2 (.cells #[.int .u8 c.k, .int .i64 c.n, .string ⟨c.t.toArray⟩] 35 (0, 0)), Th.obj gb1 (.cells #[.int .u8 x0.k, .int .i64 x0.n, .string ⟨x0.t.toArray⟩, .int .u8 y0.k, .int .i64 y0.n, .string ⟨y0.t.toArray⟩, .int .u8 z0.k, .int .i64 z0.n, .string ⟨z0.t.toArray⟩] 49 (0, 0))] u ∧ fr.eval (.tmp 73) = .bool (decide ((c.k : Int) = (4 : Int))) ∧ fr.eval (.tmp 3) = .pointer (some ⟨gb2, 0, none⟩) ∧ fr.eval (.tmp 4) = .pointer (some ⟨gb3, 0, none⟩) ∧ fr.eval (.tmp 5) = .pointer (some ⟨gb4, 0, none⟩) ∧ fr.eval (.tmp 6) = .pointer (some ⟨gb5, 0, none⟩) ∧ fr.eval (.tmp 7) = .pointer (some ⟨gb6, 0, none⟩) ∧ fr.eval (.tmp 8) = .pointer (some ⟨gb7, 0, none⟩)) ⟨zfa18, dffa18, ow33, s73_fa18, s3_fa18, s4_fa18, s5_fa18, s6_fa18, s7_fa18, s8_fa18⟩ ?_
  rintro fa19 fw19 ⟨zfa19, dffa19, ow34, s73_fa19, s3_fa19, s4_fa19, s5_fa19, s6_fa19, s7_fa19, s8_fa19⟩
  refine then_n (hK12 _ _ ?_)
  try clear hK12 K12
  by_cases hc2 : (c.k : Int) = (4 : Int)
  · refine wp_cond_true (s73_fa19.trans (congrArg Value.bool (decide_eq_true hc2))) ?_
    have yc : isE c = true := by rw [← isE_dec]; exact decide_eq_true hc2
    have k20 : r20 = c := by rw [← e20]; exact if_error c a b yc Fc.1
    have k25 : r25 = a := by rw [← e25, logic_iferror, if_pos yc]
    have k30 : r30 = c := by rw [← e30]; exact choose_error c a b yc Fc.1
    refine wp_seq_k fun K13 hK13 => ?_
    refine region_sx [yV (aggV r20), yV (aggV c), yV (.bool true), yV (.bool true), yV (aggV r25), yV (aggV a), yV (.bool true), yV (.bool true), yV (.bool true), yV (aggV r30), yV (aggV c), yV (.bool true), yV (.bool true), yV (.bool true), yV (aggV c), ySlice fw19.heap.size 1 (rowObj [c]), yV (aggV (vTruth (isE c))), yV (aggV (vTruth true)), yV (.bool true), yV (.bool true), yV (.bool true), yV (.bool true), yV (.bool true), yV (.bool true)] 24 164 (by kernel_rfl) zfa19 (by kernel_rfl) (by kernel_rfl) (fun i o ho hi aa ww hk bs hd => ?_) (fun fa20 fw20 hk bs hv ap => ?_)
    · match i, ho, hi with
      | 0, ho, hi =>
        cases ho
        exact stepX_same (v := aggV r20) (want0 rfl) (xloadN 3 (vs := [.int .u8 r20.k, .int .i64 r20.n, .string ⟨r20.t.toArray⟩]) rfl (by kernel_rfl) (by kernel_rfl) (bs.get 6 rfl s6_fa19) ((ow34.keep hk).box 2 rfl) (Nat.le_of_ble_eq_true rfl) rfl) rfl rfl
      | 1, ho, hi =>
        cases ho
        exact stepX_same (v := aggV c) (want0 rfl) (xloadN 3 (vs := [.int .u8 c.k, .int .i64 c.n, .string ⟨c.t.toArray⟩]) rfl (by kernel_rfl) (by kernel_rfl) (bs.get 3 rfl s3_fa19) ((ow34.keep hk).box 5 rfl) (Nat.le_of_ble_eq_true rfl) rfl) rfl rfl
      | 2, ho, hi =>
        cases ho
        have d0 : aa.eval (.tmp 74) = aggV r20 := depX hd 0 rfl
        have d1 : aa.eval (.tmp 75) = aggV c := depX hd 1 rfl
        exact stepX_same (v := .bool (sameV r20 c)) (want0 rfl) (xeqv rfl d0 d1) (congrArg Value.bool (sameV_of k20)) rfl
      | 3, ho, hi =>
        cases ho
        have d2 : aa.eval (.tmp 76) = .bool true := depX hd 2 rfl
        exact stepX_same (v := .bool true) (want0 rfl) (xmove rfl d2) rfl rfl
      | 4, ho, hi =>
        cases ho
        have d3 : aa.eval (.tmp 77) = .bool true := depX hd 3 rfl
        exact stepX_same (v := aggV r25) (want1 (j := 3) (b := true) rfl d3) (xloadN 3 (vs := [.int .u8 r25.k, .int .i64 r25.n, .string ⟨r25.t.toArray⟩]) rfl (by kernel_rfl) (by kernel_rfl) (bs.get 7 rfl s7_fa19) ((ow34.keep hk).box 1 rfl) (Nat.le_of_ble_eq_true rfl) rfl) rfl rfl
      | 5, ho, hi =>
        cases ho
        have d3 : aa.eval (.tmp 77) = .bool true := depX hd 3 rfl
        exact stepX_same (v := aggV a) (want1 (j := 3) (b := true) rfl d3) (xloadN 3 (vs := [.int .u8 a.k, .int .i64 a.n, .string ⟨a.t.toArray⟩]) rfl (by kernel_rfl) (by kernel_rfl) (bs.get 4 rfl s4_fa19) ((ow34.keep hk).box 4 rfl) (Nat.le_of_ble_eq_true rfl) rfl) rfl rfl
      | 6, ho, hi =>
        cases ho
        have d4 : aa.eval (.tmp 78) = aggV r25 := depX hd 4 rfl
        have d5 : aa.eval (.tmp 79) = aggV a := depX hd 5 rfl
        have d3 : aa.eval (.tmp 77) = .bool true := depX hd 3 rfl
        exact stepX_same (v := .bool (sameV r25 a)) (want1 (j := 3) (b := true) rfl d3) (xeqv rfl d4 d5) (congrArg Value.bool (sameV_of k25)) rfl
      | 7, ho, hi =>
        cases ho
        have d3 : aa.eval (.tmp 77) = .bool true := depX hd 3 rfl
        have d6 : aa.eval (.tmp 80) = .bool true := depX hd 6 rfl
        exact stepX_same (v := .bool true) (want0 rfl) (xpickT rfl d3 d6) rfl rfl
      | 8, ho, hi =>
        cases ho
        have d7 : aa.eval (.tmp 81) = .bool true := depX hd 7 rfl
        exact stepX_same (v := .bool true) (want0 rfl) (xmove rfl d7) rfl rfl
      | 9, ho, hi =>
        cases ho
        have d8 : aa.eval (.tmp 82) = .bool true := depX hd 8 rfl
        exact stepX_same (v := aggV r30) (want1 (j := 8) (b := true) rfl d8) (xloadN 3 (vs := [.int .u8 r30.k, .int .i64 r30.n, .string ⟨r30.t.toArray⟩]) rfl (by kernel_rfl) (by kernel_rfl) (bs.get 8 rfl s8_fa19) ((ow34.keep hk).box 0 rfl) (Nat.le_of_ble_eq_true rfl) rfl) rfl rfl
      | 10, ho, hi =>
        cases ho
        have d8 : aa.eval (.tmp 82) = .bool true := depX hd 8 rfl
        exact stepX_same (v := aggV c) (want1 (j := 8) (b := true) rfl d8) (xloadN 3 (vs := [.int .u8 c.k, .int .i64 c.n, .string ⟨c.t.toArray⟩]) rfl (by kernel_rfl) (by kernel_rfl) (bs.get 3 rfl s3_fa19) ((ow34.keep hk).box 5 rfl) (Nat.le_of_ble_eq_true rfl) rfl) rfl rfl
      | 11, ho, hi =>
        cases ho
        have d9 : aa.eval (.tmp 83) = aggV r30 := depX hd 9 rfl
        have d10 : aa.eval (.tmp 84) = aggV c := depX hd 10 rfl
        have d8 : aa.eval (.tmp 82) = .bool true := depX hd 8 rfl
        exact stepX_same (v := .bool (sameV r30 c)) (want1 (j := 8) (b := true) rfl d8) (xeqv rfl d9 d10) (congrArg Value.bool (sameV_of k30)) rfl
      | 12, ho, hi =>
        cases ho
        have d8 : aa.eval (.tmp 82) = .bool true := depX hd 8 rfl
        have d11 : aa.eval (.tmp 85) = .bool true := depX hd 11 rfl
        exact stepX_same (v := .bool true) (want0 rfl) (xpickT rfl d8 d11) rfl rfl
      | 13, ho, hi =>
        cases ho
        have d12 : aa.eval (.tmp 86) = .bool true := depX hd 12 rfl
        exact stepX_same (v := .bool true) (want0 rfl) (xmove rfl d12) rfl rfl
      | 14, ho, hi =>
        cases ho
        have d13 : aa.eval (.tmp 87) = .bool true := depX hd 13 rfl
        exact stepX_same (v := aggV c) (want1 (j := 13) (b := true) rfl d13) (xloadN 3 (vs := [.int .u8 c.k, .int .i64 c.n, .string ⟨c.t.toArray⟩]) rfl (by kernel_rfl) (by kernel_rfl) (bs.get 3 rfl s3_fa19) ((ow34.keep hk).box 5 rfl) (Nat.le_of_ble_eq_true rfl) rfl) rfl rfl
      | 15, ho, hi =>
        cases ho
        have d14 : aa.eval (.tmp 88) = aggV c := depX hd 14 rfl
        have d13 : aa.eval (.tmp 87) = .bool true := depX hd 13 rfl
        exact stepX_new _ (want1 (j := 13) (b := true) rfl d13) (xrow1 rfl d14) ⟨_, rfl, hk.size, Go.heap_alloc_new _ _⟩ ((Kept.refl _).alloc _) rfl (Nat.le_refl _)
      | 16, ho, hi =>
        cases ho
        have d15 : ∃ g, aa.eval (.tmp 89) = .slice (some ⟨g, 0, none⟩) 1 1 ∧ fw19.heap.size ≤ g ∧ ww.heap[g]? = some (rowObj [c]) := depX hd 15 rfl
        have d13 : aa.eval (.tmp 87) = .bool true := depX hd 13 rfl
        obtain ⟨g15, e15, _, h15⟩ := d15
        exact stepX_enter (want1 (j := 13) (b := true) rfl d13) (xcall2 (u := .int .u8 26) (v := .slice (some ⟨g15, 0, none⟩) 1 1) rfl rfl e15 (en_louvrelaw15_of _ _)) ((of15_ok 26 g15 c [] ww mx (HM.kept (ow34.keep hk).kept) (rowObj_row h15) (fine_cons Fc fine_nil) (by simp) (by omega) (by omega) (by simp [lo15]) (by simp [hi15])).mono fun _ _ ⟨he, hk2⟩ => ⟨_, he, congrArg aggV (logic_iserror c), hk2⟩) rfl
      | 17, ho, hi =>
        cases ho
        have d13 : aa.eval (.tmp 87) = .bool true := depX hd 13 rfl
        exact stepX_enter (want1 (j := 13) (b := true) rfl d13) (xcall1 (u := .bool true) rfl rfl (en_louvrelaw15_truth _ _)) ((truth15_any true ww).mono fun _ _ ⟨he, hk2⟩ => ⟨_, he, rfl, hk2⟩) rfl
      | 18, ho, hi =>
        cases ho
        have d16 : aa.eval (.tmp 90) = aggV (vTruth (isE c)) := depX hd 16 rfl
        have d17 : aa.eval (.tmp 91) = aggV (vTruth true) := depX hd 17 rfl
        have d13 : aa.eval (.tmp 87) = .bool true := depX hd 13 rfl
        exact stepX_same (v := .bool (sameV (vTruth (isE c)) (vTruth true))) (want1 (j := 13) (b := true) rfl d13) (xeqv rfl d16 d17) (congrArg Value.bool (sameV_of (congrArg vTruth yc))) rfl
      | 19, ho, hi =>
        cases ho
        have d13 : aa.eval (.tmp 87) = .bool true := depX hd 13 rfl
        have d18 : aa.eval (.tmp 92) = .bool true := depX hd 18 rfl
        exact stepX_same (v := .bool true) (want0 rfl) (xpickT rfl d13 d18) rfl rfl
      | 20, ho, hi =>
        cases ho
        have d19 : aa.eval (.tmp 93) = .bool true := depX hd 19 rfl
        exact stepX_same (v := .bool true) (want0 rfl) (xmove rfl d19) rfl rfl
      | 21, ho, hi =>
        cases ho
        have d20 : aa.eval (.tmp 94) = .bool true := depX hd 20 rfl
        exact stepX_enter (want1 (j := 20) (b := true) rfl d20) (xcall0 rfl (en_louvrelaw15_awake _ _)) ((awake15_any ww mx (HM.kept (ow34.keep hk).kept)).mono fun _ _ ⟨he, hk2⟩ => ⟨_, he, rfl, hk2⟩) rfl
      | 22, ho, hi =>
        cases ho
        have d20 : aa.eval (.tmp 94) = .bool true := depX hd 20 rfl
        have d21 : aa.eval (.tmp 95) = .bool true := depX hd 21 rfl
        exact stepX_same (v := .bool true) (want0 rfl) (xpickT rfl d20 d21) rfl rfl
      | 23, ho, hi =>
        cases ho
        have d22 : aa.eval (.tmp 96) = .bool true := depX hd 22 rfl
        exact stepX_same (v := .bool true) (want0 rfl) (xassign rfl d22) rfl rfl
      | i + 24, ho, hi => exact absurd hi (by omega)
    have zfa20 : fa20.tmps.size = 164 := bs.size.trans zfa19
    have dffa20 : fa20.defers = [] := bs.defers.trans dffa19
    have ow35 := ow34.keep hk
    have s2_fa20 : fa20.eval (.tmp 2) = .bool true := hv 23 (by decide)
    have s3_fa20 : fa20.eval (.tmp 3) = .pointer (some ⟨gb2, 0, none⟩) := bs.get 3 rfl s3_fa19
    have s4_fa20 : fa20.eval (.tmp 4) = .pointer (some ⟨gb3, 0, none⟩) := bs.get 4 rfl s4_fa19
    have s5_fa20 : fa20.eval (.tmp 5) = .pointer (some ⟨gb4, 0, none⟩) := bs.get 5 rfl s5_fa19
    have s6_fa20 : fa20.eval (.tmp 6) = .pointer (some ⟨gb5, 0, none⟩) := bs.get 6 rfl s6_fa19
    have s7_fa20 : fa20.eval (.tmp 7) = .pointer (some ⟨gb6, 0, none⟩) := bs.get 7 rfl s7_fa19
    clear hv ap bs hk
    refine wl_nil (fun fr u => fr.tmps.size = 164 ∧ fr.defers = [] ∧ Own w [Th.obj gb7 (.cells #[.int .u8 r30.k, .int .i64 r30.n, .string ⟨r30.t.toArray⟩] 35 (0, 0)), Th.obj gb6 (.cells #[.int .u8 r25.k, .int .i64 r25.n, .string ⟨r25.t.toArray⟩] 35 (0, 0)), Th.obj gb5 (.cells #[.int .u8 r20.k, .int .i64 r20.n, .string ⟨r20.t.toArray⟩] 35 (0, 0)), Th.obj gb4 (.cells #[.int .u8 b.k, .int .i64 b.n, .string ⟨b.t.toArray⟩] 35 (0, 0)), Th.obj gb3 (.cells #[.int .u8 a.k, .int .i64 a.n, .string ⟨a.t.toArray⟩] 35 (0, 0)), Th.obj gb2 (.cells #[.int .u8 c.k, .int .i64 c.n, .string ⟨c.t.toArray⟩] 35 (0, 0)), Th.obj gb1 (.cells #[.int .u8 x0.k, .int .i64 x0.n, .string ⟨x0.t.toArray⟩, .int .u8 y0.k, .int .i64 y0.n, .string ⟨y0.t.toArray⟩, .int .u8 z0.k, .int .i64 z0.n, .string ⟨z0.t.toArray⟩] 49 (0, 0))] u ∧ fr.eval (.tmp 2) = .bool true ∧ fr.eval (.tmp 3) = .pointer (some ⟨gb2, 0, none⟩) ∧ fr.eval (.tmp 4) = .pointer (some ⟨gb3, 0, none⟩) ∧ fr.eval (.tmp 5) = .pointer (some ⟨gb4, 0, none⟩) ∧ fr.eval (.tmp 6) = .pointer (some ⟨gb5, 0, none⟩) ∧ fr.eval (.tmp 7) = .pointer (some ⟨gb6, 0, none⟩)) ⟨zfa20, dffa20, ow35, s2_fa20, s3_fa20, s4_fa20, s5_fa20, s6_fa20, s7_fa20⟩ ?_
    rintro fa21 fw21 ⟨zfa21, dffa21, ow36, s2_fa21, s3_fa21, s4_fa21, s5_fa21, s6_fa21, s7_fa21⟩
    refine then_n (hK13 _ _ ?_)
    try clear hK13 K13
    refine wp_ret ?_
    refine then_r ?_
    refine results1 rfl s2_fa21 dffa21 ?_
    exact ⟨rfl, ow36.kept⟩
  refine wp_cond_false (s73_fa19.trans (congrArg Value.bool (decide_eq_false hc2))) ?_
  have nc : isE c = false := by rw [← isE_dec]; exact decide_eq_false hc2
  have k25 : r25 = c := by rw [← e25, logic_iferror, nc]; rfl
  refine wp_skip ?_
  refine then_n (hK11 _ _ ?_)
  try clear hK11 K11
  refine wp_seq_k fun K14 hK14 => ?_
  refine wp_seq_k fun K15 hK15 => ?_
  refine region_sx [yV (aggV r25), yV (aggV c), yV (.bool false), yV (.bool false), yV (aggV c), ySlice fw19.heap.size 1 (rowObj [c]), yV (aggV (vTruth (isE c))), yV (aggV (vTruth false)), yV (.bool false), yV (.bool false)] 10 164 (by kernel_rfl) zfa19 (by kernel_rfl) (by kernel_rfl) (fun i o ho hi aa ww hk bs hd => ?_) (fun fa22 fw22 hk bs hv ap => ?_)
  · match i, ho, hi with
    | 0, ho, hi =>
      cases ho
      exact stepX_same (v := aggV r25) (want0 rfl) (xloadN 3 (vs := [.int .u8 r25.k, .int .i64 r25.n, .string ⟨r25.t.toArray⟩]) rfl (by kernel_rfl) (by kernel_rfl) (bs.get 7 rfl s7_fa19) ((ow34.keep hk).box 1 rfl) (Nat.le_of_ble_eq_true rfl) rfl) rfl rfl
    | 1, ho, hi =>
      cases ho
      exact stepX_same (v := aggV c) (want0 rfl) (xloadN 3 (vs := [.int .u8 c.k, .int .i64 c.n, .string ⟨c.t.toArray⟩]) rfl (by kernel_rfl) (by kernel_rfl) (bs.get 3 rfl s3_fa19) ((ow34.keep hk).box 5 rfl) (Nat.le_of_ble_eq_true rfl) rfl) rfl rfl
    | 2, ho, hi =>
      cases ho
      have d0 : aa.eval (.tmp 97) = aggV r25 := depX hd 0 rfl
      have d1 : aa.eval (.tmp 98) = aggV c := depX hd 1 rfl
      exact stepX_same (v := .bool (!sameV r25 c)) (want0 rfl) (xnev rfl d0 d1) (congrArg Value.bool (by rw [show sameV r25 c = true from sameV_of k25]; rfl)) rfl
    | 3, ho, hi =>
      cases ho
      have d2 : aa.eval (.tmp 99) = .bool false := depX hd 2 rfl
      exact stepX_same (v := .bool false) (want0 rfl) (xmove rfl d2) rfl rfl
    | 4, ho, hi =>
      cases ho
      have d3 : aa.eval (.tmp 100) = .bool false := depX hd 3 rfl
      exact stepX_same (v := aggV c) (want1 (j := 3) (b := false) rfl d3) (xloadN 3 (vs := [.int .u8 c.k, .int .i64 c.n, .string ⟨c.t.toArray⟩]) rfl (by kernel_rfl) (by kernel_rfl) (bs.get 3 rfl s3_fa19) ((ow34.keep hk).box 5 rfl) (Nat.le_of_ble_eq_true rfl) rfl) rfl rfl
    | 5, ho, hi =>
      cases ho
      have d4 : aa.eval (.tmp 101) = aggV c := depX hd 4 rfl
      have d3 : aa.eval (.tmp 100) = .bool false := depX hd 3 rfl
      exact stepX_new _ (want1 (j := 3) (b := false) rfl d3) (xrow1 rfl d4) ⟨_, rfl, hk.size, Go.heap_alloc_new _ _⟩ ((Kept.refl _).alloc _) rfl (Nat.le_refl _)
    | 6, ho, hi =>
      cases ho
      have d5 : ∃ g, aa.eval (.tmp 102) = .slice (some ⟨g, 0, none⟩) 1 1 ∧ fw19.heap.size ≤ g ∧ ww.heap[g]? = some (rowObj [c]) := depX hd 5 rfl
      have d3 : aa.eval (.tmp 100) = .bool false := depX hd 3 rfl
      obtain ⟨g5, e5, _, h5⟩ := d5
      exact stepX_enter (want1 (j := 3) (b := false) rfl d3) (xcall2 (u := .int .u8 26) (v := .slice (some ⟨g5, 0, none⟩) 1 1) rfl rfl e5 (en_louvrelaw15_of _ _)) ((of15_ok 26 g5 c [] ww mx (HM.kept (ow34.keep hk).kept) (rowObj_row h5) (fine_cons Fc fine_nil) (by simp) (by omega) (by omega) (by simp [lo15]) (by simp [hi15])).mono fun _ _ ⟨he, hk2⟩ => ⟨_, he, congrArg aggV (logic_iserror c), hk2⟩) rfl
    | 7, ho, hi =>
      cases ho
      have d3 : aa.eval (.tmp 100) = .bool false := depX hd 3 rfl
      exact stepX_enter (want1 (j := 3) (b := false) rfl d3) (xcall1 (u := .bool false) rfl rfl (en_louvrelaw15_truth _ _)) ((truth15_any false ww).mono fun _ _ ⟨he, hk2⟩ => ⟨_, he, rfl, hk2⟩) rfl
    | 8, ho, hi =>
      cases ho
      have d6 : aa.eval (.tmp 103) = aggV (vTruth (isE c)) := depX hd 6 rfl
      have d7 : aa.eval (.tmp 104) = aggV (vTruth false) := depX hd 7 rfl
      have d3 : aa.eval (.tmp 100) = .bool false := depX hd 3 rfl
      exact stepX_same (v := .bool (!sameV (vTruth (isE c)) (vTruth false))) (want1 (j := 3) (b := false) rfl d3) (xnev rfl d6 d7) (congrArg Value.bool (by rw [show sameV (vTruth (isE c)) (vTruth false) = true from sameV_of (congrArg vTruth nc)]; rfl)) rfl
    | 9, ho, hi =>
      cases ho
      have d3 : aa.eval (.tmp 100) = .bool false := depX hd 3 rfl
      have d8 : aa.eval (.tmp 105) = .bool false := depX hd 8 rfl
      exact stepX_same (v := .bool false) (want0 rfl) (xpickF rfl d3 d8) rfl rfl
    | i + 10, ho, hi => exact absurd hi (by omega)
  have zfa22 : fa22.tmps.size = 164 := bs.size.trans zfa19
  have dffa22 : fa22.defers = [] := bs.defers.trans dffa19
  have ow37 := ow34.keep hk
  have s106_fa22 : fa22.eval (.tmp 106) = .bool false := hv 9 (by decide)
  have s3_fa22 : fa22.eval (.tmp 3) = .pointer (some ⟨gb2, 0, none⟩) := bs.get 3 rfl s3_fa19
  have s4_fa22 : fa22.eval (.tmp 4) = .pointer (some ⟨gb3, 0, none⟩) := bs.get 4 rfl s4_fa19
  have s5_fa22 : fa22.eval (.tmp 5) = .pointer (some ⟨gb4, 0, none⟩) := bs.get 5 rfl s5_fa19
  have s6_fa22 : fa22.eval (.tmp 6) = .pointer (some ⟨gb5, 0, none⟩) := bs.get 6 rfl s6_fa19
  have s7_fa22 : fa22.eval (.tmp 7) = .pointer (some ⟨gb6, 0, none⟩) := bs.get 7 rfl s7_fa19
  clear hv ap bs hk
  refine wl_nil (fun fr u => fr.tmps.size = 164 ∧ fr.defers = [] ∧ Own w [Th.obj gb7 (.cells #[.int .u8 r30.k, .int .i64 r30.n, .string ⟨r30.t.toArray⟩] 35 (0, 0)), Th.obj gb6 (.cells #[.int .u8 r25.k, .int .i64 r25.n, .string ⟨r25.t.toArray⟩] 35 (0, 0)), Th.obj gb5 (.cells #[.int .u8 r20.k, .int .i64 r20.n, .string ⟨r20.t.toArray⟩] 35 (0, 0)), Th.obj gb4 (.cells #[.int .u8 b.k, .int .i64 b.n, .string ⟨b.t.toArray⟩] 35 (0, 0)), Th.obj gb3 (.cells #[.int .u8 a.k, .int .i64 a.n, .string ⟨a.t.toArray⟩] 35 (0, 0)), Th.obj gb2 (.cells #[.int .u8 c.k, .int .i64 c.n, .string ⟨c.t.toArray⟩] 35 (0, 0)), Th.obj gb1 (.cells #[.int .u8 x0.k, .int .i64 x0.n, .string ⟨x0.t.toArray⟩, .int .u8 y0.k, .int .i64 y0.n, .string ⟨y0.t.toArray⟩, .int .u8 z0.k, .int .i64 z0.n, .string ⟨z0.t.toArray⟩] 49 (0, 0))] u ∧ fr.eval (.tmp 106) = .bool false ∧ fr.eval (.tmp 3) = .pointer (some ⟨gb2, 0, none⟩) ∧ fr.eval (.tmp 4) = .pointer (some ⟨gb3, 0, none⟩) ∧ fr.eval (.tmp 5) = .pointer (some ⟨gb4, 0, none⟩) ∧ fr.eval (.tmp 6) = .pointer (some ⟨gb5, 0, none⟩) ∧ fr.eval (.tmp 7) = .pointer (some ⟨gb6, 0, none⟩)) ⟨zfa22, dffa22, ow37, s106_fa22, s3_fa22, s4_fa22, s5_fa22, s6_fa22, s7_fa22⟩ ?_
  rintro fa23 fw23 ⟨zfa23, dffa23, ow38, s106_fa23, s3_fa23, s4_fa23, s5_fa23, s6_fa23, s7_fa23⟩
  refine then_n (hK15 _ _ ?_)
  try clear hK15 K15
  refine wp_cond_false (s106_fa23) ?_
  refine wp_skip ?_
  refine then_n (hK14 _ _ ?_)
  try clear hK14 K14
  refine wp_seq_k fun K16 hK16 => ?_
  refine wp_seq_k fun K17 hK17 => ?_
  refine region_sx [yV (.pointer (some ⟨gb3, 0, none⟩)), yV (.int .u8 a.k), yV (.bool (decide ((a.k : Int) = (4 : Int)))), yV (.bool (decide ((a.k : Int) = (4 : Int)))), yIf ((decide ((a.k : Int) = (4 : Int))) = false) (yV (.pointer (some ⟨gb4, 0, none⟩))), yIf ((decide ((a.k : Int) = (4 : Int))) = false) (yV (.int .u8 b.k)), yIf ((decide ((a.k : Int) = (4 : Int))) = false) (yV (.bool (decide ((b.k : Int) = (4 : Int))))), yV (.bool ((decide ((a.k : Int) = (4 : Int))) || (decide ((b.k : Int) = (4 : Int)))))] 8 164 (by kernel_rfl) zfa23 (by kernel_rfl) (by kernel_rfl) (fun i o ho hi aa ww hk bs hd => ?_) (fun fa24 fw24 hk bs hv ap => ?_)
  · match i, ho, hi with
    | 0, ho, hi =>
      cases ho
      exact stepX_same (v := .pointer (some ⟨gb3, 0, none⟩)) (want0 rfl) (xfieldAddr rfl (bs.get 4 rfl s4_fa23) (by kernel_rfl)) rfl rfl
    | 1, ho, hi =>
      cases ho
      have d0 : aa.eval (.tmp 107) = .pointer (some ⟨gb3, 0, none⟩) := depX hd 0 rfl
      exact stepX_same (v := .int .u8 a.k) (want0 rfl) (xloadB rfl (by kernel_rfl) d0 ((ow38.keep hk).box 4 rfl) rfl) rfl rfl
    | 2, ho, hi =>
      cases ho
      have d1 : aa.eval (.tmp 108) = .int .u8 a.k := depX hd 1 rfl
      exact stepX_same (v := .bool (decide ((a.k : Int) = (4 : Int)))) (want0 rfl) (xeqi rfl d1 rfl) rfl rfl
    | 3, ho, hi =>
      cases ho
      have d2 : aa.eval (.tmp 109) = .bool (decide ((a.k : Int) = (4 : Int))) := depX hd 2 rfl
      exact stepX_same (v := .bool (decide ((a.k : Int) = (4 : Int)))) (want0 rfl) (xmove rfl d2) rfl rfl
    | 4, ho, hi =>
      cases ho
      have d3 : aa.eval (.tmp 110) = .bool (decide ((a.k : Int) = (4 : Int))) := depX hd 3 rfl
      by_cases hz : (decide ((a.k : Int) = (4 : Int))) = false
      · exact stepX_same (v := .pointer (some ⟨gb4, 0, none⟩)) (want1 (j := 3) (b := false) rfl (d3.trans (congrArg Value.bool hz))) (xfieldAddr rfl (bs.get 5 rfl s5_fa23) (by kernel_rfl)) (fun _ => rfl) rfl
      · exact stepX_skip (wantN (j := 3) (b := false) (b' := true) rfl (d3.trans (congrArg Value.bool (by simpa using hz))) rfl) (fun c => absurd c hz) rfl
    | 5, ho, hi =>
      cases ho
      have d4 : (decide ((a.k : Int) = (4 : Int))) = false → aa.eval (.tmp 111) = .pointer (some ⟨gb4, 0, none⟩) := depX hd 4 rfl
      have d3 : aa.eval (.tmp 110) = .bool (decide ((a.k : Int) = (4 : Int))) := depX hd 3 rfl
      by_cases hz : (decide ((a.k : Int) = (4 : Int))) = false
      · exact stepX_same (v := .int .u8 b.k) (want1 (j := 3) (b := false) rfl (d3.trans (congrArg Value.bool hz))) (xloadB rfl (by kernel_rfl) (d4 hz) ((ow38.keep hk).box 3 rfl) rfl) (fun _ => rfl) rfl
      · exact stepX_skip (wantN (j := 3) (b := false) (b' := true) rfl (d3.trans (congrArg Value.bool (by simpa using hz))) rfl) (fun c => absurd c hz) rfl
    | 6, ho, hi =>
      cases ho
      have d5 : (decide ((a.k : Int) = (4 : Int))) = false → aa.eval (.tmp 112) = .int .u8 b.k := depX hd 5 rfl
      have d3 : aa.eval (.tmp 110) = .bool (decide ((a.k : Int) = (4 : Int))) := depX hd 3 rfl
      by_cases hz : (decide ((a.k : Int) = (4 : Int))) = false
      · exact stepX_same (v := .bool (decide ((b.k : Int) = (4 : Int)))) (want1 (j := 3) (b := false) rfl (d3.trans (congrArg Value.bool hz))) (xeqi rfl (d5 hz) rfl) (fun _ => rfl) rfl
      · exact stepX_skip (wantN (j := 3) (b := false) (b' := true) rfl (d3.trans (congrArg Value.bool (by simpa using hz))) rfl) (fun c => absurd c hz) rfl
    | 7, ho, hi =>
      cases ho
      have d3 : aa.eval (.tmp 110) = .bool (decide ((a.k : Int) = (4 : Int))) := depX hd 3 rfl
      have d6 : (decide ((a.k : Int) = (4 : Int))) = false → aa.eval (.tmp 113) = .bool (decide ((b.k : Int) = (4 : Int))) := depX hd 6 rfl
      exact stepX_same (v := .bool ((decide ((a.k : Int) = (4 : Int))) || (decide ((b.k : Int) = (4 : Int))))) (want0 rfl) (xor_ rfl d3 rfl d6) rfl rfl
    | i + 8, ho, hi => exact absurd hi (by omega)
  have zfa24 : fa24.tmps.size = 164 := bs.size.trans zfa23
  have dffa24 : fa24.defers = [] := bs.defers.trans dffa23
  have ow39 := ow38.keep hk
  have s114_fa24 : fa24.eval (.tmp 114) = .bool ((decide ((a.k : Int) = (4 : Int))) || (decide ((b.k : Int) = (4 : Int)))) := hv 7 (by decide)
  have s3_fa24 : fa24.eval (.tmp 3) = .pointer (some ⟨gb2, 0, none⟩) := bs.get 3 rfl s3_fa23
  have s4_fa24 : fa24.eval (.tmp 4) = .pointer (some ⟨gb3, 0, none⟩) := bs.get 4 rfl s4_fa23
  have s5_fa24 : fa24.eval (.tmp 5) = .pointer (some ⟨gb4, 0, none⟩) := bs.get 5 rfl s5_fa23
  have s6_fa24 : fa24.eval (.tmp 6) = .pointer (some ⟨gb5, 0, none⟩) := bs.get 6 rfl s6_fa23
  have s7_fa24 : fa24.eval (.tmp 7) = .pointer (some ⟨gb6, 0, none⟩) := bs.get 7 rfl s7_fa23
  clear hv ap bs hk
  refine wl_nil (fun fr u => fr.tmps.size = 164 ∧ fr.defers = [] ∧ Own w [Th.obj gb7 (.cells #[.int .u8 r30.k, .int .i64 r30.n, .string ⟨r30.t.toArray⟩] 35 (0, 0)), Th.obj gb6 (.cells #[.int .u8 r25.k, .int .i64 r25.n, .string ⟨r25.t.toArray⟩] 35 (0, 0)), Th.obj gb5 (.cells #[.int .u8 r20.k, .int .i64 r20.n, .string ⟨r20.t.toArray⟩] 35 (0, 0)), Th.obj gb4 (.cells #[.int .u8 b.k, .int .i64 b.n, .string ⟨b.t.toArray⟩] 35 (0, 0)), Th.obj gb3 (.cells #[.int .u8 a.k, .int .i64 a.n, .string ⟨a.t.toArray⟩] 35 (0, 0)), Th.obj gb2 (.cells #[.int .u8 c.k, .int .i64 c.n, .string ⟨c.t.toArray⟩] 35 (0, 0)), Th.obj gb1 (.cells #[.int .u8 x0.k, .int .i64 x0.n, .string ⟨x0.t.toArray⟩, .int .u8 y0.k, .int .i64 y0.n, .string ⟨y0.t.toArray⟩, .int .u8 z0.k, .int .i64 z0.n, .string ⟨z0.t.toArray⟩] 49 (0, 0))] u ∧ fr.eval (.tmp 114) = .bool ((decide ((a.k : Int) = (4 : Int))) || (decide ((b.k : Int) = (4 : Int)))) ∧ fr.eval (.tmp 3) = .pointer (some ⟨gb2, 0, none⟩) ∧ fr.eval (.tmp 4) = .pointer (some ⟨gb3, 0, none⟩) ∧ fr.eval (.tmp 5) = .pointer (some ⟨gb4, 0, none⟩) ∧ fr.eval (.tmp 6) = .pointer (some ⟨gb5, 0, none⟩) ∧ fr.eval (.tmp 7) = .pointer (some ⟨gb6, 0, none⟩)) ⟨zfa24, dffa24, ow39, s114_fa24, s3_fa24, s4_fa24, s5_fa24, s6_fa24, s7_fa24⟩ ?_
  rintro fa25 fw25 ⟨zfa25, dffa25, ow40, s114_fa25, s3_fa25, s4_fa25, s5_fa25, s6_fa25, s7_fa25⟩
  refine then_n (hK17 _ _ ?_)
  try clear hK17 K17
  by_cases hc3 : ((decide ((a.k : Int) = (4 : Int))) || (decide ((b.k : Int) = (4 : Int)))) = true
  · refine wp_cond_true (s114_fa25.trans (congrArg Value.bool (hc3))) ?_
    have k20 : decide ((r20.k : Int) = (4 : Int)) = true := by rw [isE_dec, ← e20]; rw [isE_dec, isE_dec, Bool.or_eq_true] at hc3; exact if_fails c a b nc hc3
    refine wp_seq_k fun K18 hK18 => ?_
    refine region_sx [yV (.pointer (some ⟨gb5, 0, none⟩)), yV (.int .u8 r20.k), yV (.bool true), yV (.bool true), yV (.bool true), yV (.bool true), yV (.bool true)] 7 164 (by kernel_rfl) zfa25 (by kernel_rfl) (by kernel_rfl) (fun i o ho hi aa ww hk bs hd => ?_) (fun fa26 fw26 hk bs hv ap => ?_)
    · match i, ho, hi with
      | 0, ho, hi =>
        cases ho
        exact stepX_same (v := .pointer (some ⟨gb5, 0, none⟩)) (want0 rfl) (xfieldAddr rfl (bs.get 6 rfl s6_fa25) (by kernel_rfl)) rfl rfl
      | 1, ho, hi =>
        cases ho
        have d0 : aa.eval (.tmp 115) = .pointer (some ⟨gb5, 0, none⟩) := depX hd 0 rfl
        exact stepX_same (v := .int .u8 r20.k) (want0 rfl) (xloadB rfl (by kernel_rfl) d0 ((ow40.keep hk).box 2 rfl) rfl) rfl rfl
      | 2, ho, hi =>
        cases ho
        have d1 : aa.eval (.tmp 116) = .int .u8 r20.k := depX hd 1 rfl
        exact stepX_same (v := .bool (decide ((r20.k : Int) = (4 : Int)))) (want0 rfl) (xeqi rfl d1 rfl) (congrArg Value.bool k20) rfl
      | 3, ho, hi =>
        cases ho
        have d2 : aa.eval (.tmp 117) = .bool true := depX hd 2 rfl
        exact stepX_same (v := .bool true) (want0 rfl) (xmove rfl d2) rfl rfl
      | 4, ho, hi =>
        cases ho
        have d3 : aa.eval (.tmp 118) = .bool true := depX hd 3 rfl
        exact stepX_enter (want1 (j := 3) (b := true) rfl d3) (xcall0 rfl (en_louvrelaw15_awake _ _)) ((awake15_any ww mx (HM.kept (ow40.keep hk).kept)).mono fun _ _ ⟨he, hk2⟩ => ⟨_, he, rfl, hk2⟩) rfl
      | 5, ho, hi =>
        cases ho
        have d3 : aa.eval (.tmp 118) = .bool true := depX hd 3 rfl
        have d4 : aa.eval (.tmp 119) = .bool true := depX hd 4 rfl
        exact stepX_same (v := .bool true) (want0 rfl) (xpickT rfl d3 d4) rfl rfl
      | 6, ho, hi =>
        cases ho
        have d5 : aa.eval (.tmp 120) = .bool true := depX hd 5 rfl
        exact stepX_same (v := .bool true) (want0 rfl) (xassign rfl d5) rfl rfl
      | i + 7, ho, hi => exact absurd hi (by omega)
    have zfa26 : fa26.tmps.size = 164 := bs.size.trans zfa25
    have dffa26 : fa26.defers = [] := bs.defers.trans dffa25
    have ow41 := ow40.keep hk
    have s2_fa26 : fa26.eval (.tmp 2) = .bool true := hv 6 (by decide)
    have s3_fa26 : fa26.eval (.tmp 3) = .pointer (some ⟨gb2, 0, none⟩) := bs.get 3 rfl s3_fa25
    have s4_fa26 : fa26.eval (.tmp 4) = .pointer (some ⟨gb3, 0, none⟩) := bs.get 4 rfl s4_fa25
    have s5_fa26 : fa26.eval (.tmp 5) = .pointer (some ⟨gb4, 0, none⟩) := bs.get 5 rfl s5_fa25
    have s6_fa26 : fa26.eval (.tmp 6) = .pointer (some ⟨gb5, 0, none⟩) := bs.get 6 rfl s6_fa25
    have s7_fa26 : fa26.eval (.tmp 7) = .pointer (some ⟨gb6, 0, none⟩) := bs.get 7 rfl s7_fa25
    clear hv ap bs hk
    refine wl_nil (fun fr u => fr.tmps.size = 164 ∧ fr.defers = [] ∧ Own w [Th.obj gb7 (.cells #[.int .u8 r30.k, .int .i64 r30.n, .string ⟨r30.t.toArray⟩] 35 (0, 0)), Th.obj gb6 (.cells #[.int .u8 r25.k, .int .i64 r25.n, .string ⟨r25.t.toArray⟩] 35 (0, 0)), Th.obj gb5 (.cells #[.int .u8 r20.k, .int .i64 r20.n, .string ⟨r20.t.toArray⟩] 35 (0, 0)), Th.obj gb4 (.cells #[.int .u8 b.k, .int .i64 b.n, .string ⟨b.t.toArray⟩] 35 (0, 0)), Th.obj gb3 (.cells #[.int .u8 a.k, .int .i64 a.n, .string ⟨a.t.toArray⟩] 35 (0, 0)), Th.obj gb2 (.cells #[.int .u8 c.k, .int .i64 c.n, .string ⟨c.t.toArray⟩] 35 (0, 0)), Th.obj gb1 (.cells #[.int .u8 x0.k, .int .i64 x0.n, .string ⟨x0.t.toArray⟩, .int .u8 y0.k, .int .i64 y0.n, .string ⟨y0.t.toArray⟩, .int .u8 z0.k, .int .i64 z0.n, .string ⟨z0.t.toArray⟩] 49 (0, 0))] u ∧ fr.eval (.tmp 2) = .bool true ∧ fr.eval (.tmp 3) = .pointer (some ⟨gb2, 0, none⟩) ∧ fr.eval (.tmp 4) = .pointer (some ⟨gb3, 0, none⟩) ∧ fr.eval (.tmp 5) = .pointer (some ⟨gb4, 0, none⟩) ∧ fr.eval (.tmp 6) = .pointer (some ⟨gb5, 0, none⟩) ∧ fr.eval (.tmp 7) = .pointer (some ⟨gb6, 0, none⟩)) ⟨zfa26, dffa26, ow41, s2_fa26, s3_fa26, s4_fa26, s5_fa26, s6_fa26, s7_fa26⟩ ?_
    rintro fa27 fw27 ⟨zfa27, dffa27, ow42, s2_fa27, s3_fa27, s4_fa27, s5_fa27, s6_fa27, s7_fa27⟩
    refine then_n (hK18 _ _ ?_)
    try clear hK18 K18
    refine wp_ret ?_
    refine then_r ?_
    refine results1 rfl s2_fa27 dffa27 ?_
    exact ⟨rfl, ow42.kept⟩
  refine wp_cond_false (s114_fa25.trans (congrArg Value.bool (Bool.eq_false_iff.2 hc3))) ?_
  have nab := hc3
  refine wp_skip ?_
  refine then_n (hK16 _ _ ?_)
  try clear hK16 K16
  refine wp_seq_k fun K19 hK19 => ?_
  have na : isE a = false := by rw [← isE_dec]; exact decide_eq_false fun h => nab (by rw [decide_eq_true h]; rfl)
  have nb : isE b = false := by rw [← isE_dec]; exact decide_eq_false fun h => nab (by rw [decide_eq_true h, Bool.or_true])
  obtain ⟨r24, e24⟩ : ∃ r, vLogic 24 c [] = r := ⟨_, rfl⟩
  have NC := not_choose nc na nb
  rw [e20, e24] at NC
  refine region_sx [yV (aggV c), ySlice fw25.heap.size 1 (rowObj [c]), yV (aggV r24), yNew fw25.heap.size (.cells #[.int .u8 0, .int .i64 0, .string ⟨[].toArray⟩] 35 (0, 0))] 4 164 (by kernel_rfl) zfa25 (by kernel_rfl) (by kernel_rfl) (fun i o ho hi aa ww hk bs hd => ?_) (fun fa28 fw28 hk bs hv ap => ?_)
  · match i, ho, hi with
    | 0, ho, hi =>
      cases ho
      exact stepX_same (v := aggV c) (want0 rfl) (xloadN 3 (vs := [.int .u8 c.k, .int .i64 c.n, .string ⟨c.t.toArray⟩]) rfl (by kernel_rfl) (by kernel_rfl) (bs.get 3 rfl s3_fa25) ((ow40.keep hk).box 5 rfl) (Nat.le_of_ble_eq_true rfl) rfl) rfl rfl
    | 1, ho, hi =>
      cases ho
      have d0 : aa.eval (.tmp 121) = aggV c := depX hd 0 rfl
      exact stepX_new _ (want0 rfl) (xrow1 rfl d0) ⟨_, rfl, hk.size, Go.heap_alloc_new _ _⟩ ((Kept.refl _).alloc _) rfl (Nat.le_refl _)
    | 2, ho, hi =>
      cases ho
      have d1 : ∃ g, aa.eval (.tmp 122) = .slice (some ⟨g, 0, none⟩) 1 1 ∧ fw25.heap.size ≤ g ∧ ww.heap[g]? = some (rowObj [c]) := depX hd 1 rfl
      obtain ⟨g1, e1, _, h1⟩ := d1
      exact stepX_enter (want0 rfl) (xcall2 (u := .int .u8 24) (v := .slice (some ⟨g1, 0, none⟩) 1 1) rfl rfl e1 (en_louvrelaw15_of _ _)) ((of15_ok 24 g1 c [] ww mx (HM.kept (ow40.keep hk).kept) (rowObj_row h1) (fine_cons Fc fine_nil) (by simp) (by omega) (by omega) (by simp [lo15]) (by simp [hi15])).mono fun _ _ ⟨he, hk2⟩ => ⟨_, he, congrArg aggV e24, hk2⟩) rfl
    | 3, ho, hi =>
      cases ho
      exact stepX_new _ (want0 rfl) (xalloc (b := .cells #[.int .u8 0, .int .i64 0, .string ⟨[].toArray⟩] 35 (0, 0)) rfl (by kernel_rfl)) ⟨_, rfl, hk.size, Go.heap_alloc_new _ _⟩ ((Kept.refl _).alloc _) rfl (Nat.le_refl _)
    | i + 4, ho, hi => exact absurd hi (by omega)
  have zfa28 : fa28.tmps.size = 164 := bs.size.trans zfa25
  have dffa28 : fa28.defers = [] := bs.defers.trans dffa25
  have ow43 := ow40.keep hk
  have s123_fa28 : fa28.eval (.tmp 123) = aggV r24 := hv 2 (by decide)
  obtain ⟨gb9, qgb9, bgb9, hgb9⟩ := hv 3 (by decide)
  have ow44 := ow43.cons hgb9 (Nat.le_trans ow40.kept.size bgb9) (ow40.below bgb9)
  have s11_fa28 : fa28.eval (.tmp 11) = .pointer (some ⟨gb9, 0, none⟩) := qgb9
  have s3_fa28 : fa28.eval (.tmp 3) = .pointer (some ⟨gb2, 0, none⟩) := bs.get 3 rfl s3_fa25
  have s4_fa28 : fa28.eval (.tmp 4) = .pointer (some ⟨gb3, 0, none⟩) := bs.get 4 rfl s4_fa25
  have s5_fa28 : fa28.eval (.tmp 5) = .pointer (some ⟨gb4, 0, none⟩) := bs.get 5 rfl s5_fa25
  have s6_fa28 : fa28.eval (.tmp 6) = .pointer (some ⟨gb5, 0, none⟩) := bs.get 6 rfl s6_fa25
  have s7_fa28 : fa28.eval (.tmp 7) = .pointer (some ⟨gb6, 0, none⟩) := bs.get 7 rfl s7_fa25
  clear hv ap bs hk
  refine wl_skip (want0 rfl) rfl (xstoreN (off := 0) rfl s11_fa28 s123_fa28 (by kernel_rfl) (ow44.box 0 rfl) rfl (Nat.le_of_ble_eq_true rfl)) ?_
  have ow45 : Own w [Th.obj gb9 (.cells #[.int .u8 r24.k, .int .i64 r24.n, .string ⟨r24.t.toArray⟩] 35 (0, 0)), Th.obj gb7 (.cells #[.int .u8 r30.k, .int .i64 r30.n, .string ⟨r30.t.toArray⟩] 35 (0, 0)), Th.obj gb6 (.cells #[.int .u8 r25.k, .int .i64 r25.n, .string ⟨r25.t.toArray⟩] 35 (0, 0)), Th.obj gb5 (.cells #[.int .u8 r20.k, .int .i64 r20.n, .string ⟨r20.t.toArray⟩] 35 (0, 0)), Th.obj gb4 (.cells #[.int .u8 b.k, .int .i64 b.n, .string ⟨b.t.toArray⟩] 35 (0, 0)), Th.obj gb3 (.cells #[.int .u8 a.k, .int .i64 a.n, .string ⟨a.t.toArray⟩] 35 (0, 0)), Th.obj gb2 (.cells #[.int .u8 c.k, .int .i64 c.n, .string ⟨c.t.toArray⟩] 35 (0, 0)), Th.obj gb1 (.cells #[.int .u8 x0.k, .int .i64 x0.n, .string ⟨x0.t.toArray⟩, .int .u8 y0.k, .int .i64 y0.n, .string ⟨y0.t.toArray⟩, .int .u8 z0.k, .int .i64 z0.n, .string ⟨z0.t.toArray⟩] 49 (0, 0))] _ := ow44.put 0 rfl 0 [.int .u8 r24.k, .int .i64 r24.n, .string ⟨r24.t.toArray⟩]
  refine wl_nil (fun fr u => fr.tmps.size = 164 ∧ fr.defers = [] ∧ Own w [Th.obj gb9 (.cells #[.int .u8 r24.k, .int .i64 r24.n, .string ⟨r24.t.toArray⟩] 35 (0, 0)), Th.obj gb7 (.cells #[.int .u8 r30.k, .int .i64 r30.n, .string ⟨r30.t.toArray⟩] 35 (0, 0)), Th.obj gb6 (.cells #[.int .u8 r25.k, .int .i64 r25.n, .string ⟨r25.t.toArray⟩] 35 (0, 0)), Th.obj gb5 (.cells #[.int .u8 r20.k, .int .i64 r20.n, .string ⟨r20.t.toArray⟩] 35 (0, 0)), Th.obj gb4 (.cells #[.int .u8 b.k, .int .i64 b.n, .string ⟨b.t.toArray⟩] 35 (0, 0)), Th.obj gb3 (.cells #[.int .u8 a.k, .int .i64 a.n, .string ⟨a.t.toArray⟩] 35 (0, 0)), Th.obj gb2 (.cells #[.int .u8 c.k, .int .i64 c.n, .string ⟨c.t.toArray⟩] 35 (0, 0)), Th.obj gb1 (.cells #[.int .u8 x0.k, .int .i64 x0.n, .string ⟨x0.t.toArray⟩, .int .u8 y0.k, .int .i64 y0.n, .string ⟨y0.t.toArray⟩, .int .u8 z0.k, .int .i64 z0.n, .string ⟨z0.t.toArray⟩] 49 (0, 0))] u ∧ fr.eval (.tmp 11) = .pointer (some ⟨gb9, 0, none⟩) ∧ fr.eval (.tmp 3) = .pointer (some ⟨gb2, 0, none⟩) ∧ fr.eval (.tmp 4) = .pointer (some ⟨gb3, 0, none⟩) ∧ fr.eval (.tmp 5) = .pointer (some ⟨gb4, 0, none⟩) ∧ fr.eval (.tmp 6) = .pointer (some ⟨gb5, 0, none⟩) ∧ fr.eval (.tmp 7) = .pointer (some ⟨gb6, 0, none⟩)) ⟨zfa28, dffa28, ow45, s11_fa28, s3_fa28, s4_fa28, s5_fa28, s6_fa28, s7_fa28⟩ ?_
  rintro fa29 fw29 ⟨zfa29, dffa29, ow46, s11_fa29, s3_fa29, s4_fa29, s5_fa29, s6_fa29, s7_fa29⟩
  refine then_n (hK19 _ _ ?_)
  try clear hK19 K19
  refine wp_seq_k fun K20 hK20 => ?_
  refine wp_seq_k fun K21 hK21 => ?_
  refine region_sx [yV (.pointer (some ⟨gb9, 0, none⟩)), yV (.int .u8 r24.k), yV (.bool (decide ((r24.k : Int) = (4 : Int))))] 3 164 (by kernel_rfl) zfa29 (by kernel_rfl) (by kernel_rfl) (fun i o ho hi aa ww hk bs hd => ?_) (fun fa30 fw30 hk bs hv ap => ?_)
  · match i, ho, hi with
    | 0, ho, hi =>
      cases ho
      exact stepX_same (v := .pointer (some ⟨gb9, 0, none⟩)) (want0 rfl) (xfieldAddr rfl (bs.get 11 rfl s11_fa29) (by kernel_rfl)) rfl rfl
    | 1, ho, hi =>
      cases ho
      have d0 : aa.eval (.tmp 124) = .pointer (some ⟨gb9, 0, none⟩) := depX hd 0 rfl
      exact stepX_same (v := .int .u8 r24.k) (want0 rfl) (xloadB rfl (by kernel_rfl) d0 ((ow46.keep hk).box 0 rfl) rfl) rfl rfl
    | 2, ho, hi =>
      cases ho
      have d1 : aa.eval (.tmp 125) = .int .u8 r24.k := depX hd 1 rfl
      exact stepX_same (v := .bool (decide ((r24.k : Int) = (4 : Int)))) (want0 rfl) (xeqi rfl d1 rfl) rfl rfl
    | i + 3, ho, hi => exact absurd hi (by omega)
  have zfa30 : fa30.tmps.size = 164 := bs.size.trans zfa29
  have dffa30 : fa30.defers = [] := bs.defers.trans dffa29
  have ow47 := ow46.keep hk
  have s126_fa30 : fa30.eval (.tmp 126) = .bool (decide ((r24.k : Int) = (4 : Int))) := hv 2 (by decide)
  have s11_fa30 : fa30.eval (.tmp 11) = .pointer (some ⟨gb9, 0, none⟩) := bs.get 11 rfl s11_fa29
  have s3_fa30 : fa30.eval (.tmp 3) = .pointer (some ⟨gb2, 0, none⟩) := bs.get 3 rfl s3_fa29
  have s4_fa30 : fa30.eval (.tmp 4) = .pointer (some ⟨gb3, 0, none⟩) := bs.get 4 rfl s4_fa29
  have s5_fa30 : fa30.eval (.tmp 5) = .pointer (some ⟨gb4, 0, none⟩) := bs.get 5 rfl s5_fa29
  have s6_fa30 : fa30.eval (.tmp 6) = .pointer (some ⟨gb5, 0, none⟩) := bs.get 6 rfl s6_fa29
  have s7_fa30 : fa30.eval (.tmp 7) = .pointer (some ⟨gb6, 0, none⟩) := bs.get 7 rfl s7_fa29
  clear hv ap bs hk
  refine wl_nil (fun fr u => fr.tmps.size = 164 ∧ fr.defers = [] ∧ Own w [Th.obj gb9 (.cells #[.int .u8 r24.k, .int .i64 r24.n, .string ⟨r24.t.toArray⟩] 35 (0, 0)), Th.obj gb7 (.cells #[.int .u8 r30.k, .int .i64 r30.n, .string ⟨r30.t.toArray⟩] 35 (0, 0)), Th.obj gb6 (.cells #[.int .u8 r25.k, .int .i64 r25.n, .string ⟨r25.t.toArray⟩] 35 (0, 0)), Th.obj gb5 (.cells #[.int .u8 r20.k, .int .i64 r20.n, .string ⟨r20.t.toArray⟩] 35 (0, 0)), Th.obj gb4 (.cells #[.int .u8 b.k, .int .i64 b.n, .string ⟨b.t.toArray⟩] 35 (0, 0)), Th.obj gb3 (.cells #[.int .u8 a.k, .int .i64 a.n, .string ⟨a.t.toArray⟩] 35 (0, 0)), Th.obj gb2 (.cells #[.int .u8 c.k, .int .i64 c.n, .string ⟨c.t.toArray⟩] 35 (0, 0)), Th.obj gb1 (.cells #[.int .u8 x0.k, .int .i64 x0.n, .string ⟨x0.t.toArray⟩, .int .u8 y0.k, .int .i64 y0.n, .string ⟨y0.t.toArray⟩, .int .u8 z0.k, .int .i64 z0.n, .string ⟨z0.t.toArray⟩] 49 (0, 0))] u ∧ fr.eval (.tmp 126) = .bool (decide ((r24.k : Int) = (4 : Int))) ∧ fr.eval (.tmp 11) = .pointer (some ⟨gb9, 0, none⟩) ∧ fr.eval (.tmp 3) = .pointer (some ⟨gb2, 0, none⟩) ∧ fr.eval (.tmp 4) = .pointer (some ⟨gb3, 0, none⟩) ∧ fr.eval (.tmp 5) = .pointer (some ⟨gb4, 0, none⟩) ∧ fr.eval (.tmp 6) = .pointer (some ⟨gb5, 0, none⟩) ∧ fr.eval (.tmp 7) = .pointer (some ⟨gb6, 0, none⟩)) ⟨zfa30, dffa30, ow47, s126_fa30, s11_fa30, s3_fa30, s4_fa30, s5_fa30, s6_fa30, s7_fa30⟩ ?_
  rintro fa31 fw31 ⟨zfa31, dffa31, ow48, s126_fa31, s11_fa31, s3_fa31, s4_fa31, s5_fa31, s6_fa31, s7_fa31⟩
  refine then_n (hK21 _ _ ?_)
  try clear hK21 K21
  by_cases hc4 : (r24.k : Int) = (4 : Int)
  · refine wp_cond_true (s126_fa31.trans (congrArg Value.bool (decide_eq_true hc4))) ?_
    have k24 : r20 = r24 := by rcases NC with h | h; exact h.2; rw [← isE_dec, decide_eq_true hc4] at h; cases h.1
    refine wp_seq_k fun K22 hK22 => ?_
    refine region_sx [yV (aggV r20), yV (aggV r24), yV (.bool true), yV (.bool true), yV (.bool true), yV (.bool true), yV (.bool true)] 7 164 (by kernel_rfl) zfa31 (by kernel_rfl) (by kernel_rfl) (fun i o ho hi aa ww hk bs hd => ?_) (fun fa32 fw32 hk bs hv ap => ?_)
    · match i, ho, hi with
      | 0, ho, hi =>
        cases ho
        exact stepX_same (v := aggV r20) (want0 rfl) (xloadN 3 (vs := [.int .u8 r20.k, .int .i64 r20.n, .string ⟨r20.t.toArray⟩]) rfl (by kernel_rfl) (by kernel_rfl) (bs.get 6 rfl s6_fa31) ((ow48.keep hk).box 3 rfl) (Nat.le_of_ble_eq_true rfl) rfl) rfl rfl
      | 1, ho, hi =>
        cases ho
        exact stepX_same (v := aggV r24) (want0 rfl) (xloadN 3 (vs := [.int .u8 r24.k, .int .i64 r24.n, .string ⟨r24.t.toArray⟩]) rfl (by kernel_rfl) (by kernel_rfl) (bs.get 11 rfl s11_fa31) ((ow48.keep hk).box 0 rfl) (Nat.le_of_ble_eq_true rfl) rfl) rfl rfl
      | 2, ho, hi =>
        cases ho
        have d0 : aa.eval (.tmp 127) = aggV r20 := depX hd 0 rfl
        have d1 : aa.eval (.tmp 128) = aggV r24 := depX hd 1 rfl
        exact stepX_same (v := .bool (sameV r20 r24)) (want0 rfl) (xeqv rfl d0 d1) (congrArg Value.bool (sameV_of k24)) rfl
      | 3, ho, hi =>
        cases ho
        have d2 : aa.eval (.tmp 129) = .bool true := depX hd 2 rfl
        exact stepX_same (v := .bool true) (want0 rfl) (xmove rfl d2) rfl rfl
      | 4, ho, hi =>
        cases ho
        have d3 : aa.eval (.tmp 130) = .bool true := depX hd 3 rfl
        exact stepX_enter (want1 (j := 3) (b := true) rfl d3) (xcall0 rfl (en_louvrelaw15_awake _ _)) ((awake15_any ww mx (HM.kept (ow48.keep hk).kept)).mono fun _ _ ⟨he, hk2⟩ => ⟨_, he, rfl, hk2⟩) rfl
      | 5, ho, hi =>
        cases ho
        have d3 : aa.eval (.tmp 130) = .bool true := depX hd 3 rfl
        have d4 : aa.eval (.tmp 131) = .bool true := depX hd 4 rfl
        exact stepX_same (v := .bool true) (want0 rfl) (xpickT rfl d3 d4) rfl rfl
      | 6, ho, hi =>
        cases ho
        have d5 : aa.eval (.tmp 132) = .bool true := depX hd 5 rfl
        exact stepX_same (v := .bool true) (want0 rfl) (xassign rfl d5) rfl rfl
      | i + 7, ho, hi => exact absurd hi (by omega)
    have zfa32 : fa32.tmps.size = 164 := bs.size.trans zfa31
    have dffa32 : fa32.defers = [] := bs.defers.trans dffa31
    have ow49 := ow48.keep hk
    have s2_fa32 : fa32.eval (.tmp 2) = .bool true := hv 6 (by decide)
    have s11_fa32 : fa32.eval (.tmp 11) = .pointer (some ⟨gb9, 0, none⟩) := bs.get 11 rfl s11_fa31
    have s3_fa32 : fa32.eval (.tmp 3) = .pointer (some ⟨gb2, 0, none⟩) := bs.get 3 rfl s3_fa31
    have s4_fa32 : fa32.eval (.tmp 4) = .pointer (some ⟨gb3, 0, none⟩) := bs.get 4 rfl s4_fa31
    have s5_fa32 : fa32.eval (.tmp 5) = .pointer (some ⟨gb4, 0, none⟩) := bs.get 5 rfl s5_fa31
    have s6_fa32 : fa32.eval (.tmp 6) = .pointer (some ⟨gb5, 0, none⟩) := bs.get 6 rfl s6_fa31
    have s7_fa32 : fa32.eval (.tmp 7) = .pointer (some ⟨gb6, 0, none⟩) := bs.get 7 rfl s7_fa31
    clear hv ap bs hk
    refine wl_nil (fun fr u => fr.tmps.size = 164 ∧ fr.defers = [] ∧ Own w [Th.obj gb9 (.cells #[.int .u8 r24.k, .int .i64 r24.n, .string ⟨r24.t.toArray⟩] 35 (0, 0)), Th.obj gb7 (.cells #[.int .u8 r30.k, .int .i64 r30.n, .string ⟨r30.t.toArray⟩] 35 (0, 0)), Th.obj gb6 (.cells #[.int .u8 r25.k, .int .i64 r25.n, .string ⟨r25.t.toArray⟩] 35 (0, 0)), Th.obj gb5 (.cells #[.int .u8 r20.k, .int .i64 r20.n, .string ⟨r20.t.toArray⟩] 35 (0, 0)), Th.obj gb4 (.cells #[.int .u8 b.k, .int .i64 b.n, .string ⟨b.t.toArray⟩] 35 (0, 0)), Th.obj gb3 (.cells #[.int .u8 a.k, .int .i64 a.n, .string ⟨a.t.toArray⟩] 35 (0, 0)), Th.obj gb2 (.cells #[.int .u8 c.k, .int .i64 c.n, .string ⟨c.t.toArray⟩] 35 (0, 0)), Th.obj gb1 (.cells #[.int .u8 x0.k, .int .i64 x0.n, .string ⟨x0.t.toArray⟩, .int .u8 y0.k, .int .i64 y0.n, .string ⟨y0.t.toArray⟩, .int .u8 z0.k, .int .i64 z0.n, .string ⟨z0.t.toArray⟩] 49 (0, 0))] u ∧ fr.eval (.tmp 2) = .bool true ∧ fr.eval (.tmp 11) = .pointer (some ⟨gb9, 0, none⟩) ∧ fr.eval (.tmp 3) = .pointer (some ⟨gb2, 0, none⟩) ∧ fr.eval (.tmp 4) = .pointer (some ⟨gb3, 0, none⟩) ∧ fr.eval (.tmp 5) = .pointer (some ⟨gb4, 0, none⟩) ∧ fr.eval (.tmp 6) = .pointer (some ⟨gb5, 0, none⟩) ∧ fr.eval (.tmp 7) = .pointer (some ⟨gb6, 0, none⟩)) ⟨zfa32, dffa32, ow49, s2_fa32, s11_fa32, s3_fa32, s4_fa32, s5_fa32, s6_fa32, s7_fa32⟩ ?_
    rintro fa33 fw33 ⟨zfa33, dffa33, ow50, s2_fa33, s11_fa33, s3_fa33, s4_fa33, s5_fa33, s6_fa33, s7_fa33⟩
    refine then_n (hK22 _ _ ?_)
    try clear hK22 K22
    refine wp_ret ?_
    refine then_r ?_
    refine results1 rfl s2_fa33 dffa33 ?_
    exact ⟨rfl, ow50.kept⟩
  refine wp_cond_false (s126_fa31.trans (congrArg Value.bool (decide_eq_false hc4))) ?_
  obtain ⟨_, F24, D4, D2⟩ := NC.resolve_left (fun h => by rw [← isE_dec, decide_eq_false hc4] at h; cases h.1)
  refine wp_skip ?_
  refine then_n (hK20 _ _ ?_)
  try clear hK20 K20
  refine wp_seq_k fun K23 hK23 => ?_
  refine region_sx [yV (aggV r24), yV (aggV b), yV (aggV a), ySlice fw31.heap.size 3 (rowObj [r24, b, a]), yV (aggV r20), yV (aggV r20), yV (.bool true), yV (.bool true), yV (aggV r20), yV (aggV a), yV (.bool (sameV r20 a)), yV (.bool (sameV r20 a)), yIf ((sameV r20 a) = false) (yV (aggV r20)), yIf ((sameV r20 a) = false) (yV (aggV b)), yIf ((sameV r20 a) = false) (yV (.bool true)), yV (.bool true), yV (.bool true), yV (.bool true), yV (aggV c), ySlice fw31.heap.size 1 (rowObj [c]), yV (aggV (vTruth false)), yV (aggV a), yV (aggV c), ySlice fw31.heap.size 3 (rowObj [vTruth false, a, c]), yV (aggV c), yV (aggV r25), yV (.bool true), yV (.bool true), yV (.bool true), yV (.bool true), yV (.bool true), yV (.bool true)] 32 164 (by kernel_rfl) zfa31 (by kernel_rfl) (by kernel_rfl) (fun i o ho hi aa ww hk bs hd => ?_) (fun fa34 fw34 hk bs hv ap => ?_)
  · match i, ho, hi with
    | 0, ho, hi =>
      cases ho
      exact stepX_same (v := aggV r24) (want0 rfl) (xloadN 3 (vs := [.int .u8 r24.k, .int .i64 r24.n, .string ⟨r24.t.toArray⟩]) rfl (by kernel_rfl) (by kernel_rfl) (bs.get 11 rfl s11_fa31) ((ow48.keep hk).box 0 rfl) (Nat.le_of_ble_eq_true rfl) rfl) rfl rfl
    | 1, ho, hi =>
      cases ho
      exact stepX_same (v := aggV b) (want0 rfl) (xloadN 3 (vs := [.int .u8 b.k, .int .i64 b.n, .string ⟨b.t.toArray⟩]) rfl (by kernel_rfl) (by kernel_rfl) (bs.get 5 rfl s5_fa31) ((ow48.keep hk).box 4 rfl) (Nat.le_of_ble_eq_true rfl) rfl) rfl rfl
    | 2, ho, hi =>
      cases ho
      exact stepX_same (v := aggV a) (want0 rfl) (xloadN 3 (vs := [.int .u8 a.k, .int .i64 a.n, .string ⟨a.t.toArray⟩]) rfl (by kernel_rfl) (by kernel_rfl) (bs.get 4 rfl s4_fa31) ((ow48.keep hk).box 5 rfl) (Nat.le_of_ble_eq_true rfl) rfl) rfl rfl
    | 3, ho, hi =>
      cases ho
      have d0 : aa.eval (.tmp 133) = aggV r24 := depX hd 0 rfl
      have d1 : aa.eval (.tmp 134) = aggV b := depX hd 1 rfl
      have d2 : aa.eval (.tmp 135) = aggV a := depX hd 2 rfl
      exact stepX_new _ (want0 rfl) (xrow3 rfl d0 d1 d2) ⟨_, rfl, hk.size, Go.heap_alloc_new _ _⟩ ((Kept.refl _).alloc _) rfl (Nat.le_refl _)
    | 4, ho, hi =>
      cases ho
      have d3 : ∃ g, aa.eval (.tmp 136) = .slice (some ⟨g, 0, none⟩) 3 3 ∧ fw31.heap.size ≤ g ∧ ww.heap[g]? = some (rowObj [r24, b, a]) := depX hd 3 rfl
      obtain ⟨g3, e3, _, h3⟩ := d3
      exact stepX_enter (want0 rfl) (xcall2 (u := .int .u8 20) (v := .slice (some ⟨g3, 0, none⟩) 3 3) rfl rfl e3 (en_louvrelaw15_of _ _)) ((of15_ok 20 g3 r24 [b, a] ww mx (HM.kept (ow48.keep hk).kept) (rowObj_row h3) (fine_cons F24 (fine_cons Fb (fine_cons Fa fine_nil))) (by simp) (by omega) (by omega) (by simp [lo15]) (by simp [hi15])).mono fun _ _ ⟨he, hk2⟩ => ⟨_, he, congrArg aggV D4, hk2⟩) rfl
    | 5, ho, hi =>
      cases ho
      exact stepX_same (v := aggV r20) (want0 rfl) (xloadN 3 (vs := [.int .u8 r20.k, .int .i64 r20.n, .string ⟨r20.t.toArray⟩]) rfl (by kernel_rfl) (by kernel_rfl) (bs.get 6 rfl s6_fa31) ((ow48.keep hk).box 3 rfl) (Nat.le_of_ble_eq_true rfl) rfl) rfl rfl
    | 6, ho, hi =>
      cases ho
      have d4 : aa.eval (.tmp 137) = aggV r20 := depX hd 4 rfl
      have d5 : aa.eval (.tmp 138) = aggV r20 := depX hd 5 rfl
      exact stepX_same (v := .bool (sameV r20 r20)) (want0 rfl) (xeqv rfl d4 d5) (congrArg Value.bool (sameV_self _)) rfl
    | 7, ho, hi =>
      cases ho
      have d6 : aa.eval (.tmp 139) = .bool true := depX hd 6 rfl
      exact stepX_same (v := .bool true) (want0 rfl) (xmove rfl d6) rfl rfl
    | 8, ho, hi =>
      cases ho
      have d7 : aa.eval (.tmp 140) = .bool true := depX hd 7 rfl
      exact stepX_same (v := aggV r20) (want1 (j := 7) (b := true) rfl d7) (xloadN 3 (vs := [.int .u8 r20.k, .int .i64 r20.n, .string ⟨r20.t.toArray⟩]) rfl (by kernel_rfl) (by kernel_rfl) (bs.get 6 rfl s6_fa31) ((ow48.keep hk).box 3 rfl) (Nat.le_of_ble_eq_true rfl) rfl) rfl rfl
    | 9, ho, hi =>
      cases ho
      have d7 : aa.eval (.tmp 140) = .bool true := depX hd 7 rfl
      exact stepX_same (v := aggV a) (want1 (j := 7) (b := true) rfl d7) (xloadN 3 (vs := [.int .u8 a.k, .int .i64 a.n, .string ⟨a.t.toArray⟩]) rfl (by kernel_rfl) (by kernel_rfl) (bs.get 4 rfl s4_fa31) ((ow48.keep hk).box 5 rfl) (Nat.le_of_ble_eq_true rfl) rfl) rfl rfl
    | 10, ho, hi =>
      cases ho
      have d8 : aa.eval (.tmp 141) = aggV r20 := depX hd 8 rfl
      have d9 : aa.eval (.tmp 142) = aggV a := depX hd 9 rfl
      have d7 : aa.eval (.tmp 140) = .bool true := depX hd 7 rfl
      exact stepX_same (v := .bool (sameV r20 a)) (want1 (j := 7) (b := true) rfl d7) (xeqv rfl d8 d9) rfl rfl
    | 11, ho, hi =>
      cases ho
      have d10 : aa.eval (.tmp 143) = .bool (sameV r20 a) := depX hd 10 rfl
      have d7 : aa.eval (.tmp 140) = .bool true := depX hd 7 rfl
      exact stepX_same (v := .bool (sameV r20 a)) (want1 (j := 7) (b := true) rfl d7) (xmove rfl d10) rfl rfl
    | 12, ho, hi =>
      cases ho
      have d11 : aa.eval (.tmp 144) = .bool (sameV r20 a) := depX hd 11 rfl
      by_cases hz : (sameV r20 a) = false
      · exact stepX_same (v := aggV r20) (want1 (j := 11) (b := false) rfl (d11.trans (congrArg Value.bool hz))) (xloadN 3 (vs := [.int .u8 r20.k, .int .i64 r20.n, .string ⟨r20.t.toArray⟩]) rfl (by kernel_rfl) (by kernel_rfl) (bs.get 6 rfl s6_fa31) ((ow48.keep hk).box 3 rfl) (Nat.le_of_ble_eq_true rfl) rfl) (fun _ => rfl) rfl
      · exact stepX_skip (wantN (j := 11) (b := false) (b' := true) rfl (d11.trans (congrArg Value.bool (by simpa using hz))) rfl) (fun c => absurd c hz) rfl
    | 13, ho, hi =>
      cases ho
      have d11 : aa.eval (.tmp 144) = .bool (sameV r20 a) := depX hd 11 rfl
      by_cases hz : (sameV r20 a) = false
      · exact stepX_same (v := aggV b) (want1 (j := 11) (b := false) rfl (d11.trans (congrArg Value.bool hz))) (xloadN 3 (vs := [.int .u8 b.k, .int .i64 b.n, .string ⟨b.t.toArray⟩]) rfl (by kernel_rfl) (by kernel_rfl) (bs.get 5 rfl s5_fa31) ((ow48.keep hk).box 4 rfl) (Nat.le_of_ble_eq_true rfl) rfl) (fun _ => rfl) rfl
      · exact stepX_skip (wantN (j := 11) (b := false) (b' := true) rfl (d11.trans (congrArg Value.bool (by simpa using hz))) rfl) (fun c => absurd c hz) rfl
    | 14, ho, hi =>
      cases ho
      have d12 : (sameV r20 a) = false → aa.eval (.tmp 145) = aggV r20 := depX hd 12 rfl
      have d13 : (sameV r20 a) = false → aa.eval (.tmp 146) = aggV b := depX hd 13 rfl
      have d11 : aa.eval (.tmp 144) = .bool (sameV r20 a) := depX hd 11 rfl
      by_cases hz : (sameV r20 a) = false
      · exact stepX_same (v := .bool (sameV r20 b)) (want1 (j := 11) (b := false) rfl (d11.trans (congrArg Value.bool hz))) (xeqv rfl (d12 hz) (d13 hz)) (fun _ => congrArg Value.bool (D2 hz)) rfl
      · exact stepX_skip (wantN (j := 11) (b := false) (b' := true) rfl (d11.trans (congrArg Value.bool (by simpa using hz))) rfl) (fun c => absurd c hz) rfl
    | 15, ho, hi =>
      cases ho
      have d11 : aa.eval (.tmp 144) = .bool (sameV r20 a) := depX hd 11 rfl
      have d14 : (sameV r20 a) = false → aa.eval (.tmp 147) = .bool true := depX hd 14 rfl
      have d7 : aa.eval (.tmp 140) = .bool true := depX hd 7 rfl
      exact stepX_same (v := .bool ((sameV r20 a) || true)) (want1 (j := 7) (b := true) rfl d7) (xor_ rfl d11 rfl d14) (congrArg Value.bool (Bool.or_true _)) rfl
    | 16, ho, hi =>
      cases ho
      have d7 : aa.eval (.tmp 140) = .bool true := depX hd 7 rfl
      have d15 : aa.eval (.tmp 148) = .bool true := depX hd 15 rfl
      exact stepX_same (v := .bool true) (want0 rfl) (xpickT rfl d7 d15) rfl rfl
    | 17, ho, hi =>
      cases ho
      have d16 : aa.eval (.tmp 149) = .bool true := depX hd 16 rfl
      exact stepX_same (v := .bool true) (want0 rfl) (xmove rfl d16) rfl rfl
    | 18, ho, hi =>
      cases ho
      have d17 : aa.eval (.tmp 150) = .bool true := depX hd 17 rfl
      exact stepX_same (v := aggV c) (want1 (j := 17) (b := true) rfl d17) (xloadN 3 (vs := [.int .u8 c.k, .int .i64 c.n, .string ⟨c.t.toArray⟩]) rfl (by kernel_rfl) (by kernel_rfl) (bs.get 3 rfl s3_fa31) ((ow48.keep hk).box 6 rfl) (Nat.le_of_ble_eq_true rfl) rfl) rfl rfl
    | 19, ho, hi =>
      cases ho
      have d18 : aa.eval (.tmp 151) = aggV c := depX hd 18 rfl
      have d17 : aa.eval (.tmp 150) = .bool true := depX hd 17 rfl
      exact stepX_new _ (want1 (j := 17) (b := true) rfl d17) (xrow1 rfl d18) ⟨_, rfl, hk.size, Go.heap_alloc_new _ _⟩ ((Kept.refl _).alloc _) rfl (Nat.le_refl _)
    | 20, ho, hi =>
      cases ho
      have d19 : ∃ g, aa.eval (.tmp 152) = .slice (some ⟨g, 0, none⟩) 1 1 ∧ fw31.heap.size ≤ g ∧ ww.heap[g]? = some (rowObj [c]) := depX hd 19 rfl
      have d17 : aa.eval (.tmp 150) = .bool true := depX hd 17 rfl
      obtain ⟨g19, e19, _, h19⟩ := d19
      exact stepX_enter (want1 (j := 17) (b := true) rfl d17) (xcall2 (u := .int .u8 26) (v := .slice (some ⟨g19, 0, none⟩) 1 1) rfl rfl e19 (en_louvrelaw15_of _ _)) ((of15_ok 26 g19 c [] ww mx (HM.kept (ow48.keep hk).kept) (rowObj_row h19) (fine_cons Fc fine_nil) (by simp) (by omega) (by omega) (by simp [lo15]) (by simp [hi15])).mono fun _ _ ⟨he, hk2⟩ => ⟨_, he, congrArg aggV ((logic_iserror c).trans (congrArg vTruth nc)), hk2⟩) rfl
    | 21, ho, hi =>
      cases ho
      have d17 : aa.eval (.tmp 150) = .bool true := depX hd 17 rfl
      exact stepX_same (v := aggV a) (want1 (j := 17) (b := true) rfl d17) (xloadN 3 (vs := [.int .u8 a.k, .int .i64 a.n, .string ⟨a.t.toArray⟩]) rfl (by kernel_rfl) (by kernel_rfl) (bs.get 4 rfl s4_fa31) ((ow48.keep hk).box 5 rfl) (Nat.le_of_ble_eq_true rfl) rfl) rfl rfl
    | 22, ho, hi =>
      cases ho
      have d17 : aa.eval (.tmp 150) = .bool true := depX hd 17 rfl
      exact stepX_same (v := aggV c) (want1 (j := 17) (b := true) rfl d17) (xloadN 3 (vs := [.int .u8 c.k, .int .i64 c.n, .string ⟨c.t.toArray⟩]) rfl (by kernel_rfl) (by kernel_rfl) (bs.get 3 rfl s3_fa31) ((ow48.keep hk).box 6 rfl) (Nat.le_of_ble_eq_true rfl) rfl) rfl rfl
    | 23, ho, hi =>
      cases ho
      have d20 : aa.eval (.tmp 153) = aggV (vTruth false) := depX hd 20 rfl
      have d21 : aa.eval (.tmp 154) = aggV a := depX hd 21 rfl
      have d22 : aa.eval (.tmp 155) = aggV c := depX hd 22 rfl
      have d17 : aa.eval (.tmp 150) = .bool true := depX hd 17 rfl
      exact stepX_new _ (want1 (j := 17) (b := true) rfl d17) (xrow3 rfl d20 d21 d22) ⟨_, rfl, hk.size, Go.heap_alloc_new _ _⟩ ((Kept.refl _).alloc _) rfl (Nat.le_refl _)
    | 24, ho, hi =>
      cases ho
      have d23 : ∃ g, aa.eval (.tmp 156) = .slice (some ⟨g, 0, none⟩) 3 3 ∧ fw31.heap.size ≤ g ∧ ww.heap[g]? = some (rowObj [vTruth false, a, c]) := depX hd 23 rfl
      have d17 : aa.eval (.tmp 150) = .bool true := depX hd 17 rfl
      obtain ⟨g23, e23, _, h23⟩ := d23
      exact stepX_enter (want1 (j := 17) (b := true) rfl d17) (xcall2 (u := .int .u8 20) (v := .slice (some ⟨g23, 0, none⟩) 3 3) rfl rfl e23 (en_louvrelaw15_of _ _)) ((of15_ok 20 g23 (vTruth false) [a, c] ww mx (HM.kept (ow48.keep hk).kept) (rowObj_row h23) (fine_cons (fine_truth false) (fine_cons Fa (fine_cons Fc fine_nil))) (by simp) (by omega) (by omega) (by simp [lo15]) (by simp [hi15])).mono fun _ _ ⟨he, hk2⟩ => ⟨_, he, congrArg aggV (if_false na nc), hk2⟩) rfl
    | 25, ho, hi =>
      cases ho
      have d17 : aa.eval (.tmp 150) = .bool true := depX hd 17 rfl
      exact stepX_same (v := aggV r25) (want1 (j := 17) (b := true) rfl d17) (xloadN 3 (vs := [.int .u8 r25.k, .int .i64 r25.n, .string ⟨r25.t.toArray⟩]) rfl (by kernel_rfl) (by kernel_rfl) (bs.get 7 rfl s7_fa31) ((ow48.keep hk).box 2 rfl) (Nat.le_of_ble_eq_true rfl) rfl) rfl rfl
    | 26, ho, hi =>
      cases ho
      have d24 : aa.eval (.tmp 157) = aggV c := depX hd 24 rfl
      have d25 : aa.eval (.tmp 158) = aggV r25 := depX hd 25 rfl
      have d17 : aa.eval (.tmp 150) = .bool true := depX hd 17 rfl
      exact stepX_same (v := .bool (sameV c r25)) (want1 (j := 17) (b := true) rfl d17) (xeqv rfl d24 d25) (congrArg Value.bool (sameV_of k25.symm)) rfl
    | 27, ho, hi =>
      cases ho
      have d17 : aa.eval (.tmp 150) = .bool true := depX hd 17 rfl
      have d26 : aa.eval (.tmp 159) = .bool true := depX hd 26 rfl
      exact stepX_same (v := .bool true) (want0 rfl) (xpickT rfl d17 d26) rfl rfl
    | 28, ho, hi =>
      cases ho
      have d27 : aa.eval (.tmp 160) = .bool true := depX hd 27 rfl
      exact stepX_same (v := .bool true) (want0 rfl) (xmove rfl d27) rfl rfl
    | 29, ho, hi =>
      cases ho
      have d28 : aa.eval (.tmp 161) = .bool true := depX hd 28 rfl
      exact stepX_enter (want1 (j := 28) (b := true) rfl d28) (xcall0 rfl (en_louvrelaw15_awake _ _)) ((awake15_any ww mx (HM.kept (ow48.keep hk).kept)).mono fun _ _ ⟨he, hk2⟩ => ⟨_, he, rfl, hk2⟩) rfl
    | 30, ho, hi =>
      cases ho
      have d28 : aa.eval (.tmp 161) = .bool true := depX hd 28 rfl
      have d29 : aa.eval (.tmp 162) = .bool true := depX hd 29 rfl
      exact stepX_same (v := .bool true) (want0 rfl) (xpickT rfl d28 d29) rfl rfl
    | 31, ho, hi =>
      cases ho
      have d30 : aa.eval (.tmp 163) = .bool true := depX hd 30 rfl
      exact stepX_same (v := .bool true) (want0 rfl) (xassign rfl d30) rfl rfl
    | i + 32, ho, hi => exact absurd hi (by omega)
  have zfa34 : fa34.tmps.size = 164 := bs.size.trans zfa31
  have dffa34 : fa34.defers = [] := bs.defers.trans dffa31
  have ow51 := ow48.keep hk
  have s2_fa34 : fa34.eval (.tmp 2) = .bool true := hv 31 (by decide)
  clear hv ap bs hk
  refine wl_nil (fun fr u => fr.tmps.size = 164 ∧ fr.defers = [] ∧ Own w [Th.obj gb9 (.cells #[.int .u8 r24.k, .int .i64 r24.n, .string ⟨r24.t.toArray⟩] 35 (0, 0)), Th.obj gb7 (.cells #[.int .u8 r30.k, .int .i64 r30.n, .string ⟨r30.t.toArray⟩] 35 (0, 0)), Th.obj gb6 (.cells #[.int .u8 r25.k, .int .i64 r25.n, .string ⟨r25.t.toArray⟩] 35 (0, 0)), Th.obj gb5 (.cells #[.int .u8 r20.k, .int .i64 r20.n, .string ⟨r20.t.toArray⟩] 35 (0, 0)), Th.obj gb4 (.cells #[.int .u8 b.k, .int .i64 b.n, .string ⟨b.t.toArray⟩] 35 (0, 0)), Th.obj gb3 (.cells #[.int .u8 a.k, .int .i64 a.n, .string ⟨a.t.toArray⟩] 35 (0, 0)), Th.obj gb2 (.cells #[.int .u8 c.k, .int .i64 c.n, .string ⟨c.t.toArray⟩] 35 (0, 0)), Th.obj gb1 (.cells #[.int .u8 x0.k, .int .i64 x0.n, .string ⟨x0.t.toArray⟩, .int .u8 y0.k, .int .i64 y0.n, .string ⟨y0.t.toArray⟩, .int .u8 z0.k, .int .i64 z0.n, .string ⟨z0.t.toArray⟩] 49 (0, 0))] u ∧ fr.eval (.tmp 2) = .bool true) ⟨zfa34, dffa34, ow51, s2_fa34⟩ ?_
  rintro fa35 fw35 ⟨zfa35, dffa35, ow52, s2_fa35⟩
  refine then_n (hK23 _ _ ?_)
  try clear hK23 K23
  refine wp_ret ?_
  refine results1 rfl s2_fa35 dffa35 ?_
  exact ⟨rfl, ow52.kept⟩
end Go.Proofs.YtipkjpcedfokhaaDoor
