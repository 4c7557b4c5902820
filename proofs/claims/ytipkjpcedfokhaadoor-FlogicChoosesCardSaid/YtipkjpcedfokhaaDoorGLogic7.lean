/- Layer 15: value, of NOT and of the three kinds (printed by wip/mkvalue2.py). -/
import Derived.Test.YtipkjpcedfokhaaDoorGLogic6
namespace Go.Proofs.YtipkjpcedfokhaaDoor
set_option linter.unusedVariables false
set_option linter.unusedSimpArgs false
open Go.RowKit Lv

set_option maxHeartbeats 2000000 in
set_option maxRecDepth 100000 in
theorem value24 (b off cap : Nat) (a : Vl) (r : List Vl) (w : World) (hsm : Small a) (hr : RowV w (some ⟨b, off, none⟩) (a :: r)) (hc : (r.length + 1) ≤ cap) :
    Calls Tryd.prog 89 #[.int .u8 24, .slice (some ⟨b, off, none⟩) (r.length + 1) cap] w fun e w' => e = .returned (aggV (vLogic 24 a r)) ∧ Kept w w' := by
  obtain ⟨hb, x0, x1, x2⟩ := hr.head
  have B0 : Hid (Box ((w.alloc (.cells #[.int .u8 0, .int .i64 0, .string ⟨#[]⟩] 35)).alloc (.cells #[.int .u8 a.k, .int .i64 a.n, .string ⟨a.t.toArray⟩] 35)) w.heap.size 35 (cellsV blankV)) := Lib.hid ((Box.new w _ _).alloc _)
  have C := Lib.hid (fun w => tobool_any a w hsm.1 hsm.2)
  have e24 : vLogic 24 a r = if isE (vBool a) then vBool a else vTruth (decide ((vBool a).n = 0)) := rfl
  generalize vBool a = y at *
  clear hr hsm
  have ie := isE_beq y
  cases he : isE y with
  | true =>
    rw [he] at ie e24
    have EF : Hid (vLogic 24 a r = y) := e24
    clear e24 he
    go_enter Tryd.func89, Tryd.ntmps89
    go_wp2_with fail
    refine (C.out _).mono ?_
    rintro e w1 ⟨rfl, k1⟩
    obtain ⟨i0, p0, p1, p2, f0, f1, f2⟩ := (B0.out.kept k1).three
    have KK : Hid (Kept w w1) := Lib.hid (Kept.trans (by repeat (first | with_reducible exact Kept.refl _ | with_reducible apply Kept.drew | with_reducible apply Kept.drewN | with_reducible apply Kept.alloc | (with_reducible refine Kept.setCellX ?_ ?_ _; focus (first | (simp; done) | (simp; omega))) | (with_reducible refine Kept.trans ?_ (by assumption)))) k1)
    clear k1
    go_wp2_with fail
    exact bodyPost_ret (v := aggV y) (by simp [results, Tryd.results89, go_sem, p0, p1, p2, i0]) rfl ⟨congrArg (fun z => Ending.returned (aggV z)) EF.out.symm, (KK.out.set3 (Nat.le_refl _)).alloc _⟩
  | false =>
    rw [he] at ie e24
    obtain ⟨bb, hbb⟩ : ∃ bb, bb = (y.n == 0) := ⟨_, rfl⟩
    have EF : Hid (vLogic 24 a r = vTruth bb) := by
      show _ = _
      rw [e24, hbb]; rfl
    have T := Lib.hid (fun w => vtruth_any bb w)
    have yb := hbb.symm
    clear e24 he hbb
    go_enter Tryd.func89, Tryd.ntmps89
    go_wp2_with fail
    refine (C.out _).mono ?_
    rintro e w1 ⟨rfl, k1⟩
    have C0 := Lib.hid (B0.out.kept k1)
    have KK : Hid (Kept w w1) := Lib.hid (Kept.trans (by repeat (first | with_reducible exact Kept.refl _ | with_reducible apply Kept.drew | with_reducible apply Kept.drewN | with_reducible apply Kept.alloc | (with_reducible refine Kept.setCellX ?_ ?_ _; focus (first | (simp; done) | (simp; omega))) | (with_reducible refine Kept.trans ?_ (by assumption)))) k1)
    clear k1
    go_wp2_with fail
    refine (T.out _).mono ?_
    rintro e w2 ⟨rfl, k2⟩
    have k3 := Kept.trans (Kept.alloc (Kept.refl w1) (.cells (cellsV y) 35)) k2
    obtain ⟨j0, q0, q1, q2, g0, g1, g2⟩ := (C0.out.kept k3).three
    have KK := Lib.hid (KK.out.trans k3)
    clear k2 k3
    go_wp2_with fail
    exact bodyPost_ret (v := aggV (vTruth bb)) (by simp [results, Tryd.results89, go_sem, q0, q1, q2, j0]) rfl ⟨congrArg (fun z => Ending.returned (aggV z)) EF.out.symm, KK.out.set3 (Nat.le_refl _)⟩

abbrev MK : TypeId := 113
/-- one entry more -/
theorem insK_step (w : World) (b : Nat) (es : Array MapEntry) (clock k : Nat) (v : Value) (hb : w.heap[b]? = some (.map es clock)) (hk : Instr.findNow (.int .u8) (.int .u8 k) es.toList 0 = some none) :
    ∃ w', (Instr.mapUpdate 113 (.map (some b)) (.int .u8 k) v).run Tryd.prog w = .ok () w' ∧ w'.heap[b]? = some (.map (es.push ⟨.int .u8 k, v, clock⟩) (clock + 1)) ∧ Only b w w' := by
  have hc : (Instr.checkKey false 10000 5 (.int .u8 k)).run Tryd.prog w = .ok () w := MapKept.run_checkKey (k := .int .u8 k) Tryd.underlying5 (by simp [MapKept.IsKey]) false 9999
  refine ⟨{ w with heap := w.heap.setIfInBounds b (.map (es.push ⟨.int .u8 k, v, clock⟩) (clock + 1)) }, ?_, (MapKept.heap_set hb).1, ⟨rfl, rfl, rfl, by simp, fun r _ hr => (MapKept.heap_set hb).2 r hr⟩⟩
  simp [Instr.mapUpdate, run_underlying Tryd.underlying113, MapKept.run_getObj_map hb, hc, MapKept.run_findKey Tryd.underlying5 hk, MapKept.run_setObj_map _ hb, Result.andThen]
theorem lookK (w : World) (b : Nat) (es : Array MapEntry) (clock k i : Nat) (v : Value) (hb : w.heap[b]? = some (.map es clock)) (hk : Instr.findNow (.int .u8) (.int .u8 k) es.toList 0 = some (some (i, v))) :
    (Instr.lookup 113 (.map (some b)) (.int .u8 k) false).run Tryd.prog w = .ok v w := by
  have hc : (Instr.checkKey es.isEmpty 10000 5 (.int .u8 k)).run Tryd.prog w = .ok () w := MapKept.run_checkKey (k := .int .u8 k) Tryd.underlying5 (by simp [MapKept.IsKey]) _ 9999
  simp [Instr.lookup, run_underlying Tryd.underlying113, MapKept.run_getObj_map hb, hc, MapKept.run_findKey Tryd.underlying5 hk, Result.andThen]
abbrev tabK : Array MapEntry := #[⟨.int .u8 27, .int .u8 0, 0⟩, ⟨.int .u8 28, .int .u8 1, 1⟩, ⟨.int .u8 29, .int .u8 3, 2⟩]
theorem insK (w : World) (b : Nat) (hb : w.heap[b]? = some (.map #[] 0)) :
    ∃ w1 w2 w3, ((Instr.mapUpdate 113 (.map (some b)) (.int .u8 27) (.int .u8 0)).run Tryd.prog w = .ok () w1 ∧ (Instr.mapUpdate 113 (.map (some b)) (.int .u8 28) (.int .u8 1)).run Tryd.prog w1 = .ok () w2 ∧
      (Instr.mapUpdate 113 (.map (some b)) (.int .u8 29) (.int .u8 3)).run Tryd.prog w2 = .ok () w3) ∧ Only b w w3 ∧ w3.heap[b]? = some (.map tabK 3) := by
  obtain ⟨w1, r1, h1, o1⟩ := insK_step w b #[] 0 27 (.int .u8 0) hb rfl
  obtain ⟨w2, r2, h2, o2⟩ := insK_step w1 b _ _ 28 (.int .u8 1) h1 rfl
  obtain ⟨w3, r3, h3, o3⟩ := insK_step w2 b _ _ 29 (.int .u8 3) h2 rfl
  exact ⟨w1, w2, w3, ⟨r1, r2, r3⟩, (o1.trans o2).trans o3, h3⟩

set_option maxHeartbeats 2000000 in
set_option maxRecDepth 100000 in
theorem value27 (b off cap : Nat) (a : Vl) (r : List Vl) (w : World) (hr : RowV w (some ⟨b, off, none⟩) (a :: r)) (hc : (r.length + 1) ≤ cap) :
    Calls Tryd.prog 89 #[.int .u8 27, .slice (some ⟨b, off, none⟩) (r.length + 1) cap] w fun e w' => e = .returned (aggV (vLogic 27 a r)) ∧ Kept w w' := by
  obtain ⟨hb, x0, x1, x2⟩ := hr.head
  have e27 : vLogic 27 a r = if isE a then a else vTruth (decide (a.k = 0)) := rfl
  clear hr
  have ie := isE_beq a
  cases he : isE a with
  | true =>
    rw [he] at ie e27
    have EF : Hid (vLogic 27 a r = a) := e27
    clear e27 he
    go_enter Tryd.func89, Tryd.ntmps89
    go_wp2_with fail
    exact bodyPost_ret (v := aggV a) (by simp [results, Tryd.results89, go_sem, hb]) rfl ⟨congrArg (fun z => Ending.returned (aggV z)) EF.out.symm, ((Kept.refl w).alloc _).alloc _⟩
  | false =>
    rw [he] at ie e27
    obtain ⟨bb, hbb⟩ : ∃ bb, bb = ((a.k : Int) == 0) := ⟨_, rfl⟩
    have EF : Hid (vLogic 27 a r = vTruth bb) := by
      show _ = _
      rw [e27, hbb]
      show vTruth _ = vTruth _
      congr 1
      rw [Bool.eq_iff_iff, beq_iff_eq, decide_eq_true_eq]; omega
    have T := Lib.hid (fun w => vtruth_any bb w)
    have yb := hbb.symm
    clear e27 he hbb
    have mk := fun w => run_makeMap_plain (P := Tryd.prog) w 113
    have W3 : Box (((w.alloc (.cells #[.int .u8 0, .int .i64 0, .string ⟨#[]⟩] 35)).alloc (.cells #[.int .u8 a.k, .int .i64 a.n, .string ⟨a.t.toArray⟩] 35)).alloc (.map #[] 0)) w.heap.size 35 (cellsV blankV) := ((Box.new w _ _).alloc _).alloc _
    have W4 : Box (((w.alloc (.cells #[.int .u8 0, .int .i64 0, .string ⟨#[]⟩] 35)).alloc (.cells #[.int .u8 a.k, .int .i64 a.n, .string ⟨a.t.toArray⟩] 35)).alloc (.map #[] 0)) (w.heap.size + 1) 35 (cellsV a) := (Box.newAt (by simp) _ _).alloc _
    have hbm : (((w.alloc (.cells #[.int .u8 0, .int .i64 0, .string ⟨#[]⟩] 35)).alloc (.cells #[.int .u8 a.k, .int .i64 a.n, .string ⟨a.t.toArray⟩] 35)).alloc (.map #[] 0)).heap[w.heap.size + 1 + 1]? = some (.map #[] 0) := by
      have := Go.heap_alloc_new ((w.alloc (.cells #[.int .u8 0, .int .i64 0, .string ⟨#[]⟩] 35)).alloc (.cells #[.int .u8 a.k, .int .i64 a.n, .string ⟨a.t.toArray⟩] 35)) (.map #[] 0)
      rwa [World.size_alloc, World.size_alloc] at this
    obtain ⟨w1, w2, w3, ⟨r1, r2, r3⟩, on, tab⟩ := insK _ _ hbm
    have KK := Lib.hid (on.kept (((Kept.refl w).alloc (.cells #[.int .u8 0, .int .i64 0, .string ⟨#[]⟩] 35)).alloc (.cells #[.int .u8 a.k, .int .i64 a.n, .string ⟨a.t.toArray⟩] 35) |>.alloc (.map #[] 0)) (by omega))
    have V0 := Lib.hid (on.box W3 (by omega))
    obtain ⟨i1, a0, a1, a2, _⟩ := (on.box W4 (by omega)).three
    have lk : (Instr.lookup 113 (.map (some (w.heap.size + 1 + 1))) (.int .u8 27) false).run Tryd.prog w3 = .ok (.int .u8 0) w3 := lookK w3 (w.heap.size + 1 + 1) tabK 3 27 0 (.int .u8 0) tab rfl
    clear W3 W4 hbm on tab
    go_enter Tryd.func89, Tryd.ntmps89
    go_wp2_with fail
    refine (T.out _).mono ?_
    rintro e w4 ⟨rfl, k4⟩
    obtain ⟨j0, q0, q1, q2, g0, g1, g2⟩ := (V0.out.kept k4).three
    have KK := Lib.hid (KK.out.trans k4)
    clear k4
    go_wp2_with fail
    exact bodyPost_ret (v := aggV (vTruth bb)) (by simp [results, Tryd.results89, go_sem, q0, q1, q2, j0]) rfl ⟨congrArg (fun z => Ending.returned (aggV z)) EF.out.symm, KK.out.set3 (Nat.le_refl _)⟩

set_option maxHeartbeats 2000000 in
set_option maxRecDepth 100000 in
theorem value28 (b off cap : Nat) (a : Vl) (r : List Vl) (w : World) (hr : RowV w (some ⟨b, off, none⟩) (a :: r)) (hc : (r.length + 1) ≤ cap) :
    Calls Tryd.prog 89 #[.int .u8 28, .slice (some ⟨b, off, none⟩) (r.length + 1) cap] w fun e w' => e = .returned (aggV (vLogic 28 a r)) ∧ Kept w w' := by
  obtain ⟨hb, x0, x1, x2⟩ := hr.head
  have e27 : vLogic 28 a r = if isE a then a else vTruth (decide (a.k = 1)) := rfl
  clear hr
  have ie := isE_beq a
  cases he : isE a with
  | true =>
    rw [he] at ie e27
    have EF : Hid (vLogic 28 a r = a) := e27
    clear e27 he
    go_enter Tryd.func89, Tryd.ntmps89
    go_wp2_with fail
    exact bodyPost_ret (v := aggV a) (by simp [results, Tryd.results89, go_sem, hb]) rfl ⟨congrArg (fun z => Ending.returned (aggV z)) EF.out.symm, ((Kept.refl w).alloc _).alloc _⟩
  | false =>
    rw [he] at ie e27
    obtain ⟨bb, hbb⟩ : ∃ bb, bb = ((a.k : Int) == 1) := ⟨_, rfl⟩
    have EF : Hid (vLogic 28 a r = vTruth bb) := by
      show _ = _
      rw [e27, hbb]
      show vTruth _ = vTruth _
      congr 1
      rw [Bool.eq_iff_iff, beq_iff_eq, decide_eq_true_eq]; omega
    have T := Lib.hid (fun w => vtruth_any bb w)
    have yb := hbb.symm
    clear e27 he hbb
    have mk := fun w => run_makeMap_plain (P := Tryd.prog) w 113
    have W3 : Box (((w.alloc (.cells #[.int .u8 0, .int .i64 0, .string ⟨#[]⟩] 35)).alloc (.cells #[.int .u8 a.k, .int .i64 a.n, .string ⟨a.t.toArray⟩] 35)).alloc (.map #[] 0)) w.heap.size 35 (cellsV blankV) := ((Box.new w _ _).alloc _).alloc _
    have W4 : Box (((w.alloc (.cells #[.int .u8 0, .int .i64 0, .string ⟨#[]⟩] 35)).alloc (.cells #[.int .u8 a.k, .int .i64 a.n, .string ⟨a.t.toArray⟩] 35)).alloc (.map #[] 0)) (w.heap.size + 1) 35 (cellsV a) := (Box.newAt (by simp) _ _).alloc _
    have hbm : (((w.alloc (.cells #[.int .u8 0, .int .i64 0, .string ⟨#[]⟩] 35)).alloc (.cells #[.int .u8 a.k, .int .i64 a.n, .string ⟨a.t.toArray⟩] 35)).alloc (.map #[] 0)).heap[w.heap.size + 1 + 1]? = some (.map #[] 0) := by
      have := Go.heap_alloc_new ((w.alloc (.cells #[.int .u8 0, .int .i64 0, .string ⟨#[]⟩] 35)).alloc (.cells #[.int .u8 a.k, .int .i64 a.n, .string ⟨a.t.toArray⟩] 35)) (.map #[] 0)
      rwa [World.size_alloc, World.size_alloc] at this
    obtain ⟨w1, w2, w3, ⟨r1, r2, r3⟩, on, tab⟩ := insK _ _ hbm
    have KK := Lib.hid (on.kept (((Kept.refl w).alloc (.cells #[.int .u8 0, .int .i64 0, .string ⟨#[]⟩] 35)).alloc (.cells #[.int .u8 a.k, .int .i64 a.n, .string ⟨a.t.toArray⟩] 35) |>.alloc (.map #[] 0)) (by omega))
    have V0 := Lib.hid (on.box W3 (by omega))
    obtain ⟨i1, a0, a1, a2, _⟩ := (on.box W4 (by omega)).three
    have lk : (Instr.lookup 113 (.map (some (w.heap.size + 1 + 1))) (.int .u8 28) false).run Tryd.prog w3 = .ok (.int .u8 1) w3 := lookK w3 (w.heap.size + 1 + 1) tabK 3 28 1 (.int .u8 1) tab rfl
    clear W3 W4 hbm on tab
    go_enter Tryd.func89, Tryd.ntmps89
    go_wp2_with fail
    refine (T.out _).mono ?_
    rintro e w4 ⟨rfl, k4⟩
    obtain ⟨j0, q0, q1, q2, g0, g1, g2⟩ := (V0.out.kept k4).three
    have KK := Lib.hid (KK.out.trans k4)
    clear k4
    go_wp2_with fail
    exact bodyPost_ret (v := aggV (vTruth bb)) (by simp [results, Tryd.results89, go_sem, q0, q1, q2, j0]) rfl ⟨congrArg (fun z => Ending.returned (aggV z)) EF.out.symm, KK.out.set3 (Nat.le_refl _)⟩

set_option maxHeartbeats 2000000 in
set_option maxRecDepth 100000 in
theorem value29 (b off cap : Nat) (a : Vl) (r : List Vl) (w : World) (hr : RowV w (some ⟨b, off, none⟩) (a :: r)) (hc : (r.length + 1) ≤ cap) :
    Calls Tryd.prog 89 #[.int .u8 29, .slice (some ⟨b, off, none⟩) (r.length + 1) cap] w fun e w' => e = .returned (aggV (vLogic 29 a r)) ∧ Kept w w' := by
  obtain ⟨hb, x0, x1, x2⟩ := hr.head
  have e27 : vLogic 29 a r = if isE a then a else vTruth (decide (a.k = 3)) := rfl
  clear hr
  have ie := isE_beq a
  cases he : isE a with
  | true =>
    rw [he] at ie e27
    have EF : Hid (vLogic 29 a r = a) := e27
    clear e27 he
    go_enter Tryd.func89, Tryd.ntmps89
    go_wp2_with fail
    exact bodyPost_ret (v := aggV a) (by simp [results, Tryd.results89, go_sem, hb]) rfl ⟨congrArg (fun z => Ending.returned (aggV z)) EF.out.symm, ((Kept.refl w).alloc _).alloc _⟩
  | false =>
    rw [he] at ie e27
    obtain ⟨bb, hbb⟩ : ∃ bb, bb = ((a.k : Int) == 3) := ⟨_, rfl⟩
    have EF : Hid (vLogic 29 a r = vTruth bb) := by
      show _ = _
      rw [e27, hbb]
      show vTruth _ = vTruth _
      congr 1
      rw [Bool.eq_iff_iff, beq_iff_eq, decide_eq_true_eq]; omega
    have T := Lib.hid (fun w => vtruth_any bb w)
    have yb := hbb.symm
    clear e27 he hbb
    have mk := fun w => run_makeMap_plain (P := Tryd.prog) w 113
    have W3 : Box (((w.alloc (.cells #[.int .u8 0, .int .i64 0, .string ⟨#[]⟩] 35)).alloc (.cells #[.int .u8 a.k, .int .i64 a.n, .string ⟨a.t.toArray⟩] 35)).alloc (.map #[] 0)) w.heap.size 35 (cellsV blankV) := ((Box.new w _ _).alloc _).alloc _
    have W4 : Box (((w.alloc (.cells #[.int .u8 0, .int .i64 0, .string ⟨#[]⟩] 35)).alloc (.cells #[.int .u8 a.k, .int .i64 a.n, .string ⟨a.t.toArray⟩] 35)).alloc (.map #[] 0)) (w.heap.size + 1) 35 (cellsV a) := (Box.newAt (by simp) _ _).alloc _
    have hbm : (((w.alloc (.cells #[.int .u8 0, .int .i64 0, .string ⟨#[]⟩] 35)).alloc (.cells #[.int .u8 a.k, .int .i64 a.n, .string ⟨a.t.toArray⟩] 35)).alloc (.map #[] 0)).heap[w.heap.size + 1 + 1]? = some (.map #[] 0) := by
      have := Go.heap_alloc_new ((w.alloc (.cells #[.int .u8 0, .int .i64 0, .string ⟨#[]⟩] 35)).alloc (.cells #[.int .u8 a.k, .int .i64 a.n, .string ⟨a.t.toArray⟩] 35)) (.map #[] 0)
      rwa [World.size_alloc, World.size_alloc] at this
    obtain ⟨w1, w2, w3, ⟨r1, r2, r3⟩, on, tab⟩ := insK _ _ hbm
    have KK := Lib.hid (on.kept (((Kept.refl w).alloc (.cells #[.int .u8 0, .int .i64 0, .string ⟨#[]⟩] 35)).alloc (.cells #[.int .u8 a.k, .int .i64 a.n, .string ⟨a.t.toArray⟩] 35) |>.alloc (.map #[] 0)) (by omega))
    have V0 := Lib.hid (on.box W3 (by omega))
    obtain ⟨i1, a0, a1, a2, _⟩ := (on.box W4 (by omega)).three
    have lk : (Instr.lookup 113 (.map (some (w.heap.size + 1 + 1))) (.int .u8 29) false).run Tryd.prog w3 = .ok (.int .u8 3) w3 := lookK w3 (w.heap.size + 1 + 1) tabK 3 29 2 (.int .u8 3) tab rfl
    clear W3 W4 hbm on tab
    go_enter Tryd.func89, Tryd.ntmps89
    go_wp2_with fail
    refine (T.out _).mono ?_
    rintro e w4 ⟨rfl, k4⟩
    obtain ⟨j0, q0, q1, q2, g0, g1, g2⟩ := (V0.out.kept k4).three
    have KK := Lib.hid (KK.out.trans k4)
    clear k4
    go_wp2_with fail
    exact bodyPost_ret (v := aggV (vTruth bb)) (by simp [results, Tryd.results89, go_sem, q0, q1, q2, j0]) rfl ⟨congrArg (fun z => Ending.returned (aggV z)) EF.out.symm, KK.out.set3 (Nat.le_refl _)⟩
end Go.Proofs.YtipkjpcedfokhaaDoor
