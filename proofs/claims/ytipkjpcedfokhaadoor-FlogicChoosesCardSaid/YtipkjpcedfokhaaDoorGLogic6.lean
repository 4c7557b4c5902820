/- Layer 15: value, a theorem for each function (printed by wip/mkvalue.py). -/
import Derived.Test.YtipkjpcedfokhaaDoorGLogic5
namespace Go.Proofs.YtipkjpcedfokhaaDoor
set_option linter.unusedVariables false
set_option linter.unusedSimpArgs false
open Go.RowKit Lv

theorem isE_beq (a : Vl) : ((a.k : Int) == 4) = isE a := by unfold isE; rw [Bool.eq_iff_iff, beq_iff_eq, decide_eq_true_eq]; omega
/-- the first of a row, as the walk spells it -/
theorem RowV.head {w : World} {b off : Nat} {a : Vl} {r : List Vl} (h : RowV w (some ⟨b, off, none⟩) (a :: r)) : b < w.heap.size ∧ w.cell? ⟨b, off, none⟩ = some (.int .u8 a.k) ∧ w.cell? ⟨b, off + 1, none⟩ = some (.int .i64 a.n) ∧ w.cell? ⟨b, off + 2, none⟩ = some (.string ⟨a.t.toArray⟩) := by
  obtain ⟨b', off', e, hb, x0, x1, x2⟩ := h 0 (by simp)
  cases e
  simp only [Nat.zero_mul, Nat.add_zero, List.getD_cons_zero] at x0 x1 x2
  exact ⟨hb, x0, x1, x2⟩
theorem RowV.second {w : World} {b off : Nat} {a c : Vl} {r : List Vl} (h : RowV w (some ⟨b, off, none⟩) (a :: c :: r)) : w.cell? ⟨b, off + 3, none⟩ = some (.int .u8 c.k) ∧ w.cell? ⟨b, off + 3 + 1, none⟩ = some (.int .i64 c.n) ∧ w.cell? ⟨b, off + 3 + 2, none⟩ = some (.string ⟨c.t.toArray⟩) := by
  obtain ⟨b', off', e, hb, x0, x1, x2⟩ := h 1 (by simp)
  cases e
  exact ⟨x0, x1, x2⟩
theorem RowV.third {w : World} {b off : Nat} {a c d : Vl} {r : List Vl} (h : RowV w (some ⟨b, off, none⟩) (a :: c :: d :: r)) : w.cell? ⟨b, off + 6, none⟩ = some (.int .u8 d.k) ∧ w.cell? ⟨b, off + 6 + 1, none⟩ = some (.int .i64 d.n) ∧ w.cell? ⟨b, off + 6 + 2, none⟩ = some (.string ⟨d.t.toArray⟩) := by
  obtain ⟨b', off', e, hb, x0, x1, x2⟩ := h 2 (by simp)
  cases e
  exact ⟨x0, x1, x2⟩
theorem RowV.nth {w : World} {b off : Nat} {l : List Vl} (h : RowV w (some ⟨b, off, none⟩) l) (i : Nat) (hi : i < l.length) : b < w.heap.size ∧ w.cell? ⟨b, off + i * 3, none⟩ = some (.int .u8 (l.getD i blankV).k) ∧ w.cell? ⟨b, off + i * 3 + 1, none⟩ = some (.int .i64 (l.getD i blankV).n) ∧ w.cell? ⟨b, off + i * 3 + 2, none⟩ = some (.string ⟨(l.getD i blankV).t.toArray⟩) := by
  obtain ⟨b', off', e, hb, x0, x1, x2⟩ := h i hi
  cases e
  exact ⟨hb, x0, x1, x2⟩

set_option maxHeartbeats 2000000 in
set_option maxRecDepth 100000 in
theorem value26 (b off cap : Nat) (a : Vl) (r : List Vl) (w : World) (hr : RowV w (some ⟨b, off, none⟩) (a :: r)) (hc : (r.length + 1) ≤ cap) :
    Calls Tryd.prog 89 #[.int .u8 26, .slice (some ⟨b, off, none⟩) (r.length + 1) cap] w fun e w' => e = .returned (aggV (vLogic 26 a r)) ∧ Kept w w' := by
  obtain ⟨hb, x0, x1, x2⟩ := hr.head
  have B0 : Hid (Box ((w.alloc (.cells #[.int .u8 0, .int .i64 0, .string ⟨#[]⟩] 35)).alloc (.cells #[.int .u8 a.k, .int .i64 a.n, .string ⟨a.t.toArray⟩] 35)) w.heap.size 35 (cellsV blankV)) := Lib.hid ((Box.new w _ _).alloc _)
  have B1 : Hid (Box ((w.alloc (.cells #[.int .u8 0, .int .i64 0, .string ⟨#[]⟩] 35)).alloc (.cells #[.int .u8 a.k, .int .i64 a.n, .string ⟨a.t.toArray⟩] 35)) (w.heap.size + 1) 35 (cellsV a)) := Lib.hid (Box.newAt (by simp) _ _)
  have HR := Lib.hid hr
  clear hr
  have T := Lib.hid (fun w => vtruth_any (isE a) w)
  have ie := isE_beq a
  have EF : Hid (vLogic 26 a r = vTruth (isE a)) := rfl
  generalize isE a = z at *
  go_enter Tryd.func89, Tryd.ntmps89
  go_wp2_with fail
  refine (T.out _).mono ?_
  rintro e w1 ⟨rfl, k1⟩
  have k2 := Kept.trans (Kept.refl _) k1
  have c0 := B0.out.kept k1
  obtain ⟨i0, p0, p1, p2, f0, f1, f2⟩ := c0.three
  have KK : Hid (Kept w w1) := Lib.hid (Kept.trans (by repeat (first | with_reducible exact Kept.refl _ | with_reducible apply Kept.drew | with_reducible apply Kept.drewN | with_reducible apply Kept.alloc | (with_reducible refine Kept.setCellX ?_ ?_ _; focus (first | (simp; done) | (simp; omega))) | (with_reducible refine Kept.trans ?_ (by assumption)))) k1)
  clear c0 k1 k2
  go_wp2_with fail
  exact bodyPost_ret (v := aggV (vTruth z)) (by simp [results, Tryd.results89, go_sem, p0, p1, p2, i0]) rfl ⟨congrArg (fun z => Ending.returned (aggV z)) EF.out.symm, KK.out.set3 (Nat.le_refl _)⟩

set_option maxHeartbeats 2000000 in
set_option maxRecDepth 100000 in
theorem value25 (b off cap : Nat) (a : Vl) (c : Vl) (r : List Vl) (w : World) (hr : RowV w (some ⟨b, off, none⟩) (a :: c :: r)) (hc : (r.length + 2) ≤ cap) :
    Calls Tryd.prog 89 #[.int .u8 25, .slice (some ⟨b, off, none⟩) (r.length + 2) cap] w fun e w' => e = .returned (aggV (vLogic 25 a (c :: r))) ∧ Kept w w' := by
  obtain ⟨hb, x0, x1, x2⟩ := hr.head
  have B0 : Hid (Box ((w.alloc (.cells #[.int .u8 0, .int .i64 0, .string ⟨#[]⟩] 35)).alloc (.cells #[.int .u8 a.k, .int .i64 a.n, .string ⟨a.t.toArray⟩] 35)) w.heap.size 35 (cellsV blankV)) := Lib.hid ((Box.new w _ _).alloc _)
  have B1 : Hid (Box ((w.alloc (.cells #[.int .u8 0, .int .i64 0, .string ⟨#[]⟩] 35)).alloc (.cells #[.int .u8 a.k, .int .i64 a.n, .string ⟨a.t.toArray⟩] 35)) (w.heap.size + 1) 35 (cellsV a)) := Lib.hid (Box.newAt (by simp) _ _)
  have HR := Lib.hid hr
  obtain ⟨y0, y1, y2⟩ := hr.second
  clear hr
  have ie := isE_beq a
  cases he : isE a with
  | true =>
    rw [he] at ie
    have EF : Hid (vLogic 25 a (c :: r) = c) := by
      show _ = _
      unfold vLogic; rw [if_neg (by omega), if_pos rfl, he]; rfl
    clear he
    obtain ⟨i0, p0, p1, p2, f0, f1, f2⟩ := B0.out.three
    go_enter Tryd.func89, Tryd.ntmps89
    go_wp2_with fail
    exact bodyPost_ret (v := aggV c) (by simp [results, Tryd.results89, go_sem, p0, p1, p2, i0]) rfl ⟨congrArg (fun z => Ending.returned (aggV z)) EF.out.symm, (Kept.refl w |>.alloc _ |>.alloc _)⟩
  | false =>
    rw [he] at ie
    have EF : Hid (vLogic 25 a (c :: r) = a) := by
      show _ = _
      unfold vLogic; rw [if_neg (by omega), if_pos rfl, he]; rfl
    clear he
    go_enter Tryd.func89, Tryd.ntmps89
    go_wp2_with fail
    exact bodyPost_ret (v := aggV a) (by simp [results, Tryd.results89, go_sem, hb]) rfl ⟨congrArg (fun z => Ending.returned (aggV z)) EF.out.symm, (Kept.refl w |>.alloc _ |>.alloc _)⟩

set_option maxHeartbeats 2000000 in
set_option maxRecDepth 100000 in
theorem value21 (b off cap : Nat) (a : Vl) (r : List Vl) (hl : r.length + 1 ≤ 100) (hs : ∀ v ∈ a :: r, Small v) (w : World) (hr : RowV w (some ⟨b, off, none⟩) (a :: r)) (hc : (r.length + 1) ≤ cap) :
    Calls Tryd.prog 89 #[.int .u8 21, .slice (some ⟨b, off, none⟩) (r.length + 1) cap] w fun e w' => e = .returned (aggV (vLogic 21 a r)) ∧ Kept w w' := by
  obtain ⟨hb, x0, x1, x2⟩ := hr.head
  have B0 : Hid (Box ((w.alloc (.cells #[.int .u8 0, .int .i64 0, .string ⟨#[]⟩] 35)).alloc (.cells #[.int .u8 a.k, .int .i64 a.n, .string ⟨a.t.toArray⟩] 35)) w.heap.size 35 (cellsV blankV)) := Lib.hid ((Box.new w _ _).alloc _)
  have B1 : Hid (Box ((w.alloc (.cells #[.int .u8 0, .int .i64 0, .string ⟨#[]⟩] 35)).alloc (.cells #[.int .u8 a.k, .int .i64 a.n, .string ⟨a.t.toArray⟩] 35)) (w.heap.size + 1) 35 (cellsV a)) := Lib.hid (Box.newAt (by simp) _ _)
  have HR := Lib.hid hr
  have C : Hid (∀ w, RowV w (some ⟨b, off, none⟩) (a :: r) → Calls Tryd.prog 123 #[.int .u8 21, .slice (some ⟨b, off, none⟩) (r.length + 1) cap] w fun e w' => e = .returned (aggV (condOf 21 (a :: r))) ∧ Kept w w') := fun w h => conditions_of 21 (by omega) (some ⟨b, off, none⟩) cap (a :: r) w h hs hl
  have EF := Lib.hid (logic_cond 21 (by omega) a r)
  generalize condOf 21 (a :: r) = z at *
  clear hr hs
  go_enter Tryd.func89, Tryd.ntmps89
  go_wp2_with fail
  refine (C.out _ (HR.out.kept (by repeat (first | with_reducible exact Kept.refl _ | with_reducible apply Kept.drew | with_reducible apply Kept.drewN | with_reducible apply Kept.alloc | (with_reducible refine Kept.setCellX ?_ ?_ _; focus (first | (simp; done) | (simp; omega))) | (with_reducible refine Kept.trans ?_ (by assumption)))))).mono ?_
  rintro e w1 ⟨rfl, k1⟩
  have k2 := Kept.trans (Kept.refl _) k1
  have c0 := B0.out.kept k1
  obtain ⟨i0, p0, p1, p2, f0, f1, f2⟩ := c0.three
  have KK : Hid (Kept w w1) := Lib.hid (Kept.trans (by repeat (first | with_reducible exact Kept.refl _ | with_reducible apply Kept.drew | with_reducible apply Kept.drewN | with_reducible apply Kept.alloc | (with_reducible refine Kept.setCellX ?_ ?_ _; focus (first | (simp; done) | (simp; omega))) | (with_reducible refine Kept.trans ?_ (by assumption)))) k1)
  clear c0 k1 k2
  go_wp2_with fail
  exact bodyPost_ret (v := aggV z) (by simp [results, Tryd.results89, go_sem, p0, p1, p2, i0]) rfl ⟨congrArg (fun z => Ending.returned (aggV z)) EF.out.symm, KK.out.set3 (Nat.le_refl _)⟩

set_option maxHeartbeats 2000000 in
set_option maxRecDepth 100000 in
theorem value22 (b off cap : Nat) (a : Vl) (r : List Vl) (hl : r.length + 1 ≤ 100) (hs : ∀ v ∈ a :: r, Small v) (w : World) (hr : RowV w (some ⟨b, off, none⟩) (a :: r)) (hc : (r.length + 1) ≤ cap) :
    Calls Tryd.prog 89 #[.int .u8 22, .slice (some ⟨b, off, none⟩) (r.length + 1) cap] w fun e w' => e = .returned (aggV (vLogic 22 a r)) ∧ Kept w w' := by
  obtain ⟨hb, x0, x1, x2⟩ := hr.head
  have B0 : Hid (Box ((w.alloc (.cells #[.int .u8 0, .int .i64 0, .string ⟨#[]⟩] 35)).alloc (.cells #[.int .u8 a.k, .int .i64 a.n, .string ⟨a.t.toArray⟩] 35)) w.heap.size 35 (cellsV blankV)) := Lib.hid ((Box.new w _ _).alloc _)
  have B1 : Hid (Box ((w.alloc (.cells #[.int .u8 0, .int .i64 0, .string ⟨#[]⟩] 35)).alloc (.cells #[.int .u8 a.k, .int .i64 a.n, .string ⟨a.t.toArray⟩] 35)) (w.heap.size + 1) 35 (cellsV a)) := Lib.hid (Box.newAt (by simp) _ _)
  have HR := Lib.hid hr
  have C : Hid (∀ w, RowV w (some ⟨b, off, none⟩) (a :: r) → Calls Tryd.prog 123 #[.int .u8 22, .slice (some ⟨b, off, none⟩) (r.length + 1) cap] w fun e w' => e = .returned (aggV (condOf 22 (a :: r))) ∧ Kept w w') := fun w h => conditions_of 22 (by omega) (some ⟨b, off, none⟩) cap (a :: r) w h hs hl
  have EF := Lib.hid (logic_cond 22 (by omega) a r)
  generalize condOf 22 (a :: r) = z at *
  clear hr hs
  go_enter Tryd.func89, Tryd.ntmps89
  go_wp2_with fail
  refine (C.out _ (HR.out.kept (by repeat (first | with_reducible exact Kept.refl _ | with_reducible apply Kept.drew | with_reducible apply Kept.drewN | with_reducible apply Kept.alloc | (with_reducible refine Kept.setCellX ?_ ?_ _; focus (first | (simp; done) | (simp; omega))) | (with_reducible refine Kept.trans ?_ (by assumption)))))).mono ?_
  rintro e w1 ⟨rfl, k1⟩
  have k2 := Kept.trans (Kept.refl _) k1
  have c0 := B0.out.kept k1
  obtain ⟨i0, p0, p1, p2, f0, f1, f2⟩ := c0.three
  have KK : Hid (Kept w w1) := Lib.hid (Kept.trans (by repeat (first | with_reducible exact Kept.refl _ | with_reducible apply Kept.drew | with_reducible apply Kept.drewN | with_reducible apply Kept.alloc | (with_reducible refine Kept.setCellX ?_ ?_ _; focus (first | (simp; done) | (simp; omega))) | (with_reducible refine Kept.trans ?_ (by assumption)))) k1)
  clear c0 k1 k2
  go_wp2_with fail
  exact bodyPost_ret (v := aggV z) (by simp [results, Tryd.results89, go_sem, p0, p1, p2, i0]) rfl ⟨congrArg (fun z => Ending.returned (aggV z)) EF.out.symm, KK.out.set3 (Nat.le_refl _)⟩

set_option maxHeartbeats 2000000 in
set_option maxRecDepth 100000 in
theorem value23 (b off cap : Nat) (a : Vl) (r : List Vl) (hl : r.length + 1 ≤ 100) (hs : ∀ v ∈ a :: r, Small v) (w : World) (hr : RowV w (some ⟨b, off, none⟩) (a :: r)) (hc : (r.length + 1) ≤ cap) :
    Calls Tryd.prog 89 #[.int .u8 23, .slice (some ⟨b, off, none⟩) (r.length + 1) cap] w fun e w' => e = .returned (aggV (vLogic 23 a r)) ∧ Kept w w' := by
  obtain ⟨hb, x0, x1, x2⟩ := hr.head
  have B0 : Hid (Box ((w.alloc (.cells #[.int .u8 0, .int .i64 0, .string ⟨#[]⟩] 35)).alloc (.cells #[.int .u8 a.k, .int .i64 a.n, .string ⟨a.t.toArray⟩] 35)) w.heap.size 35 (cellsV blankV)) := Lib.hid ((Box.new w _ _).alloc _)
  have B1 : Hid (Box ((w.alloc (.cells #[.int .u8 0, .int .i64 0, .string ⟨#[]⟩] 35)).alloc (.cells #[.int .u8 a.k, .int .i64 a.n, .string ⟨a.t.toArray⟩] 35)) (w.heap.size + 1) 35 (cellsV a)) := Lib.hid (Box.newAt (by simp) _ _)
  have HR := Lib.hid hr
  have C : Hid (∀ w, RowV w (some ⟨b, off, none⟩) (a :: r) → Calls Tryd.prog 123 #[.int .u8 23, .slice (some ⟨b, off, none⟩) (r.length + 1) cap] w fun e w' => e = .returned (aggV (condOf 23 (a :: r))) ∧ Kept w w') := fun w h => conditions_of 23 (by omega) (some ⟨b, off, none⟩) cap (a :: r) w h hs hl
  have EF := Lib.hid (logic_cond 23 (by omega) a r)
  generalize condOf 23 (a :: r) = z at *
  clear hr hs
  go_enter Tryd.func89, Tryd.ntmps89
  go_wp2_with fail
  refine (C.out _ (HR.out.kept (by repeat (first | with_reducible exact Kept.refl _ | with_reducible apply Kept.drew | with_reducible apply Kept.drewN | with_reducible apply Kept.alloc | (with_reducible refine Kept.setCellX ?_ ?_ _; focus (first | (simp; done) | (simp; omega))) | (with_reducible refine Kept.trans ?_ (by assumption)))))).mono ?_
  rintro e w1 ⟨rfl, k1⟩
  have k2 := Kept.trans (Kept.refl _) k1
  have c0 := B0.out.kept k1
  obtain ⟨i0, p0, p1, p2, f0, f1, f2⟩ := c0.three
  have KK : Hid (Kept w w1) := Lib.hid (Kept.trans (by repeat (first | with_reducible exact Kept.refl _ | with_reducible apply Kept.drew | with_reducible apply Kept.drewN | with_reducible apply Kept.alloc | (with_reducible refine Kept.setCellX ?_ ?_ _; focus (first | (simp; done) | (simp; omega))) | (with_reducible refine Kept.trans ?_ (by assumption)))) k1)
  clear c0 k1 k2
  go_wp2_with fail
  exact bodyPost_ret (v := aggV z) (by simp [results, Tryd.results89, go_sem, p0, p1, p2, i0]) rfl ⟨congrArg (fun z => Ending.returned (aggV z)) EF.out.symm, KK.out.set3 (Nat.le_refl _)⟩

set_option maxHeartbeats 2000000 in
set_option maxRecDepth 100000 in
theorem value20 (b off cap : Nat) (a : Vl) (r : List Vl) (mx : Int) (w : World) (hm : Mx w mx) (hl : r.length + 1 ≤ 100) (hl3 : r.length + 1 ≤ 3) (hn : 1 ≤ r.length) (hsm : Small a) (hr : RowV w (some ⟨b, off, none⟩) (a :: r)) (hc : (r.length + 1) ≤ cap) :
    Calls Tryd.prog 89 #[.int .u8 20, .slice (some ⟨b, off, none⟩) (r.length + 1) cap] w fun e w' => e = .returned (aggV (vLogic 20 a r)) ∧ Kept w w' := by
  obtain ⟨hb, x0, x1, x2⟩ := hr.head
  have B0 : Hid (Box ((w.alloc (.cells #[.int .u8 0, .int .i64 0, .string ⟨#[]⟩] 35)).alloc (.cells #[.int .u8 a.k, .int .i64 a.n, .string ⟨a.t.toArray⟩] 35)) w.heap.size 35 (cellsV blankV)) := Lib.hid ((Box.new w _ _).alloc _)
  have B1 : Hid (Box ((w.alloc (.cells #[.int .u8 0, .int .i64 0, .string ⟨#[]⟩] 35)).alloc (.cells #[.int .u8 a.k, .int .i64 a.n, .string ⟨a.t.toArray⟩] 35)) (w.heap.size + 1) 35 (cellsV a)) := Lib.hid (Box.newAt (by simp) _ _)
  have HR := Lib.hid hr
  have C : Hid (∀ w, Mx w mx → RowV w (some ⟨b, off, none⟩) (a :: r) → Calls Tryd.prog 124 #[.slice (some ⟨b, off, none⟩) (r.length + 1) cap, .func (.func 53) #[] #[]] w fun e w' => e = .returned (chosenE (vBool a) (firstE r)) ∧ Kept w w') := fun w m h => choiceB_any b off cap a r (vBool a) w h hl hn hc (fun w' k => tobool_any a w' hsm.1 hsm.2)
  have HM := Lib.hid hm
  clear hm
  rcases chosen20 a r with ⟨p, q, h1, h2⟩ | ⟨h1, h2⟩
  · rw [h1] at C
    have EF := Lib.hid h2
    clear h1 h2
    go_enter Tryd.func89, Tryd.ntmps89
    go_wp2_with fail
    refine (C.out _ (HM.out.kept (by repeat (first | with_reducible exact Kept.refl _ | with_reducible apply Kept.drew | with_reducible apply Kept.drewN | with_reducible apply Kept.alloc | (with_reducible refine Kept.setCellX ?_ ?_ _; focus (first | (simp; done) | (simp; omega))) | (with_reducible refine Kept.trans ?_ (by assumption))))) (HR.out.kept (by repeat (first | with_reducible exact Kept.refl _ | with_reducible apply Kept.drew | with_reducible apply Kept.drewN | with_reducible apply Kept.alloc | (with_reducible refine Kept.setCellX ?_ ?_ _; focus (first | (simp; done) | (simp; omega))) | (with_reducible refine Kept.trans ?_ (by assumption)))))).mono ?_
    rintro e w1 ⟨rfl, k1⟩
    obtain ⟨i0, p0, p1, p2, f0, f1, f2⟩ := (B0.out.kept k1).three
    have KK : Hid (Kept w w1) := Lib.hid (Kept.trans (by repeat (first | with_reducible exact Kept.refl _ | with_reducible apply Kept.drew | with_reducible apply Kept.drewN | with_reducible apply Kept.alloc | (with_reducible refine Kept.setCellX ?_ ?_ _; focus (first | (simp; done) | (simp; omega))) | (with_reducible refine Kept.trans ?_ (by assumption)))) k1)
    have C0 := Lib.hid (B0.out.kept k1)
    have R1 := Lib.hid (HR.out.kept KK.out)
    clear k1
    go_wp2_with fail
    exact bodyPost_ret (v := aggV q) (by simp [results, Tryd.results89, go_sem, p0, p1, p2, i0]) rfl ⟨congrArg (fun z => Ending.returned (aggV z)) EF.out.symm, (by first | exact KK.out.set3 (Nat.le_refl _) | exact ((KK.out.set3 (Nat.le_refl _)).alloc _).alloc _ | exact ((KK.out.alloc _).alloc _).set3 (Nat.le_refl _))⟩
  · rw [h1] at C
    generalize vBool a = y at *
    clear h1
    match r, hn with
    | c :: r, _ =>
      simp only [List.length_cons] at C hl3 hc ⊢
      by_cases n1 : y.n = 1
      · have yn : (y.n == 1) = true := by rw [n1]; rfl
        have EF : Hid (vLogic 20 a (c :: r) = c) := by
          show _ = _
          rw [h2, if_pos n1]; rfl
        clear h2 n1 hr
        go_enter Tryd.func89, Tryd.ntmps89
        go_wp2_with fail
        refine (C.out _ (HM.out.kept (by repeat (first | with_reducible exact Kept.refl _ | with_reducible apply Kept.drew | with_reducible apply Kept.drewN | with_reducible apply Kept.alloc | (with_reducible refine Kept.setCellX ?_ ?_ _; focus (first | (simp; done) | (simp; omega))) | (with_reducible refine Kept.trans ?_ (by assumption))))) (HR.out.kept (by repeat (first | with_reducible exact Kept.refl _ | with_reducible apply Kept.drew | with_reducible apply Kept.drewN | with_reducible apply Kept.alloc | (with_reducible refine Kept.setCellX ?_ ?_ _; focus (first | (simp; done) | (simp; omega))) | (with_reducible refine Kept.trans ?_ (by assumption)))))).mono ?_
        rintro e w1 ⟨rfl, k1⟩
        obtain ⟨i0, p0, p1, p2, f0, f1, f2⟩ := (B0.out.kept k1).three
        have KK : Hid (Kept w w1) := Lib.hid (Kept.trans (by repeat (first | with_reducible exact Kept.refl _ | with_reducible apply Kept.drew | with_reducible apply Kept.drewN | with_reducible apply Kept.alloc | (with_reducible refine Kept.setCellX ?_ ?_ _; focus (first | (simp; done) | (simp; omega))) | (with_reducible refine Kept.trans ?_ (by assumption)))) k1)
        have C0 := Lib.hid (B0.out.kept k1)
        have R1 := Lib.hid (HR.out.kept KK.out)
        clear k1
        obtain ⟨y0, y1, y2⟩ := R1.out.second
        have hb1 : b < w1.heap.size := R1.out.head.1
        go_wp2_with fail
        exact bodyPost_ret (v := aggV c) (by simp [results, Tryd.results89, go_sem, p0, p1, p2, i0]) rfl ⟨congrArg (fun z => Ending.returned (aggV z)) EF.out.symm, (by first | exact KK.out.set3 (Nat.le_refl _) | exact ((KK.out.set3 (Nat.le_refl _)).alloc _).alloc _ | exact ((KK.out.alloc _).alloc _).set3 (Nat.le_refl _))⟩
      · have yn : (y.n == 1) = false := by simpa using n1
        match r, hl3 with
        | [], _ =>
          have EF : Hid (vLogic 20 a [c] = vTruth false) := by
            show _ = _
            rw [h2, if_neg n1]; rfl
          have T := Lib.hid (fun w => vtruth_any false w)
          clear h2 n1 hr
          go_enter Tryd.func89, Tryd.ntmps89
          go_wp2_with fail
          refine (C.out _ (HM.out.kept (by repeat (first | with_reducible exact Kept.refl _ | with_reducible apply Kept.drew | with_reducible apply Kept.drewN | with_reducible apply Kept.alloc | (with_reducible refine Kept.setCellX ?_ ?_ _; focus (first | (simp; done) | (simp; omega))) | (with_reducible refine Kept.trans ?_ (by assumption))))) (HR.out.kept (by repeat (first | with_reducible exact Kept.refl _ | with_reducible apply Kept.drew | with_reducible apply Kept.drewN | with_reducible apply Kept.alloc | (with_reducible refine Kept.setCellX ?_ ?_ _; focus (first | (simp; done) | (simp; omega))) | (with_reducible refine Kept.trans ?_ (by assumption)))))).mono ?_
          rintro e w1 ⟨rfl, k1⟩
          obtain ⟨i0, p0, p1, p2, f0, f1, f2⟩ := (B0.out.kept k1).three
          have KK : Hid (Kept w w1) := Lib.hid (Kept.trans (by repeat (first | with_reducible exact Kept.refl _ | with_reducible apply Kept.drew | with_reducible apply Kept.drewN | with_reducible apply Kept.alloc | (with_reducible refine Kept.setCellX ?_ ?_ _; focus (first | (simp; done) | (simp; omega))) | (with_reducible refine Kept.trans ?_ (by assumption)))) k1)
          have C0 := Lib.hid (B0.out.kept k1)
          have R1 := Lib.hid (HR.out.kept KK.out)
          clear k1
          go_wp2_with fail
          refine (T.out _).mono ?_
          rintro e w2 ⟨rfl, k2⟩
          have k3 := Kept.trans (Kept.alloc (Kept.alloc (Kept.refl w1) (.cells (cellsV y) 35)) (.cells (cellsV blankV) 35)) k2
          obtain ⟨j0, q0, q1, q2, g0, g1, g2⟩ := (C0.out.kept k3).three
          have KK := Lib.hid (KK.out.trans k3)
          clear k2 k3 p0 p1 p2 f0 f1 f2 i0
          go_wp2_with fail
          exact bodyPost_ret (v := aggV (vTruth false)) (by simp [results, Tryd.results89, go_sem, q0, q1, q2, j0]) rfl ⟨congrArg (fun z => Ending.returned (aggV z)) EF.out.symm, (by first | exact KK.out.set3 (Nat.le_refl _) | exact ((KK.out.set3 (Nat.le_refl _)).alloc _).alloc _ | exact ((KK.out.alloc _).alloc _).set3 (Nat.le_refl _))⟩
        | [d], _ =>
          have EF : Hid (vLogic 20 a [c, d] = d) := by
            show _ = _
            rw [h2, if_neg n1]; rfl
          clear h2 n1 hr
          go_enter Tryd.func89, Tryd.ntmps89
          go_wp2_with fail
          refine (C.out _ (HM.out.kept (by repeat (first | with_reducible exact Kept.refl _ | with_reducible apply Kept.drew | with_reducible apply Kept.drewN | with_reducible apply Kept.alloc | (with_reducible refine Kept.setCellX ?_ ?_ _; focus (first | (simp; done) | (simp; omega))) | (with_reducible refine Kept.trans ?_ (by assumption))))) (HR.out.kept (by repeat (first | with_reducible exact Kept.refl _ | with_reducible apply Kept.drew | with_reducible apply Kept.drewN | with_reducible apply Kept.alloc | (with_reducible refine Kept.setCellX ?_ ?_ _; focus (first | (simp; done) | (simp; omega))) | (with_reducible refine Kept.trans ?_ (by assumption)))))).mono ?_
          rintro e w1 ⟨rfl, k1⟩
          obtain ⟨i0, p0, p1, p2, f0, f1, f2⟩ := (B0.out.kept k1).three
          have KK : Hid (Kept w w1) := Lib.hid (Kept.trans (by repeat (first | with_reducible exact Kept.refl _ | with_reducible apply Kept.drew | with_reducible apply Kept.drewN | with_reducible apply Kept.alloc | (with_reducible refine Kept.setCellX ?_ ?_ _; focus (first | (simp; done) | (simp; omega))) | (with_reducible refine Kept.trans ?_ (by assumption)))) k1)
          have C0 := Lib.hid (B0.out.kept k1)
          have R1 := Lib.hid (HR.out.kept KK.out)
          clear k1
          obtain ⟨y0, y1, y2⟩ := R1.out.third
          have hb1 : b < w1.heap.size := R1.out.head.1
          go_wp2_with fail
          exact bodyPost_ret (v := aggV d) (by simp [results, Tryd.results89, go_sem, p0, p1, p2, i0]) rfl ⟨congrArg (fun z => Ending.returned (aggV z)) EF.out.symm, (by first | exact KK.out.set3 (Nat.le_refl _) | exact ((KK.out.set3 (Nat.le_refl _)).alloc _).alloc _ | exact ((KK.out.alloc _).alloc _).set3 (Nat.le_refl _))⟩
        | d :: e :: r, h => exact absurd h (by simp)

set_option maxHeartbeats 2000000 in
set_option maxRecDepth 100000 in
theorem value30 (b off cap : Nat) (a : Vl) (r : List Vl) (mx : Int) (w : World) (hm : Mx w mx) (hl : r.length + 1 ≤ 100) (hn : 1 ≤ r.length) (hsm : Small a) (hr : RowV w (some ⟨b, off, none⟩) (a :: r)) (hc : (r.length + 1) ≤ cap) :
    Calls Tryd.prog 89 #[.int .u8 30, .slice (some ⟨b, off, none⟩) (r.length + 1) cap] w fun e w' => e = .returned (aggV (vLogic 30 a r)) ∧ Kept w w' := by
  obtain ⟨hb, x0, x1, x2⟩ := hr.head
  have B0 : Hid (Box ((w.alloc (.cells #[.int .u8 0, .int .i64 0, .string ⟨#[]⟩] 35)).alloc (.cells #[.int .u8 a.k, .int .i64 a.n, .string ⟨a.t.toArray⟩] 35)) w.heap.size 35 (cellsV blankV)) := Lib.hid ((Box.new w _ _).alloc _)
  have B1 : Hid (Box ((w.alloc (.cells #[.int .u8 0, .int .i64 0, .string ⟨#[]⟩] 35)).alloc (.cells #[.int .u8 a.k, .int .i64 a.n, .string ⟨a.t.toArray⟩] 35)) (w.heap.size + 1) 35 (cellsV a)) := Lib.hid (Box.newAt (by simp) _ _)
  have HR := Lib.hid hr
  have C : Hid (∀ w, Mx w mx → RowV w (some ⟨b, off, none⟩) (a :: r) → Calls Tryd.prog 124 #[.slice (some ⟨b, off, none⟩) (r.length + 1) cap, .func (.func 65) #[] #[]] w fun e w' => e = .returned (chosenE (vNum a) (firstE r)) ∧ Kept w w') := fun w m h => choiceN_any b off cap a r (vNum a) w h hl hn hc (fun w' k => tonum_any a w' mx (m.kept k) hsm.1 hsm.2)
  have HM := Lib.hid hm
  have ib := (small_num hsm).1
  clear hm
  rcases chosen30 a r with ⟨p, q, h1, h2⟩ | ⟨h1, h2⟩
  · rw [h1] at C
    have EF := Lib.hid h2
    clear h1 h2
    go_enter Tryd.func89, Tryd.ntmps89
    go_wp2_with fail
    refine (C.out _ (HM.out.kept (by repeat (first | with_reducible exact Kept.refl _ | with_reducible apply Kept.drew | with_reducible apply Kept.drewN | with_reducible apply Kept.alloc | (with_reducible refine Kept.setCellX ?_ ?_ _; focus (first | (simp; done) | (simp; omega))) | (with_reducible refine Kept.trans ?_ (by assumption))))) (HR.out.kept (by repeat (first | with_reducible exact Kept.refl _ | with_reducible apply Kept.drew | with_reducible apply Kept.drewN | with_reducible apply Kept.alloc | (with_reducible refine Kept.setCellX ?_ ?_ _; focus (first | (simp; done) | (simp; omega))) | (with_reducible refine Kept.trans ?_ (by assumption)))))).mono ?_
    rintro e w1 ⟨rfl, k1⟩
    obtain ⟨i0, p0, p1, p2, f0, f1, f2⟩ := (B0.out.kept k1).three
    have KK : Hid (Kept w w1) := Lib.hid (Kept.trans (by repeat (first | with_reducible exact Kept.refl _ | with_reducible apply Kept.drew | with_reducible apply Kept.drewN | with_reducible apply Kept.alloc | (with_reducible refine Kept.setCellX ?_ ?_ _; focus (first | (simp; done) | (simp; omega))) | (with_reducible refine Kept.trans ?_ (by assumption)))) k1)
    have C0 := Lib.hid (B0.out.kept k1)
    have R1 := Lib.hid (HR.out.kept KK.out)
    clear k1
    go_wp2_with fail
    exact bodyPost_ret (v := aggV q) (by simp [results, Tryd.results89, go_sem, p0, p1, p2, i0]) rfl ⟨congrArg (fun z => Ending.returned (aggV z)) EF.out.symm, (by first | exact KK.out.set3 (Nat.le_refl _) | exact ((KK.out.set3 (Nat.le_refl _)).alloc _).alloc _ | exact ((KK.out.alloc _).alloc _).set3 (Nat.le_refl _))⟩
  · rw [h1] at C
    generalize vNum a = y at *
    obtain ⟨ib1, ib2⟩ := ib
    clear h1
    obtain ⟨z, hz⟩ : ∃ z, z = Int.tdiv y.n 10000 := ⟨_, rfl⟩
    have zb : -9223372036854775808 ≤ z ∧ z ≤ 9223372036854775807 := by
      rw [hz]
      rcases Int.lt_or_le y.n 0 with c | c
      · have := Int.neg_tdiv (a := y.n) (b := 10000)
        have h3 : Int.tdiv (-y.n) 10000 = (-y.n) / 10000 := Int.tdiv_eq_ediv_of_nonneg (by omega)
        omega
      · have h3 : Int.tdiv y.n 10000 = y.n / 10000 := Int.tdiv_eq_ediv_of_nonneg c
        omega
    rw [← hz] at h2
    by_cases ok : 1 ≤ z ∧ z < ((a :: r).length : Nat)
    · obtain ⟨k, hk⟩ : ∃ k : Nat, z = ((k + 1 : Nat) : Int) := ⟨(z - 1).toNat, by omega⟩
      have kr : k < r.length := by have := ok.2; simp only [List.length_cons] at this; omega
      have EF : Hid (vLogic 30 a r = r.getD k blankV) := by
        show _ = _
        rw [h2, if_pos ok, show (z - 1).toNat = k by omega]
      have e := hz.symm.trans hk
      clear h2 ok hk hz zb hr
      go_enter Tryd.func89, Tryd.ntmps89
      go_wp2_with fail
      refine (C.out _ (HM.out.kept (by repeat (first | with_reducible exact Kept.refl _ | with_reducible apply Kept.drew | with_reducible apply Kept.drewN | with_reducible apply Kept.alloc | (with_reducible refine Kept.setCellX ?_ ?_ _; focus (first | (simp; done) | (simp; omega))) | (with_reducible refine Kept.trans ?_ (by assumption))))) (HR.out.kept (by repeat (first | with_reducible exact Kept.refl _ | with_reducible apply Kept.drew | with_reducible apply Kept.drewN | with_reducible apply Kept.alloc | (with_reducible refine Kept.setCellX ?_ ?_ _; focus (first | (simp; done) | (simp; omega))) | (with_reducible refine Kept.trans ?_ (by assumption)))))).mono ?_
      rintro e w1 ⟨rfl, k1⟩
      obtain ⟨i0, p0, p1, p2, f0, f1, f2⟩ := (B0.out.kept k1).three
      have KK : Hid (Kept w w1) := Lib.hid (Kept.trans (by repeat (first | with_reducible exact Kept.refl _ | with_reducible apply Kept.drew | with_reducible apply Kept.drewN | with_reducible apply Kept.alloc | (with_reducible refine Kept.setCellX ?_ ?_ _; focus (first | (simp; done) | (simp; omega))) | (with_reducible refine Kept.trans ?_ (by assumption)))) k1)
      have C0 := Lib.hid (B0.out.kept k1)
      have R1 := Lib.hid (HR.out.kept KK.out)
      clear k1
      obtain ⟨hb1, y0, y1, y2⟩ := R1.out.nth (k + 1) (by simp only [List.length_cons]; omega)
      rw [List.getD_cons_succ] at y0 y1 y2
      generalize r.getD k blankV = v at *
      go_wp2_with fail
      exact bodyPost_ret (v := aggV v) (by simp [results, Tryd.results89, go_sem, p0, p1, p2, i0]) rfl ⟨congrArg (fun z => Ending.returned (aggV z)) EF.out.symm, (by first | exact KK.out.set3 (Nat.le_refl _) | exact ((KK.out.set3 (Nat.le_refl _)).alloc _).alloc _ | exact ((KK.out.alloc _).alloc _).set3 (Nat.le_refl _))⟩
    · have EF : Hid (vLogic 30 a r = vFail 2) := by
        show _ = _
        rw [h2, if_neg ok]
      have e := hz.symm
      have T := Lib.hid (fun w => vfail_any 2 w)
      generalize vFail 2 = fv at *
      simp only [List.length_cons] at ok
      obtain ⟨zb1, zb2⟩ := zb
      by_cases c1 : 1 ≤ z
      · have c2 : ¬ z < ((r.length + 1 : Nat) : Int) := fun h => ok ⟨c1, h⟩
        clear h2 ok hz hr
        go_enter Tryd.func89, Tryd.ntmps89
        go_wp2_with fail
        refine (C.out _ (HM.out.kept (by repeat (first | with_reducible exact Kept.refl _ | with_reducible apply Kept.drew | with_reducible apply Kept.drewN | with_reducible apply Kept.alloc | (with_reducible refine Kept.setCellX ?_ ?_ _; focus (first | (simp; done) | (simp; omega))) | (with_reducible refine Kept.trans ?_ (by assumption))))) (HR.out.kept (by repeat (first | with_reducible exact Kept.refl _ | with_reducible apply Kept.drew | with_reducible apply Kept.drewN | with_reducible apply Kept.alloc | (with_reducible refine Kept.setCellX ?_ ?_ _; focus (first | (simp; done) | (simp; omega))) | (with_reducible refine Kept.trans ?_ (by assumption)))))).mono ?_
        rintro e w1 ⟨rfl, k1⟩
        obtain ⟨i0, p0, p1, p2, f0, f1, f2⟩ := (B0.out.kept k1).three
        have KK : Hid (Kept w w1) := Lib.hid (Kept.trans (by repeat (first | with_reducible exact Kept.refl _ | with_reducible apply Kept.drew | with_reducible apply Kept.drewN | with_reducible apply Kept.alloc | (with_reducible refine Kept.setCellX ?_ ?_ _; focus (first | (simp; done) | (simp; omega))) | (with_reducible refine Kept.trans ?_ (by assumption)))) k1)
        have C0 := Lib.hid (B0.out.kept k1)
        have R1 := Lib.hid (HR.out.kept KK.out)
        clear k1
        go_wp2_with fail
        refine (T.out _).mono ?_
        rintro e w2 ⟨rfl, k2⟩
        have k3 := Kept.trans (Kept.alloc (Kept.alloc (Kept.refl w1) (.cells (cellsV y) 35)) (.cells (cellsV blankV) 35)) k2
        obtain ⟨j0, q0, q1, q2, g0, g1, g2⟩ := (C0.out.kept k3).three
        have KK := Lib.hid (KK.out.trans k3)
        clear k2 k3 p0 p1 p2 f0 f1 f2 i0
        go_wp2_with fail
        exact bodyPost_ret (v := aggV fv) (by simp [results, Tryd.results89, go_sem, q0, q1, q2, j0]) rfl ⟨congrArg (fun z => Ending.returned (aggV z)) EF.out.symm, (by first | exact KK.out.set3 (Nat.le_refl _) | exact ((KK.out.set3 (Nat.le_refl _)).alloc _).alloc _ | exact ((KK.out.alloc _).alloc _).set3 (Nat.le_refl _))⟩
      · clear h2 ok hz hr
        go_enter Tryd.func89, Tryd.ntmps89
        go_wp2_with fail
        refine (C.out _ (HM.out.kept (by repeat (first | with_reducible exact Kept.refl _ | with_reducible apply Kept.drew | with_reducible apply Kept.drewN | with_reducible apply Kept.alloc | (with_reducible refine Kept.setCellX ?_ ?_ _; focus (first | (simp; done) | (simp; omega))) | (with_reducible refine Kept.trans ?_ (by assumption))))) (HR.out.kept (by repeat (first | with_reducible exact Kept.refl _ | with_reducible apply Kept.drew | with_reducible apply Kept.drewN | with_reducible apply Kept.alloc | (with_reducible refine Kept.setCellX ?_ ?_ _; focus (first | (simp; done) | (simp; omega))) | (with_reducible refine Kept.trans ?_ (by assumption)))))).mono ?_
        rintro e w1 ⟨rfl, k1⟩
        obtain ⟨i0, p0, p1, p2, f0, f1, f2⟩ := (B0.out.kept k1).three
        have KK : Hid (Kept w w1) := Lib.hid (Kept.trans (by repeat (first | with_reducible exact Kept.refl _ | with_reducible apply Kept.drew | with_reducible apply Kept.drewN | with_reducible apply Kept.alloc | (with_reducible refine Kept.setCellX ?_ ?_ _; focus (first | (simp; done) | (simp; omega))) | (with_reducible refine Kept.trans ?_ (by assumption)))) k1)
        have C0 := Lib.hid (B0.out.kept k1)
        have R1 := Lib.hid (HR.out.kept KK.out)
        clear k1
        go_wp2_with fail
        refine (T.out _).mono ?_
        rintro e w2 ⟨rfl, k2⟩
        have k3 := Kept.trans (Kept.alloc (Kept.alloc (Kept.refl w1) (.cells (cellsV y) 35)) (.cells (cellsV blankV) 35)) k2
        obtain ⟨j0, q0, q1, q2, g0, g1, g2⟩ := (C0.out.kept k3).three
        have KK := Lib.hid (KK.out.trans k3)
        clear k2 k3 p0 p1 p2 f0 f1 f2 i0
        go_wp2_with fail
        exact bodyPost_ret (v := aggV fv) (by simp [results, Tryd.results89, go_sem, q0, q1, q2, j0]) rfl ⟨congrArg (fun z => Ending.returned (aggV z)) EF.out.symm, (by first | exact KK.out.set3 (Nat.le_refl _) | exact ((KK.out.set3 (Nat.le_refl _)).alloc _).alloc _ | exact ((KK.out.alloc _).alloc _).set3 (Nat.le_refl _))⟩
end Go.Proofs.YtipkjpcedfokhaaDoor
