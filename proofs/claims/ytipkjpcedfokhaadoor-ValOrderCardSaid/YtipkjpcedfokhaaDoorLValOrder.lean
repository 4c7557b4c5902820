/- The law ValOrder, walked (printed by wip/mkvorder.py). -/
import Derived.Test.YtipkjpcedfokhaaDoorBunC
import Derived.Test.YtipkjpcedfokhaaDoorBunV
namespace Go.Proofs.YtipkjpcedfokhaaDoor
set_option linter.unusedVariables false
set_option linter.unusedSimpArgs false
open Go.RowKit Lv

/-- three blocks of a value each -/
structure Three (w : World) (p q r : Nat) (a b c : Vl) : Prop where
  A : Box w p 35 (cellsV a)
  B : Box w q 35 (cellsV b)
  C : Box w r 35 (cellsV c)
theorem Three.kept {w w' : World} {p q r : Nat} {a b c : Vl} (h : Three w p q r a b c) (k : Kept w w') : Three w' p q r a b c := ⟨h.A.kept k, h.B.kept k, h.C.kept k⟩
theorem Three.made (w : World) (a b c : Vl) : Three (((w.alloc (.cells (cellsV a) 35)).alloc (.cells (cellsV b) 35)).alloc (.cells (cellsV c) 35)) w.heap.size (w.heap.size + 1) (w.heap.size + 2) a b c :=
  ⟨((Box.new w _ _).alloc _).alloc _, (Box.newAt (by simp) _ _).alloc _, Box.newAt (by simp) _ _⟩
theorem Three.facts {w : World} {p q r : Nat} {a b c : Vl} (h : Three w p q r a b c) :
    (w.cell? ⟨p, 0, none⟩ = some (.int .u8 a.k) ∧ w.cell? ⟨p, 1, none⟩ = some (.int .i64 a.n) ∧ w.cell? ⟨p, 2, none⟩ = some (.string ⟨a.t.toArray⟩)) ∧
    (w.cell? ⟨q, 0, none⟩ = some (.int .u8 b.k) ∧ w.cell? ⟨q, 1, none⟩ = some (.int .i64 b.n) ∧ w.cell? ⟨q, 2, none⟩ = some (.string ⟨b.t.toArray⟩)) ∧
    (w.cell? ⟨r, 0, none⟩ = some (.int .u8 c.k) ∧ w.cell? ⟨r, 1, none⟩ = some (.int .i64 c.n) ∧ w.cell? ⟨r, 2, none⟩ = some (.string ⟨c.t.toArray⟩)) :=
  ⟨⟨h.A.cell 0, h.A.cell 1, h.A.cell 2⟩, ⟨h.B.cell 0, h.B.cell 1, h.B.cell 2⟩, ⟨h.C.cell 0, h.C.cell 1, h.C.cell 2⟩⟩

/-- how two values differ, as the walk asks -/
theorem differ {k j : Nat} {n m : Int} {t u : List UInt8} (h : (⟨k, n, t⟩ : Vl) ≠ ⟨j, m, u⟩) : ((k : Int) == (j : Int)) = false ∨ (k = j ∧ (n == m) = false) ∨ (k = j ∧ n = m ∧ (t == u) = false) := by
  by_cases a : k = j
  · by_cases b : n = m
    · refine Or.inr (Or.inr ⟨a, b, ?_⟩)
      rw [beq_eq_false_iff_ne]
      intro c; subst a; subst b; subst c; exact h rfl
    · exact Or.inr (Or.inl ⟨a, by simpa using b⟩)
  · exact Or.inl (by rw [beq_eq_false_iff_ne]; intro e; exact a (Int.ofNat_inj.1 e))
/-- the end of the statement, by what the comparisons said -/
def Ways (k j : Nat) (n m : Int) (t u : List UInt8) (ab bc ac : Int) : Prop :=
  (decide (ab ≤ 0) = false ∨ (decide (ab ≤ 0) = true ∧ decide (bc ≤ 0) = false) ∨ (decide (ab ≤ 0) = true ∧ decide (bc ≤ 0) = true ∧ decide (0 < ac) = false ∧ (ac == 0) = false) ∨ (ac = 0 ∧ ab = 0 ∧ bc = 0)) ∧
  (((ab == 0) = false ∧ (((k : Int) == (j : Int)) = false ∨ (k = j ∧ (n == m) = false) ∨ (k = j ∧ n = m ∧ (t == u) = false))) ∨ (ab = 0 ∧ k = j ∧ n = m ∧ t = u) ∨ (ab = 0 ∧ k = 3 ∧ j = 3 ∧ n = m ∧ t.length = u.length ∧ (t == u) = false))
theorem ways_of {k j i : Nat} {n m l : Int} {t u v : List UInt8} (ca : canC ⟨k, n, t⟩ = true) (cb : canC ⟨j, m, u⟩ = true) (cc : canC ⟨i, l, v⟩ = true) (k0 : k ≠ 0) (j0 : j ≠ 0) (i0 : i ≠ 0) :
    Ways k j n m t u (vCmp1 ⟨k, n, t⟩ ⟨j, m, u⟩) (vCmp1 ⟨j, m, u⟩ ⟨i, l, v⟩) (vCmp1 ⟨k, n, t⟩ ⟨i, l, v⟩) := by
  have ka := can_cases ca k0
  have kb := can_cases cb j0
  have kc := can_cases cc i0
  have tr := cmp1_trans (x := ⟨k, n, t⟩) (y := ⟨j, m, u⟩) (z := ⟨i, l, v⟩) ka kb kc
  have zr := cmp1_zero ca cb k0 j0
  have sf : (⟨k, n, t⟩ : Vl) = ⟨j, m, u⟩ → vCmp1 ⟨k, n, t⟩ ⟨j, m, u⟩ = 0 := fun e => by rw [e]; exact cmp1_self _
  generalize vCmp1 ⟨k, n, t⟩ ⟨j, m, u⟩ = ab at *
  generalize vCmp1 ⟨j, m, u⟩ ⟨i, l, v⟩ = bc at *
  generalize vCmp1 ⟨k, n, t⟩ ⟨i, l, v⟩ = ac at *
  constructor
  · by_cases a : ab ≤ 0
    · by_cases b : bc ≤ 0
      · obtain ⟨x, y⟩ := tr a b
        by_cases c : ac = 0
        · obtain ⟨y1, y2⟩ := y c
          exact Or.inr (Or.inr (Or.inr ⟨c, y1, y2⟩))
        · exact Or.inr (Or.inr (Or.inl ⟨decide_eq_true a, decide_eq_true b, decide_eq_false (by omega), by simpa using c⟩))
      · exact Or.inr (Or.inl ⟨decide_eq_true a, decide_eq_false b⟩)
    · exact Or.inl (decide_eq_false a)
  · by_cases a : ab = 0
    · obtain ⟨z1, z2, z3⟩ := zr a
      simp only at z1 z2 z3
      by_cases e : k = 3
      · have j3 : j = 3 := by omega
        have n0 : n = 0 := by
          unfold canC at ca; rw [Bool.and_eq_true] at ca
          have := ca.1; rw [e, ok3, Bool.and_eq_true, decide_eq_true_eq] at this; exact this.1
        have m0 : m = 0 := by
          unfold canC at cb; rw [Bool.and_eq_true] at cb
          have := cb.1; rw [j3, ok3, Bool.and_eq_true, decide_eq_true_eq] at this; exact this.1
        by_cases f : t = u
        · exact Or.inr (Or.inl ⟨a, z1, by rw [n0, m0], f⟩)
        · exact Or.inr (Or.inr ⟨a, e, j3, by rw [n0, m0], z3, by rw [beq_eq_false_iff_ne]; exact f⟩)
      · have g := z2 e
        injection g with g1 g2 g3
        exact Or.inr (Or.inl ⟨a, g1, g2, g3⟩)
    · exact Or.inl ⟨by simpa using a, differ (fun e => a (sf e))⟩

set_option maxHeartbeats 16000000 in
set_option maxRecDepth 100000 in
theorem vorder_main (k j i : Nat) (n m l : Int) (t u v : List UInt8) (w : World) (mx : Int) (hm : Mx w mx) (wd : Wd w) (ab bc ac e g h : Int) (b1 : -1 ≤ ab) (b2 : ab ≤ 1) (tl : t.length ≤ 2000) (ul : u.length ≤ 2000)
    (LA : Hid (∀ w, Calls Tryd.prog 39 #[.agg #[.int .u8 k, .int .i64 n, .string ⟨t.toArray⟩]] w fun e w' => e = .returned (.bool false) ∧ Kept w w'))
    (LB : Hid (∀ w, Calls Tryd.prog 39 #[.agg #[.int .u8 j, .int .i64 m, .string ⟨u.toArray⟩]] w fun e w' => e = .returned (.bool false) ∧ Kept w w'))
    (LC : Hid (∀ w, Calls Tryd.prog 39 #[.agg #[.int .u8 i, .int .i64 l, .string ⟨v.toArray⟩]] w fun e w' => e = .returned (.bool false) ∧ Kept w w'))
    (AB : Hid (∀ w, Calls Tryd.prog 41 #[.agg #[.int .u8 k, .int .i64 n, .string ⟨t.toArray⟩], .agg #[.int .u8 j, .int .i64 m, .string ⟨u.toArray⟩]] w fun x w' => x = .returned (.tuple #[.int .i64 ab, .int .i64 e]) ∧ Kept w w'))
    (BA : Hid (∀ w, Calls Tryd.prog 41 #[.agg #[.int .u8 j, .int .i64 m, .string ⟨u.toArray⟩], .agg #[.int .u8 k, .int .i64 n, .string ⟨t.toArray⟩]] w fun x w' => x = .returned (.tuple #[.int .i64 (-ab), .int .i64 e]) ∧ Kept w w'))
    (BC : Hid (∀ w, Calls Tryd.prog 41 #[.agg #[.int .u8 j, .int .i64 m, .string ⟨u.toArray⟩], .agg #[.int .u8 i, .int .i64 l, .string ⟨v.toArray⟩]] w fun x w' => x = .returned (.tuple #[.int .i64 bc, .int .i64 g]) ∧ Kept w w'))
    (AC : Hid (∀ w, Calls Tryd.prog 41 #[.agg #[.int .u8 k, .int .i64 n, .string ⟨t.toArray⟩], .agg #[.int .u8 i, .int .i64 l, .string ⟨v.toArray⟩]] w fun x w' => x = .returned (.tuple #[.int .i64 ac, .int .i64 h]) ∧ Kept w w'))
    (W : (e != 0) = true ∨ (e = 0 ∧ (g != 0) = true) ∨ (e = 0 ∧ g = 0 ∧ (h != 0) = true) ∨
      ((e = 0 ∧ g = 0 ∧ h = 0) ∧ Hid (∀ w, Calls Tryd.prog 41 #[.agg #[.int .u8 0, .int .i64 0, .string ⟨#[]⟩], .agg #[.int .u8 j, .int .i64 0, .string ⟨#[]⟩]] w fun x w' => x = .returned (.tuple #[.int .i64 0, .int .i64 0]) ∧ Kept w w') ∧
        (((k : Int) == 0) = true ∨ (((k : Int) == 0) = false ∧ ((j : Int) == 0) = true) ∨ (((k : Int) == 0) = false ∧ ((j : Int) == 0) = false ∧ ((i : Int) == 0) = true) ∨
          (((k : Int) == 0) = false ∧ ((j : Int) == 0) = false ∧ ((i : Int) == 0) = false ∧ Ways k j n m t u ab bc ac)))) :
    Calls Tryd.prog 11 #[.agg #[.int .u8 k, .int .i64 n, .string ⟨t.toArray⟩], .agg #[.int .u8 j, .int .i64 m, .string ⟨u.toArray⟩], .agg #[.int .u8 i, .int .i64 l, .string ⟨v.toArray⟩]] w fun e w' => e = .returned (.bool true) ∧ Kept w w' := by
  have K := Lib.hid (fun w h h' => known5_any w mx h h')
  have HM := Lib.hid hm
  have WD := Lib.hid wd
  have WW := Lib.hid W
  have Z := ba_size
  have T0 := Lib.hid (fun w => Three.made w ⟨k, n, t⟩ ⟨j, m, u⟩ ⟨i, l, v⟩)
  have d1 : decide (ab < -1) = false := by rw [decide_eq_false_iff_not]; omega
  have d2 : decide (1 < ab) = false := by rw [decide_eq_false_iff_not]; omega
  clear hm wd W
  go_enter Tryd.func11, Tryd.ntmps11
  go_wp2_with fail
  refine (LA.out _).mono ?_
  rintro e w1 ⟨rfl, k1⟩
  have T := (T0.out w).kept k1
  have kk := ((((Kept.refl w).alloc _).alloc _).alloc _).trans k1
  clear k1
  have TT := T.facts
  obtain ⟨⟨a0, a1, a2⟩, ⟨c0, c1, c2⟩, ⟨e0, e1, e2⟩⟩ := TT
  go_wp2_with fail
  refine (LB.out _).mono ?_
  rintro e' w2 ⟨rfl, k1⟩
  have T := T.kept k1
  have kk := kk.trans k1
  clear k1
  clear a0 a1 a2 c0 c1 c2 e0 e1 e2
  have TT := T.facts
  obtain ⟨⟨a0, a1, a2⟩, ⟨c0, c1, c2⟩, ⟨e0, e1, e2⟩⟩ := TT
  go_wp2_with fail
  refine (LC.out _).mono ?_
  rintro e' w3 ⟨rfl, k1⟩
  have T := T.kept k1
  have kk := kk.trans k1
  clear k1
  clear a0 a1 a2 c0 c1 c2 e0 e1 e2
  have TT := T.facts
  obtain ⟨⟨a0, a1, a2⟩, ⟨c0, c1, c2⟩, ⟨e0, e1, e2⟩⟩ := TT
  go_wp2_with fail
  refine (AB.out _).mono ?_
  rintro e' w4 ⟨rfl, k1⟩
  have T := T.kept k1
  have kk := kk.trans k1
  clear k1
  clear a0 a1 a2 c0 c1 c2 e0 e1 e2
  have TT := T.facts
  obtain ⟨⟨a0, a1, a2⟩, ⟨c0, c1, c2⟩, ⟨e0, e1, e2⟩⟩ := TT
  go_wp2_with fail
  refine (BA.out _).mono ?_
  rintro e' w5 ⟨rfl, k1⟩
  have T := T.kept k1
  have kk := kk.trans k1
  clear k1
  clear a0 a1 a2 c0 c1 c2 e0 e1 e2
  have TT := T.facts
  obtain ⟨⟨a0, a1, a2⟩, ⟨c0, c1, c2⟩, ⟨e0, e1, e2⟩⟩ := TT
  go_wp2_with fail
  refine (BC.out _).mono ?_
  rintro e' w6 ⟨rfl, k1⟩
  have T := T.kept k1
  have kk := kk.trans k1
  clear k1
  clear a0 a1 a2 c0 c1 c2 e0 e1 e2
  have TT := T.facts
  obtain ⟨⟨a0, a1, a2⟩, ⟨c0, c1, c2⟩, ⟨e0, e1, e2⟩⟩ := TT
  go_wp2_with fail
  refine (AC.out _).mono ?_
  rintro e' w7 ⟨rfl, k1⟩
  have T := T.kept k1
  have kk := kk.trans k1
  clear k1
  clear a0 a1 a2 c0 c1 c2 e0 e1 e2
  have TT := T.facts
  obtain ⟨⟨a0, a1, a2⟩, ⟨c0, c1, c2⟩, ⟨e0, e1, e2⟩⟩ := TT
  have ww := WW.out
  rcases ww with q | ⟨q, q2⟩ | ⟨q, q2, q3⟩ | ⟨⟨q, q2, q3⟩, BZ, ww⟩
  · go_wp2_with fail
    refine (K.out _ (HM.out.kept kk) (WD.out.kept kk)).mono ?_
    rintro e' w9 ⟨rfl, k9⟩
    go_wp2_with fail
    go_ret
    exact ⟨rfl, kk.trans k9⟩
  · subst q
    go_wp2_with fail
    refine (K.out _ (HM.out.kept kk) (WD.out.kept kk)).mono ?_
    rintro e' w9 ⟨rfl, k9⟩
    go_wp2_with fail
    go_ret
    exact ⟨rfl, kk.trans k9⟩
  · subst q q2
    go_wp2_with fail
    refine (K.out _ (HM.out.kept kk) (WD.out.kept kk)).mono ?_
    rintro e' w9 ⟨rfl, k9⟩
    go_wp2_with fail
    go_ret
    exact ⟨rfl, kk.trans k9⟩
  · subst q q2 q3
    rcases ww with z | ⟨z, z2⟩ | ⟨z, z2, z3⟩ | ⟨z, z2, z3, ways⟩
    · go_wp2_with fail
      refine (BZ.out _).mono ?_
      rintro e' w8 ⟨rfl, k8⟩
      have kk := kk.trans k8
      go_wp2_with fail
      refine (K.out _ (HM.out.kept kk) (WD.out.kept kk)).mono ?_
      rintro e' w9 ⟨rfl, k9⟩
      go_wp2_with fail
      go_ret
      exact ⟨rfl, kk.trans k9⟩
    · go_wp2_with fail
      refine (BZ.out _).mono ?_
      rintro e' w8 ⟨rfl, k8⟩
      have kk := kk.trans k8
      go_wp2_with fail
      refine (K.out _ (HM.out.kept kk) (WD.out.kept kk)).mono ?_
      rintro e' w9 ⟨rfl, k9⟩
      go_wp2_with fail
      go_ret
      exact ⟨rfl, kk.trans k9⟩
    · go_wp2_with fail
      refine (BZ.out _).mono ?_
      rintro e' w8 ⟨rfl, k8⟩
      have kk := kk.trans k8
      go_wp2_with fail
      refine (K.out _ (HM.out.kept kk) (WD.out.kept kk)).mono ?_
      rintro e' w9 ⟨rfl, k9⟩
      go_wp2_with fail
      go_ret
      exact ⟨rfl, kk.trans k9⟩
    · obtain ⟨wa, wb⟩ := ways
      rcases wb with ⟨y, yy⟩ | ⟨y, y2, y3, y4⟩ | ⟨y, y2, y3, y4, y5, y6⟩
      · rcases wa with x | ⟨x, x2⟩ | ⟨x, x2, x3, x4⟩ | ⟨x, x2, x3⟩
        · rcases yy with y1 | ⟨y1, y2⟩ | ⟨y1, y2, y3⟩
          · go_wp2_with fail
            refine (K.out _ (HM.out.kept kk) (WD.out.kept kk)).mono ?_
            rintro e' w9 ⟨rfl, k9⟩
            go_wp2_with fail
            go_ret
            exact ⟨rfl, kk.trans k9⟩
          · subst y1
            go_wp2_with fail
            refine (K.out _ (HM.out.kept kk) (WD.out.kept kk)).mono ?_
            rintro e' w9 ⟨rfl, k9⟩
            go_wp2_with fail
            go_ret
            exact ⟨rfl, kk.trans k9⟩
          · subst y1 y2
            go_wp2_with fail
            refine (K.out _ (HM.out.kept kk) (WD.out.kept kk)).mono ?_
            rintro e' w9 ⟨rfl, k9⟩
            go_wp2_with fail
            go_ret
            exact ⟨rfl, kk.trans k9⟩
        · rcases yy with y1 | ⟨y1, y2⟩ | ⟨y1, y2, y3⟩
          · go_wp2_with fail
            refine (K.out _ (HM.out.kept kk) (WD.out.kept kk)).mono ?_
            rintro e' w9 ⟨rfl, k9⟩
            go_wp2_with fail
            go_ret
            exact ⟨rfl, kk.trans k9⟩
          · subst y1
            go_wp2_with fail
            refine (K.out _ (HM.out.kept kk) (WD.out.kept kk)).mono ?_
            rintro e' w9 ⟨rfl, k9⟩
            go_wp2_with fail
            go_ret
            exact ⟨rfl, kk.trans k9⟩
          · subst y1 y2
            go_wp2_with fail
            refine (K.out _ (HM.out.kept kk) (WD.out.kept kk)).mono ?_
            rintro e' w9 ⟨rfl, k9⟩
            go_wp2_with fail
            go_ret
            exact ⟨rfl, kk.trans k9⟩
        · rcases yy with y1 | ⟨y1, y2⟩ | ⟨y1, y2, y3⟩
          · go_wp2_with fail
            refine (K.out _ (HM.out.kept kk) (WD.out.kept kk)).mono ?_
            rintro e' w9 ⟨rfl, k9⟩
            go_wp2_with fail
            go_ret
            exact ⟨rfl, kk.trans k9⟩
          · subst y1
            go_wp2_with fail
            refine (K.out _ (HM.out.kept kk) (WD.out.kept kk)).mono ?_
            rintro e' w9 ⟨rfl, k9⟩
            go_wp2_with fail
            go_ret
            exact ⟨rfl, kk.trans k9⟩
          · subst y1 y2
            go_wp2_with fail
            refine (K.out _ (HM.out.kept kk) (WD.out.kept kk)).mono ?_
            rintro e' w9 ⟨rfl, k9⟩
            go_wp2_with fail
            go_ret
            exact ⟨rfl, kk.trans k9⟩
        · subst x2; simp at y
      · subst y y2 y3 y4
        rcases (show ((k : Int) != 3) = true ∨ ((k : Int) != 3) = false from by cases ((k : Int) != 3) <;> simp) with k3 | k3
        all_goals
          rcases wa with x | ⟨x, x2⟩ | ⟨x, x2, x3, x4⟩ | ⟨x, x2, x3⟩
          · simp at x
          · go_wp2_with fail
            refine (K.out _ (HM.out.kept kk) (WD.out.kept kk)).mono ?_
            rintro e' w9 ⟨rfl, k9⟩
            go_wp2_with fail
            go_ret
            exact ⟨rfl, kk.trans k9⟩
          · go_wp2_with fail
            refine (K.out _ (HM.out.kept kk) (WD.out.kept kk)).mono ?_
            rintro e' w9 ⟨rfl, k9⟩
            go_wp2_with fail
            go_ret
            exact ⟨rfl, kk.trans k9⟩
          · subst x x3
            go_wp2_with fail
            refine (K.out _ (HM.out.kept kk) (WD.out.kept kk)).mono ?_
            rintro e' w9 ⟨rfl, k9⟩
            go_wp2_with fail
            go_ret
            exact ⟨rfl, kk.trans k9⟩
      · subst y y2 y3 y4
        rcases wa with x | ⟨x, x2⟩ | ⟨x, x2, x3, x4⟩ | ⟨x, x2, x3⟩
        · simp at x
        · go_wp2_with fail
          refine (K.out _ (HM.out.kept kk) (WD.out.kept kk)).mono ?_
          rintro e' w9 ⟨rfl, k9⟩
          go_wp2_with fail
          go_ret
          exact ⟨rfl, kk.trans k9⟩
        · go_wp2_with fail
          refine (K.out _ (HM.out.kept kk) (WD.out.kept kk)).mono ?_
          rintro e' w9 ⟨rfl, k9⟩
          go_wp2_with fail
          go_ret
          exact ⟨rfl, kk.trans k9⟩
        · subst x x3
          go_wp2_with fail
          refine (K.out _ (HM.out.kept kk) (WD.out.kept kk)).mono ?_
          rintro e' w9 ⟨rfl, k9⟩
          go_wp2_with fail
          go_ret
          exact ⟨rfl, kk.trans k9⟩

theorem zero_way {k : Nat} : ((k : Int) == 0) = true ∧ k = 0 ∨ ((k : Int) == 0) = false ∧ k ≠ 0 := by
  by_cases h : k = 0
  · exact Or.inl ⟨by rw [beq_iff_eq]; omega, h⟩
  · exact Or.inr ⟨by rw [beq_eq_false_iff_ne]; omega, h⟩
set_option maxHeartbeats 1000000 in
set_option maxRecDepth 100000 in
theorem ValOrder_walk (a0 a1 a2 : Vl) (w0 : i64 a0.n ∧ a0.t.length ≤ maxLen) (w1 : i64 a1.n ∧ a1.t.length ≤ maxLen) (w2 : i64 a2.n ∧ a2.t.length ≤ maxLen) (w : World) (mx : Int) (hm : Mx w mx) (wd : Wd w) :
    Calls Tryd.prog 11 #[aggV a0, aggV a1, aggV a2] w fun e w' => e = .returned (.bool true) ∧ Below w.heap.size w w' := by
  obtain ⟨k, n, t⟩ := a0
  obtain ⟨j, m, u⟩ := a1
  obtain ⟨i, l, v⟩ := a2
  obtain ⟨n1, t1⟩ := w0
  obtain ⟨m1, u1⟩ := w1
  obtain ⟨l1, v1⟩ := w2
  simp only at n1 t1 m1 u1 l1 v1
  unfold maxLen at t1 u1 v1
  have LA := Lib.hid (fun w => long_v k n t w (by omega))
  have LB := Lib.hid (fun w => long_v j m u w (by omega))
  have LC := Lib.hid (fun w => long_v i l v w (by omega))
  have T0 := Lib.hid (fun w => Three.made w ⟨k, n, t⟩ ⟨j, m, u⟩ ⟨i, l, v⟩)
  by_cases c1 : 2000 < t.length
  · rw [decide_eq_true c1] at LA
    have K := Lib.hid (fun w h h' => known5_any w mx h h')
    have HM := Lib.hid hm
    have WD := Lib.hid wd
    clear n1 t1 m1 u1 l1 v1 c1 hm wd
    go_enter Tryd.func11, Tryd.ntmps11
    go_wp2_with fail
    refine (LA.out _).mono ?_
    rintro e w1 ⟨rfl, k1⟩
    have kk := ((((Kept.refl w).alloc _).alloc _).alloc _).trans k1
    go_wp2_with fail
    refine (K.out _ (HM.out.kept kk) (WD.out.kept kk)).mono ?_
    rintro e w9 ⟨rfl, k9⟩
    go_wp2_with fail
    go_ret
    exact ⟨rfl, kk.trans k9⟩
  rw [decide_eq_false c1] at LA
  by_cases c2 : 2000 < u.length
  · rw [decide_eq_true c2] at LB
    have K := Lib.hid (fun w h h' => known5_any w mx h h')
    have HM := Lib.hid hm
    have WD := Lib.hid wd
    clear n1 t1 m1 u1 l1 v1 c1 c2 hm wd
    go_enter Tryd.func11, Tryd.ntmps11
    go_wp2_with fail
    refine (LA.out _).mono ?_
    rintro e w1 ⟨rfl, k1⟩
    have T := (T0.out w).kept k1
    have kk := ((((Kept.refl w).alloc _).alloc _).alloc _).trans k1
    obtain ⟨⟨a0, a1, a2⟩, ⟨c0, c1, c2⟩, ⟨e0, e1, e2⟩⟩ := T.facts
    go_wp2_with fail
    refine (LB.out _).mono ?_
    rintro e w2 ⟨rfl, k2⟩
    have kk := kk.trans k2
    go_wp2_with fail
    refine (K.out _ (HM.out.kept kk) (WD.out.kept kk)).mono ?_
    rintro e w9 ⟨rfl, k9⟩
    go_wp2_with fail
    go_ret
    exact ⟨rfl, kk.trans k9⟩
  rw [decide_eq_false c2] at LB
  by_cases c3 : 2000 < v.length
  · rw [decide_eq_true c3] at LC
    have K := Lib.hid (fun w h h' => known5_any w mx h h')
    have HM := Lib.hid hm
    have WD := Lib.hid wd
    clear n1 t1 m1 u1 l1 v1 c1 c2 c3 hm wd
    go_enter Tryd.func11, Tryd.ntmps11
    go_wp2_with fail
    refine (LA.out _).mono ?_
    rintro e w1 ⟨rfl, k1⟩
    have T := (T0.out w).kept k1
    have kk := ((((Kept.refl w).alloc _).alloc _).alloc _).trans k1
    have TT := T.facts
    obtain ⟨⟨a0, a1, a2⟩, ⟨c0, c1, c2⟩, ⟨e0, e1, e2⟩⟩ := TT
    go_wp2_with fail
    refine (LB.out _).mono ?_
    rintro e w2 ⟨rfl, k2⟩
    have T := T.kept k2
    have kk := kk.trans k2
    clear a0 a1 a2 c0 c1 c2 e0 e1 e2
    obtain ⟨⟨a0, a1, a2⟩, ⟨c0, c1, c2⟩, ⟨e0, e1, e2⟩⟩ := T.facts
    go_wp2_with fail
    refine (LC.out _).mono ?_
    rintro e w3 ⟨rfl, k3⟩
    have kk := kk.trans k3
    go_wp2_with fail
    refine (K.out _ (HM.out.kept kk) (WD.out.kept kk)).mono ?_
    rintro e w9 ⟨rfl, k9⟩
    go_wp2_with fail
    go_ret
    exact ⟨rfl, kk.trans k9⟩
  rw [decide_eq_false c3] at LC
  have AB := Lib.hid (fun w => vcompare_any ⟨k, n, t⟩ ⟨j, m, u⟩ w n1 m1 (by simp only; omega) (by simp only; omega))
  have BA0 := fun w => vcompare_any ⟨j, m, u⟩ ⟨k, n, t⟩ w m1 n1 (by simp only; omega) (by simp only; omega)
  rw [cmp_swap] at BA0
  have BA := Lib.hid BA0
  have BC := Lib.hid (fun w => vcompare_any ⟨j, m, u⟩ ⟨i, l, v⟩ w m1 l1 (by simp only; omega) (by simp only; omega))
  have AC := Lib.hid (fun w => vcompare_any ⟨k, n, t⟩ ⟨i, l, v⟩ w n1 l1 (by simp only; omega) (by simp only; omega))
  have rg := vcmp_range ⟨k, n, t⟩ ⟨j, m, u⟩
  refine vorder_main k j i n m l t u v w mx hm wd _ _ _ _ _ _ rg.1 rg.2 (by omega) (by omega) LA LB LC AB BA BC AC ?_
  by_cases e0 : (vCmp ⟨k, n, t⟩ ⟨j, m, u⟩).2 = 0
  · by_cases g0 : (vCmp ⟨j, m, u⟩ ⟨i, l, v⟩).2 = 0
    · by_cases h0 : (vCmp ⟨k, n, t⟩ ⟨i, l, v⟩).2 = 0
      · obtain ⟨ca, cb, q1⟩ := vcmp_ok e0
        obtain ⟨_, cc, q2⟩ := vcmp_ok g0
        obtain ⟨_, _, q3⟩ := vcmp_ok h0
        refine Or.inr (Or.inr (Or.inr ⟨⟨e0, g0, h0⟩, fun w => ?_, ?_⟩))
        · have r := vcompare_any ⟨0, 0, []⟩ ⟨j, 0, []⟩ w ⟨by simp only; omega, by simp only; omega⟩ ⟨by simp only; omega, by simp only; omega⟩ (by simp) (by simp)
          rw [blank_zero (can_kind cb)] at r
          exact r
        · rcases zero_way (k := k) with ⟨z, _⟩ | ⟨z, k0⟩
          · exact Or.inl z
          rcases zero_way (k := j) with ⟨y, _⟩ | ⟨y, j0⟩
          · exact Or.inr (Or.inl ⟨z, y⟩)
          rcases zero_way (k := i) with ⟨x, _⟩ | ⟨x, i0⟩
          · exact Or.inr (Or.inr (Or.inl ⟨z, y, x⟩))
          refine Or.inr (Or.inr (Or.inr ⟨z, y, x, ?_⟩))
          rw [q1, q2, q3, side_own (v := ⟨k, n, t⟩) k0, side_own (v := ⟨j, m, u⟩) j0, side_own (v := ⟨j, m, u⟩) j0, side_own (v := ⟨i, l, v⟩) i0, side_own (v := ⟨k, n, t⟩) k0, side_own (v := ⟨i, l, v⟩) i0]
          exact ways_of ca cb cc k0 j0 i0
      · exact Or.inr (Or.inr (Or.inl ⟨e0, g0, by simpa using h0⟩))
    · exact Or.inr (Or.inl ⟨e0, by simpa using g0⟩)
  · exact Or.inl (by simpa using e0)
end Go.Proofs.YtipkjpcedfokhaaDoor
