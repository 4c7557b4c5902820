/- Rows of values of cells: slices whose elements are api.Value. -/
import Derived.Test.YtbpkfnoenkoabaaGreatDoorFaBunC
import Derived.Test.YtbpkfnoenkoabaaGreatDoorFaMLogic
import Derived.Deep.Slices
import Derived.Laws.OwnMore
import Derived.Laws.AppendOwn
import Derived.Laws.AppendOwnNone
namespace Go.Proofs.YtbpkfnoenkoabaaGreatDoor
set_option linter.unusedVariables false
set_option linter.unusedSimpArgs false
open Go.RowKit Lv
def flatV (l : List Vl) : List Value := l.flatMap fun v => [.int .u8 v.k, .int .i64 v.n, .string ⟨v.t.toArray⟩]
theorem flatV_cons (v : Vl) (l : List Vl) : flatV (v :: l) = .int .u8 v.k :: .int .i64 v.n :: .string ⟨v.t.toArray⟩ :: flatV l := rfl
theorem flatV_append (l m : List Vl) : flatV (l ++ m) = flatV l ++ flatV m := by unfold flatV; rw [List.flatMap_append]
theorem flatV_length (l : List Vl) : (flatV l).length = l.length * 3 := by
  induction l with
  | nil => rfl
  | cons v l ih => rw [flatV_cons]; simp only [List.length_cons, ih]; omega
theorem flatV_get : ∀ (l : List Vl) (i : Nat), i < l.length → (flatV l)[i * 3]? = some (.int .u8 (l.getD i blankV).k) ∧ (flatV l)[i * 3 + 1]? = some (.int .i64 (l.getD i blankV).n) ∧ (flatV l)[i * 3 + 2]? = some (.string ⟨(l.getD i blankV).t.toArray⟩)
  | [], i, h => by simp at h
  | v :: l, 0, _ => ⟨rfl, rfl, rfl⟩
  | v :: l, i + 1, h => by
    have ih := flatV_get l i (by simpa using h)
    rw [flatV_cons, show (i + 1) * 3 = i * 3 + 3 by omega]
    exact ih
theorem flatV_one {l : List Vl} : ∀ u ∈ flatV l, u.oneCell' = true := by
  intro u hu
  obtain ⟨v, _, hv⟩ := List.mem_flatMap.1 hu
  simp at hv
  rcases hv with rfl | rfl | rfl <;> rfl
theorem flatV_set : ∀ (l : List Vl) (i : Nat) (t : List UInt8), i < l.length → (flatV l).set (i * 3 + 2) (.string ⟨t.toArray⟩) = flatV (l.set i { l.getD i blankV with t := t })
  | [], i, t, h => by simp at h
  | v :: l, 0, t, _ => rfl
  | v :: l, i + 1, t, h => by
    have ih := flatV_set l i t (by simpa using h)
    rw [flatV_cons, show (i + 1) * 3 + 2 = (i * 3 + 2) + 3 by omega, List.set_cons_succ, List.set_cons_succ, List.set_cons_succ, ih]
    rfl
def RowV (w : World) (A : Option Addr) (l : List Vl) : Prop := ∀ i, i < l.length → ∃ b off, A = some ⟨b, off, none⟩ ∧ b < w.heap.size ∧ w.cell? ⟨b, off + i * 3, none⟩ = some (.int .u8 (l.getD i blankV).k) ∧ w.cell? ⟨b, off + i * 3 + 1, none⟩ = some (.int .i64 (l.getD i blankV).n) ∧ w.cell? ⟨b, off + i * 3 + 2, none⟩ = some (.string ⟨(l.getD i blankV).t.toArray⟩)
theorem RowV.kept {w w' : World} {A : Option Addr} {l : List Vl} (h : RowV w A l) (k : Kept w w') : RowV w' A l := fun i hi => by
  obtain ⟨b, off, rfl, hb, h0, h1, h2⟩ := h i hi
  exact ⟨b, off, rfl, Nat.lt_of_lt_of_le hb k.size, (k.cell (p := ⟨b, _, none⟩) hb).trans h0, (k.cell (p := ⟨b, _, none⟩) hb).trans h1, (k.cell (p := ⟨b, _, none⟩) hb).trans h2⟩
theorem RowV.take {w : World} {A : Option Addr} {l : List Vl} (h : RowV w A l) (k : Nat) : RowV w A (l.take k) := fun i hi => by
  rw [List.length_take] at hi
  have e : (l.take k).getD i blankV = l.getD i blankV := by simp [List.getD, List.getElem?_take, show i < k by omega]
  rw [e]
  exact h i (by omega)
theorem RowV.drop {w : World} {b off : Nat} {l : List Vl} (h : RowV w (some ⟨b, off, none⟩) l) (k : Nat) : RowV w (some ⟨b, off + k * 3, none⟩) (l.drop k) := fun i hi => by
  rw [List.length_drop] at hi
  obtain ⟨b', off', e, hb, h0, h1, h2⟩ := h (k + i) (by omega)
  cases e
  have e : (l.drop k).getD i blankV = l.getD (k + i) blankV := by simp [List.getD, List.getElem?_drop]
  rw [e]
  exact ⟨b, off + k * 3, rfl, hb, by rw [show off + k * 3 + i * 3 = off + (k + i) * 3 by omega]; exact h0, by rw [show off + k * 3 + i * 3 = off + (k + i) * 3 by omega]; exact h1, by rw [show off + k * 3 + i * 3 = off + (k + i) * 3 by omega]; exact h2⟩
theorem RowV.nil (w : World) (A : Option Addr) : RowV w A [] := fun i hi => by simp at hi
theorem RowV.box {w : World} {g : Nat} {t : TypeId} {cs : Array Value} {l : List Vl} (h : Box w g t cs) (hl : cs.toList.take (l.length * 3) = flatV l) : RowV w (some ⟨g, 0, none⟩) l := fun i hi => by
  obtain ⟨h0, h1, h2⟩ := flatV_get l i hi
  have c : ∀ j v, j < l.length * 3 → (flatV l)[j]? = some v → w.cell? ⟨g, j, none⟩ = some v := fun j v hj hv => by
    rw [h.cell j, ← hv, ← hl, List.getElem?_take_of_lt hj]
    simp
  exact ⟨g, 0, rfl, h.inside, by rw [Nat.zero_add]; exact c _ _ (by omega) h0, by rw [Nat.zero_add]; exact c _ _ (by omega) h1, by rw [Nat.zero_add]; exact c _ _ (by omega) h2⟩
def OwnV (w : World) (base : Nat) (v : Value) (l : List Vl) : Prop := w.ownsRow base 25 3 v l.length (flatV l)
theorem OwnV.nil (w : World) (base : Nat) : OwnV w base (.slice none 0 0) [] := World.ownsRow_nil w base _ 3
theorem OwnV.kept {w w' : World} {base : Nat} {v : Value} {l : List Vl} (h : OwnV w base v l) (k : Kept w w') : OwnV w' base v l := by
  obtain ⟨h1, h2⟩ := h
  refine ⟨h1, ?_⟩
  rcases h2 with h2 | ⟨g, cap, cur, hv, hg, hh, r⟩
  · exact Or.inl h2
  · have hlt : g < w.heap.size := (Array.getElem?_eq_some_iff.1 hh).1
    exact Or.inr ⟨g, cap, cur, hv, hg, (k.block g hlt).trans hh, r⟩
theorem OwnV.alloc {w : World} {base : Nat} {v : Value} {l : List Vl} (h : OwnV w base v l) (o : Obj) : OwnV (w.alloc o) base v l := h.kept ((Kept.refl w).alloc o)
theorem OwnV.drew {w : World} {base : Nat} {v : Value} {l : List Vl} (h : OwnV w base v l) : OwnV w.drew base v l := h.kept ((Kept.refl w).drew)
theorem OwnV.grown {a w w' : World} {base : Nat} {v : Value} {l : List Vl} (h : OwnV w base v l) (hb : a.heap.size ≤ base) (k : Kept a w) (g : w.grownBy w' v.ownBlock) : Kept a w' :=
  Below.grown k g k.size (fun x hx => Nat.le_trans hb (World.ownsRow.lt h x hx).1)
theorem OwnV.row {w : World} {base : Nat} {v : Value} {l : List Vl} (h : OwnV w base v l) : ∃ A cap, v = .slice A l.length cap ∧ RowV w A l ∧ l.length ≤ cap ∧ (l ≠ [] → ∃ g, A = some ⟨g, 0, none⟩ ∧ base ≤ g) := by
  rcases h.2 with ⟨rfl, h0⟩ | ⟨g, cap, cur, rfl, hb, hh, h4, h5, h6, h7⟩
  · have : l = [] := List.eq_nil_of_length_eq_zero h0
    subst this
    exact ⟨none, 0, rfl, RowV.nil _ _, Nat.le_refl _, fun h => absurd rfl h⟩
  · exact ⟨some ⟨g, 0, none⟩, cap, rfl, RowV.box (t := 25) (cs := cur) hh h7, h4, fun _ => ⟨g, rfl, hb⟩⟩
theorem info_val : ∃ i, Tryz.prog.info? 25 = some i ∧ i.zero = some (.agg #[.int .u8 0, .int .i64 0, .string ByteArray.empty]) ∧ i.size = 3 ∧ i.bytes = 32 := by
  have h : (Tryz.prog.info? 25).map (fun i => (i.zero, i.size, i.bytes)) = some (some (.agg #[.int .u8 0, .int .i64 0, .string ByteArray.empty]), 3, 32) := by kernel_rfl
  cases hi : Tryz.prog.info? 25 with
  | none => rw [hi] at h; cases h
  | some i =>
    rw [hi] at h
    simp at h
    exact ⟨i, rfl, h.1, h.2.1, h.2.2⟩
theorem append_vals {ops : Array Oper} {rest : List Oper} {o : Oper} {a : Act} {w : World} {Q : Exit → Act → World → Prop} (hgd : o.guard = none) (s x : Operand)
    (ho : o.op = .call { callee := .builtin .append, args := #[s, x], argTypes := #[22, 22] })
    (base : Nat) (v : Value) (l m : List Vl) (hs : a.eval s = v) (hown : OwnV w base v l) (ad : Addr) (c : Nat)
    (hx : a.eval x = .slice (some ad) m.length c) (hr : RowV w (some ad) m) (hl : l.length + m.length ≤ 1000000) (hbase : base ≤ w.heap.size)
    (h : ∀ v' w', OwnV w' base v' (l ++ m) → w.grownBy w' v.ownBlock → wpList Tryz.prog ops Q rest (a.put o.dst v') w') : wpList Tryz.prog ops Q (o :: rest) a w := by
  obtain ⟨i, hi, hz, h1, h2⟩ := info_val
  refine wpList_append_own w hgd s x 22 ho base 25 i _ 3 32 Tryz.underlying22 hi hz h1 h2 rfl (by decide) v l.length _ hs hown ad m.length c (flatV m) hx (flatV_length m) ?_ flatV_one ?_ ?_ hbase ?_
  · intro j u hj
    have hjl : j < m.length * 3 := by rw [← flatV_length]; exact (List.getElem?_eq_some_iff.1 hj).1
    obtain ⟨b', off', e, _, c0, c1, c2⟩ := hr (j / 3) (by omega)
    cases e
    obtain ⟨g0, g1, g2⟩ := flatV_get m (j / 3) (by omega)
    rw [Go.WideShapes.add_plain]
    rcases (show j % 3 = 0 ∨ j % 3 = 1 ∨ j % 3 = 2 by omega) with r | r | r
    · have e : j = j / 3 * 3 := by omega
      rw [e] at hj
      rw [e, c0, ← g0, hj]
    · have e : j = j / 3 * 3 + 1 := by omega
      rw [e] at hj
      rw [e, ← Nat.add_assoc, c1, ← g1, hj]
    · have e : j = j / 3 * 3 + 2 := by omega
      rw [e] at hj
      rw [e, ← Nat.add_assoc, c2, ← g2, hj]
  · simp only [maxLen]; omega
  · omega
  · intro v' w' ho' hg _
    refine h v' w' ?_ hg
    unfold OwnV
    rw [List.length_append, flatV_append]
    exact ho'
theorem append_none {ops : Array Oper} {rest : List Oper} {o : Oper} {a : Act} {w : World} {Q : Exit → Act → World → Prop} (hgd : o.guard = none) (s x : Operand)
    (ho : o.op = .call { callee := .builtin .append, args := #[s, x], argTypes := #[22, 22] })
    (base : Nat) (v : Value) (l : List Vl) (hs : a.eval s = v) (hown : OwnV w base v l) (hx : a.eval x = .slice none 0 0)
    (h : wpList Tryz.prog ops Q rest (a.put o.dst v) w) : wpList Tryz.prog ops Q (o :: rest) a w := by
  obtain ⟨i, hi, _⟩ := info_val
  exact wpList_append_own_none hgd s x 22 ho base 25 i 3 Tryz.underlying22 hi v l.length _ hs hown hx h
theorem OwnV.setText {w : World} {base g n cap : Nat} {l : List Vl} (h : OwnV w base (.slice (some ⟨g, 0, none⟩) n cap) l) (i : Nat) (hi : i < l.length) (t : List UInt8) :
    OwnV (w.setCell ⟨g, i * 3 + 2, none⟩ (.string ⟨t.toArray⟩)) base (.slice (some ⟨g, 0, none⟩) n cap) (l.set i { l.getD i blankV with t := t }) := by
  obtain ⟨h1, h2⟩ := h
  refine ⟨by rw [flatV_length], ?_⟩
  rcases h2 with ⟨h2, _⟩ | ⟨g', cap', cur, hv, hg, hh, h4, h5, h6, h7⟩
  · cases h2
  · cases hv
    rw [List.length_set]
    refine Or.inr ⟨g, cap, cur.setIfInBounds (i * 3 + 2) (.string ⟨t.toArray⟩), rfl, hg, ?_, h4, h5, by rw [Array.size_setIfInBounds]; exact h6, ?_⟩
    · exact Box.at_ (t := 25) (cs := cur) hh (i * 3 + 2) _
    · rw [← flatV_set l i t hi, ← h7, Array.toList_setIfInBounds, List.take_set]
end Go.Proofs.YtbpkfnoenkoabaaGreatDoor
