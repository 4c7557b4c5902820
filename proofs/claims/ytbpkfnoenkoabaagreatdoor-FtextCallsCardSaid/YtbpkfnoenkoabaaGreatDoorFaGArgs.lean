/- Slices and arrays of values of cells, and slices of bools, as arguments. -/
import Derived.Test.YtbpkfnoenkoabaaGreatDoorFaGRows
import Derived.ChangeOld
import Derived.Carry
import Derived.ChangeArms
namespace Go.Proofs.YtbpkfnoenkoabaaGreatDoor
set_option linter.unusedVariables false
set_option linter.unusedSimpArgs false
open Go.ChangeShapes Go.WideShapes Go.RowKit Go.Joins Go.Deep Lv
theorem laidOut : laidOutB Tryz.prog = true := by kernel_rfl
def Wide (v : Vl) : Prop := v.k ≤ 255 ∧ i64 v.n ∧ v.t.length ≤ maxLen
set_option maxRecDepth 100000 in
theorem open_cells {H : Type} {enc : TypeId × Value → H} {W : World} {b : Nat} {sp : Nat → Bool} {held : Bool} {fuel : Nat} {cs : List Value} {x : DataW H × List MemPlace}
    (h : DataW.trod enc Tryz.prog W b sp held fuel 25 cs = some x) :
    ∃ v : Vl, cs = [.int .u8 v.k, .int .i64 v.n, .string ⟨v.t.toArray⟩] ∧ Wide v ∧ x.2 = [] ∧ ∀ (W' : World) (b' : Nat) (sp' : Nat → Bool) (held' : Bool), ∃ n, DataW.trod enc Tryz.prog W' b' sp' held' n 25 cs = some x := by
  obtain ⟨y0, y1, y2, m, hx, hl, hy0, hy1, hy2⟩ := trod_struct3 Tryz.underlying25 h
  rw [val_cells] at hl
  match cs, hl with
  | [c0, c1, c2], _ =>
    have q0 : DataW.trod enc Tryz.prog W b sp held m 5 [c0] = some y0 := hy0
    have q1 : DataW.trod enc Tryz.prog W b sp held m 2 [c1] = some y1 := hy1
    have q2 : DataW.trod enc Tryz.prog W b sp held m 9 [c2] = some y2 := hy2
    obtain ⟨a, e0, rfl, wx⟩ := DataW.trod_int Tryz.underlying5 q0
    obtain ⟨y, e1, rfl, wy⟩ := DataW.trod_int Tryz.underlying2 q1
    obtain ⟨s, e2, rfl, ws⟩ := DataW.trod_string Tryz.underlying9 q2
    simp at e0 e1 e2
    subst e0 e1 e2
    have rx : 0 ≤ a ∧ a ≤ 255 := by
      unfold Lit.wf at wx
      rw [Bool.and_eq_true, decide_eq_true_eq, decide_eq_true_eq] at wx
      exact wx
    have ry : i64 y := by
      unfold Lit.wf at wy
      rw [Bool.and_eq_true, decide_eq_true_eq, decide_eq_true_eq] at wy
      exact wy
    obtain ⟨k, rfl⟩ : ∃ k : Nat, a = k := ⟨a.toNat, by omega⟩
    refine ⟨⟨k, y, s.data.toList⟩, rfl, ⟨by simp only; omega, ry, ws⟩, by rw [hx]; rfl, fun W' b' sp' held' => ?_⟩
    obtain ⟨n, hn⟩ := shut_agg3 (enc := enc) (w := W') (base := b') (spare := sp') (held := held') (v0 := .int .u8 k) (v1 := .int .i64 y) (v2 := .string s) (y0 := (.lit (.int .u8 k), [])) (y1 := (.lit (.int .i64 y), [])) (y2 := (.lit (.string s.data.toList), [])) Tryz.underlying25 (by kernel_rfl) val_cells
      ⟨1, by simp [DataW.trod, Tryz.underlying5, wx]⟩ ⟨1, by simp [DataW.trod, Tryz.underlying2, wy]⟩ ⟨1, by simp [DataW.trod, Tryz.underlying9, ws]⟩
    exact ⟨n, by rw [hx]; simpa [Value.cells] using hn⟩
theorem block_of_cell {w : World} {a : Addr} {v : Value} (h : w.cell? a = some v) : a.block < w.heap.size := World.block_lt_of_cell? w _ h
structure ValsIn (w : World) (A : Option Addr) (len cap : Nat) (l : List Vl) : Prop where
  row : RowV w A l
  len_eq : l.length = len
  le : len ≤ cap
  max : cap ≤ maxLen
  wide : ∀ v ∈ l, Wide v
  nil : A = none → len = 0 ∧ cap = 0
  addr : ∀ a, A = some a → 0 < len → ∃ b off, a = ⟨b, off, none⟩
theorem pick {α : Type} {n : Nat} {p : Nat → α → Prop} (h : ∀ i, i < n → ∃ v, p i v) : ∃ l : List α, l.length = n ∧ ∀ i v, l[i]? = some v → p i v := by
  induction n with
  | zero => exact ⟨[], rfl, fun i v hv => by simp at hv⟩
  | succ n ih =>
    obtain ⟨l, hl, hp⟩ := ih (fun i hi => h i (by omega))
    obtain ⟨v, hv⟩ := h n (by omega)
    refine ⟨l ++ [v], by simp [hl], fun i u hu => ?_⟩
    rcases Nat.lt_or_ge i l.length with c | c
    · rw [List.getElem?_append_left c] at hu; exact hp i u hu
    · rw [List.getElem?_append_right c] at hu
      have : i = n := by
        rcases Nat.lt_or_ge (i - l.length) 1 with d | d
        · omega
        · rw [List.getElem?_eq_none (by simpa using d)] at hu; cases hu
      subst this
      rw [hl] at hu; simp at hu; subst hu; exact hv
set_option maxRecDepth 100000 in
theorem open_vals {H : Type} {enc : TypeId × Value → H} {W : World} {r : Reach} {b0 : Nat} {sp : Nat → Bool} {held : Bool} {v : Value} {d : DataW H} {p : List MemPlace}
    (hv : Value.okWide Tryz.prog W r b0 22 v) (h : DataW.Trod enc Tryz.prog W 0 sp held 22 v d p) :
    ∃ (A : Option Addr) (len cap : Nat) (l : List Vl), v = .slice A len cap ∧ ValsIn W A len cap l := by
  obtain ⟨A, len, cap, rfl⟩ := okWide_slice Tryz.underlying22 hv
  obtain ⟨fuel, hf⟩ := h
  rcases open_slice Tryz.underlying22 hf with ⟨hcs, _⟩ | ⟨a, len', cap', m, n, D, Pl, hcs, hb, hl, hm, hmm, _, hi⟩
  · simp [Value.cells] at hcs
    obtain ⟨rfl, rfl, rfl⟩ := hcs
    exact ⟨none, 0, 0, [], rfl, RowV.nil _ _, rfl, Nat.le_refl _, Nat.zero_le _, (fun v hv => by cases hv), (fun _ => ⟨rfl, rfl⟩), (fun a h => by cases h)⟩
  · simp [Value.cells] at hcs
    obtain ⟨rfl, rfl, rfl⟩ := hcs
    have hle : len ≤ m := by rw [hmm]; split <;> omega
    obtain ⟨l, hlen, hp⟩ := pick (n := len) (p := fun i v => W.cell? (a.add (i * 3)) = some (.int .u8 v.k) ∧ W.cell? (a.add (i * 3 + 1)) = some (.int .i64 v.n) ∧ W.cell? (a.add (i * 3 + 2)) = some (.string ⟨v.t.toArray⟩) ∧ Wide v) (fun i hi' => by
      obtain ⟨cs, h1, h2⟩ := hi i (by omega)
      rw [val_cells] at h1
      obtain ⟨_, hl3, hat⟩ := World.cells?_some h1
      obtain ⟨v, rfl, hw, _, _⟩ := open_cells h2
      refine ⟨v, ?_, ?_, ?_, hw⟩
      · have := hat 0 (by omega); rw [add_add] at this; exact this
      · have := hat 1 (by omega); rw [add_add] at this; exact this
      · have := hat 2 (by omega); rw [add_add] at this; exact this)
    have plain : ∀ i, i < l.length → ∃ b off, a = ⟨b, off, none⟩ := fun i hi' => by
      obtain ⟨c0, _⟩ := hp 0 (l[0]'(by omega)) (List.getElem?_eq_getElem (by omega))
      obtain ⟨b, off, spot⟩ := a
      have hspot : spot = none := by
        have := World.cell?_spot c0
        simpa [Addr.add] using this
      subst hspot
      exact ⟨b, off, rfl⟩
    refine ⟨some a, len, cap, l, rfl, fun i hi' => ?_, hlen, hl, hm, fun v hv => ?_, fun h => (by cases h), fun a' h' hz => ?_⟩
    · obtain ⟨b, off, rfl⟩ := plain i hi'
      obtain ⟨c0, c1, c2, _⟩ := hp i (l[i]) (List.getElem?_eq_getElem hi')
      have e : l.getD i blankV = l[i] := by simp [List.getD, hi']
      rw [add_plain] at c0 c1 c2
      rw [← Nat.add_assoc] at c1 c2
      rw [e]
      exact ⟨b, off, rfl, block_of_cell c0, c0, c1, c2⟩
    · obtain ⟨i, hi', e⟩ := List.getElem_of_mem hv
      exact (hp i v (by rw [List.getElem?_eq_getElem hi', e])).2.2.2
    · cases h'
      exact plain 0 (by omega)
structure BoolsIn (w : World) (A : Option Addr) (len cap : Nat) (l : List Bool) : Prop where
  row : ∀ i, i < l.length → ∃ b off, A = some ⟨b, off, none⟩ ∧ b < w.heap.size ∧ w.cell? ⟨b, off + i, none⟩ = some (.bool (l.getD i false))
  len_eq : l.length = len
  le : len ≤ cap
  max : cap ≤ maxLen
end Go.Proofs.YtbpkfnoenkoabaaGreatDoor
