/- Slices and arrays of values of cells, and slices of bools, as arguments. -/
import Derived.Test.YtipkjpcedfokhaaDoorGRows
import Derived.ChangeOld
import Derived.Carry
import Derived.ChangeArms
namespace Go.Proofs.YtipkjpcedfokhaaDoor
set_option linter.unusedVariables false
set_option linter.unusedSimpArgs false
open Go.ChangeShapes Go.WideShapes Go.RowKit Go.Joins Go.Deep Lv

theorem laidOut : laidOutB Tryd.prog = true := by kernel_rfl
/-- what the type promises of a value -/
def Wide (v : Vl) : Prop := v.k ≤ 255 ∧ i64 v.n ∧ v.t.length ≤ maxLen
set_option maxRecDepth 100000 in
/-- three cells that read as a value of a cell -/
theorem open_cells {H : Type} {enc : TypeId × Value → H} {W : World} {b : Nat} {sp : Nat → Bool} {held : Bool} {fuel : Nat} {cs : List Value} {x : DataW H × List MemPlace}
    (h : DataW.trod enc Tryd.prog W b sp held fuel 35 cs = some x) :
    ∃ v : Vl, cs = [.int .u8 v.k, .int .i64 v.n, .string ⟨v.t.toArray⟩] ∧ Wide v ∧ x.2 = [] ∧ ∀ (W' : World) (b' : Nat) (sp' : Nat → Bool) (held' : Bool), ∃ n, DataW.trod enc Tryd.prog W' b' sp' held' n 35 cs = some x := by
  obtain ⟨y0, y1, y2, m, hx, hl, hy0, hy1, hy2⟩ := trod_struct3 Tryd.underlying35 h
  rw [val_cells] at hl
  match cs, hl with
  | [c0, c1, c2], _ =>
    have q0 : DataW.trod enc Tryd.prog W b sp held m 5 [c0] = some y0 := hy0
    have q1 : DataW.trod enc Tryd.prog W b sp held m 2 [c1] = some y1 := hy1
    have q2 : DataW.trod enc Tryd.prog W b sp held m 9 [c2] = some y2 := hy2
    obtain ⟨a, e0, rfl, wx⟩ := DataW.trod_int Tryd.underlying5 q0
    obtain ⟨y, e1, rfl, wy⟩ := DataW.trod_int Tryd.underlying2 q1
    obtain ⟨s, e2, rfl, ws⟩ := DataW.trod_string Tryd.underlying9 q2
    simp at e0 e1 e2
    subst e0 e1 e2
    have rx : 0 ≤ a ∧ a ≤ 255 := by
      unfold Lit.wf at wx
      rw [Bool.and_eq_true, decide_eq_true_eq, decide_eq_true_eq] at wx
      exact wx
    have ry : i64 y := by
      unfold Lit.wf at wy
      rw [Bool.and_eq_true, decide_eq_true_eq, decide_eq_true_eq] at wy
      exact wy
    obtain ⟨k, rfl⟩ : ∃ k : Nat, a = k := ⟨a.toNat, by omega⟩
    refine ⟨⟨k, y, s.data.toList⟩, rfl, ⟨by simp only; omega, ry, ws⟩, by rw [hx]; rfl, fun W' b' sp' held' => ?_⟩
    obtain ⟨n, hn⟩ := shut_agg3 (enc := enc) (w := W') (base := b') (spare := sp') (held := held') (v0 := .int .u8 k) (v1 := .int .i64 y) (v2 := .string s) (y0 := (.lit (.int .u8 k), [])) (y1 := (.lit (.int .i64 y), [])) (y2 := (.lit (.string s.data.toList), [])) Tryd.underlying35 (by kernel_rfl) val_cells
      ⟨1, by simp [DataW.trod, Tryd.underlying5, wx]⟩ ⟨1, by simp [DataW.trod, Tryd.underlying2, wy]⟩ ⟨1, by simp [DataW.trod, Tryd.underlying9, ws]⟩
    exact ⟨n, by rw [hx]; simpa [Value.cells] using hn⟩
theorem block_of_cell {w : World} {a : Addr} {v : Value} (h : w.cell? a = some v) : a.block < w.heap.size := World.block_lt_of_cell? w _ h

/-- a slice of values that came in -/
structure ValsIn (w : World) (A : Option Addr) (len cap : Nat) (l : List Vl) : Prop where
  row : RowV w A l
  len_eq : l.length = len
  le : len ≤ cap
  max : cap ≤ maxLen
  wide : ∀ v ∈ l, Wide v
  nil : A = none → len = 0 ∧ cap = 0
  addr : ∀ a, A = some a → 0 < len → ∃ b off, a = ⟨b, off, none⟩
theorem pick {α : Type} {n : Nat} {p : Nat → α → Prop} (h : ∀ i, i < n → ∃ v, p i v) : ∃ l : List α, l.length = n ∧ ∀ i v, l[i]? = some v → p i v := by
  induction n with
  | zero => exact ⟨[], rfl, fun i v hv => by simp at hv⟩
  | succ n ih =>
    obtain ⟨l, hl, hp⟩ := ih (fun i hi => h i (by omega))
    obtain ⟨v, hv⟩ := h n (by omega)
    refine ⟨l ++ [v], by simp [hl], fun i u hu => ?_⟩
    rcases Nat.lt_or_ge i l.length with c | c
    · rw [List.getElem?_append_left c] at hu; exact hp i u hu
    · rw [List.getElem?_append_right c] at hu
      have : i = n := by
        rcases Nat.lt_or_ge (i - l.length) 1 with d | d
        · omega
        · rw [List.getElem?_eq_none (by simpa using d)] at hu; cases hu
      subst this
      rw [hl] at hu; simp at hu; subst hu; exact hv
set_option maxRecDepth 100000 in
theorem open_vals {H : Type} {enc : TypeId × Value → H} {W : World} {r : Reach} {b0 : Nat} {sp : Nat → Bool} {held : Bool} {v : Value} {d : DataW H} {p : List MemPlace}
    (hv : Value.okWide Tryd.prog W r b0 41 v) (h : DataW.Trod enc Tryd.prog W 0 sp held 41 v d p) :
    ∃ (A : Option Addr) (len cap : Nat) (l : List Vl), v = .slice A len cap ∧ ValsIn W A len cap l := by
  obtain ⟨A, len, cap, rfl⟩ := okWide_slice Tryd.underlying41 hv
  obtain ⟨fuel, hf⟩ := h
  rcases open_slice Tryd.underlying41 hf with ⟨hcs, _⟩ | ⟨a, len', cap', m, n, D, Pl, hcs, hb, hl, hm, hmm, _, hi⟩
  · simp [Value.cells] at hcs
    obtain ⟨rfl, rfl, rfl⟩ := hcs
    exact ⟨none, 0, 0, [], rfl, RowV.nil _ _, rfl, Nat.le_refl _, Nat.zero_le _, (fun v hv => by cases hv), (fun _ => ⟨rfl, rfl⟩), (fun a h => by cases h)⟩
  · simp [Value.cells] at hcs
    obtain ⟨rfl, rfl, rfl⟩ := hcs
    have hle : len ≤ m := by rw [hmm]; split <;> omega
    obtain ⟨l, hlen, hp⟩ := pick (n := len) (p := fun i v => W.cell? (a.add (i * 3)) = some (.int .u8 v.k) ∧ W.cell? (a.add (i * 3 + 1)) = some (.int .i64 v.n) ∧ W.cell? (a.add (i * 3 + 2)) = some (.string ⟨v.t.toArray⟩) ∧ Wide v) (fun i hi' => by
      obtain ⟨cs, h1, h2⟩ := hi i (by omega)
      rw [val_cells] at h1
      obtain ⟨_, hl3, hat⟩ := World.cells?_some h1
      obtain ⟨v, rfl, hw, _, _⟩ := open_cells h2
      refine ⟨v, ?_, ?_, ?_, hw⟩
      · have := hat 0 (by omega); rw [add_add] at this; exact this
      · have := hat 1 (by omega); rw [add_add] at this; exact this
      · have := hat 2 (by omega); rw [add_add] at this; exact this)
    have plain : ∀ i, i < l.length → ∃ b off, a = ⟨b, off, none⟩ := fun i hi' => by
      obtain ⟨c0, _⟩ := hp 0 (l[0]'(by omega)) (List.getElem?_eq_getElem (by omega))
      obtain ⟨b, off, spot⟩ := a
      have hspot : spot = none := by
        have := World.cell?_spot c0
        simpa [Addr.add] using this
      subst hspot
      exact ⟨b, off, rfl⟩
    refine ⟨some a, len, cap, l, rfl, fun i hi' => ?_, hlen, hl, hm, fun v hv => ?_, fun h => (by cases h), fun a' h' hz => ?_⟩
    · obtain ⟨b, off, rfl⟩ := plain i hi'
      obtain ⟨c0, c1, c2, _⟩ := hp i (l[i]) (List.getElem?_eq_getElem hi')
      have e : l.getD i blankV = l[i] := by simp [List.getD, hi']
      rw [add_plain] at c0 c1 c2
      rw [← Nat.add_assoc] at c1 c2
      rw [e]
      exact ⟨b, off, rfl, block_of_cell c0, c0, c1, c2⟩
    · obtain ⟨i, hi', e⟩ := List.getElem_of_mem hv
      exact (hp i v (by rw [List.getElem?_eq_getElem hi', e])).2.2.2
    · cases h'
      exact plain 0 (by omega)
/-- a slice of bools that came in -/
structure BoolsIn (w : World) (A : Option Addr) (len cap : Nat) (l : List Bool) : Prop where
  row : ∀ i, i < l.length → ∃ b off, A = some ⟨b, off, none⟩ ∧ b < w.heap.size ∧ w.cell? ⟨b, off + i, none⟩ = some (.bool (l.getD i false))
  len_eq : l.length = len
  le : len ≤ cap
  max : cap ≤ maxLen
set_option maxRecDepth 100000 in
theorem open_bools {H : Type} {enc : TypeId × Value → H} {W : World} {r : Reach} {b0 : Nat} {sp : Nat → Bool} {held : Bool} {v : Value} {d : DataW H} {p : List MemPlace} {t e : TypeId} (ht : Tryd.prog.underlying t = some (.slice e)) (he : Tryd.prog.underlying e = some .bool) (hc : Tryd.prog.cellsOf e = 1)
    (hv : Value.okWide Tryd.prog W r b0 t v) (h : DataW.Trod enc Tryd.prog W 0 sp held t v d p) :
    ∃ (A : Option Addr) (len cap : Nat) (l : List Bool), v = .slice A len cap ∧ BoolsIn W A len cap l := by
  obtain ⟨A, len, cap, rfl⟩ := okWide_slice ht hv
  obtain ⟨fuel, hf⟩ := h
  rcases open_slice1 ht hc hf with ⟨hcs, _⟩ | ⟨a, len', cap', m, n, V, D, Pl, hcs, hb, hl, hm, hmm, _, hi⟩
  · simp [Value.cells] at hcs
    obtain ⟨rfl, rfl, rfl⟩ := hcs
    exact ⟨none, 0, 0, [], rfl, fun i hi => (by simp at hi), rfl, Nat.le_refl _, Nat.zero_le _⟩
  · simp [Value.cells] at hcs
    obtain ⟨rfl, rfl, rfl⟩ := hcs
    have hle : len ≤ m := by rw [hmm]; split <;> omega
    obtain ⟨l, hlen, hp⟩ := pick (n := len) (p := fun i (v : Bool) => W.cell? (a.add i) = some (.bool v)) (fun i hi' => by
      obtain ⟨h1, h2⟩ := hi i (by omega)
      obtain ⟨v, e1, _⟩ := DataW.trod_bool he h2
      have : V i = .bool v := by simpa using e1
      exact ⟨v, by rw [h1, this]⟩)
    refine ⟨some a, len, cap, l, rfl, fun i hi' => ?_, hlen, hl, hm⟩
    have c0 := hp i (l[i]) (List.getElem?_eq_getElem hi')
    have e : l.getD i false = l[i] := by simp [List.getD, hi']
    have cz := hp 0 (l[0]'(by omega)) (List.getElem?_eq_getElem (by omega))
    obtain ⟨b, off, spot⟩ := a
    have hspot : spot = none := by
      have := World.cell?_spot cz
      simpa [Addr.add] using this
    subst hspot
    clear cz
    rw [add_plain] at c0
    rw [e]
    exact ⟨b, off, rfl, block_of_cell c0, c0⟩
set_option maxRecDepth 100000 in
/-- an array of three values by value -/
theorem open_val3 {H : Type} {enc : TypeId × Value → H} {W : World} {r : Reach} {b0 b : Nat} {sp : Nat → Bool} {held : Bool} {v : Value} {d : DataW H} {p : List MemPlace} {t : TypeId} (ht : Tryd.prog.underlying t = some (.array 3 35)) (hc : Tryd.prog.cellsOf t = 9)
    (hv : Value.okWide Tryd.prog W r b0 t v) (h : DataW.Trod enc Tryd.prog W b sp held t v d p) :
    ∃ (x y z : Vl), v = .agg #[.int .u8 x.k, .int .i64 x.n, .string ⟨x.t.toArray⟩, .int .u8 y.k, .int .i64 y.n, .string ⟨y.t.toArray⟩, .int .u8 z.k, .int .i64 z.n, .string ⟨z.t.toArray⟩] ∧ Wide x ∧ Wide y ∧ Wide z ∧ p = [] := by
  obtain ⟨cs, rfl, hsz⟩ : ∃ cs, v = .agg cs ∧ cs.size = Tryd.prog.cellsOf t := by
    simp only [Value.okWide, ht] at hv
    obtain ⟨cs, h1, h2, _⟩ := hv
    exact ⟨cs, h1, h2⟩
  rw [hc] at hsz
  obtain ⟨l⟩ := cs
  obtain ⟨fuel, hf⟩ := h
  obtain ⟨xs, m, _, hx, _, hl, hg⟩ := DataW.trod_array ht hf
  rw [val_cells] at hg
  match xs, hl with
  | [x0, x1, x2], _ =>
    obtain ⟨a, ea, wa, pa, _⟩ := open_cells (hg 0 (by omega))
    obtain ⟨b, eb, wb, pb, _⟩ := open_cells (hg 1 (by omega))
    obtain ⟨c, ec, wc, pc, _⟩ := open_cells (hg 2 (by omega))
    simp only [Value.cells] at ea eb ec
    match l, hsz with
    | [c0, c1, c2, c3, c4, c5, c6, c7, c8], _ =>
      simp at ea eb ec
      obtain ⟨rfl, rfl, rfl⟩ := ea
      obtain ⟨rfl, rfl, rfl⟩ := eb
      obtain ⟨rfl, rfl, rfl⟩ := ec
      simp only [Prod.mk.injEq] at hx
      exact ⟨a, b, c, rfl, wa, wb, wc, by rw [hx.2]; simp [pa, pb, pc]⟩
end Go.Proofs.YtipkjpcedfokhaaDoor
