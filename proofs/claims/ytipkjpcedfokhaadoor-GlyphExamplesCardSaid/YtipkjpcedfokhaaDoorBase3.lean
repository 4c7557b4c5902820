/- Blocks of cells that a call has made and knows whole. -/
import Derived.Test.YtipkjpcedfokhaaDoorBase2
import Derived.Laws.Rows
import Derived.Handy
namespace Go.Proofs.YtipkjpcedfokhaaDoor
set_option linter.unusedVariables false
set_option linter.unusedSimpArgs false
open Go.RowKit
/-- block g is these cells, none of them frozen -/
def Box (w : World) (g : Nat) (t : TypeId) (cs : Array Value) : Prop := w.heap[g]? = some (.cells cs t (0, 0))
section
variable {w w' : World} {g : Nat} {t : TypeId} {cs : Array Value}
theorem Box.inside (h : Box w g t cs) : g < w.heap.size := (Array.getElem?_eq_some_iff.1 h).1
theorem Box.cell (h : Box w g t cs) (i : Nat) : w.cell? ⟨g, i, none⟩ = cs[i]? := cell_of_row w g i cs t (0, 0) h
theorem Box.loose (h : Box w g t cs) (i : Nat) : w.frozen? ⟨g, i, none⟩ = false := by simp only [World.frozen?, show w.heap[g]? = _ from h]; simp
theorem Box.new (w : World) (t : TypeId) (cs : Array Value) : Box (w.alloc (.cells cs t)) w.heap.size t cs := Go.heap_alloc_new w _
theorem Box.newAt {w : World} {g : Nat} (h : w.heap.size = g) (t : TypeId) (cs : Array Value) : Box (w.alloc (.cells cs t)) g t cs := by subst h; exact Box.new w t cs
theorem Box.drew (h : Box w g t cs) : Box w.drew g t cs := h
theorem Box.drewN (h : Box w g t cs) (n : Nat) : Box (w.drewN n) g t cs := by
  induction n with
  | zero => exact h
  | succ n ih => exact ih
theorem Box.alloc (h : Box w g t cs) (o : Obj) : Box (w.alloc o) g t cs := (Below.heap_alloc w o g h.inside).trans h
theorem Box.at_ (h : Box w g t cs) (i : Nat) (u : Value) : Box (w.setCell ⟨g, i, none⟩ u) g t (cs.setIfInBounds i u) := by
  show ((w.setCell ⟨g, i, none⟩ u).heap)[g]? = _
  simp only [World.setCell, Array.getElem?_modify, show w.heap[g]? = _ from h]
  simp
theorem Box.far (h : Box w g t cs) {p : Addr} (hp : g ≠ p.block) (u : Value) : Box (w.setCell p u) g t cs := (Below.heap_setCell w p u g hp).trans h
theorem Box.farX {p : Addr} (hp : g ≠ p.block) (h : Box w g t cs) (u : Value) : Box (w.setCell p u) g t cs := h.far hp u
theorem Box.kept (k : Kept w w') (h : Box w g t cs) : Box w' g t cs := (k.block g h.inside).trans h
end
section
variable {w : World} {g : Nat} {t : TypeId} {a b c d u : Value}
theorem Box.s1 (h : Box w g t #[a]) (u : Value) : Box (w.setCell ⟨g, 0, none⟩ u) g t #[u] := h.at_ 0 u
theorem Box.s20 (h : Box w g t #[a, b]) (u : Value) : Box (w.setCell ⟨g, 0, none⟩ u) g t #[u, b] := h.at_ 0 u
theorem Box.s21 (h : Box w g t #[a, b]) (u : Value) : Box (w.setCell ⟨g, 1, none⟩ u) g t #[a, u] := h.at_ 1 u
theorem Box.s40 (h : Box w g t #[a, b, c, d]) (u : Value) : Box (w.setCell ⟨g, 0, none⟩ u) g t #[u, b, c, d] := h.at_ 0 u
theorem Box.s41 (h : Box w g t #[a, b, c, d]) (u : Value) : Box (w.setCell ⟨g, 1, none⟩ u) g t #[a, u, c, d] := h.at_ 1 u
theorem Box.s42 (h : Box w g t #[a, b, c, d]) (u : Value) : Box (w.setCell ⟨g, 2, none⟩ u) g t #[a, b, u, d] := h.at_ 2 u
theorem Box.s43 (h : Box w g t #[a, b, c, d]) (u : Value) : Box (w.setCell ⟨g, 3, none⟩ u) g t #[a, b, c, u] := h.at_ 3 u
theorem Box.c0 (h : Box w g t #[a, b]) : w.cell? ⟨g, 0, none⟩ = some a := h.cell 0
theorem Box.c1 (h : Box w g t #[a, b]) : w.cell? ⟨g, 1, none⟩ = some b := h.cell 1
end
/-- a contract that leaves the world alone, in a region that draws its order -/
theorem quiet_same {P : Program} {f : FuncId} {args : Array Value} {w : World} {v : Value} (h : Calls P f args w fun e w' => e = .returned v ∧ w = w') :
    Calls P f args w fun e w' => e = .returned v ∧ ∃ n, w' = w.drewN n := h.mono fun _ _ ⟨he, hw⟩ => ⟨he, 0, hw.symm⟩
theorem quiet_same_drewN {P : Program} {f : FuncId} {args : Array Value} {w : World} {n : Nat} {v : Value} (h : Calls P f args (w.drewN n) fun e w' => e = .returned v ∧ w.drewN n = w') :
    Calls P f args (w.drewN n) fun e w' => e = .returned v ∧ ∃ m, w' = w.drewN m := h.mono fun _ _ ⟨he, hw⟩ => ⟨he, n, hw.symm⟩
theorem quiet_more {P : Program} {f : FuncId} {args : Array Value} {w : World} {n : Nat} {v : Value} (h : Calls P f args (w.drewN n) fun e w' => e = .returned v ∧ ∃ m, w' = (w.drewN n).drewN m) :
    Calls P f args (w.drewN n) fun e w' => e = .returned v ∧ ∃ m, w' = w.drewN m := h.mono fun _ _ ⟨he, m, hw⟩ => ⟨he, n + m, by rw [hw, World.drewN_drewN]⟩
/-- of the old blocks at most block g has turned -/
structure Only (g : Nat) (w w' : World) : Prop where
  os : w'.os = w.os
  tape : w'.tape = w.tape
  output : w'.output = w.output
  size : w.heap.size ≤ w'.heap.size
  block : ∀ k, k < w.heap.size → k ≠ g → w'.heap[k]? = w.heap[k]?
theorem Only.refl (g : Nat) (w : World) : Only g w w := ⟨rfl, rfl, rfl, Nat.le_refl _, fun _ _ _ => rfl⟩
theorem Only.trans {g : Nat} {a b c : World} (h : Only g a b) (k : Only g b c) : Only g a c :=
  ⟨k.os.trans h.os, k.tape.trans h.tape, k.output.trans h.output, Nat.le_trans h.size k.size, fun i hi hn => (k.block i (Nat.lt_of_lt_of_le hi h.size) hn).trans (h.block i hi hn)⟩
theorem Only.of_kept {g : Nat} {w w' : World} (h : Kept w w') : Only g w w' := ⟨h.os, h.tape, h.output, h.size, fun k hk _ => h.block k hk⟩
theorem Only.drew {g : Nat} {a w : World} (h : Only g a w) : Only g a w.drew := ⟨h.os, h.tape, h.output, h.size, h.block⟩
theorem Only.drewN {g : Nat} {a w : World} (h : Only g a w) (n : Nat) : Only g a (w.drewN n) := by
  induction n with
  | zero => exact h
  | succ n ih => exact ih.drew
theorem Only.alloc {g : Nat} {a w : World} (h : Only g a w) (o : Obj) : Only g a (w.alloc o) := h.trans (.of_kept ((Kept.refl w).alloc o))
theorem Only.setCell {g : Nat} {a w : World} (h : Only g a w) (i : Nat) (u : Value) : Only g a (w.setCell ⟨g, i, none⟩ u) :=
  h.trans ⟨rfl, rfl, rfl, by simp [World.setCell], fun k _ hn => Below.heap_setCell w ⟨g, i, none⟩ u k hn⟩
theorem Only.kept {g : Nat} {a w w' : World} (h : Only g w w') (k : Kept a w) (hg : a.heap.size ≤ g) : Kept a w' :=
  ⟨h.os.trans k.os, h.tape.trans k.tape, h.output.trans k.output, Nat.le_trans k.size h.size, fun i hi => (h.block i (Nat.lt_of_lt_of_le hi k.size) (by omega)).trans (k.block i hi)⟩
theorem Only.box {g g' : Nat} {w w' : World} {t : TypeId} {cs : Array Value} (h : Only g w w') (b : Box w g' t cs) (hg : g' ≠ g) : Box w' g' t cs := (h.block g' b.inside hg).trans b
theorem Only.cell {g : Nat} {w w' : World} (h : Only g w w') {p : Addr} (hp : p.block < w.heap.size) (hg : p.block ≠ g) : w'.cell? p = w.cell? p := World.cell?_of_block (w := w) (h.block p.block hp hg)
end Go.Proofs.YtipkjpcedfokhaaDoor
