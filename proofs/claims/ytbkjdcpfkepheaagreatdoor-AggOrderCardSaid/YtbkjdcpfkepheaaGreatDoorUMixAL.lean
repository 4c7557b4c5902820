/- Small texts together: MLogic, GRows, GArgs, SX2, SX5. -/
import Derived.Test.YtbkjdcpfkepheaaGreatDoorUBunM
import Derived.Test.YtbkjdcpfkepheaaGreatDoorUBunC
import Derived.Deep.Slices
import Derived.Laws.OwnMore
import Derived.Laws.AppendOwn
import Derived.Laws.AppendOwnNone
import Derived.ChangeOld
import Derived.Carry
import Derived.ChangeArms
import Derived.Test.YtbkjdcpfkepheaaGreatDoorUMixAJ
import Derived.IntWalk
import Derived.Maps.AppendAt
import Derived.Test.YtbkjdcpfkepheaaGreatDoorUBunG
set_option linter.unusedVariables false
set_option linter.unusedSimpArgs false
namespace Go.Proofs.YtbkjdcpfkepheaaGreatDoor.Lv
open Go
def isE (v : Vl) : Bool := decide (v.k = 4)
def firstE (l : List Vl) : Option Vl := l.find? isE
def blankV : Vl := ⟨0, 0, []⟩
end Go.Proofs.YtbkjdcpfkepheaaGreatDoor.Lv

namespace Go.Proofs.YtbkjdcpfkepheaaGreatDoor
open Go.RowKit Lv
def flatV (l : List Vl) : List Value := l.flatMap fun v => [.int .u8 v.k, .int .i64 v.n, .string ⟨v.t.toArray⟩]
theorem flatV_cons (v : Vl) (l : List Vl) : flatV (v :: l) = .int .u8 v.k :: .int .i64 v.n :: .string ⟨v.t.toArray⟩ :: flatV l := rfl
theorem flatV_get : ∀ (l : List Vl) (i : Nat), i < l.length → (flatV l)[i * 3]? = some (.int .u8 (l.getD i blankV).k) ∧ (flatV l)[i * 3 + 1]? = some (.int .i64 (l.getD i blankV).n) ∧ (flatV l)[i * 3 + 2]? = some (.string ⟨(l.getD i blankV).t.toArray⟩)
  | [], i, h => by simp at h
  | v :: l, 0, _ => ⟨rfl, rfl, rfl⟩
  | v :: l, i + 1, h => by
    have ih := flatV_get l i (by simpa using h); rw [flatV_cons, show (i + 1) * 3 = i * 3 + 3 by omega]; exact ih
def RowV (w : World) (A : Option Addr) (l : List Vl) : Prop := ∀ i, i < l.length → ∃ b off, A = some ⟨b, off, none⟩ ∧ b < w.heap.size ∧ w.cell? ⟨b, off + i * 3, none⟩ = some (.int .u8 (l.getD i blankV).k) ∧ w.cell? ⟨b, off + i * 3 + 1, none⟩ = some (.int .i64 (l.getD i blankV).n) ∧ w.cell? ⟨b, off + i * 3 + 2, none⟩ = some (.string ⟨(l.getD i blankV).t.toArray⟩)
theorem RowV.kept {w w' : World} {A : Option Addr} {l : List Vl} (h : RowV w A l) (k : Kept w w') : RowV w' A l := fun i hi => by
  obtain ⟨b, off, rfl, hb, h0, h1, h2⟩ := h i hi; exact ⟨b, off, rfl, Nat.lt_of_lt_of_le hb k.size, (k.cell (p := ⟨b, _, none⟩) hb).trans h0, (k.cell (p := ⟨b, _, none⟩) hb).trans h1, (k.cell (p := ⟨b, _, none⟩) hb).trans h2⟩
theorem RowV.take {w : World} {A : Option Addr} {l : List Vl} (h : RowV w A l) (k : Nat) : RowV w A (l.take k) := fun i hi => by
  rw [List.length_take] at hi; have e : (l.take k).getD i blankV = l.getD i blankV := by simp [List.getD, List.getElem?_take, show i < k by omega]
  rw [e]; exact h i (by omega)
theorem RowV.drop {w : World} {b off : Nat} {l : List Vl} (h : RowV w (some ⟨b, off, none⟩) l) (k : Nat) : RowV w (some ⟨b, off + k * 3, none⟩) (l.drop k) := fun i hi => by
  rw [List.length_drop] at hi; obtain ⟨b', off', e, hb, h0, h1, h2⟩ := h (k + i) (by omega)
  cases e
  have e : (l.drop k).getD i blankV = l.getD (k + i) blankV := by simp [List.getD, List.getElem?_drop]
  rw [e]; exact ⟨b, off + k * 3, rfl, hb, by rw [show off + k * 3 + i * 3 = off + (k + i) * 3 by omega]; exact h0, by rw [show off + k * 3 + i * 3 = off + (k + i) * 3 by omega]; exact h1, by rw [show off + k * 3 + i * 3 = off + (k + i) * 3 by omega]; exact h2⟩
theorem RowV.nil (w : World) (A : Option Addr) : RowV w A [] := fun i hi => by simp at hi
theorem RowV.box {w : World} {g : Nat} {t : TypeId} {cs : Array Value} {l : List Vl} (h : Box w g t cs) (hl : cs.toList.take (l.length * 3) = flatV l) : RowV w (some ⟨g, 0, none⟩) l := fun i hi => by
  obtain ⟨h0, h1, h2⟩ := flatV_get l i hi
  have c : ∀ j v, j < l.length * 3 → (flatV l)[j]? = some v → w.cell? ⟨g, j, none⟩ = some v := fun j v hj hv => by
    rw [h.cell j, ← hv, ← hl, List.getElem?_take_of_lt hj]
    simp
  exact ⟨g, 0, rfl, h.inside, by rw [Nat.zero_add]; exact c _ _ (by omega) h0, by rw [Nat.zero_add]; exact c _ _ (by omega) h1, by rw [Nat.zero_add]; exact c _ _ (by omega) h2⟩
def OwnV (w : World) (base : Nat) (v : Value) (l : List Vl) : Prop := w.ownsRow base 25 3 v l.length (flatV l)
theorem OwnV.nil (w : World) (base : Nat) : OwnV w base (.slice none 0 0) [] := World.ownsRow_nil w base _ 3
theorem OwnV.kept {w w' : World} {base : Nat} {v : Value} {l : List Vl} (h : OwnV w base v l) (k : Kept w w') : OwnV w' base v l := by
  obtain ⟨h1, h2⟩ := h; refine ⟨h1, ?_⟩; rcases h2 with h2 | ⟨g, cap, cur, hv, hg, hh, r⟩
  · exact Or.inl h2
  · have hlt : g < w.heap.size := (Array.getElem?_eq_some_iff.1 hh).1
    exact Or.inr ⟨g, cap, cur, hv, hg, (k.block g hlt).trans hh, r⟩
theorem OwnV.alloc {w : World} {base : Nat} {v : Value} {l : List Vl} (h : OwnV w base v l) (o : Obj) : OwnV (w.alloc o) base v l := h.kept ((Kept.refl w).alloc o)
theorem OwnV.drew {w : World} {base : Nat} {v : Value} {l : List Vl} (h : OwnV w base v l) : OwnV w.drew base v l := h.kept ((Kept.refl w).drew)
theorem OwnV.grown {a w w' : World} {base : Nat} {v : Value} {l : List Vl} (h : OwnV w base v l) (hb : a.heap.size ≤ base) (k : Kept a w) (g : w.grownBy w' v.ownBlock) : Kept a w' :=
  Below.grown k g k.size (fun x hx => Nat.le_trans hb (World.ownsRow.lt h x hx).1)
theorem OwnV.row {w : World} {base : Nat} {v : Value} {l : List Vl} (h : OwnV w base v l) : ∃ A cap, v = .slice A l.length cap ∧ RowV w A l ∧ l.length ≤ cap ∧ (l ≠ [] → ∃ g, A = some ⟨g, 0, none⟩ ∧ base ≤ g) := by
  rcases h.2 with ⟨rfl, h0⟩ | ⟨g, cap, cur, rfl, hb, hh, h4, h5, h6, h7⟩
  · have : l = [] := List.eq_nil_of_length_eq_zero h0
    subst this; exact ⟨none, 0, rfl, RowV.nil _ _, Nat.le_refl _, fun h => absurd rfl h⟩
  · exact ⟨some ⟨g, 0, none⟩, cap, rfl, RowV.box (t := 25) (cs := cur) hh h7, h4, fun _ => ⟨g, rfl, hb⟩⟩
end Go.Proofs.YtbkjdcpfkepheaaGreatDoor

namespace Go.Proofs.YtbkjdcpfkepheaaGreatDoor
open Go.ChangeShapes Go.WideShapes Go.RowKit Go.Joins Go.Deep Lv
theorem laidOut : laidOutB Tryz.prog = true := by kernel_rfl
def Wide (v : Vl) : Prop := v.k ≤ 255 ∧ i64 v.n ∧ v.t.length ≤ maxLen
set_option maxRecDepth 100000 in
theorem open_cells {H : Type} {enc : TypeId × Value → H} {W : World} {b : Nat} {sp : Nat → Bool} {held : Bool} {fuel : Nat} {cs : List Value} {x : DataW H × List MemPlace}
    (h : DataW.trod enc Tryz.prog W b sp held fuel 25 cs = some x) :
    ∃ v : Vl, cs = [.int .u8 v.k, .int .i64 v.n, .string ⟨v.t.toArray⟩] ∧ Wide v ∧ x.2 = [] ∧ ∀ (W' : World) (b' : Nat) (sp' : Nat → Bool) (held' : Bool), ∃ n, DataW.trod enc Tryz.prog W' b' sp' held' n 25 cs = some x := by
  obtain ⟨y0, y1, y2, m, hx, hl, hy0, hy1, hy2⟩ := trod_struct3 Tryz.underlying25 h; rw [val_cells] at hl
  match cs, hl with
  | [c0, c1, c2], _ =>
    have q0 : DataW.trod enc Tryz.prog W b sp held m 5 [c0] = some y0 := hy0; have q1 : DataW.trod enc Tryz.prog W b sp held m 2 [c1] = some y1 := hy1; have q2 : DataW.trod enc Tryz.prog W b sp held m 9 [c2] = some y2 := hy2; obtain ⟨a, e0, rfl, wx⟩ := DataW.trod_int Tryz.underlying5 q0; obtain ⟨y, e1, rfl, wy⟩ := DataW.trod_int Tryz.underlying2 q1; obtain ⟨s, e2, rfl, ws⟩ := DataW.trod_string Tryz.underlying9 q2
    simp at e0 e1 e2
    subst e0 e1 e2
    have rx : 0 ≤ a ∧ a ≤ 255 := by
      unfold Lit.wf at wx; rw [Bool.and_eq_true, decide_eq_true_eq, decide_eq_true_eq] at wx; exact wx
    have ry : i64 y := by
      unfold Lit.wf at wy; rw [Bool.and_eq_true, decide_eq_true_eq, decide_eq_true_eq] at wy; exact wy
    obtain ⟨k, rfl⟩ : ∃ k : Nat, a = k := ⟨a.toNat, by omega⟩; refine ⟨⟨k, y, s.data.toList⟩, rfl, ⟨by simp only; omega, ry, ws⟩, by rw [hx]; rfl, fun W' b' sp' held' => ?_⟩
    obtain ⟨n, hn⟩ := shut_agg3 (enc := enc) (w := W') (base := b') (spare := sp') (held := held') (v0 := .int .u8 k) (v1 := .int .i64 y) (v2 := .string s) (y0 := (.lit (.int .u8 k), [])) (y1 := (.lit (.int .i64 y), [])) (y2 := (.lit (.string s.data.toList), [])) Tryz.underlying25 (by kernel_rfl) val_cells
      ⟨1, by simp [DataW.trod, Tryz.underlying5, wx]⟩ ⟨1, by simp [DataW.trod, Tryz.underlying2, wy]⟩ ⟨1, by simp [DataW.trod, Tryz.underlying9, ws]⟩
    exact ⟨n, by rw [hx]; simpa [Value.cells] using hn⟩
theorem block_of_cell {w : World} {a : Addr} {v : Value} (h : w.cell? a = some v) : a.block < w.heap.size := World.block_lt_of_cell? w _ h
structure ValsIn (w : World) (A : Option Addr) (len cap : Nat) (l : List Vl) : Prop where
  row : RowV w A l
  len_eq : l.length = len
  le : len ≤ cap
  max : cap ≤ maxLen
  wide : ∀ v ∈ l, Wide v
  nil : A = none → len = 0 ∧ cap = 0
  addr : ∀ a, A = some a → 0 < len → ∃ b off, a = ⟨b, off, none⟩
theorem pick {α : Type} {n : Nat} {p : Nat → α → Prop} (h : ∀ i, i < n → ∃ v, p i v) : ∃ l : List α, l.length = n ∧ ∀ i v, l[i]? = some v → p i v := by
  induction n with
  | zero => exact ⟨[], rfl, fun i v hv => by simp at hv⟩
  | succ n ih =>
    obtain ⟨l, hl, hp⟩ := ih (fun i hi => h i (by omega)); obtain ⟨v, hv⟩ := h n (by omega); refine ⟨l ++ [v], by simp [hl], fun i u hu => ?_⟩; rcases Nat.lt_or_ge i l.length with c | c
    · rw [List.getElem?_append_left c] at hu; exact hp i u hu
    · rw [List.getElem?_append_right c] at hu
      have : i = n := by
        rcases Nat.lt_or_ge (i - l.length) 1 with d | d
        · omega
        · rw [List.getElem?_eq_none (by simpa using d)] at hu; cases hu
      subst this; rw [hl] at hu; simp at hu; subst hu; exact hv
structure BoolsIn (w : World) (A : Option Addr) (len cap : Nat) (l : List Bool) : Prop where
  row : ∀ i, i < l.length → ∃ b off, A = some ⟨b, off, none⟩ ∧ b < w.heap.size ∧ w.cell? ⟨b, off + i, none⟩ = some (.bool (l.getD i false))
  len_eq : l.length = len
  le : len ≤ cap
  max : cap ≤ maxLen
end Go.Proofs.YtbkjdcpfkepheaaGreatDoor

namespace Go.Proofs.YtbkjdcpfkepheaaGreatDoor
open Go.RowKit Lv
theorem tmod_within (n m : Int) : -(n.natAbs : Int) ≤ Int.tmod n m ∧ Int.tmod n m ≤ n.natAbs ∧ (n < 0 → Int.tmod n m ≤ 0) := by
  have := Int.natAbs_tmod n m; have h2 : n.natAbs % m.natAbs ≤ n.natAbs := Nat.mod_le _ _; refine ⟨by omega, by omega, fun h => ?_⟩; have e : Int.tmod n m = -Int.tmod (-n) m := by rw [Int.neg_tmod, Int.neg_neg]
  have := Int.tmod_nonneg m (show 0 ≤ -n by omega)
  omega
def sameV (x y : Vl) : Bool := decide (x.k = y.k) && decide (x.n = y.n) && decide (x.t = y.t)
theorem sameV_iff {x y : Vl} : sameV x y = true ↔ x = y := by
  obtain ⟨k, n, t⟩ := x; obtain ⟨k', n', t'⟩ := y; unfold sameV
  simp [and_assoc]
theorem sameV_self (x : Vl) : sameV x x = true := sameV_iff.2 rfl
theorem sameV_of {x y : Vl} (h : x = y) : sameV x y = true := sameV_iff.2 h
theorem eql_val (x y : Vl) (w : World) : (binOp .eql 25 (aggV x) (aggV y)).run Tryz.prog w = .ok (.bool (sameV x y)) w := by
  go_simp
  unfold sameV
  by_cases hk : x.k = y.k <;> by_cases hn : x.n = y.n <;> by_cases ht : x.t = y.t <;> simp [hk, hn, ht] <;> omega
theorem neq_val (x y : Vl) (w : World) : (binOp .neq 25 (aggV x) (aggV y)).run Tryz.prog w = .ok (.bool (!sameV x y)) w := by
  go_simp
  unfold sameV
  by_cases hk : x.k = y.k <;> by_cases hn : x.n = y.n <;> by_cases ht : x.t = y.t <;> simp [hk, hn, ht] <;> omega
section
variable {o : Oper} {a : Act} {w : World}
theorem xmove {x : Operand} (ho : o.op = .move x) {v : Value} (hx : a.eval x = v) : (execOp a.eval o).run Tryz.prog w = .ok (.value v) w := by
  unfold execOp; rw [ho]; subst hx; rfl
theorem xassign {x : Operand} (ho : o.op = .assign x) {v : Value} (hx : a.eval x = v) : (execOp a.eval o).run Tryz.prog w = .ok (.value v) w := by
  unfold execOp; rw [ho]; subst hx; rfl
theorem xpick {c x y : Operand} (ho : o.op = .pick c x y) {b : Bool} (hc : a.eval c = .bool b) : (execOp a.eval o).run Tryz.prog w = .ok (.value (if b then a.eval x else a.eval y)) w := by
  unfold execOp; rw [ho]
  simp only [hc]
  go_simp
theorem xpickT {c x y : Operand} (ho : o.op = .pick c x y) (hc : a.eval c = .bool true) {v : Value} (hx : a.eval x = v) : (execOp a.eval o).run Tryz.prog w = .ok (.value v) w := by subst hx; exact xpick ho hc
theorem xpickF {c x y : Operand} (ho : o.op = .pick c x y) (hc : a.eval c = .bool false) {v : Value} (hy : a.eval y = v) : (execOp a.eval o).run Tryz.prog w = .ok (.value v) w := by subst hy; exact xpick ho hc
theorem xand {c x y : Operand} (ho : o.op = .pick c x y) {b d : Bool} (hc : a.eval c = .bool b) (hx : b = true → a.eval x = .bool d) (hy : a.eval y = .bool false) : (execOp a.eval o).run Tryz.prog w = .ok (.value (.bool (b && d))) w := by
  rw [xpick ho hc]
  cases b
  · rw [if_neg (by decide), hy]; rfl
  · rw [if_pos rfl, hx rfl]; rfl
theorem xor_ {c x y : Operand} (ho : o.op = .pick c x y) {b d : Bool} (hc : a.eval c = .bool b) (hx : a.eval x = .bool true) (hy : b = false → a.eval y = .bool d) : (execOp a.eval o).run Tryz.prog w = .ok (.value (.bool (b || d))) w := by
  rw [xpick ho hc]
  cases b
  · rw [if_neg (by decide), hy rfl]; rfl
  · rw [if_pos rfl, hx]; rfl
theorem xnot {T : TypeId} {x : Operand} (ho : o.op = .unOp .not T x) {b : Bool} (hx : a.eval x = .bool b) : (execOp a.eval o).run Tryz.prog w = .ok (.value (.bool (!b))) w := by
  unfold execOp; rw [ho]; simp only [hx]; go_simp
theorem xadd {T T2 : TypeId} (hT : T = 3 ∨ T = 2) {x y : Operand} (ho : o.op = .binOp .add T x y T2) {n m : Int} (hx : a.eval x = .int .i64 n) (hy : a.eval y = .int .i64 m) (h1 : -9223372036854775808 ≤ n + m) (h2 : n + m ≤ 9223372036854775807) : (execOp a.eval o).run Tryz.prog w = .ok (.value (.int .i64 (n + m))) w := by
  unfold execOp; rw [ho]
  simp only [hx, hy]
  rcases hT with rfl | rfl <;> (go_simp; exact IntWalk.i64_in _ (by omega))
theorem xsub {T T2 : TypeId} (hT : T = 3 ∨ T = 2) {x y : Operand} (ho : o.op = .binOp .sub T x y T2) {n m : Int} (hx : a.eval x = .int .i64 n) (hy : a.eval y = .int .i64 m) (h1 : -9223372036854775808 ≤ n - m) (h2 : n - m ≤ 9223372036854775807) : (execOp a.eval o).run Tryz.prog w = .ok (.value (.int .i64 (n - m))) w := by
  unfold execOp; rw [ho]
  simp only [hx, hy]
  rcases hT with rfl | rfl <;> (go_simp; exact IntWalk.i64_in _ (by omega))
theorem xlss {T T2 : TypeId} {x y : Operand} (ho : o.op = .binOp .lss T x y T2) {k : IntKind} {n m : Int} (hx : a.eval x = .int k n) (hy : a.eval y = .int k m) : (execOp a.eval o).run Tryz.prog w = .ok (.value (.bool (decide (n < m)))) w := by
  unfold execOp; rw [ho]; simp only [hx, hy]; go_simp
theorem xleq {T T2 : TypeId} {x y : Operand} (ho : o.op = .binOp .leq T x y T2) {k : IntKind} {n m : Int} (hx : a.eval x = .int k n) (hy : a.eval y = .int k m) : (execOp a.eval o).run Tryz.prog w = .ok (.value (.bool (decide (n ≤ m)))) w := by
  unfold execOp; rw [ho]; simp only [hx, hy]; go_simp
theorem xgtr {T T2 : TypeId} {x y : Operand} (ho : o.op = .binOp .gtr T x y T2) {k : IntKind} {n m : Int} (hx : a.eval x = .int k n) (hy : a.eval y = .int k m) : (execOp a.eval o).run Tryz.prog w = .ok (.value (.bool (decide (m < n)))) w := by
  unfold execOp; rw [ho]; simp only [hx, hy]; go_simp
theorem xgeq {T T2 : TypeId} {x y : Operand} (ho : o.op = .binOp .geq T x y T2) {k : IntKind} {n m : Int} (hx : a.eval x = .int k n) (hy : a.eval y = .int k m) : (execOp a.eval o).run Tryz.prog w = .ok (.value (.bool (decide (m ≤ n)))) w := by
  unfold execOp; rw [ho]; simp only [hx, hy]; go_simp
theorem xeqi {T T2 : TypeId} {x y : Operand} (ho : o.op = .binOp .eql T x y T2) {k : IntKind} {n m : Int} (hx : a.eval x = .int k n) (hy : a.eval y = .int k m) : (execOp a.eval o).run Tryz.prog w = .ok (.value (.bool (decide (n = m)))) w := by
  unfold execOp; rw [ho]; simp only [hx, hy]; go_simp
  try (by_cases h : n = m <;> simp [h])
theorem xnei {T T2 : TypeId} {x y : Operand} (ho : o.op = .binOp .neq T x y T2) {k : IntKind} {n m : Int} (hx : a.eval x = .int k n) (hy : a.eval y = .int k m) : (execOp a.eval o).run Tryz.prog w = .ok (.value (.bool (decide (n ≠ m)))) w := by
  unfold execOp; rw [ho]; simp only [hx, hy]; go_simp
  try (by_cases h : n = m <;> simp [h])
theorem xeqv {T2 : TypeId} {x y : Operand} (ho : o.op = .binOp .eql 25 x y T2) {u v : Vl} (hx : a.eval x = aggV u) (hy : a.eval y = aggV v) : (execOp a.eval o).run Tryz.prog w = .ok (.value (.bool (sameV u v))) w := by
  unfold execOp; rw [ho]
  simp only [hx, hy]
  have := eql_val u v w
  go_simp
  unfold sameV
  by_cases hk : u.k = v.k <;> by_cases hn : u.n = v.n <;> by_cases ht : u.t = v.t <;> simp [hk, hn, ht] <;> omega
theorem xnev {T2 : TypeId} {x y : Operand} (ho : o.op = .binOp .neq 25 x y T2) {u v : Vl} (hx : a.eval x = aggV u) (hy : a.eval y = aggV v) : (execOp a.eval o).run Tryz.prog w = .ok (.value (.bool (!sameV u v))) w := by
  unfold execOp; rw [ho]
  simp only [hx, hy]
  have := neq_val u v w
  go_simp
  unfold sameV
  by_cases hk : u.k = v.k <;> by_cases hn : u.n = v.n <;> by_cases ht : u.t = v.t <;> simp [hk, hn, ht] <;> omega
theorem xremN {T T2 : TypeId} (hT : T = 3 ∨ T = 2) {x y : Operand} (ho : o.op = .binOp .rem T x y T2) {n m : Nat} (hx : a.eval x = .int .i64 n) (hy : a.eval y = .int .i64 m) (h0 : 0 < m) (h1 : n ≤ 9223372036854775807) : (execOp a.eval o).run Tryz.prog w = .ok (.value (.int .i64 ((n % m : Nat) : Int))) w := by
  have e : ((m : Int) == 0) = false := by rw [beq_eq_false_iff_ne]; omega
  have e0 : ¬ (m : Int) = 0 := by omega
  have e1 : Int.tmod (n : Int) (m : Int) = ((n % m : Nat) : Int) := by rw [Int.tmod_eq_emod_of_nonneg (by omega)]; omega
  have e2 : IntKind.i64.wrap ((n % m : Nat) : Int) = ((n % m : Nat) : Int) := IntWalk.i64_in _ (by have := Nat.mod_le n m; omega); unfold execOp; rw [ho]
  simp only [hx, hy]
  rcases hT with rfl | rfl <;> (go_simp; omega)
theorem xrem {T T2 : TypeId} (hT : T = 3 ∨ T = 2) {x y : Operand} (ho : o.op = .binOp .rem T x y T2) {n m : Int} (hx : a.eval x = .int .i64 n) (hy : a.eval y = .int .i64 m) (h0 : 0 < m) (h1 : -9223372036854775808 ≤ n) (h2 : n ≤ 9223372036854775807) : (execOp a.eval o).run Tryz.prog w = .ok (.value (.int .i64 (Int.tmod n m))) w := by
  have e : (m == 0) = false := by rw [beq_eq_false_iff_ne]; omega
  have e0 : ¬ m = 0 := by omega
  have e2 : IntKind.i64.wrap (Int.tmod n m) = Int.tmod n m := IntWalk.i64_in _ (by
    have := tmod_within n m
    omega)
  unfold execOp; rw [ho]
  simp only [hx, hy]
  rcases hT with rfl | rfl <;> (go_simp; try exact e2)
/-! structs of a value -/
theorem xminN {T : TypeId} (hT : T = 3) {x y : Operand} {ts : Array TypeId} (ho : o.op = .call { callee := .builtin .min, args := #[x, y], argTypes := ts }) (ht : o.type = T) {n m : Nat} (hx : a.eval x = .int .i64 n) (hy : a.eval y = .int .i64 m) : (execOp a.eval o).run Tryz.prog w = .ok (.value (.int .i64 (min n m : Nat))) w := by
  subst hT; have e : min (n : Int) (m : Int) = ((min n m : Nat) : Int) := by omega
  unfold execOp; rw [ho]
  simp only [resolve, List.map_toArray, List.map_cons, List.map_nil, hx, hy]
  go_simp
  try exact e
def fz (A : Option Addr) (cap : Nat) : Option Addr := if cap = 0 then A else A.map (·.add 0)
theorem fz_some (b off cap : Nat) : fz (some ⟨b, off, none⟩) cap = some ⟨b, off, none⟩ := by unfold fz; split <;> rfl
theorem xlen {T e : TypeId} (hu : Tryz.prog.underlying T = some (.slice e)) {x : Operand} (ho : o.op = .call { callee := .builtin .len, args := #[x], argTypes := #[T] }) {A : Option Addr} {n cap : Nat} (hx : a.eval x = .slice A n cap) : (execOp a.eval o).run Tryz.prog w = .ok (.value (.int .i64 n)) w := by
  unfold execOp; rw [ho]
  simp only [resolve, List.map_toArray, List.map_cons, List.map_nil, hx]
  have hr := run_underlying (w := w) hu
  go_simp
theorem xcall0 {F : FuncId} {ts : Array TypeId} (ho : o.op = .call { callee := .value (.func F), args := #[], argTypes := ts }) (hF : (callFunc F #[]).run Tryz.prog w = .ok (.enter F #[]) w) : (execOp a.eval o).run Tryz.prog w = .ok (.enter F #[]) w := by
  unfold execOp; rw [ho]
  simp only [resolve, List.map_toArray, List.map_nil]
  simp only [Act.eval]
  go_simp
theorem xcall1 {F : FuncId} {x : Operand} {ts : Array TypeId} (ho : o.op = .call { callee := .value (.func F), args := #[x], argTypes := ts }) {u : Value} (hx : a.eval x = u) (hF : (callFunc F #[u]).run Tryz.prog w = .ok (.enter F #[u]) w) : (execOp a.eval o).run Tryz.prog w = .ok (.enter F #[u]) w := by
  have hf : a.eval (.func F) = .func (.func F) #[] #[] := rfl; unfold execOp; rw [ho]
  simp only [resolve, List.map_toArray, List.map_cons, List.map_nil, hf, hx]
  go_simp
theorem xcall2 {F : FuncId} {x y : Operand} {ts : Array TypeId} (ho : o.op = .call { callee := .value (.func F), args := #[x, y], argTypes := ts }) {u v : Value} (hx : a.eval x = u) (hy : a.eval y = v) (hF : (callFunc F #[u, v]).run Tryz.prog w = .ok (.enter F #[u, v]) w) : (execOp a.eval o).run Tryz.prog w = .ok (.enter F #[u, v]) w := by
  have hf : a.eval (.func F) = .func (.func F) #[] #[] := rfl; unfold execOp; rw [ho]
  simp only [resolve, List.map_toArray, List.map_cons, List.map_nil, hf, hx, hy]
  go_simp
theorem xcall3 {F : FuncId} {x y z : Operand} {ts : Array TypeId} (ho : o.op = .call { callee := .value (.func F), args := #[x, y, z], argTypes := ts }) {u v s : Value} (hx : a.eval x = u) (hy : a.eval y = v) (hz : a.eval z = s) (hF : (callFunc F #[u, v, s]).run Tryz.prog w = .ok (.enter F #[u, v, s]) w) : (execOp a.eval o).run Tryz.prog w = .ok (.enter F #[u, v, s]) w := by
  have hf : a.eval (.func F) = .func (.func F) #[] #[] := rfl; unfold execOp; rw [ho]
  simp only [resolve, List.map_toArray, List.map_cons, List.map_nil, hf, hx, hy, hz]
  go_simp
end
section
variable {ops : Array Oper} {rest : List Oper} {Q : Exit → Act → World → Prop} {a : Act} {w : World}
theorem wl_nil (M : Act → World → Prop) (hm : M a w) (h : ∀ b u, M b u → Q .normal b u) : wpList Tryz.prog ops Q [] a w := h a w hm
end
end Go.Proofs.YtbkjdcpfkepheaaGreatDoor

namespace Go.Proofs.YtbkjdcpfkepheaaGreatDoor
open Go.RowKit Lv
section
variable {o : Oper} {a : Act} {w : World}
theorem xlenS {T : TypeId} (hu : Tryz.prog.underlying T = some .string) {x : Operand} (ho : o.op = .call { callee := .builtin .len, args := #[x], argTypes := #[T] }) {t : List UInt8} (hx : a.eval x = .string ⟨t.toArray⟩) : (execOp a.eval o).run Tryz.prog w = .ok (.value (.int .i64 (t.length : Nat))) w := by
  unfold execOp; rw [ho]
  simp only [resolve, List.map_toArray, List.map_cons, List.map_nil, hx]
  have hr := run_underlying (w := w) hu
  go_simp
  try rfl
theorem bytes_take (t : List UInt8) (n : Nat) : (⟨t.toArray⟩ : ByteArray).extract 0 n = ⟨(t.take n).toArray⟩ := by
  ext1; simp [ByteArray.data_extract]
theorem run_sliceTo {T : TypeId} (hu : Tryz.prog.underlying T = some .string) (t : List UInt8) (h : Nat) (h2 : h ≤ t.length) : (Instr.sliceAt T (.string ⟨t.toArray⟩) none (some (.int .i64 h)) none).run Tryz.prog w = .ok (.string ⟨(t.take h).toArray⟩) w := by
  have hr := run_underlying (w := w) hu; have b2 : (0 : Int) ≤ (h : Int) := by omega
  have b3 : (h : Int) ≤ (t.length : Int) := by omega
  have e := bytes_take t h; have es : ByteArray.size ⟨t.toArray⟩ = t.length := rfl
  simp [Instr.sliceAt, Instr.slice, Instr.sliceBounds, Instr.sliceBound, hr, Result.andThen, asIntOf, es, b2, b3, h2, e]
theorem xmul {T T2 : TypeId} (hT : T = 3 ∨ T = 2) {x y : Operand} (ho : o.op = .binOp .mul T x y T2) {n m : Int} (hx : a.eval x = .int .i64 n) (hy : a.eval y = .int .i64 m) (h1 : -9223372036854775808 ≤ n * m) (h2 : n * m ≤ 9223372036854775807) : (execOp a.eval o).run Tryz.prog w = .ok (.value (.int .i64 (n * m))) w := by
  have e : IntKind.i64.wrap (n * m) = n * m := IntWalk.i64_in _ ⟨h1, h2⟩; unfold execOp; rw [ho]
  simp only [hx, hy]
  rcases hT with rfl | rfl <;> (go_simp; try exact e)
theorem xquo {T T2 : TypeId} (hT : T = 3 ∨ T = 2) {x y : Operand} (ho : o.op = .binOp .quo T x y T2) {n m : Int} (hx : a.eval x = .int .i64 n) (hy : a.eval y = .int .i64 m) (h0 : 0 < m) (h1 : -9223372036854775808 ≤ n) (h2 : n ≤ 9223372036854775807) : (execOp a.eval o).run Tryz.prog w = .ok (.value (.int .i64 (Int.tdiv n m))) w := by
  have e0 : ¬ m = 0 := by omega
  have e1 : (m == 0) = false := by rw [beq_eq_false_iff_ne]; omega
  have b : -9223372036854775808 ≤ Int.tdiv n m ∧ Int.tdiv n m ≤ 9223372036854775807 := by
    by_cases c : 0 ≤ n
    · have := Int.tdiv_nonneg c (show 0 ≤ m by omega)
      have := Int.tdiv_le_self m c
      omega
    · have e : Int.tdiv n m = -Int.tdiv (-n) m := by rw [Int.neg_tdiv, Int.neg_neg]
      have := Int.tdiv_nonneg (show 0 ≤ -n by omega) (show 0 ≤ m by omega); have := Int.tdiv_le_self m (show 0 ≤ -n by omega)
      omega
  have e2 : IntKind.i64.wrap (Int.tdiv n m) = Int.tdiv n m := IntWalk.i64_in _ b; unfold execOp; rw [ho]
  simp only [hx, hy]
  rcases hT with rfl | rfl <;> (go_simp; try exact e2)
abbrev numV (n : Int) : Value := .int .i64 n
/-! rows of one cell each -/
theorem run_place1 {T e : TypeId} (hu : Tryz.prog.underlying T = some (.slice e)) (hs : (sizeOf e).run Tryz.prog w = .ok 1 w) {b off n c k : Nat} (hk : k < n) : (Instr.indexAt T (.slice (some ⟨b, off, none⟩) n c) (.int .i64 k)).run Tryz.prog w = .ok (.pointer (some ⟨b, off + k, none⟩)) w := by
  have hr := run_underlying (w := w) hu; have b0 : (0 : Int) ≤ (k : Int) := by omega
  have b1 : (k : Int) < (n : Int) := by omega
  have e := add_none (g := b) (off := off) k
  simp [Instr.indexAt, asIntOf, hr, hs, Result.andThen, b0, b1, e]
  intro hc; omega
def RowC (w : World) (A : Option Addr) (l : List Value) : Prop := ∀ i, i < l.length → ∃ b off, A = some ⟨b, off, none⟩ ∧ b < w.heap.size ∧ w.cell? ⟨b, off + i, none⟩ = l[i]?
theorem RowC.kept {w w' : World} {A : Option Addr} {l : List Value} (h : RowC w A l) (k : Kept w w') : RowC w' A l := fun i hi => by
  obtain ⟨b, off, rfl, hb, hc⟩ := h i hi; exact ⟨b, off, rfl, Nat.lt_of_lt_of_le hb k.size, (k.cell (p := ⟨b, _, none⟩) hb).trans hc⟩
theorem RowC.at_ {w : World} {b off : Nat} {l : List Value} (h : RowC w (some ⟨b, off, none⟩) l) {k : Nat} {v : Value} (e : l[k]? = some v) : w.cell? ⟨b, off + k, none⟩ = some v := by
  obtain ⟨b', off', e', _, hc⟩ := h k (List.getElem?_eq_some_iff.1 e).1
  cases e'
  exact hc.trans e
theorem RowC.nil (w : World) (A : Option Addr) : RowC w A [] := fun i hi => by simp at hi
theorem row_one {base : Nat} {e : TypeId} {n size : Nat} {v : Value} {l : List Value} {w : World} (h : w.ownsRow base e size v n l) : v.oneCell' = true := by
  rcases h.2 with ⟨rfl, _⟩ | ⟨g, cap, cur, rfl, _⟩ <;> rfl
theorem one_cons {v : Value} {l : List Value} (h : v.oneCell' = true) (t : (l.all fun v => v.oneCell') = true) : ((v :: l).all fun v => v.oneCell') = true := by rw [List.all_cons, h, t]; rfl
theorem cells_one {v : Value} (h : v.oneCell' = true) : v.cells = #[v] := by cases v <;> first | rfl | cases h
theorem xstoreR {T : TypeId} {x y : Operand} {v : Value} {g off : Nat} {t : TypeId} {cs : Array Value} (ho : o.op = .store T x y) (hx : a.eval x = .pointer (some ⟨g, off, none⟩)) (hy : a.eval y = v) (hs : (sizeOf T).run Tryz.prog w = .ok 1 w) (bx : Box w g t cs) (h1 : v.oneCell' = true) (hb : off + 1 ≤ cs.size) : (execOp a.eval o).run Tryz.prog w = .ok .skip (putCells w g off [v]) := by
  have hc := cells_one h1; have r := xstoreN (P := Tryz.prog) (off := off) ho hx hy (by rw [hc]; exact hs) bx (by rw [hc]; exact one_cons h1 rfl) (by rw [hc]; exact hb); rw [hc] at r; exact r
theorem turn_new {v v' : Value} {w : World} (hb : v'.ownBlock = v.ownBlock ∨ v'.ownBlock = some w.heap.size) : v'.ownBlock = v.ownBlock ∨ ∀ g, v'.ownBlock = some g → w.heap.size ≤ g :=
  hb.imp (fun e => e) (fun e g c => by have z := e.symm.trans c; cases z; exact Nat.le_refl _)
theorem xcall1V {f x : Operand} {ts : Array TypeId} {F : FuncId} {u : Value} (ho : o.op = .call { callee := .value f, args := #[x], argTypes := ts }) (hf : a.eval f = .func (.func F) #[] #[]) (hx : a.eval x = u) (hF : (callFunc F #[u]).run Tryz.prog w = .ok (.enter F #[u]) w) : (execOp a.eval o).run Tryz.prog w = .ok (.enter F #[u]) w := by
  unfold execOp; rw [ho]
  simp only [resolve, List.map_toArray, List.map_cons, List.map_nil, hf, hx]
  go_simp
end
end Go.Proofs.YtbkjdcpfkepheaaGreatDoor
