/- Small texts together: MLogic, GRows, GArgs, SX2, SX5. -/
import Derived.Test.YtbkjdcpfkepheaaGreatDoorVBunM
import Derived.Test.YtbkjdcpfkepheaaGreatDoorVBunC
import Derived.Deep.Slices
import Derived.Laws.OwnMore
import Derived.Laws.AppendOwn
import Derived.Laws.AppendOwnNone
import Derived.ChangeOld
import Derived.Carry
import Derived.ChangeArms
import Derived.Test.YtbkjdcpfkepheaaGreatDoorVMixAJ
import Derived.IntWalk
import Derived.Maps.AppendAt
import Derived.Test.YtbkjdcpfkepheaaGreatDoorVBunG
set_option linter.unusedVariables false
set_option linter.unusedSimpArgs false
set_option maxRecDepth 100000
namespace Go.Proofs.YtbkjdcpfkepheaaGreatDoor
namespace Lv
open Go
def isE (v : Vl) : Bool := decide (v.k = 4)
def aN (l : List Vl) : Option Vl := l.find? isE
def aG : Vl := ⟨0, 0, []⟩
end Lv

section
open Go.RowKit Lv
def oj (l : List Vl) : List Value := l.flatMap fun v => [.int .u8 v.k, .int .i64 v.n, .string ⟨v.t.toArray⟩]
theorem sM (v : Vl) (l : List Vl) : oj (v :: l) = .int .u8 v.k :: .int .i64 v.n :: .string ⟨v.t.toArray⟩ :: oj l := rfl
theorem ol : ∀ (l : List Vl) (i : Nat), i < l.length → (oj l)[i * 3]? = some (.int .u8 (l.getD i aG).k) ∧ (oj l)[i * 3 + 1]? = some (.int .i64 (l.getD i aG).n) ∧ (oj l)[i * 3 + 2]? = some (.string ⟨(l.getD i aG).t.toArray⟩)
  | [], i, h => by simp at h
  | v :: l, 0, _ => ⟨rfl, rfl, rfl⟩
  | v :: l, i + 1, h => by
    have ih := ol l i (by simpa using h); rw [sM, show (i + 1) * 3 = i * 3 + 3 by omega]; exact ih
def RowV (w : World) (A : Option Addr) (l : List Vl) : Prop := ∀ i, i < l.length → ∃ b off, A = some ⟨b, off, none⟩ ∧ b < w.heap.size ∧ w.cell? ⟨b, off + i * 3, none⟩ = some (.int .u8 (l.getD i aG).k) ∧ w.cell? ⟨b, off + i * 3 + 1, none⟩ = some (.int .i64 (l.getD i aG).n) ∧ w.cell? ⟨b, off + i * 3 + 2, none⟩ = some (.string ⟨(l.getD i aG).t.toArray⟩)
theorem RowV.kept {w w' : World} {A : Option Addr} {l : List Vl} (h : RowV w A l) (k : Kept w w') : RowV w' A l := fun i hi => by
  obtain ⟨b, off, rfl, hb, h0, h1, h2⟩ := h i hi; exact ⟨b, off, rfl, Nat.lt_of_lt_of_le hb k.size, (k.cell (p := ⟨b, _, none⟩) hb).trans h0, (k.cell (p := ⟨b, _, none⟩) hb).trans h1, (k.cell (p := ⟨b, _, none⟩) hb).trans h2⟩
theorem RowV.take {w : World} {A : Option Addr} {l : List Vl} (h : RowV w A l) (k : Nat) : RowV w A (l.take k) := fun i hi => by
  rw [List.length_take] at hi; have e : (l.take k).getD i aG = l.getD i aG := by simp [List.getD, List.getElem?_take, show i < k by omega]
  rw [e]; exact h i (by omega)
theorem RowV.drop {w : World} {b off : Nat} {l : List Vl} (h : RowV w (some ⟨b, off, none⟩) l) (k : Nat) : RowV w (some ⟨b, off + k * 3, none⟩) (l.drop k) := fun i hi => by
  rw [List.length_drop] at hi; obtain ⟨b', off', e, hb, h0, h1, h2⟩ := h (k + i) (by omega)
  cases e
  have e : (l.drop k).getD i aG = l.getD (k + i) aG := by simp [List.getD, List.getElem?_drop]
  rw [e]; exact ⟨b, off + k * 3, rfl, hb, by rw [show off + k * 3 + i * 3 = off + (k + i) * 3 by omega]; exact h0, by rw [show off + k * 3 + i * 3 = off + (k + i) * 3 by omega]; exact h1, by rw [show off + k * 3 + i * 3 = off + (k + i) * 3 by omega]; exact h2⟩
theorem RowV.nil (w : World) (A : Option Addr) : RowV w A [] := fun i hi => by simp at hi
theorem RowV.box {w : World} {g : Nat} {t : TypeId} {cs : Array Value} {l : List Vl} (h : Box w g t cs) (hl : cs.toList.take (l.length * 3) = oj l) : RowV w (some ⟨g, 0, none⟩) l := fun i hi => by
  obtain ⟨h0, h1, h2⟩ := ol l i hi
  have c : ∀ j v, j < l.length * 3 → (oj l)[j]? = some v → w.cell? ⟨g, j, none⟩ = some v := fun j v hj hv => by
    rw [h.cell j, ← hv, ← hl, List.getElem?_take_of_lt hj]
    simp
  exact ⟨g, 0, rfl, h.inside, by rw [Nat.zero_add]; exact c _ _ (by omega) h0, by rw [Nat.zero_add]; exact c _ _ (by omega) h1, by rw [Nat.zero_add]; exact c _ _ (by omega) h2⟩
def OwnV (w : World) (base : Nat) (v : Value) (l : List Vl) : Prop := w.ownsRow base 25 3 v l.length (oj l)
theorem OwnV.nil (w : World) (base : Nat) : OwnV w base (.slice none 0 0) [] := World.ownsRow_nil w base _ 3
theorem OwnV.kept {w w' : World} {base : Nat} {v : Value} {l : List Vl} (h : OwnV w base v l) (k : Kept w w') : OwnV w' base v l := by
  obtain ⟨h1, h2⟩ := h; refine ⟨h1, ?_⟩; rcases h2 with h2 | ⟨g, cap, cur, hv, hg, hh, r⟩
  · exact Or.inl h2
  · have hlt : g < w.heap.size := (Array.getElem?_eq_some_iff.1 hh).1
    exact Or.inr ⟨g, cap, cur, hv, hg, (k.block g hlt).trans hh, r⟩
theorem OwnV.alloc {w : World} {base : Nat} {v : Value} {l : List Vl} (h : OwnV w base v l) (o : Obj) : OwnV (w.alloc o) base v l := h.kept ((Kept.refl w).alloc o)
theorem OwnV.drew {w : World} {base : Nat} {v : Value} {l : List Vl} (h : OwnV w base v l) : OwnV w.drew base v l := h.kept ((Kept.refl w).drew)
theorem OwnV.grown {a w w' : World} {base : Nat} {v : Value} {l : List Vl} (h : OwnV w base v l) (hb : a.heap.size ≤ base) (k : Kept a w) (g : w.grownBy w' v.ownBlock) : Kept a w' :=
  Below.grown k g k.size (fun x hx => Nat.le_trans hb (World.ownsRow.lt h x hx).1)
theorem OwnV.row {w : World} {base : Nat} {v : Value} {l : List Vl} (h : OwnV w base v l) : ∃ A cap, v = .slice A l.length cap ∧ RowV w A l ∧ l.length ≤ cap ∧ (l ≠ [] → ∃ g, A = some ⟨g, 0, none⟩ ∧ base ≤ g) := by
  rcases h.2 with ⟨rfl, h0⟩ | ⟨g, cap, cur, rfl, hb, hh, h4, h5, h6, h7⟩
  · have : l = [] := List.eq_nil_of_length_eq_zero h0
    subst this; exact ⟨none, 0, rfl, RowV.nil _ _, Nat.le_refl _, fun h => absurd rfl h⟩
  · exact ⟨some ⟨g, 0, none⟩, cap, rfl, RowV.box (t := 25) (cs := cur) hh h7, h4, fun _ => ⟨g, rfl, hb⟩⟩
end

section
open Go.ChangeShapes Go.WideShapes Go.RowKit Go.Joins Go.Deep Lv
theorem zY : laidOutB Tryz.prog = true := by kernel_rfl
def mI (v : Vl) : Prop := v.k ≤ 255 ∧ i64 v.n ∧ v.t.length ≤ maxLen
theorem me {H : Type} {enc : TypeId × Value → H} {W : World} {b : Nat} {sp : Nat → Bool} {held : Bool} {fuel : Nat} {cs : List Value} {x : DataW H × List MemPlace}
    (h : DataW.trod enc Tryz.prog W b sp held fuel 25 cs = some x) :
    ∃ v : Vl, cs = [.int .u8 v.k, .int .i64 v.n, .string ⟨v.t.toArray⟩] ∧ mI v ∧ x.2 = [] ∧ ∀ (W' : World) (b' : Nat) (sp' : Nat → Bool) (held' : Bool), ∃ n, DataW.trod enc Tryz.prog W' b' sp' held' n 25 cs = some x := by
  obtain ⟨y0, y1, y2, m, hx, hl, hy0, hy1, hy2⟩ := trod_struct3 Tryz.underlying25 h; rw [oi] at hl
  match cs, hl with
  | [c0, c1, c2], _ =>
    have q0 : DataW.trod enc Tryz.prog W b sp held m 5 [c0] = some y0 := hy0; have q1 : DataW.trod enc Tryz.prog W b sp held m 2 [c1] = some y1 := hy1; have q2 : DataW.trod enc Tryz.prog W b sp held m 9 [c2] = some y2 := hy2; obtain ⟨a, e0, rfl, wx⟩ := DataW.trod_int Tryz.underlying5 q0; obtain ⟨y, e1, rfl, wy⟩ := DataW.trod_int Tryz.underlying2 q1; obtain ⟨s, e2, rfl, ws⟩ := DataW.trod_string Tryz.underlying9 q2
    simp at e0 e1 e2
    subst e0 e1 e2
    have rx : 0 ≤ a ∧ a ≤ 255 := by
      unfold Lit.wf at wx; rw [Bool.and_eq_true, decide_eq_true_eq, decide_eq_true_eq] at wx; exact wx
    have ry : i64 y := by
      unfold Lit.wf at wy; rw [Bool.and_eq_true, decide_eq_true_eq, decide_eq_true_eq] at wy; exact wy
    obtain ⟨k, rfl⟩ : ∃ k : Nat, a = k := ⟨a.toNat, by omega⟩; refine ⟨⟨k, y, s.data.toList⟩, rfl, ⟨by simp only; omega, ry, ws⟩, by rw [hx]; rfl, fun W' b' sp' held' => ?_⟩
    obtain ⟨n, hn⟩ := shut_agg3 (enc := enc) (w := W') (base := b') (spare := sp') (held := held') (v0 := .int .u8 k) (v1 := .int .i64 y) (v2 := .string s) (y0 := (.lit (.int .u8 k), [])) (y1 := (.lit (.int .i64 y), [])) (y2 := (.lit (.string s.data.toList), [])) Tryz.underlying25 (by kernel_rfl) oi
      ⟨1, by simp [DataW.trod, Tryz.underlying5, wx]⟩ ⟨1, by simp [DataW.trod, Tryz.underlying2, wy]⟩ ⟨1, by simp [DataW.trod, Tryz.underlying9, ws]⟩
    exact ⟨n, by rw [hx]; simpa [Value.cells] using hn⟩
theorem iQ {w : World} {a : Addr} {v : Value} (h : w.cell? a = some v) : a.block < w.heap.size := World.block_lt_of_cell? w _ h
structure ValsIn (w : World) (A : Option Addr) (len cap : Nat) (l : List Vl) : Prop where
  row : RowV w A l
  len_eq : l.length = len
  le : len ≤ cap
  max : cap ≤ maxLen
  wide : ∀ v ∈ l, mI v
  nil : A = none → len = 0 ∧ cap = 0
  addr : ∀ a, A = some a → 0 < len → ∃ b off, a = ⟨b, off, none⟩
theorem DD {α : Type} {n : Nat} {p : Nat → α → Prop} (h : ∀ i, i < n → ∃ v, p i v) : ∃ l : List α, l.length = n ∧ ∀ i v, l[i]? = some v → p i v := by
  induction n with
  | zero => exact ⟨[], rfl, fun i v hv => by simp at hv⟩
  | succ n ih =>
    obtain ⟨l, hl, hp⟩ := ih (fun i hi => h i (by omega)); obtain ⟨v, hv⟩ := h n (by omega); refine ⟨l ++ [v], by simp [hl], fun i u hu => ?_⟩; rcases Nat.lt_or_ge i l.length with c | c
    · rw [List.getElem?_append_left c] at hu; exact hp i u hu
    · rw [List.getElem?_append_right c] at hu
      have : i = n := by
        rcases Nat.lt_or_ge (i - l.length) 1 with d | d
        · omega
        · rw [List.getElem?_eq_none (by simpa using d)] at hu; cases hu
      subst this; rw [hl] at hu; simp at hu; subst hu; exact hv
structure BoolsIn (w : World) (A : Option Addr) (len cap : Nat) (l : List Bool) : Prop where
  row : ∀ i, i < l.length → ∃ b off, A = some ⟨b, off, none⟩ ∧ b < w.heap.size ∧ w.cell? ⟨b, off + i, none⟩ = some (.bool (l.getD i false))
  len_eq : l.length = len
  le : len ≤ cap
  max : cap ≤ maxLen
end

section
open Go.RowKit Lv
theorem pZ (n m : Int) : -(n.natAbs : Int) ≤ Int.tmod n m ∧ Int.tmod n m ≤ n.natAbs ∧ (n < 0 → Int.tmod n m ≤ 0) := by
  have := Int.natAbs_tmod n m; have h2 : n.natAbs % m.natAbs ≤ n.natAbs := Nat.mod_le _ _; refine ⟨by omega, by omega, fun h => ?_⟩; have e : Int.tmod n m = -Int.tmod (-n) m := by rw [Int.neg_tmod, Int.neg_neg]
  have := Int.tmod_nonneg m (show 0 ≤ -n by omega)
  omega
def gj (x y : Vl) : Bool := decide (x.k = y.k) && decide (x.n = y.n) && decide (x.t = y.t)
theorem uX {x y : Vl} : gj x y = true ↔ x = y := by
  obtain ⟨k, n, t⟩ := x; obtain ⟨k', n', t'⟩ := y; unfold gj
  simp [and_assoc]
theorem gJ (x : Vl) : gj x x = true := uX.2 rfl
theorem zZ (x y : Vl) (w : World) : (binOp .eql 25 (al x) (al y)).run Tryz.prog w = .ok (.bool (gj x y)) w := by
  go_simp
  unfold gj
  by_cases hk : x.k = y.k <;> by_cases hn : x.n = y.n <;> by_cases ht : x.t = y.t <;> simp [hk, hn, ht] <;> omega
theorem Ab (x y : Vl) (w : World) : (binOp .neq 25 (al x) (al y)).run Tryz.prog w = .ok (.bool (!gj x y)) w := by
  go_simp
  unfold gj
  by_cases hk : x.k = y.k <;> by_cases hn : x.n = y.n <;> by_cases ht : x.t = y.t <;> simp [hk, hn, ht] <;> omega
section
variable {o : Oper} {a : Act} {w : World}
theorem ce {x : Operand} (ho : o.op = .move x) {v : Value} (hx : a.eval x = v) : (execOp a.eval o).run Tryz.prog w = .ok (.value v) w := by
  unfold execOp; rw [ho]; subst hx; rfl
theorem aq {x : Operand} (ho : o.op = .assign x) {v : Value} (hx : a.eval x = v) : (execOp a.eval o).run Tryz.prog w = .ok (.value v) w := by
  unfold execOp; rw [ho]; subst hx; rfl
theorem xS {c x y : Operand} (ho : o.op = .pick c x y) {b : Bool} (hc : a.eval c = .bool b) : (execOp a.eval o).run Tryz.prog w = .ok (.value (if b then a.eval x else a.eval y)) w := by
  unfold execOp; rw [ho]
  simp only [hc]
  go_simp
theorem uY {c x y : Operand} (ho : o.op = .pick c x y) (hc : a.eval c = .bool true) {v : Value} (hx : a.eval x = v) : (execOp a.eval o).run Tryz.prog w = .ok (.value v) w := by subst hx; exact xS ho hc
theorem uZ {c x y : Operand} (ho : o.op = .pick c x y) (hc : a.eval c = .bool false) {v : Value} (hy : a.eval y = v) : (execOp a.eval o).run Tryz.prog w = .ok (.value v) w := by subst hy; exact xS ho hc
theorem DE {c x y : Operand} (ho : o.op = .pick c x y) {b d : Bool} (hc : a.eval c = .bool b) (hx : b = true → a.eval x = .bool d) (hy : a.eval y = .bool false) : (execOp a.eval o).run Tryz.prog w = .ok (.value (.bool (b && d))) w := by
  rw [xS ho hc]
  cases b
  · rw [if_neg (by decide), hy]; rfl
  · rw [if_pos rfl, hx rfl]; rfl
theorem DF {c x y : Operand} (ho : o.op = .pick c x y) {b d : Bool} (hc : a.eval c = .bool b) (hx : a.eval x = .bool true) (hy : b = false → a.eval y = .bool d) : (execOp a.eval o).run Tryz.prog w = .ok (.value (.bool (b || d))) w := by
  rw [xS ho hc]
  cases b
  · rw [if_neg (by decide), hy rfl]; rfl
  · rw [if_pos rfl, hx]; rfl
theorem B6 {T : TypeId} {x : Operand} (ho : o.op = .unOp .not T x) {b : Bool} (hx : a.eval x = .bool b) : (execOp a.eval o).run Tryz.prog w = .ok (.value (.bool (!b))) w := by
  unfold execOp; rw [ho]; simp only [hx]; go_simp
theorem DN {T T2 : TypeId} (hT : T = 3 ∨ T = 2) {x y : Operand} (ho : o.op = .binOp .add T x y T2) {n m : Int} (hx : a.eval x = .int .i64 n) (hy : a.eval y = .int .i64 m) (h1 : -9223372036854775808 ≤ n + m) (h2 : n + m ≤ 9223372036854775807) : (execOp a.eval o).run Tryz.prog w = .ok (.value (.int .i64 (n + m))) w := by
  unfold execOp; rw [ho]
  simp only [hx, hy]
  rcases hT with rfl | rfl <;> (go_simp; exact IntWalk.i64_in _ (by omega))
theorem DG {T T2 : TypeId} (hT : T = 3 ∨ T = 2) {x y : Operand} (ho : o.op = .binOp .sub T x y T2) {n m : Int} (hx : a.eval x = .int .i64 n) (hy : a.eval y = .int .i64 m) (h1 : -9223372036854775808 ≤ n - m) (h2 : n - m ≤ 9223372036854775807) : (execOp a.eval o).run Tryz.prog w = .ok (.value (.int .i64 (n - m))) w := by
  unfold execOp; rw [ho]
  simp only [hx, hy]
  rcases hT with rfl | rfl <;> (go_simp; exact IntWalk.i64_in _ (by omega))
theorem DP {T T2 : TypeId} {x y : Operand} (ho : o.op = .binOp .lss T x y T2) {k : IntKind} {n m : Int} (hx : a.eval x = .int k n) (hy : a.eval y = .int k m) : (execOp a.eval o).run Tryz.prog w = .ok (.value (.bool (decide (n < m)))) w := by
  unfold execOp; rw [ho]; simp only [hx, hy]; go_simp
theorem DQ {T T2 : TypeId} {x y : Operand} (ho : o.op = .binOp .leq T x y T2) {k : IntKind} {n m : Int} (hx : a.eval x = .int k n) (hy : a.eval y = .int k m) : (execOp a.eval o).run Tryz.prog w = .ok (.value (.bool (decide (n ≤ m)))) w := by
  unfold execOp; rw [ho]; simp only [hx, hy]; go_simp
theorem DR {T T2 : TypeId} {x y : Operand} (ho : o.op = .binOp .gtr T x y T2) {k : IntKind} {n m : Int} (hx : a.eval x = .int k n) (hy : a.eval y = .int k m) : (execOp a.eval o).run Tryz.prog w = .ok (.value (.bool (decide (m < n)))) w := by
  unfold execOp; rw [ho]; simp only [hx, hy]; go_simp
theorem DS {T T2 : TypeId} {x y : Operand} (ho : o.op = .binOp .geq T x y T2) {k : IntKind} {n m : Int} (hx : a.eval x = .int k n) (hy : a.eval y = .int k m) : (execOp a.eval o).run Tryz.prog w = .ok (.value (.bool (decide (m ≤ n)))) w := by
  unfold execOp; rw [ho]; simp only [hx, hy]; go_simp
theorem C5 {T T2 : TypeId} {x y : Operand} (ho : o.op = .binOp .eql T x y T2) {k : IntKind} {n m : Int} (hx : a.eval x = .int k n) (hy : a.eval y = .int k m) : (execOp a.eval o).run Tryz.prog w = .ok (.value (.bool (decide (n = m)))) w := by
  unfold execOp; rw [ho]; simp only [hx, hy]; go_simp
  try (by_cases h : n = m <;> simp [h])
theorem DT {T T2 : TypeId} {x y : Operand} (ho : o.op = .binOp .neq T x y T2) {k : IntKind} {n m : Int} (hx : a.eval x = .int k n) (hy : a.eval y = .int k m) : (execOp a.eval o).run Tryz.prog w = .ok (.value (.bool (decide (n ≠ m)))) w := by
  unfold execOp; rw [ho]; simp only [hx, hy]; go_simp
  try (by_cases h : n = m <;> simp [h])
theorem DH {T2 : TypeId} {x y : Operand} (ho : o.op = .binOp .eql 25 x y T2) {u v : Vl} (hx : a.eval x = al u) (hy : a.eval y = al v) : (execOp a.eval o).run Tryz.prog w = .ok (.value (.bool (gj u v))) w := by
  unfold execOp; rw [ho]
  simp only [hx, hy]
  have := zZ u v w
  go_simp
  unfold gj
  by_cases hk : u.k = v.k <;> by_cases hn : u.n = v.n <;> by_cases ht : u.t = v.t <;> simp [hk, hn, ht] <;> omega
theorem C6 {T2 : TypeId} {x y : Operand} (ho : o.op = .binOp .neq 25 x y T2) {u v : Vl} (hx : a.eval x = al u) (hy : a.eval y = al v) : (execOp a.eval o).run Tryz.prog w = .ok (.value (.bool (!gj u v))) w := by
  unfold execOp; rw [ho]
  simp only [hx, hy]
  have := Ab u v w
  go_simp
  unfold gj
  by_cases hk : u.k = v.k <;> by_cases hn : u.n = v.n <;> by_cases ht : u.t = v.t <;> simp [hk, hn, ht] <;> omega
theorem Dn {T T2 : TypeId} (hT : T = 3 ∨ T = 2) {x y : Operand} (ho : o.op = .binOp .rem T x y T2) {n m : Nat} (hx : a.eval x = .int .i64 n) (hy : a.eval y = .int .i64 m) (h0 : 0 < m) (h1 : n ≤ 9223372036854775807) : (execOp a.eval o).run Tryz.prog w = .ok (.value (.int .i64 ((n % m : Nat) : Int))) w := by
  have e : ((m : Int) == 0) = false := by rw [beq_eq_false_iff_ne]; omega
  have e0 : ¬ (m : Int) = 0 := by omega
  have e1 : Int.tmod (n : Int) (m : Int) = ((n % m : Nat) : Int) := by rw [Int.tmod_eq_emod_of_nonneg (by omega)]; omega
  have e2 : IntKind.i64.wrap ((n % m : Nat) : Int) = ((n % m : Nat) : Int) := IntWalk.i64_in _ (by have := Nat.mod_le n m; omega); unfold execOp; rw [ho]
  simp only [hx, hy]
  rcases hT with rfl | rfl <;> (go_simp; omega)
theorem Dp {T : TypeId} (hT : T = 3) {x y : Operand} {ts : Array TypeId} (ho : o.op = .call { callee := .builtin .min, args := #[x, y], argTypes := ts }) (ht : o.type = T) {n m : Nat} (hx : a.eval x = .int .i64 n) (hy : a.eval y = .int .i64 m) : (execOp a.eval o).run Tryz.prog w = .ok (.value (.int .i64 (min n m : Nat))) w := by
  subst hT; have e : min (n : Int) (m : Int) = ((min n m : Nat) : Int) := by omega
  unfold execOp; rw [ho]
  simp only [resolve, List.map_toArray, List.map_cons, List.map_nil, hx, hy]
  go_simp
  try exact e
def fz (A : Option Addr) (cap : Nat) : Option Addr := if cap = 0 then A else A.map (·.add 0)
theorem vd (b off cap : Nat) : fz (some ⟨b, off, none⟩) cap = some ⟨b, off, none⟩ := by unfold fz; split <;> rfl
theorem DU {T e : TypeId} (hu : Tryz.prog.underlying T = some (.slice e)) {x : Operand} (ho : o.op = .call { callee := .builtin .len, args := #[x], argTypes := #[T] }) {A : Option Addr} {n cap : Nat} (hx : a.eval x = .slice A n cap) : (execOp a.eval o).run Tryz.prog w = .ok (.value (.int .i64 n)) w := by
  unfold execOp; rw [ho]
  simp only [resolve, List.map_toArray, List.map_cons, List.map_nil, hx]
  have hr := run_underlying (w := w) hu
  go_simp
theorem fd {F : FuncId} {ts : Array TypeId} (ho : o.op = .call { callee := .value (.func F), args := #[], argTypes := ts }) (hF : (callFunc F #[]).run Tryz.prog w = .ok (.enter F #[]) w) : (execOp a.eval o).run Tryz.prog w = .ok (.enter F #[]) w := by
  unfold execOp; rw [ho]
  simp only [resolve, List.map_toArray, List.map_nil]
  simp only [Act.eval]
  go_simp
theorem cz {F : FuncId} {x : Operand} {ts : Array TypeId} (ho : o.op = .call { callee := .value (.func F), args := #[x], argTypes := ts }) {u : Value} (hx : a.eval x = u) (hF : (callFunc F #[u]).run Tryz.prog w = .ok (.enter F #[u]) w) : (execOp a.eval o).run Tryz.prog w = .ok (.enter F #[u]) w := by
  have hf : a.eval (.func F) = .func (.func F) #[] #[] := rfl; unfold execOp; rw [ho]
  simp only [resolve, List.map_toArray, List.map_cons, List.map_nil, hf, hx]
  go_simp
theorem rf {F : FuncId} {x y : Operand} {ts : Array TypeId} (ho : o.op = .call { callee := .value (.func F), args := #[x, y], argTypes := ts }) {u v : Value} (hx : a.eval x = u) (hy : a.eval y = v) (hF : (callFunc F #[u, v]).run Tryz.prog w = .ok (.enter F #[u, v]) w) : (execOp a.eval o).run Tryz.prog w = .ok (.enter F #[u, v]) w := by
  have hf : a.eval (.func F) = .func (.func F) #[] #[] := rfl; unfold execOp; rw [ho]
  simp only [resolve, List.map_toArray, List.map_cons, List.map_nil, hf, hx, hy]
  go_simp
theorem dv {F : FuncId} {x y z : Operand} {ts : Array TypeId} (ho : o.op = .call { callee := .value (.func F), args := #[x, y, z], argTypes := ts }) {u v s : Value} (hx : a.eval x = u) (hy : a.eval y = v) (hz : a.eval z = s) (hF : (callFunc F #[u, v, s]).run Tryz.prog w = .ok (.enter F #[u, v, s]) w) : (execOp a.eval o).run Tryz.prog w = .ok (.enter F #[u, v, s]) w := by
  have hf : a.eval (.func F) = .func (.func F) #[] #[] := rfl; unfold execOp; rw [ho]
  simp only [resolve, List.map_toArray, List.map_cons, List.map_nil, hf, hx, hy, hz]
  go_simp
end
section
variable {ops : Array Oper} {rest : List Oper} {Q : Exit → Act → World → Prop} {a : Act} {w : World}
end
end

section
open Go.RowKit Lv
section
variable {o : Oper} {a : Act} {w : World}
theorem B7 {T : TypeId} (hu : Tryz.prog.underlying T = some .string) {x : Operand} (ho : o.op = .call { callee := .builtin .len, args := #[x], argTypes := #[T] }) {t : List UInt8} (hx : a.eval x = .string ⟨t.toArray⟩) : (execOp a.eval o).run Tryz.prog w = .ok (.value (.int .i64 (t.length : Nat))) w := by
  unfold execOp; rw [ho]
  simp only [resolve, List.map_toArray, List.map_cons, List.map_nil, hx]
  have hr := run_underlying (w := w) hu
  go_simp
  try rfl
theorem sN (t : List UInt8) (n : Nat) : (⟨t.toArray⟩ : ByteArray).extract 0 n = ⟨(t.take n).toArray⟩ := by
  ext1; simp [ByteArray.data_extract]
theorem kF {T : TypeId} (hu : Tryz.prog.underlying T = some .string) (t : List UInt8) (h : Nat) (h2 : h ≤ t.length) : (Instr.sliceAt T (.string ⟨t.toArray⟩) none (some (.int .i64 h)) none).run Tryz.prog w = .ok (.string ⟨(t.take h).toArray⟩) w := by
  have hr := run_underlying (w := w) hu; have b2 : (0 : Int) ≤ (h : Int) := by omega
  have b3 : (h : Int) ≤ (t.length : Int) := by omega
  have e := sN t h; have es : ByteArray.size ⟨t.toArray⟩ = t.length := rfl
  simp [Instr.sliceAt, Instr.slice, Instr.sliceBounds, Instr.sliceBound, hr, Result.andThen, asIntOf, es, b2, b3, h2, e]
theorem B8 {T T2 : TypeId} (hT : T = 3 ∨ T = 2) {x y : Operand} (ho : o.op = .binOp .mul T x y T2) {n m : Int} (hx : a.eval x = .int .i64 n) (hy : a.eval y = .int .i64 m) (h1 : -9223372036854775808 ≤ n * m) (h2 : n * m ≤ 9223372036854775807) : (execOp a.eval o).run Tryz.prog w = .ok (.value (.int .i64 (n * m))) w := by
  have e : IntKind.i64.wrap (n * m) = n * m := IntWalk.i64_in _ ⟨h1, h2⟩; unfold execOp; rw [ho]
  simp only [hx, hy]
  rcases hT with rfl | rfl <;> (go_simp; try exact e)
theorem Dq {T T2 : TypeId} (hT : T = 3 ∨ T = 2) {x y : Operand} (ho : o.op = .binOp .quo T x y T2) {n m : Int} (hx : a.eval x = .int .i64 n) (hy : a.eval y = .int .i64 m) (h0 : 0 < m) (h1 : -9223372036854775808 ≤ n) (h2 : n ≤ 9223372036854775807) : (execOp a.eval o).run Tryz.prog w = .ok (.value (.int .i64 (Int.tdiv n m))) w := by
  have e0 : ¬ m = 0 := by omega
  have e1 : (m == 0) = false := by rw [beq_eq_false_iff_ne]; omega
  have b : -9223372036854775808 ≤ Int.tdiv n m ∧ Int.tdiv n m ≤ 9223372036854775807 := by
    by_cases c : 0 ≤ n
    · have := Int.tdiv_nonneg c (show 0 ≤ m by omega)
      have := Int.tdiv_le_self m c
      omega
    · have e : Int.tdiv n m = -Int.tdiv (-n) m := by rw [Int.neg_tdiv, Int.neg_neg]
      have := Int.tdiv_nonneg (show 0 ≤ -n by omega) (show 0 ≤ m by omega); have := Int.tdiv_le_self m (show 0 ≤ -n by omega)
      omega
  have e2 : IntKind.i64.wrap (Int.tdiv n m) = Int.tdiv n m := IntWalk.i64_in _ b; unfold execOp; rw [ho]
  simp only [hx, hy]
  rcases hT with rfl | rfl <;> (go_simp; try exact e2)
abbrev dV (n : Int) : Value := .int .i64 n
/-! rows of one cell each -/
theorem sO {T e : TypeId} (hu : Tryz.prog.underlying T = some (.slice e)) (hs : (sizeOf e).run Tryz.prog w = .ok 1 w) {b off n c k : Nat} (hk : k < n) : (Instr.indexAt T (.slice (some ⟨b, off, none⟩) n c) (.int .i64 k)).run Tryz.prog w = .ok (.pointer (some ⟨b, off + k, none⟩)) w := by
  have hr := run_underlying (w := w) hu; have b0 : (0 : Int) ≤ (k : Int) := by omega
  have b1 : (k : Int) < (n : Int) := by omega
  have e := gI (g := b) (off := off) k
  simp [Instr.indexAt, asIntOf, hr, hs, Result.andThen, b0, b1, e]
  intro hc; omega
def RowC (w : World) (A : Option Addr) (l : List Value) : Prop := ∀ i, i < l.length → ∃ b off, A = some ⟨b, off, none⟩ ∧ b < w.heap.size ∧ w.cell? ⟨b, off + i, none⟩ = l[i]?
theorem RowC.kept {w w' : World} {A : Option Addr} {l : List Value} (h : RowC w A l) (k : Kept w w') : RowC w' A l := fun i hi => by
  obtain ⟨b, off, rfl, hb, hc⟩ := h i hi; exact ⟨b, off, rfl, Nat.lt_of_lt_of_le hb k.size, (k.cell (p := ⟨b, _, none⟩) hb).trans hc⟩
theorem RowC.at_ {w : World} {b off : Nat} {l : List Value} (h : RowC w (some ⟨b, off, none⟩) l) {k : Nat} {v : Value} (e : l[k]? = some v) : w.cell? ⟨b, off + k, none⟩ = some v := by
  obtain ⟨b', off', e', _, hc⟩ := h k (List.getElem?_eq_some_iff.1 e).1
  cases e'
  exact hc.trans e
theorem RowC.nil (w : World) (A : Option Addr) : RowC w A [] := fun i hi => by simp at hi
theorem xT {T e : TypeId} {s x : Operand} (ho : o.op = .call { callee := .builtin .append, args := #[s, x], argTypes := #[T, T] }) (hu : Tryz.prog.underlying T = some (.slice e)) {i : TypeInfo} {z : Value} {by_ : Nat} (hi : Tryz.prog.info? e = some i) (hz : i.zero = some z) (h1 : i.size = 1) (h2 : i.bytes = by_) (hzc : z.cells.size = 1) {base : Nat} {v : Value} {l : List Value} {u : Value} {g c : Nat} (hs : a.eval s = v) (hx : a.eval x = .slice (some ⟨g, 0, none⟩) 1 c) (hown : w.ownsRow base e 1 v l.length l) (hg : w.heap[g]? = some (.cells #[u] e (0, 0))) (ho1 : u.oneCell' = true) (hl : l.length ≤ 1000000) (hby : by_ ≤ 100) (hbase : base ≤ w.heap.size) :
    ∃ v' w', (execOp a.eval o).run Tryz.prog w = .ok (.value v') w' ∧ w'.ownsRow base e 1 v' (l ++ [u]).length (l ++ [u]) ∧ w.grownBy w' v.ownBlock ∧ (v'.ownBlock = v.ownBlock ∨ v'.ownBlock = some w.heap.size) := by
  obtain ⟨v', w', hrun, ho', hg', _, hb⟩ := run_append_own_at (P := Tryz.prog) w base T o.type e i z 1 by_ hu hi hz h1 h2 hzc (by decide) v l.length l hown ⟨g, 0, none⟩ 1 c [u] rfl (fun j q hj => by
    match j, hj with
    | 0, hj =>
      simp at hj
      subst hj; rw [gI]; exact cell_of_row w g 0 #[u] e (0, 0) hg) (fun q hq => by rw [List.mem_singleton] at hq; rw [hq]; exact ho1) (by simp only [maxLen]; omega) (Nat.le_trans (Nat.mul_le_mul (show l.length + 1 ≤ 1000001 by omega) hby) (by decide)) hbase
  refine ⟨v', w', ?_, by rw [List.length_append, List.length_singleton]; exact ho', hg', hb⟩; unfold execOp
  simp only [ho, resolve, invoke, builtin, Sem.run_bind, Sem.run_pure, Result.andThen_ok, List.map_toArray, List.map_cons, List.map_nil, hs, hx, hrun]
theorem mf {ops : Array Oper} {rest : List Oper} {Q : Exit → Act → World → Prop} (hw : Region.wanted o (yielded ops a.tmps) = true) {T e : TypeId} {s x : Operand} (ho : o.op = .call { callee := .builtin .append, args := #[s, x], argTypes := #[T, T] }) (hu : Tryz.prog.underlying T = some (.slice e)) {by_ : Nat} (hi : ∃ i z, Tryz.prog.info? e = some i ∧ i.zero = some z ∧ i.size = 1 ∧ i.bytes = by_ ∧ z.cells.size = 1) {base : Nat} {v : Value} {l : List Value} {u : Value} {g c : Nat} (hs : a.eval s = v) (hx : a.eval x = .slice (some ⟨g, 0, none⟩) 1 c) (hown : w.ownsRow base e 1 v l.length l) (hg : w.heap[g]? = some (.cells #[u] e (0, 0))) (ho1 : u.oneCell' = true) (hl : l.length ≤ 1000000) (hby : by_ ≤ 100) (hbase : base ≤ w.heap.size)
    (h : ∀ v' w', w'.ownsRow base e 1 v' (l ++ [u]).length (l ++ [u]) → w.grownBy w' v.ownBlock → (v'.ownBlock = v.ownBlock ∨ v'.ownBlock = some w.heap.size) → wpList Tryz.prog ops Q rest (a.put o.dst v') w') : wpList Tryz.prog ops Q (o :: rest) a w := by
  obtain ⟨i, z, hi, hz, h1, h2, h3⟩ := hi; obtain ⟨v', w', hr, k1, k2, k3⟩ := xT ho hu hi hz h1 h2 h3 hs hx hown hg ho1 hl hby hbase; exact ae hw hr (h v' w' k1 k2 k3)
theorem ve {base : Nat} {e : TypeId} {n size : Nat} {v : Value} {l : List Value} {w : World} (h : w.ownsRow base e size v n l) : v.oneCell' = true := by
  rcases h.2 with ⟨rfl, _⟩ | ⟨g, cap, cur, rfl, _⟩ <;> rfl
theorem fE {v : Value} {l : List Value} (h : v.oneCell' = true) (t : (l.all fun v => v.oneCell') = true) : ((v :: l).all fun v => v.oneCell') = true := by rw [List.all_cons, h, t]; rfl
theorem vf {v : Value} (h : v.oneCell' = true) : v.cells = #[v] := by cases v <;> first | rfl | cases h
theorem qb {T : TypeId} {x y : Operand} {v : Value} {g off : Nat} {t : TypeId} {cs : Array Value} (ho : o.op = .store T x y) (hx : a.eval x = .pointer (some ⟨g, off, none⟩)) (hy : a.eval y = v) (hs : (sizeOf T).run Tryz.prog w = .ok 1 w) (bx : Box w g t cs) (h1 : v.oneCell' = true) (hb : off + 1 ≤ cs.size) : (execOp a.eval o).run Tryz.prog w = .ok .skip (bN w g off [v]) := by
  have hc := vf h1; have r := fC (P := Tryz.prog) (off := off) ho hx hy (by rw [hc]; exact hs) bx (by rw [hc]; exact fE h1 rfl) (by rw [hc]; exact hb); rw [hc] at r; exact r
theorem fF {v v' : Value} {w : World} (hb : v'.ownBlock = v.ownBlock ∨ v'.ownBlock = some w.heap.size) : v'.ownBlock = v.ownBlock ∨ ∀ g, v'.ownBlock = some g → w.heap.size ≤ g :=
  hb.imp (fun e => e) (fun e g c => by have z := e.symm.trans c; cases z; exact Nat.le_refl _)
theorem rh (e : TypeId) (s b : Nat) (h : (Tryz.prog.info? e).map (fun i => (i.zero.map (fun z => z.cells.size), i.size, i.bytes)) = some (some 1, s, b)) (hs : s = 1) : ∃ i z, Tryz.prog.info? e = some i ∧ i.zero = some z ∧ i.size = 1 ∧ i.bytes = b ∧ z.cells.size = 1 := by
  subst hs
  cases hi : Tryz.prog.info? e with
  | none => rw [hi] at h; cases h
  | some i =>
    rw [hi] at h
    simp only [Option.map_some, Option.some.injEq, Prod.mk.injEq] at h
    cases hz : i.zero with
    | none => rw [hz] at h; simp at h
    | some z => rw [hz] at h; simp at h; exact ⟨i, z, rfl, hz, h.2.1, h.2.2, h.1⟩
/-! a call of a function that is a value -/
theorem eP {f x : Operand} {ts : Array TypeId} {F : FuncId} {u : Value} (ho : o.op = .call { callee := .value f, args := #[x], argTypes := ts }) (hf : a.eval f = .func (.func F) #[] #[]) (hx : a.eval x = u) (hF : (callFunc F #[u]).run Tryz.prog w = .ok (.enter F #[u]) w) : (execOp a.eval o).run Tryz.prog w = .ok (.enter F #[u]) w := by
  unfold execOp; rw [ho]
  simp only [resolve, List.map_toArray, List.map_cons, List.map_nil, hf, hx]
  go_simp
end
