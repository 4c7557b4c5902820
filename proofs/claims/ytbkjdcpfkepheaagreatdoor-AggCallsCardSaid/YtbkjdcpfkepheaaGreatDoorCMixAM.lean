/- Small texts together: MLogic, GRows, GArgs, SX2, SX5, SX6, SX7, SX11, SX9, SX10, MText14, MSum, MRoot, MVal3, MNum13. -/
import Derived.Test.YtbkjdcpfkepheaaGreatDoorCBunM
import Derived.Test.YtbkjdcpfkepheaaGreatDoorCBunC
import Derived.Deep.Slices
import Derived.Laws.OwnMore
import Derived.Laws.AppendOwn
import Derived.Laws.AppendOwnNone
import Derived.ChangeOld
import Derived.Carry
import Derived.ChangeArms
import Derived.Test.YtbkjdcpfkepheaaGreatDoorCMixAJ
import Derived.IntWalk
import Derived.Maps.AppendAt
import Derived.Test.YtbkjdcpfkepheaaGreatDoorCBunG
import Derived.LoopN
import Derived.Test.YtbkjdcpfkepheaaGreatDoorCBunW
import Derived.Laws.MakeOwn
import Derived.Lib.IndexMore
set_option linter.unusedVariables false
set_option linter.unusedSimpArgs false
set_option maxRecDepth 100000
namespace Go.Proofs.YtbkjdcpfkepheaaGreatDoor
namespace Lv
open Go
def isE (v : Vl) : Bool := decide (v.k = 4)
def ax (l : List Vl) : Option Vl := l.find? isE
def aj : Vl := ⟨0, 0, []⟩
end Lv

section
open Go.RowKit Lv
def da (l : List Vl) : List Value := l.flatMap fun v => [.int .u8 v.k, .int .i64 v.n, .string ⟨v.t.toArray⟩]
theorem nH (v : Vl) (l : List Vl) : da (v :: l) = .int .u8 v.k :: .int .i64 v.n :: .string ⟨v.t.toArray⟩ :: da l := rfl
theorem qp (l m : List Vl) : da (l ++ m) = da l ++ da m := by unfold da; rw [List.flatMap_append]
theorem gH (l : List Vl) : (da l).length = l.length * 3 := by
  induction l with
  | nil => rfl
  | cons v l ih => rw [nH]; simp only [List.length_cons, ih]; omega
theorem lX : ∀ (l : List Vl) (i : Nat), i < l.length → (da l)[i * 3]? = some (.int .u8 (l.getD i aj).k) ∧ (da l)[i * 3 + 1]? = some (.int .i64 (l.getD i aj).n) ∧ (da l)[i * 3 + 2]? = some (.string ⟨(l.getD i aj).t.toArray⟩)
  | [], i, h => by simp at h
  | v :: l, 0, _ => ⟨rfl, rfl, rfl⟩
  | v :: l, i + 1, h => by
    have ih := lX l i (by simpa using h); rw [nH, show (i + 1) * 3 = i * 3 + 3 by omega]; exact ih
theorem yj {l : List Vl} : ∀ u ∈ da l, u.oneCell' = true := by
  intro u hu; obtain ⟨v, _, hv⟩ := List.mem_flatMap.1 hu
  simp at hv
  rcases hv with rfl | rfl | rfl <;> rfl
def RowV (w : World) (A : Option Addr) (l : List Vl) : Prop := ∀ i, i < l.length → ∃ b off, A = some ⟨b, off, none⟩ ∧ b < w.heap.size ∧ w.cell? ⟨b, off + i * 3, none⟩ = some (.int .u8 (l.getD i aj).k) ∧ w.cell? ⟨b, off + i * 3 + 1, none⟩ = some (.int .i64 (l.getD i aj).n) ∧ w.cell? ⟨b, off + i * 3 + 2, none⟩ = some (.string ⟨(l.getD i aj).t.toArray⟩)
theorem RowV.kept {w w' : World} {A : Option Addr} {l : List Vl} (h : RowV w A l) (k : Kept w w') : RowV w' A l := fun i hi => by
  obtain ⟨b, off, rfl, hb, h0, h1, h2⟩ := h i hi; exact ⟨b, off, rfl, Nat.lt_of_lt_of_le hb k.size, (k.cell (p := ⟨b, _, none⟩) hb).trans h0, (k.cell (p := ⟨b, _, none⟩) hb).trans h1, (k.cell (p := ⟨b, _, none⟩) hb).trans h2⟩
theorem RowV.take {w : World} {A : Option Addr} {l : List Vl} (h : RowV w A l) (k : Nat) : RowV w A (l.take k) := fun i hi => by
  rw [List.length_take] at hi; have e : (l.take k).getD i aj = l.getD i aj := by simp [List.getD, List.getElem?_take, show i < k by omega]
  rw [e]; exact h i (by omega)
theorem RowV.drop {w : World} {b off : Nat} {l : List Vl} (h : RowV w (some ⟨b, off, none⟩) l) (k : Nat) : RowV w (some ⟨b, off + k * 3, none⟩) (l.drop k) := fun i hi => by
  rw [List.length_drop] at hi; obtain ⟨b', off', e, hb, h0, h1, h2⟩ := h (k + i) (by omega)
  cases e
  have e : (l.drop k).getD i aj = l.getD (k + i) aj := by simp [List.getD, List.getElem?_drop]
  rw [e]; exact ⟨b, off + k * 3, rfl, hb, by rw [show off + k * 3 + i * 3 = off + (k + i) * 3 by omega]; exact h0, by rw [show off + k * 3 + i * 3 = off + (k + i) * 3 by omega]; exact h1, by rw [show off + k * 3 + i * 3 = off + (k + i) * 3 by omega]; exact h2⟩
theorem RowV.nil (w : World) (A : Option Addr) : RowV w A [] := fun i hi => by simp at hi
theorem RowV.box {w : World} {g : Nat} {t : TypeId} {cs : Array Value} {l : List Vl} (h : Box w g t cs) (hl : cs.toList.take (l.length * 3) = da l) : RowV w (some ⟨g, 0, none⟩) l := fun i hi => by
  obtain ⟨h0, h1, h2⟩ := lX l i hi
  have c : ∀ j v, j < l.length * 3 → (da l)[j]? = some v → w.cell? ⟨g, j, none⟩ = some v := fun j v hj hv => by
    rw [h.cell j, ← hv, ← hl, List.getElem?_take_of_lt hj]
    simp
  exact ⟨g, 0, rfl, h.inside, by rw [Nat.zero_add]; exact c _ _ (by omega) h0, by rw [Nat.zero_add]; exact c _ _ (by omega) h1, by rw [Nat.zero_add]; exact c _ _ (by omega) h2⟩
def OwnV (w : World) (base : Nat) (v : Value) (l : List Vl) : Prop := w.ownsRow base 25 3 v l.length (da l)
theorem OwnV.nil (w : World) (base : Nat) : OwnV w base (.slice none 0 0) [] := World.ownsRow_nil w base _ 3
theorem OwnV.kept {w w' : World} {base : Nat} {v : Value} {l : List Vl} (h : OwnV w base v l) (k : Kept w w') : OwnV w' base v l := by
  obtain ⟨h1, h2⟩ := h; refine ⟨h1, ?_⟩; rcases h2 with h2 | ⟨g, cap, cur, hv, hg, hh, r⟩
  · exact Or.inl h2
  · have hlt : g < w.heap.size := (Array.getElem?_eq_some_iff.1 hh).1
    exact Or.inr ⟨g, cap, cur, hv, hg, (k.block g hlt).trans hh, r⟩
theorem OwnV.alloc {w : World} {base : Nat} {v : Value} {l : List Vl} (h : OwnV w base v l) (o : Obj) : OwnV (w.alloc o) base v l := h.kept ((Kept.refl w).alloc o)
theorem OwnV.drew {w : World} {base : Nat} {v : Value} {l : List Vl} (h : OwnV w base v l) : OwnV w.drew base v l := h.kept ((Kept.refl w).drew)
theorem OwnV.grown {a w w' : World} {base : Nat} {v : Value} {l : List Vl} (h : OwnV w base v l) (hb : a.heap.size ≤ base) (k : Kept a w) (g : w.grownBy w' v.ownBlock) : Kept a w' :=
  Below.grown k g k.size (fun x hx => Nat.le_trans hb (World.ownsRow.lt h x hx).1)
theorem OwnV.row {w : World} {base : Nat} {v : Value} {l : List Vl} (h : OwnV w base v l) : ∃ A cap, v = .slice A l.length cap ∧ RowV w A l ∧ l.length ≤ cap ∧ (l ≠ [] → ∃ g, A = some ⟨g, 0, none⟩ ∧ base ≤ g) := by
  rcases h.2 with ⟨rfl, h0⟩ | ⟨g, cap, cur, rfl, hb, hh, h4, h5, h6, h7⟩
  · have : l = [] := List.eq_nil_of_length_eq_zero h0
    subst this; exact ⟨none, 0, rfl, RowV.nil _ _, Nat.le_refl _, fun h => absurd rfl h⟩
  · exact ⟨some ⟨g, 0, none⟩, cap, rfl, RowV.box (t := 25) (cs := cur) hh h7, h4, fun _ => ⟨g, rfl, hb⟩⟩
theorem BF : ∃ i, Tryz.prog.info? 25 = some i ∧ i.zero = some (.agg #[.int .u8 0, .int .i64 0, .string ByteArray.empty]) ∧ i.size = 3 ∧ i.bytes = 32 := by
  have h : (Tryz.prog.info? 25).map (fun i => (i.zero, i.size, i.bytes)) = some (some (.agg #[.int .u8 0, .int .i64 0, .string ByteArray.empty]), 3, 32) := by kernel_rfl
  cases hi : Tryz.prog.info? 25 with
  | none => rw [hi] at h; cases h
  | some i =>
    rw [hi] at h
    simp at h
    exact ⟨i, rfl, h.1, h.2.1, h.2.2⟩
end

section
open Go.ChangeShapes Go.WideShapes Go.RowKit Go.Joins Go.Deep Lv
theorem Eh : laidOutB Tryz.prog = true := by kernel_rfl
def oB (v : Vl) : Prop := v.k ≤ 255 ∧ i64 v.n ∧ v.t.length ≤ maxLen
theorem nI {H : Type} {enc : TypeId × Value → H} {W : World} {b : Nat} {sp : Nat → Bool} {held : Bool} {fuel : Nat} {cs : List Value} {x : DataW H × List MemPlace}
    (h : DataW.trod enc Tryz.prog W b sp held fuel 25 cs = some x) :
    ∃ v : Vl, cs = [.int .u8 v.k, .int .i64 v.n, .string ⟨v.t.toArray⟩] ∧ oB v ∧ x.2 = [] ∧ ∀ (W' : World) (b' : Nat) (sp' : Nat → Bool) (held' : Bool), ∃ n, DataW.trod enc Tryz.prog W' b' sp' held' n 25 cs = some x := by
  obtain ⟨y0, y1, y2, m, hx, hl, hy0, hy1, hy2⟩ := trod_struct3 Tryz.underlying25 h; rw [qo] at hl
  match cs, hl with
  | [c0, c1, c2], _ =>
    have q0 : DataW.trod enc Tryz.prog W b sp held m 5 [c0] = some y0 := hy0; have q1 : DataW.trod enc Tryz.prog W b sp held m 2 [c1] = some y1 := hy1; have q2 : DataW.trod enc Tryz.prog W b sp held m 9 [c2] = some y2 := hy2; obtain ⟨a, e0, rfl, wx⟩ := DataW.trod_int Tryz.underlying5 q0; obtain ⟨y, e1, rfl, wy⟩ := DataW.trod_int Tryz.underlying2 q1; obtain ⟨s, e2, rfl, ws⟩ := DataW.trod_string Tryz.underlying9 q2
    simp at e0 e1 e2
    subst e0 e1 e2
    have rx : 0 ≤ a ∧ a ≤ 255 := by
      unfold Lit.wf at wx; rw [Bool.and_eq_true, decide_eq_true_eq, decide_eq_true_eq] at wx; exact wx
    have ry : i64 y := by
      unfold Lit.wf at wy; rw [Bool.and_eq_true, decide_eq_true_eq, decide_eq_true_eq] at wy; exact wy
    obtain ⟨k, rfl⟩ : ∃ k : Nat, a = k := ⟨a.toNat, by omega⟩; refine ⟨⟨k, y, s.data.toList⟩, rfl, ⟨by simp only; omega, ry, ws⟩, by rw [hx]; rfl, fun W' b' sp' held' => ?_⟩
    obtain ⟨n, hn⟩ := shut_agg3 (enc := enc) (w := W') (base := b') (spare := sp') (held := held') (v0 := .int .u8 k) (v1 := .int .i64 y) (v2 := .string s) (y0 := (.lit (.int .u8 k), [])) (y1 := (.lit (.int .i64 y), [])) (y2 := (.lit (.string s.data.toList), [])) Tryz.underlying25 (by kernel_rfl) qo
      ⟨1, by simp [DataW.trod, Tryz.underlying5, wx]⟩ ⟨1, by simp [DataW.trod, Tryz.underlying2, wy]⟩ ⟨1, by simp [DataW.trod, Tryz.underlying9, ws]⟩
    exact ⟨n, by rw [hx]; simpa [Value.cells] using hn⟩
theorem ju {w : World} {a : Addr} {v : Value} (h : w.cell? a = some v) : a.block < w.heap.size := World.block_lt_of_cell? w _ h
structure ValsIn (w : World) (A : Option Addr) (len cap : Nat) (l : List Vl) : Prop where
  row : RowV w A l
  len_eq : l.length = len
  le : len ≤ cap
  max : cap ≤ maxLen
  wide : ∀ v ∈ l, oB v
  nil : A = none → len = 0 ∧ cap = 0
  addr : ∀ a, A = some a → 0 < len → ∃ b off, a = ⟨b, off, none⟩
theorem IT {α : Type} {n : Nat} {p : Nat → α → Prop} (h : ∀ i, i < n → ∃ v, p i v) : ∃ l : List α, l.length = n ∧ ∀ i v, l[i]? = some v → p i v := by
  induction n with
  | zero => exact ⟨[], rfl, fun i v hv => by simp at hv⟩
  | succ n ih =>
    obtain ⟨l, hl, hp⟩ := ih (fun i hi => h i (by omega)); obtain ⟨v, hv⟩ := h n (by omega); refine ⟨l ++ [v], by simp [hl], fun i u hu => ?_⟩; rcases Nat.lt_or_ge i l.length with c | c
    · rw [List.getElem?_append_left c] at hu; exact hp i u hu
    · rw [List.getElem?_append_right c] at hu
      have : i = n := by
        rcases Nat.lt_or_ge (i - l.length) 1 with d | d
        · omega
        · rw [List.getElem?_eq_none (by simpa using d)] at hu; cases hu
      subst this; rw [hl] at hu; simp at hu; subst hu; exact hv
structure BoolsIn (w : World) (A : Option Addr) (len cap : Nat) (l : List Bool) : Prop where
  row : ∀ i, i < l.length → ∃ b off, A = some ⟨b, off, none⟩ ∧ b < w.heap.size ∧ w.cell? ⟨b, off + i, none⟩ = some (.bool (l.getD i false))
  len_eq : l.length = len
  le : len ≤ cap
  max : cap ≤ maxLen
end

section
open Go.RowKit Lv
theorem sr (n m : Int) : -(n.natAbs : Int) ≤ Int.tmod n m ∧ Int.tmod n m ≤ n.natAbs ∧ (n < 0 → Int.tmod n m ≤ 0) := by
  have := Int.natAbs_tmod n m; have h2 : n.natAbs % m.natAbs ≤ n.natAbs := Nat.mod_le _ _; refine ⟨by omega, by omega, fun h => ?_⟩; have e : Int.tmod n m = -Int.tmod (-n) m := by rw [Int.neg_tmod, Int.neg_neg]
  have := Int.tmod_nonneg m (show 0 ≤ -n by omega)
  omega
def fV (x y : Vl) : Bool := decide (x.k = y.k) && decide (x.n = y.n) && decide (x.t = y.t)
theorem yk {x y : Vl} : fV x y = true ↔ x = y := by
  obtain ⟨k, n, t⟩ := x; obtain ⟨k', n', t'⟩ := y; unfold fV
  simp [and_assoc]
theorem ib (x : Vl) : fV x x = true := yk.2 rfl
theorem Ei (x y : Vl) (w : World) : (binOp .eql 25 (ae x) (ae y)).run Tryz.prog w = .ok (.bool (fV x y)) w := by
  go_simp
  unfold fV
  by_cases hk : x.k = y.k <;> by_cases hn : x.n = y.n <;> by_cases ht : x.t = y.t <;> simp [hk, hn, ht] <;> omega
theorem Ej (x y : Vl) (w : World) : (binOp .neq 25 (ae x) (ae y)).run Tryz.prog w = .ok (.bool (!fV x y)) w := by
  go_simp
  unfold fV
  by_cases hk : x.k = y.k <;> by_cases hn : x.n = y.n <;> by_cases ht : x.t = y.t <;> simp [hk, hn, ht] <;> omega
section
variable {o : Oper} {a : Act} {w : World}
theorem fs {x : Operand} (ho : o.op = .move x) {v : Value} (hx : a.eval x = v) : (execOp a.eval o).run Tryz.prog w = .ok (.value v) w := by
  unfold execOp; rw [ho]; subst hx; rfl
theorem iR {x : Operand} (ho : o.op = .assign x) {v : Value} (hx : a.eval x = v) : (execOp a.eval o).run Tryz.prog w = .ok (.value v) w := by
  unfold execOp; rw [ho]; subst hx; rfl
theorem BG {c x y : Operand} (ho : o.op = .pick c x y) {b : Bool} (hc : a.eval c = .bool b) : (execOp a.eval o).run Tryz.prog w = .ok (.value (if b then a.eval x else a.eval y)) w := by
  unfold execOp; rw [ho]
  simp only [hc]
  go_simp
theorem cD {c x y : Operand} (ho : o.op = .pick c x y) (hc : a.eval c = .bool true) {v : Value} (hx : a.eval x = v) : (execOp a.eval o).run Tryz.prog w = .ok (.value v) w := by subst hx; exact BG ho hc
theorem tY {c x y : Operand} (ho : o.op = .pick c x y) (hc : a.eval c = .bool false) {v : Value} (hy : a.eval y = v) : (execOp a.eval o).run Tryz.prog w = .ok (.value v) w := by subst hy; exact BG ho hc
theorem gm {c x y : Operand} (ho : o.op = .pick c x y) {b d : Bool} (hc : a.eval c = .bool b) (hx : b = true → a.eval x = .bool d) (hy : a.eval y = .bool false) : (execOp a.eval o).run Tryz.prog w = .ok (.value (.bool (b && d))) w := by
  rw [BG ho hc]
  cases b
  · rw [if_neg (by decide), hy]; rfl
  · rw [if_pos rfl, hx rfl]; rfl
theorem gA {c x y : Operand} (ho : o.op = .pick c x y) {b d : Bool} (hc : a.eval c = .bool b) (hx : a.eval x = .bool true) (hy : b = false → a.eval y = .bool d) : (execOp a.eval o).run Tryz.prog w = .ok (.value (.bool (b || d))) w := by
  rw [BG ho hc]
  cases b
  · rw [if_neg (by decide), hy rfl]; rfl
  · rw [if_pos rfl, hx]; rfl
theorem F3 {T : TypeId} {x : Operand} (ho : o.op = .unOp .not T x) {b : Bool} (hx : a.eval x = .bool b) : (execOp a.eval o).run Tryz.prog w = .ok (.value (.bool (!b))) w := by
  unfold execOp; rw [ho]; simp only [hx]; go_simp
theorem BH {T T2 : TypeId} (hT : T = 3 ∨ T = 2) {x y : Operand} (ho : o.op = .binOp .add T x y T2) {n m : Int} (hx : a.eval x = .int .i64 n) (hy : a.eval y = .int .i64 m) (h1 : -9223372036854775808 ≤ n + m) (h2 : n + m ≤ 9223372036854775807) : (execOp a.eval o).run Tryz.prog w = .ok (.value (.int .i64 (n + m))) w := by
  unfold execOp; rw [ho]
  simp only [hx, hy]
  rcases hT with rfl | rfl <;> (go_simp; exact IntWalk.i64_in _ (by omega))
theorem Ek {T T2 : TypeId} (hT : T = 3 ∨ T = 2) {x y : Operand} (ho : o.op = .binOp .sub T x y T2) {n m : Int} (hx : a.eval x = .int .i64 n) (hy : a.eval y = .int .i64 m) (h1 : -9223372036854775808 ≤ n - m) (h2 : n - m ≤ 9223372036854775807) : (execOp a.eval o).run Tryz.prog w = .ok (.value (.int .i64 (n - m))) w := by
  unfold execOp; rw [ho]
  simp only [hx, hy]
  rcases hT with rfl | rfl <;> (go_simp; exact IntWalk.i64_in _ (by omega))
theorem I4 {T T2 : TypeId} {x y : Operand} (ho : o.op = .binOp .lss T x y T2) {k : IntKind} {n m : Int} (hx : a.eval x = .int k n) (hy : a.eval y = .int k m) : (execOp a.eval o).run Tryz.prog w = .ok (.value (.bool (decide (n < m)))) w := by
  unfold execOp; rw [ho]; simp only [hx, hy]; go_simp
theorem I5 {T T2 : TypeId} {x y : Operand} (ho : o.op = .binOp .leq T x y T2) {k : IntKind} {n m : Int} (hx : a.eval x = .int k n) (hy : a.eval y = .int k m) : (execOp a.eval o).run Tryz.prog w = .ok (.value (.bool (decide (n ≤ m)))) w := by
  unfold execOp; rw [ho]; simp only [hx, hy]; go_simp
theorem I6 {T T2 : TypeId} {x y : Operand} (ho : o.op = .binOp .gtr T x y T2) {k : IntKind} {n m : Int} (hx : a.eval x = .int k n) (hy : a.eval y = .int k m) : (execOp a.eval o).run Tryz.prog w = .ok (.value (.bool (decide (m < n)))) w := by
  unfold execOp; rw [ho]; simp only [hx, hy]; go_simp
theorem I7 {T T2 : TypeId} {x y : Operand} (ho : o.op = .binOp .geq T x y T2) {k : IntKind} {n m : Int} (hx : a.eval x = .int k n) (hy : a.eval y = .int k m) : (execOp a.eval o).run Tryz.prog w = .ok (.value (.bool (decide (m ≤ n)))) w := by
  unfold execOp; rw [ho]; simp only [hx, hy]; go_simp
theorem Ik {T T2 : TypeId} {x y : Operand} (ho : o.op = .binOp .eql T x y T2) {k : IntKind} {n m : Int} (hx : a.eval x = .int k n) (hy : a.eval y = .int k m) : (execOp a.eval o).run Tryz.prog w = .ok (.value (.bool (decide (n = m)))) w := by
  unfold execOp; rw [ho]; simp only [hx, hy]; go_simp
  try (by_cases h : n = m <;> simp [h])
theorem I8 {T T2 : TypeId} {x y : Operand} (ho : o.op = .binOp .neq T x y T2) {k : IntKind} {n m : Int} (hx : a.eval x = .int k n) (hy : a.eval y = .int k m) : (execOp a.eval o).run Tryz.prog w = .ok (.value (.bool (decide (n ≠ m)))) w := by
  unfold execOp; rw [ho]; simp only [hx, hy]; go_simp
  try (by_cases h : n = m <;> simp [h])
theorem Il {T2 : TypeId} {x y : Operand} (ho : o.op = .binOp .eql 25 x y T2) {u v : Vl} (hx : a.eval x = ae u) (hy : a.eval y = ae v) : (execOp a.eval o).run Tryz.prog w = .ok (.value (.bool (fV u v))) w := by
  unfold execOp; rw [ho]
  simp only [hx, hy]
  have := Ei u v w
  go_simp
  unfold fV
  by_cases hk : u.k = v.k <;> by_cases hn : u.n = v.n <;> by_cases ht : u.t = v.t <;> simp [hk, hn, ht] <;> omega
theorem Im {T2 : TypeId} {x y : Operand} (ho : o.op = .binOp .neq 25 x y T2) {u v : Vl} (hx : a.eval x = ae u) (hy : a.eval y = ae v) : (execOp a.eval o).run Tryz.prog w = .ok (.value (.bool (!fV u v))) w := by
  unfold execOp; rw [ho]
  simp only [hx, hy]
  have := Ej u v w
  go_simp
  unfold fV
  by_cases hk : u.k = v.k <;> by_cases hn : u.n = v.n <;> by_cases ht : u.t = v.t <;> simp [hk, hn, ht] <;> omega
theorem Io {T T2 : TypeId} (hT : T = 3 ∨ T = 2) {x y : Operand} (ho : o.op = .binOp .rem T x y T2) {n m : Nat} (hx : a.eval x = .int .i64 n) (hy : a.eval y = .int .i64 m) (h0 : 0 < m) (h1 : n ≤ 9223372036854775807) : (execOp a.eval o).run Tryz.prog w = .ok (.value (.int .i64 ((n % m : Nat) : Int))) w := by
  have e : ((m : Int) == 0) = false := by rw [beq_eq_false_iff_ne]; omega
  have e0 : ¬ (m : Int) = 0 := by omega
  have e1 : Int.tmod (n : Int) (m : Int) = ((n % m : Nat) : Int) := by rw [Int.tmod_eq_emod_of_nonneg (by omega)]; omega
  have e2 : IntKind.i64.wrap ((n % m : Nat) : Int) = ((n % m : Nat) : Int) := IntWalk.i64_in _ (by have := Nat.mod_le n m; omega); unfold execOp; rw [ho]
  simp only [hx, hy]
  rcases hT with rfl | rfl <;> (go_simp; omega)
abbrev dy (l : List Vl) : Obj := .cells (da l).toArray 25 (0, 0)
theorem BI {x : Operand} (ho : o.op = .buildSlice 60 1 #[(0, x)]) {u : Vl} (hx : a.eval x = ae u) : (execOp a.eval o).run Tryz.prog w = .ok (.value (.slice (some ⟨w.heap.size, 0, none⟩) 1 1)) (w.alloc (dy [u])) := by
  unfold execOp; rw [ho]
  simp only [List.map_toArray, List.map_cons, List.map_nil, hx]
  go_simp
  rfl
theorem ic {l : List Vl} {g : Nat} (h : w.heap[g]? = some (dy l)) : RowV w (some ⟨g, 0, none⟩) l :=
  RowV.box (t := 25) h (by rw [List.take_of_length_le]; rw [gH]; exact Nat.le_refl _)
/-! lengths, br -/
theorem Ip {T : TypeId} (hT : T = 3) {x y : Operand} {ts : Array TypeId} (ho : o.op = .call { callee := .builtin .min, args := #[x, y], argTypes := ts }) (ht : o.type = T) {n m : Nat} (hx : a.eval x = .int .i64 n) (hy : a.eval y = .int .i64 m) : (execOp a.eval o).run Tryz.prog w = .ok (.value (.int .i64 (min n m : Nat))) w := by
  subst hT; have e : min (n : Int) (m : Int) = ((min n m : Nat) : Int) := by omega
  unfold execOp; rw [ho]
  simp only [resolve, List.map_toArray, List.map_cons, List.map_nil, hx, hy]
  go_simp
  try exact e
def fz (A : Option Addr) (cap : Nat) : Option Addr := if cap = 0 then A else A.map (·.add 0)
theorem ss (b off cap : Nat) : fz (some ⟨b, off, none⟩) cap = some ⟨b, off, none⟩ := by unfold fz; split <;> rfl
theorem tZ {T e : TypeId} (hu : Tryz.prog.underlying T = some (.slice e)) (hz : (sizeOf e).run Tryz.prog w = .ok 1 w) {x y : Operand} (ho : o.op = .slice T x none (some y) none) {A : Option Addr} {n cap h : Nat} (hx : a.eval x = .slice A n cap) (hy : a.eval y = .int .i64 h) (hh : h ≤ cap) : (execOp a.eval o).run Tryz.prog w = .ok (.value (.slice (fz A cap) h cap)) w := by
  have hr := run_underlying (w := w) hu; have h0 : (0 : Int) ≤ (h : Int) := by omega
  have h1 : (h : Int) ≤ (cap : Int) := by omega
  unfold execOp fz; rw [ho]
  simp only [hx, hy, Option.map_some, Option.map_none]
  go_simp
theorem IU {T e : TypeId} (hu : Tryz.prog.underlying T = some (.slice e)) {x : Operand} (ho : o.op = .call { callee := .builtin .len, args := #[x], argTypes := #[T] }) {A : Option Addr} {n cap : Nat} (hx : a.eval x = .slice A n cap) : (execOp a.eval o).run Tryz.prog w = .ok (.value (.int .i64 n)) w := by
  unfold execOp; rw [ho]
  simp only [resolve, List.map_toArray, List.map_cons, List.map_nil, hx]
  have hr := run_underlying (w := w) hu
  go_simp
theorem El {x y : Operand} (ho : o.op = .indexAddr 60 x y) {b off n cap k : Nat} (hx : a.eval x = .slice (some ⟨b, off, none⟩) n cap) (hy : a.eval y = .int .i64 k) (hk : k < n) : (execOp a.eval o).run Tryz.prog w = .ok (.value (.pointer (some ⟨b, off + k * 3, none⟩))) w := by
  unfold execOp; rw [ho]
  simp only [hx, hy]
  have h0 : (0 : Int) ≤ (k : Int) := by omega
  have h1 : (k : Int) < (n : Int) := by omega
  go_simp
theorem I9 {x : Operand} (ho : o.op = .load 25 x) {b off k : Nat} {l : List Vl} (hx : a.eval x = .pointer (some ⟨b, off + k * 3, none⟩)) (hr : RowV w (some ⟨b, off, none⟩) l) (hk : k < l.length) : (execOp a.eval o).run Tryz.prog w = .ok (.value (ae (l.getD k aj))) w := by
  obtain ⟨b', off', e, _, x0, x1, x2⟩ := hr k hk
  cases e
  unfold execOp; rw [ho]
  simp only [hx]
  go_simp
theorem BJ {s x : Operand} (ho : o.op = .call { callee := .builtin .append, args := #[s, x], argTypes := #[60, 60] }) {base : Nat} {v : Value} {l m : List Vl} {g c : Nat} (hs : a.eval s = v) (hx : a.eval x = .slice (some ⟨g, 0, none⟩) m.length c) (hown : w.ownsRow base 25 3 v l.length (da l)) (hr : RowV w (some ⟨g, 0, none⟩) m) (hl : l.length + m.length ≤ 1000000) (hbase : base ≤ w.heap.size) :
    ∃ v' w', (execOp a.eval o).run Tryz.prog w = .ok (.value v') w' ∧ w'.ownsRow base 25 3 v' (l ++ m).length (da (l ++ m)) ∧ w.grownBy w' v.ownBlock ∧ (v'.ownBlock = v.ownBlock ∨ v'.ownBlock = some w.heap.size) := by
  obtain ⟨i, hi, hz, h1, h2⟩ := BF
  obtain ⟨v', w', hrun, ho', hg, _, hb⟩ := run_append_own_at (P := Tryz.prog) w base 60 o.type 25 i _ 3 32 Tryz.underlying60 hi hz h1 h2 rfl (by decide) v l.length (da l) hown ⟨g, 0, none⟩ m.length c (da m) (gH m) (fun j u hj => by
    have hjl : j < m.length * 3 := by rw [← gH]; exact (List.getElem?_eq_some_iff.1 hj).1
    obtain ⟨b', off', e, _, c0, c1, c2⟩ := hr (j / 3) (by omega)
    cases e
    obtain ⟨g0, g1, g2⟩ := lX m (j / 3) (by omega); rw [Go.WideShapes.add_plain]; rcases (show j % 3 = 0 ∨ j % 3 = 1 ∨ j % 3 = 2 by omega) with r | r | r
    · have e : j = j / 3 * 3 := by omega
      rw [e] at hj; rw [e, c0, ← g0, hj]
    · have e : j = j / 3 * 3 + 1 := by omega
      rw [e] at hj; rw [e, ← Nat.add_assoc, c1, ← g1, hj]
    · have e : j = j / 3 * 3 + 2 := by omega
      rw [e] at hj; rw [e, ← Nat.add_assoc, c2, ← g2, hj]) yj (by simp only [maxLen]; omega) (by omega) hbase
  refine ⟨v', w', ?_, by rw [List.length_append, qp]; exact ho', hg, hb⟩; unfold execOp
  simp only [ho, resolve, invoke, builtin, Sem.run_bind, Sem.run_pure, Result.andThen_ok, List.map_toArray, List.map_cons, List.map_nil, hs, hx, hrun]
theorem gn {F : FuncId} {ts : Array TypeId} (ho : o.op = .call { callee := .value (.func F), args := #[], argTypes := ts }) (hF : (callFunc F #[]).run Tryz.prog w = .ok (.enter F #[]) w) : (execOp a.eval o).run Tryz.prog w = .ok (.enter F #[]) w := by
  unfold execOp; rw [ho]
  simp only [resolve, List.map_toArray, List.map_nil]
  simp only [Act.eval]
  go_simp
theorem bZ {F : FuncId} {x : Operand} {ts : Array TypeId} (ho : o.op = .call { callee := .value (.func F), args := #[x], argTypes := ts }) {u : Value} (hx : a.eval x = u) (hF : (callFunc F #[u]).run Tryz.prog w = .ok (.enter F #[u]) w) : (execOp a.eval o).run Tryz.prog w = .ok (.enter F #[u]) w := by
  have hf : a.eval (.func F) = .func (.func F) #[] #[] := rfl; unfold execOp; rw [ho]
  simp only [resolve, List.map_toArray, List.map_cons, List.map_nil, hf, hx]
  go_simp
theorem kG {F : FuncId} {x y : Operand} {ts : Array TypeId} (ho : o.op = .call { callee := .value (.func F), args := #[x, y], argTypes := ts }) {u v : Value} (hx : a.eval x = u) (hy : a.eval y = v) (hF : (callFunc F #[u, v]).run Tryz.prog w = .ok (.enter F #[u, v]) w) : (execOp a.eval o).run Tryz.prog w = .ok (.enter F #[u, v]) w := by
  have hf : a.eval (.func F) = .func (.func F) #[] #[] := rfl; unfold execOp; rw [ho]
  simp only [resolve, List.map_toArray, List.map_cons, List.map_nil, hf, hx, hy]
  go_simp
theorem dN {F : FuncId} {x y z : Operand} {ts : Array TypeId} (ho : o.op = .call { callee := .value (.func F), args := #[x, y, z], argTypes := ts }) {u v s : Value} (hx : a.eval x = u) (hy : a.eval y = v) (hz : a.eval z = s) (hF : (callFunc F #[u, v, s]).run Tryz.prog w = .ok (.enter F #[u, v, s]) w) : (execOp a.eval o).run Tryz.prog w = .ok (.enter F #[u, v, s]) w := by
  have hf : a.eval (.func F) = .func (.func F) #[] #[] := rfl; unfold execOp; rw [ho]
  simp only [resolve, List.map_toArray, List.map_cons, List.map_nil, hf, hx, hy, hz]
  go_simp
end
section
variable {ops : Array Oper} {rest : List Oper} {Q : Exit → Act → World → Prop} {a : Act} {w : World}
end
end

section
open Go.RowKit Lv
section
variable {o : Oper} {a : Act} {w : World}
theorem Gm {T : TypeId} (hu : Tryz.prog.underlying T = some .string) {x : Operand} (ho : o.op = .call { callee := .builtin .len, args := #[x], argTypes := #[T] }) {t : List UInt8} (hx : a.eval x = .string ⟨t.toArray⟩) : (execOp a.eval o).run Tryz.prog w = .ok (.value (.int .i64 (t.length : Nat))) w := by
  unfold execOp; rw [ho]
  simp only [resolve, List.map_toArray, List.map_cons, List.map_nil, hx]
  have hr := run_underlying (w := w) hu
  go_simp
  try rfl
theorem vQ (t : List UInt8) (n : Nat) : (⟨t.toArray⟩ : ByteArray).extract 0 n = ⟨(t.take n).toArray⟩ := by
  ext1; simp [ByteArray.data_extract]
theorem lY {T : TypeId} (hu : Tryz.prog.underlying T = some .string) (t : List UInt8) (h : Nat) (h2 : h ≤ t.length) : (Instr.sliceAt T (.string ⟨t.toArray⟩) none (some (.int .i64 h)) none).run Tryz.prog w = .ok (.string ⟨(t.take h).toArray⟩) w := by
  have hr := run_underlying (w := w) hu; have b2 : (0 : Int) ≤ (h : Int) := by omega
  have b3 : (h : Int) ≤ (t.length : Int) := by omega
  have e := vQ t h; have es : ByteArray.size ⟨t.toArray⟩ = t.length := rfl
  simp [Instr.sliceAt, Instr.slice, Instr.sliceBounds, Instr.sliceBound, hr, Result.andThen, asIntOf, es, b2, b3, h2, e]
theorem Ja {T T2 : TypeId} {x y : Operand} (ho : o.op = .binOp .eql T x y T2) {s t : List UInt8} (hx : a.eval x = .string ⟨s.toArray⟩) (hy : a.eval y = .string ⟨t.toArray⟩) : (execOp a.eval o).run Tryz.prog w = .ok (.value (.bool (decide (s = t)))) w := by
  unfold execOp; rw [ho]; simp only [hx, hy]; go_simp
  try (by_cases h : s = t <;> simp [h])
theorem Jb {T T2 : TypeId} {x y : Operand} (ho : o.op = .binOp .neq T x y T2) {s t : List UInt8} (hx : a.eval x = .string ⟨s.toArray⟩) (hy : a.eval y = .string ⟨t.toArray⟩) : (execOp a.eval o).run Tryz.prog w = .ok (.value (.bool (decide (s ≠ t)))) w := by
  unfold execOp; rw [ho]; simp only [hx, hy]; go_simp
  try (by_cases h : s = t <;> simp [h])
theorem Eo {x y : Operand} {ts : Array TypeId} (ho : o.op = .call { callee := .builtin .min, args := #[x, y], argTypes := ts }) (ht : o.type = 3 ∨ o.type = 2) {n m : Int} (hx : a.eval x = .int .i64 n) (hy : a.eval y = .int .i64 m) : (execOp a.eval o).run Tryz.prog w = .ok (.value (.int .i64 (min n m))) w := by
  unfold execOp; rw [ho]
  simp only [resolve, List.map_toArray, List.map_cons, List.map_nil, hx, hy]
  rcases ht with ht | ht <;> go_simp
theorem Gn {x y : Operand} {ts : Array TypeId} (ho : o.op = .call { callee := .builtin .max, args := #[x, y], argTypes := ts }) (ht : o.type = 3 ∨ o.type = 2) {n m : Int} (hx : a.eval x = .int .i64 n) (hy : a.eval y = .int .i64 m) : (execOp a.eval o).run Tryz.prog w = .ok (.value (.int .i64 (max n m))) w := by
  unfold execOp; rw [ho]
  simp only [resolve, List.map_toArray, List.map_cons, List.map_nil, hx, hy]
  rcases ht with ht | ht <;> go_simp
theorem vR {T T2 : TypeId} (hT : T = 3 ∨ T = 2) {x y : Operand} (ho : o.op = .binOp .mul T x y T2) {n m : Int} (hx : a.eval x = .int .i64 n) (hy : a.eval y = .int .i64 m) (h1 : -9223372036854775808 ≤ n * m) (h2 : n * m ≤ 9223372036854775807) : (execOp a.eval o).run Tryz.prog w = .ok (.value (.int .i64 (n * m))) w := by
  have e : IntKind.i64.wrap (n * m) = n * m := IntWalk.i64_in _ ⟨h1, h2⟩; unfold execOp; rw [ho]
  simp only [hx, hy]
  rcases hT with rfl | rfl <;> (go_simp; try exact e)
theorem Bb {T T2 : TypeId} (hT : T = 3 ∨ T = 2) {x y : Operand} (ho : o.op = .binOp .quo T x y T2) {n m : Int} (hx : a.eval x = .int .i64 n) (hy : a.eval y = .int .i64 m) (h0 : 0 < m) (h1 : -9223372036854775808 ≤ n) (h2 : n ≤ 9223372036854775807) : (execOp a.eval o).run Tryz.prog w = .ok (.value (.int .i64 (Int.tdiv n m))) w := by
  have e0 : ¬ m = 0 := by omega
  have e1 : (m == 0) = false := by rw [beq_eq_false_iff_ne]; omega
  have b : -9223372036854775808 ≤ Int.tdiv n m ∧ Int.tdiv n m ≤ 9223372036854775807 := by
    by_cases c : 0 ≤ n
    · have := Int.tdiv_nonneg c (show 0 ≤ m by omega)
      have := Int.tdiv_le_self m c
      omega
    · have e : Int.tdiv n m = -Int.tdiv (-n) m := by rw [Int.neg_tdiv, Int.neg_neg]
      have := Int.tdiv_nonneg (show 0 ≤ -n by omega) (show 0 ≤ m by omega); have := Int.tdiv_le_self m (show 0 ≤ -n by omega)
      omega
  have e2 : IntKind.i64.wrap (Int.tdiv n m) = Int.tdiv n m := IntWalk.i64_in _ b; unfold execOp; rw [ho]
  simp only [hx, hy]
  rcases hT with rfl | rfl <;> (go_simp; try exact e2)
abbrev cj (n : Int) : Value := .int .i64 n
/-! rows of one cell each -/
theorem fG {T e : TypeId} (hu : Tryz.prog.underlying T = some (.slice e)) (hs : (sizeOf e).run Tryz.prog w = .ok 1 w) {b off n c k : Nat} (hk : k < n) : (Instr.indexAt T (.slice (some ⟨b, off, none⟩) n c) (.int .i64 k)).run Tryz.prog w = .ok (.pointer (some ⟨b, off + k, none⟩)) w := by
  have hr := run_underlying (w := w) hu; have b0 : (0 : Int) ≤ (k : Int) := by omega
  have b1 : (k : Int) < (n : Int) := by omega
  have e := ia (g := b) (off := off) k
  simp [Instr.indexAt, asIntOf, hr, hs, Result.andThen, b0, b1, e]
  intro hc; omega
def RowC (w : World) (A : Option Addr) (l : List Value) : Prop := ∀ i, i < l.length → ∃ b off, A = some ⟨b, off, none⟩ ∧ b < w.heap.size ∧ w.cell? ⟨b, off + i, none⟩ = l[i]?
theorem RowC.kept {w w' : World} {A : Option Addr} {l : List Value} (h : RowC w A l) (k : Kept w w') : RowC w' A l := fun i hi => by
  obtain ⟨b, off, rfl, hb, hc⟩ := h i hi; exact ⟨b, off, rfl, Nat.lt_of_lt_of_le hb k.size, (k.cell (p := ⟨b, _, none⟩) hb).trans hc⟩
theorem RowC.at_ {w : World} {b off : Nat} {l : List Value} (h : RowC w (some ⟨b, off, none⟩) l) {k : Nat} {v : Value} (e : l[k]? = some v) : w.cell? ⟨b, off + k, none⟩ = some v := by
  obtain ⟨b', off', e', _, hc⟩ := h k (List.getElem?_eq_some_iff.1 e).1
  cases e'
  exact hc.trans e
theorem RowC.nil (w : World) (A : Option Addr) : RowC w A [] := fun i hi => by simp at hi
theorem RowC.of_row {w : World} {base : Nat} {e : TypeId} {v : Value} {l : List Value} (h : w.ownsRow base e 1 v l.length l) : ∃ A c, v = .slice A l.length c ∧ RowC w A l ∧ l.length ≤ c := by
  rcases h.2 with ⟨rfl, h0⟩ | ⟨g, cap, cur, rfl, hb, hh, h4, h5, h6, h7⟩
  · exact ⟨none, 0, by rw [h0], fun i hi => by omega, by omega⟩
  · refine ⟨some ⟨g, 0, none⟩, cap, rfl, fun i hi => ⟨g, 0, rfl, (Array.getElem?_eq_some_iff.1 hh).1, ?_⟩, h4⟩
    rw [Nat.mul_one] at h7; rw [cell_of_row w g (0 + i) cur e (0, 0) hh, Nat.zero_add, ← h7, List.getElem?_take_of_lt hi, Array.getElem?_toList]
theorem BK {T e : TypeId} {s x : Operand} (ho : o.op = .call { callee := .builtin .append, args := #[s, x], argTypes := #[T, T] }) (hu : Tryz.prog.underlying T = some (.slice e)) {i : TypeInfo} {z : Value} {by_ : Nat} (hi : Tryz.prog.info? e = some i) (hz : i.zero = some z) (h1 : i.size = 1) (h2 : i.bytes = by_) (hzc : z.cells.size = 1) {base : Nat} {v : Value} {l : List Value} {u : Value} {g c : Nat} (hs : a.eval s = v) (hx : a.eval x = .slice (some ⟨g, 0, none⟩) 1 c) (hown : w.ownsRow base e 1 v l.length l) (hg : w.heap[g]? = some (.cells #[u] e (0, 0))) (ho1 : u.oneCell' = true) (hl : l.length ≤ 1000000) (hby : by_ ≤ 100) (hbase : base ≤ w.heap.size) :
    ∃ v' w', (execOp a.eval o).run Tryz.prog w = .ok (.value v') w' ∧ w'.ownsRow base e 1 v' (l ++ [u]).length (l ++ [u]) ∧ w.grownBy w' v.ownBlock ∧ (v'.ownBlock = v.ownBlock ∨ v'.ownBlock = some w.heap.size) := by
  obtain ⟨v', w', hrun, ho', hg', _, hb⟩ := run_append_own_at (P := Tryz.prog) w base T o.type e i z 1 by_ hu hi hz h1 h2 hzc (by decide) v l.length l hown ⟨g, 0, none⟩ 1 c [u] rfl (fun j q hj => by
    match j, hj with
    | 0, hj =>
      simp at hj
      subst hj; rw [ia]; exact cell_of_row w g 0 #[u] e (0, 0) hg) (fun q hq => by rw [List.mem_singleton] at hq; rw [hq]; exact ho1) (by simp only [maxLen]; omega) (Nat.le_trans (Nat.mul_le_mul (show l.length + 1 ≤ 1000001 by omega) hby) (by decide)) hbase
  refine ⟨v', w', ?_, by rw [List.length_append, List.length_singleton]; exact ho', hg', hb⟩; unfold execOp
  simp only [ho, resolve, invoke, builtin, Sem.run_bind, Sem.run_pure, Result.andThen_ok, List.map_toArray, List.map_cons, List.map_nil, hs, hx, hrun]
theorem kh {ops : Array Oper} {rest : List Oper} {Q : Exit → Act → World → Prop} (hw : Region.wanted o (yielded ops a.tmps) = true) {T e : TypeId} {s x : Operand} (ho : o.op = .call { callee := .builtin .append, args := #[s, x], argTypes := #[T, T] }) (hu : Tryz.prog.underlying T = some (.slice e)) {by_ : Nat} (hi : ∃ i z, Tryz.prog.info? e = some i ∧ i.zero = some z ∧ i.size = 1 ∧ i.bytes = by_ ∧ z.cells.size = 1) {base : Nat} {v : Value} {l : List Value} {u : Value} {g c : Nat} (hs : a.eval s = v) (hx : a.eval x = .slice (some ⟨g, 0, none⟩) 1 c) (hown : w.ownsRow base e 1 v l.length l) (hg : w.heap[g]? = some (.cells #[u] e (0, 0))) (ho1 : u.oneCell' = true) (hl : l.length ≤ 1000000) (hby : by_ ≤ 100) (hbase : base ≤ w.heap.size)
    (h : ∀ v' w', w'.ownsRow base e 1 v' (l ++ [u]).length (l ++ [u]) → w.grownBy w' v.ownBlock → (v'.ownBlock = v.ownBlock ∨ v'.ownBlock = some w.heap.size) → wpList Tryz.prog ops Q rest (a.put o.dst v') w') : wpList Tryz.prog ops Q (o :: rest) a w := by
  obtain ⟨i, z, hi, hz, h1, h2, h3⟩ := hi; obtain ⟨v', w', hr, k1, k2, k3⟩ := BK ho hu hi hz h1 h2 h3 hs hx hown hg ho1 hl hby hbase; exact js hw hr (h v' w' k1 k2 k3)
theorem ym {base : Nat} {e : TypeId} {n size : Nat} {v : Value} {l : List Value} {w : World} (h : w.ownsRow base e size v n l) : v.oneCell' = true := by
  rcases h.2 with ⟨rfl, _⟩ | ⟨g, cap, cur, rfl, _⟩ <;> rfl
theorem fW {v : Value} {l : List Value} (h : v.oneCell' = true) (t : (l.all fun v => v.oneCell') = true) : ((v :: l).all fun v => v.oneCell') = true := by rw [List.all_cons, h, t]; rfl
theorem yn {v : Value} (h : v.oneCell' = true) : v.cells = #[v] := by cases v <;> first | rfl | cases h
theorem su {T : TypeId} {x y : Operand} {v : Value} {g off : Nat} {t : TypeId} {cs : Array Value} (ho : o.op = .store T x y) (hx : a.eval x = .pointer (some ⟨g, off, none⟩)) (hy : a.eval y = v) (hs : (sizeOf T).run Tryz.prog w = .ok 1 w) (bx : Box w g t cs) (h1 : v.oneCell' = true) (hb : off + 1 ≤ cs.size) : (execOp a.eval o).run Tryz.prog w = .ok .skip (bU w g off [v]) := by
  have hc := yn h1; have r := fT (P := Tryz.prog) (off := off) ho hx hy (by rw [hc]; exact hs) bx (by rw [hc]; exact fW h1 rfl) (by rw [hc]; exact hb); rw [hc] at r; exact r
theorem dP {v v' : Value} {w : World} (hb : v'.ownBlock = v.ownBlock ∨ v'.ownBlock = some w.heap.size) : v'.ownBlock = v.ownBlock ∨ ∀ g, v'.ownBlock = some g → w.heap.size ≤ g :=
  hb.imp (fun e => e) (fun e g c => by have z := e.symm.trans c; cases z; exact Nat.le_refl _)
theorem oC (e : TypeId) (s b : Nat) (h : (Tryz.prog.info? e).map (fun i => (i.zero.map (fun z => z.cells.size), i.size, i.bytes)) = some (some 1, s, b)) (hs : s = 1) : ∃ i z, Tryz.prog.info? e = some i ∧ i.zero = some z ∧ i.size = 1 ∧ i.bytes = b ∧ z.cells.size = 1 := by
  subst hs
  cases hi : Tryz.prog.info? e with
  | none => rw [hi] at h; cases h
  | some i =>
    rw [hi] at h
    simp only [Option.map_some, Option.some.injEq, Prod.mk.injEq] at h
    cases hz : i.zero with
    | none => rw [hz] at h; simp at h
    | some z => rw [hz] at h; simp at h; exact ⟨i, z, rfl, hz, h.2.1, h.2.2, h.1⟩
/-! a call of a function that is a value -/
theorem ft {f x : Operand} {ts : Array TypeId} {F : FuncId} {u : Value} (ho : o.op = .call { callee := .value f, args := #[x], argTypes := ts }) (hf : a.eval f = .func (.func F) #[] #[]) (hx : a.eval x = u) (hF : (callFunc F #[u]).run Tryz.prog w = .ok (.enter F #[u]) w) : (execOp a.eval o).run Tryz.prog w = .ok (.enter F #[u]) w := by
  unfold execOp; rw [ho]
  simp only [resolve, List.map_toArray, List.map_cons, List.map_nil, hf, hx]
  go_simp
end
end

section
open Go.RowKit
section
variable {P : Program} {ops : Array Oper} {n i : Nat} {ys : List Yield} {w0 : World} {a0 : Act} {o : Oper} {r : List Oper} {v v2 : Value}
abbrev iu (ops : Array Oper) (ys : List Yield) (o : Oper) (a : Act) (w : World) : Prop := ∀ e ∈ o.after, Region.binds .any e = true → Ys ys e.on (At ops a e.on) w
def Arms (P : Program) (ops : Array Oper) (n : Nat) (ys : List Yield) (w0 : World) (a0 : Act) : Nat → List Oper → Prop
  | _, [] => True
  | i, o :: r => (∀ a w, Kept w0 w → BesideN ops n a0 a → iu ops ys o a w → gp P ops ys i o a w) ∧ Arms P ops n ys w0 a0 (i + 1) r
theorem Arms.get : ∀ (l : List Oper) (i : Nat), Arms P ops n ys w0 a0 i l → ∀ (k : Nat) (o : Oper), l[k]? = some o → ∀ a w, Kept w0 w → BesideN ops n a0 a → iu ops ys o a w → gp P ops ys (i + k) o a w
  | [], _, _, k, o, h => by simp at h
  | x :: l, i, hA, 0, o, h => by simp at h; subst h; exact hA.1
  | x :: l, i, hA, k + 1, o, h => by
    have := Arms.get l (i + 1) hA.2 k o (by simpa using h)
    rwa [show i + 1 + k = i + (k + 1) by omega] at this
theorem arm (h : ∀ a w, Kept w0 w → BesideN ops n a0 a → iu ops ys o a w → gp P ops ys i o a w) (t : Arms P ops n ys w0 a0 (i + 1) r) : Arms P ops n ys w0 a0 i (o :: r) := ⟨h, t⟩
theorem Iq : Arms P ops n ys w0 a0 i [] := trivial
theorem ysV {w : World} (hy : ys[i]? = some (yV v)) (e : v2 = v) : Ys ys i v2 w := by unfold Ys; rw [hy]; exact e
theorem iT {w : World} (h : Ys ys i v2 w) (hy : ys[i]? = some (yV v)) : v2 = v := by unfold Ys at h; rw [hy] at h; exact h
theorem fsV (hy : ys[i]? = some (yV v)) : Fs ys i = false := by unfold Fs; rw [hy]; rfl
theorem wn (h : o.guard = none) : ∀ a w, iu ops ys o a w → Region.wanted o (yielded ops a.tmps) = true := fun _ _ _ => aC h
theorem wg {j : Nat} {b : Bool} (h : o.guard = some (j, b)) (hy : ys[j]? = some (yV (.bool b))) (ha : (o.after.toList.any fun e => Region.binds .any e && e.on == j) = true) : ∀ a w, iu ops ys o a w → Region.wanted o (yielded ops a.tmps) = true := fun _ _ d => jP h (iT (vK d j ha) hy)
theorem Jc (hw : ∀ a w, iu ops ys o a w → Region.wanted o (yielded ops a.tmps) = true) (h : ∀ a w, Kept w0 w → BesideN ops n a0 a → iu ops ys o a w → (execOp a.eval o).run P w = .ok (.value v) w) (e : v = v2) (hy : ys[i]? = some (yV v2)) (t : Arms P ops n ys w0 a0 (i + 1) r) : Arms P ops n ys w0 a0 i (o :: r) :=
  ⟨fun a w k b d => jQ (hw a w d) (h a w k b d) (ysV hy e) (fsV hy), t⟩
theorem IV (hw : ∀ a w, iu ops ys o a w → Region.wanted o (yielded ops a.tmps) = true) (h : ∀ a w, Kept w0 w → BesideN ops n a0 a → iu ops ys o a w → (execOp a.eval o).run P w = .ok (.value v) w) (hy : ys[i]? = some (yV v)) (t : Arms P ops n ys w0 a0 (i + 1) r) : Arms P ops n ys w0 a0 i (o :: r) := Jc hw h rfl hy t
theorem Jd {b : Obj} (hw : ∀ a w, iu ops ys o a w → Region.wanted o (yielded ops a.tmps) = true) (h : ∀ a w, Kept w0 w → BesideN ops n a0 a → iu ops ys o a w → (execOp a.eval o).run P w = .ok (.value (.map (some w.heap.size))) (w.alloc b)) (hy : ys[i]? = some (Ii w0.heap.size b)) (t : Arms P ops n ys w0 a0 (i + 1) r) : Arms P ops n ys w0 a0 i (o :: r) :=
  ⟨fun a w k bs d => lU _ (hw a w d) (h a w k bs d) (by unfold Ys; rw [hy]; exact ⟨_, rfl, k.size, Go.heap_alloc_new _ _⟩) ((Kept.refl _).alloc _) rfl (Nat.le_refl _), t⟩
theorem Je {f : FuncId} {args : Array Value} (hw : ∀ a w, iu ops ys o a w → Region.wanted o (yielded ops a.tmps) = true) (h : ∀ a w, Kept w0 w → BesideN ops n a0 a → iu ops ys o a w → (execOp a.eval o).run P w = .ok (.enter f args) w) (c : ∀ a w, Kept w0 w → BesideN ops n a0 a → iu ops ys o a w → Calls P f args w fun e w' => e = .returned v ∧ Kept w w') (e : v = v2) (hy : ys[i]? = some (yV v2)) (t : Arms P ops n ys w0 a0 (i + 1) r) : Arms P ops n ys w0 a0 i (o :: r) :=
  ⟨fun a w k b d => eh (hw a w d) (h a w k b d) ((c a w k b d).mono fun _ _ ⟨he, hk⟩ => ⟨_, he, ysV hy e, hk⟩) (fsV hy), t⟩
theorem Jf {f : FuncId} {args : Array Value} (hw : ∀ a w, iu ops ys o a w → Region.wanted o (yielded ops a.tmps) = true) (h : ∀ a w, Kept w0 w → BesideN ops n a0 a → iu ops ys o a w → (execOp a.eval o).run P w = .ok (.enter f args) w) (c : ∀ a w, Kept w0 w → BesideN ops n a0 a → iu ops ys o a w → Calls P f args w fun e w' => e = .returned v ∧ Kept w w') (hy : ys[i]? = some (yV v)) (t : Arms P ops n ys w0 a0 (i + 1) r) : Arms P ops n ys w0 a0 i (o :: r) := Je hw h c rfl hy t
theorem yo {f : FuncId} {args : Array Value} {w : World} (c : Calls P f args w fun e w' => e = .returned v ∧ ∃ n, w' = w.drewN n) : Calls P f args w fun e w' => e = .returned v ∧ Kept w w' := c.mono fun _ _ ⟨he, k, e⟩ => ⟨he, e ▸ Kept.of_drewN k⟩
variable {a : Act} {w : World} {t : Nat}
theorem gI {j : Nat} (ht : (ops[j]?).bind (·.dst) = some t) : At ops a j = a.eval (.tmp t) := by unfold At; rw [ht]; rfl
theorem dep (hd : iu ops ys o a w) (j : Nat) (ha : (o.after.toList.any fun e => Region.binds .any e && e.on == j) = true) (hy : ys[j]? = some (yV v)) (ht : (ops[j]?).bind (·.dst) = some t) : a.eval (.tmp t) = v := (gI ht).symm.trans (iT (vK hd j ha) hy)
theorem got (hv : ∀ j, j < n → Ys ys j (At ops a j) w) (j : Nat) (hj : Nat.blt j n = true) (hy : ys[j]? = some (yV v)) (ht : (ops[j]?).bind (·.dst) = some t) : a.eval (.tmp t) = v := (gI ht).symm.trans (iT (hv j (Nat.le_of_ble_eq_true hj)) hy)
theorem IW {y : Yield} (hv : ∀ j, j < n → Ys ys j (At ops a j) w) (j : Nat) (hj : Nat.blt j n = true) (hy : ys[j]? = some y) (ht : (ops[j]?).bind (·.dst) = some t) : y.p (a.eval (.tmp t)) w := by
  have := hv j (Nat.le_of_ble_eq_true hj); unfold Ys at this; rw [hy, gI ht] at this; exact this
theorem Jg {b : Obj} {s : Nat} (hv : ∀ j, j < n → Ys ys j (At ops a j) w) (j : Nat) (hj : Nat.blt j n = true) (hy : ys[j]? = some (Ii s b)) (ht : (ops[j]?).bind (·.dst) = some t) : ∃ g, a.eval (.tmp t) = .map (some g) ∧ s ≤ g ∧ w.heap[g]? = some b := IW hv j hj hy ht
end
theorem aft {w0 wr w : World} {H : List Th} {ops : Array Oper} {n N : Nat} {a0 a : Act} (hk : Kept wr w) (bs : BesideN ops n a0 a) (z : a0.tmps.size = N) (q : a0.defers = []) (ow : Own w0 H wr) : a.tmps.size = N ∧ a.defers = [] ∧ Own w0 H w := ⟨bs.size.trans z, bs.defers.trans q, ow.keep hk⟩
theorem jv : Tryz.prog.follows .mixedOrders = true := by kernel_rfl
theorem rgn {id : Nat} {l : List Oper} {draw : Bool} (ys : List Yield) (n N : Nat) {Q : Exit → Act → World → Prop} {w0 : World} {a0 : Act} (hs : a0.tmps.size = N) (hB : eO l.toArray n N = true) (hT : (!draw || mV l.toArray n) = true)
    (arms : Arms Tryz.prog l.toArray n ys w0 a0 0 (l.take n))
    (fin : ∀ a w, Kept w0 w → BesideN l.toArray n a0 a → (∀ j, j < n → Ys ys j (At l.toArray a j) w) → (∀ j k, j < n → k < n → j ≠ k → Fs ys j = true → Fs ys k = true → eP (At l.toArray a j) ≠ eP (At l.toArray a k)) → wpList Tryz.prog l.toArray Q (l.drop n) a w) :
    (Code.region id l.toArray draw).wp Tryz.prog Q a0 w0 :=
  xZ ys n N jv hs hB hT (fun i o ho hi a w k b d => by
    have h := arms.get (l.take n) 0 i o (by rw [List.getElem?_take_of_lt hi]; simpa using ho) a w k b d
    rwa [Nat.zero_add] at h) fin
section
variable {ops : Array Oper} {n i : Nat} {ys : List Yield} {w0 : World} {a0 : Act} {o : Oper} {r : List Oper} {v : Value} {t : Nat}
end
section
variable {ops : Array Oper} {Q : Exit → Act → World → Prop} {a : Act} {w : World}
theorem bj {t : Nat} {v : Value} (q : a.defers = []) : (a.put (some t) v).defers = [] := q
theorem pb (t : Nat) {u : Nat} {v x : Value} (e : a.eval (.tmp u) = x) (h : (t == u) = false) : (a.put (some t) v).eval (.tmp u) = x := Dm h e
theorem bQ {t N : Nat} {v : Value} (hs : a.tmps.size = N) (h : Nat.blt t N = true) : (a.put (some t) v).eval (.tmp t) = v := Gj (by rw [hs]; exact Nat.le_of_ble_eq_true h)
theorem yr {K : Act → World → Prop} (h : K a w) : wpList Tryz.prog ops (Exit.then K Q) [] a w := h
theorem ub {rest : List Oper} {o : Oper} {w0 : World} {H : List Th} (ow : Own w0 H w) (k off : Nat) {g : Nat} {cs : Array Value} {t T : TypeId} {x y : Operand} {v : Value} (hw : Region.wanted o (yielded ops a.tmps) = true) (hn : o.dst = none) (ho : o.op = .store T x y) (hx : a.eval x = .pointer (some ⟨g, off, none⟩)) (hy : a.eval y = v) (hs : (sizeOf T).run Tryz.prog w = .ok v.cells.size w) (e : H[k]? = some (Th.obj g (.cells cs t (0, 0)))) (h1 : (v.cells.toList.all fun v => v.oneCell') = true) (hb : Nat.ble (off + v.cells.toList.length) cs.size = true)
    (c : ∀ w', Own w0 (H.set k (Th.obj g (.cells (bT cs off v.cells.toList) t (0, 0)))) w' → wpList Tryz.prog ops Q rest a w') : wpList Tryz.prog ops Q (o :: rest) a w :=
  lV hw hn (fT ho hx hy hs (ow.box k e) h1 (Nat.le_of_ble_eq_true hb)) (c _ (ow.put k e off _))
theorem ct {rest : List Oper} {o : Oper} {w0 : World} {H : List Th} {b : Obj} (ow : Own w0 H w) (hw : Region.wanted o (yielded ops a.tmps) = true) (hr : (execOp a.eval o).run Tryz.prog w = .ok (.value (.pointer (some ⟨w.heap.size, 0, none⟩))) (w.alloc b)) (c : ∀ g w', Own w0 (Th.obj g b :: H) w' → wpList Tryz.prog ops Q rest (a.put o.dst (.pointer (some ⟨g, 0, none⟩))) w') : wpList Tryz.prog ops Q (o :: rest) a w :=
  js hw hr (c _ _ (ow.add (t := Th.obj w.heap.size b) (Go.heap_alloc_new _ _) ((Kept.refl _).alloc _) (fun g e => by cases e; exact Nat.le_refl _)))
theorem aN (h : Q .normal a w) : wpList Tryz.prog ops Q [] a w := h
end
theorem sv {P : Program} {a : Act} {w : World} {fn : Func} {r : ResultVar} {v : Value} (h : fn.results = #[r]) (hr : (fh a r).run P w = .ok v w) {R : Ending → World → Prop} (hd : a.defers = []) (hR : R (.returned v) w) : bodyPost P fn R .ret a w := ac (l := [r]) h (.cons hr .nil) rfl hd hR
/-! more on the memory of the call's own -/
theorem Own.sub {w0 w : World} {H H' : List Th} (h : Own w0 H w) (s : H'.Sublist H) : Own w0 H' w := ⟨h.kept, fun t ht => h.has t (s.subset ht), fun t ht => h.old t (s.subset ht), h.apart.sublist s⟩
theorem Own.join {w0 w w' : World} {H H' : List Th} (h : Own w0 H w) (k : Own w H' w') : Own w0 (H' ++ H) w' := by
  refine ⟨h.kept.trans k.kept, fun t ht => ?_, fun t ht g hg => ?_, ?_⟩
  · rcases List.mem_append.1 ht with x | x
    · exact k.has t x
    · exact (h.keep k.kept).has t x
  · rcases List.mem_append.1 ht with x | x
    · exact Nat.le_trans h.kept.size (k.old t x g hg)
    · exact h.old t x g hg
  · refine List.pairwise_append.2 ⟨k.apart, h.apart, fun s hs t ht g hg c => ?_⟩
    have h1 := k.old s hs g hg; have h2 := t.ins w (h.has t ht) g c
    omega
theorem bV {w : World} {base n size : Nat} {e : TypeId} {v : Value} {l : List Value} (h : w.ownsRow base e size v n l) : ∃ A c, v = .slice A n c := by
  rcases h.2 with ⟨rfl, h0⟩ | ⟨g, cap, cur, rfl, _⟩
  · exact ⟨none, 0, by rw [h0]⟩
  · exact ⟨_, _, rfl⟩
theorem RowC.of_own {w : World} {base n c : Nat} {e : TypeId} {A : Option Addr} {l : List Value} (h : w.ownsRow base e 1 (.slice A n c) l.length l) : RowC w A l ∧ l.length ≤ c ∧ n = l.length := by
  obtain ⟨A', c', e', r, hc⟩ := RowC.of_row h
  cases e'
  exact ⟨r, hc, rfl⟩
theorem RowC.some {w : World} {A : Option Addr} {l : List Value} (h : RowC w A l) (h0 : 0 < l.length) : ∃ b off, A = .some ⟨b, off, none⟩ := by
  obtain ⟨b, off, e, _⟩ := h 0 h0; exact ⟨b, off, e⟩
/-! the frame and the world become letters, with what is known of them -/
section
variable {ops : Array Oper} {rest : List Oper} {Q : Exit → Act → World → Prop} {a : Act} {w w0 : World} {H : List Th} {N : Nat}
theorem gt6 (z : a.tmps.size = N) (q : a.defers = []) (o : Own w0 H w) (t0 : Nat) {v0 : Value} (s0 : a.eval (.tmp t0) = v0) (t1 : Nat) {v1 : Value} (s1 : a.eval (.tmp t1) = v1) (t2 : Nat) {v2 : Value} (s2 : a.eval (.tmp t2) = v2) (t3 : Nat) {v3 : Value} (s3 : a.eval (.tmp t3) = v3) (t4 : Nat) {v4 : Value} (s4 : a.eval (.tmp t4) = v4) (t5 : Nat) {v5 : Value} (s5 : a.eval (.tmp t5) = v5) (h : ∀ (a : Act) (w : World), a.tmps.size = N → a.defers = [] → Own w0 H w → a.eval (.tmp t0) = v0 → a.eval (.tmp t1) = v1 → a.eval (.tmp t2) = v2 → a.eval (.tmp t3) = v3 → a.eval (.tmp t4) = v4 → a.eval (.tmp t5) = v5 → wpList Tryz.prog ops Q rest a w) : wpList Tryz.prog ops Q rest a w := h a w z q o s0 s1 s2 s3 s4 s5
end
theorem ws {ops : Array Oper} {Q : Exit → Act → World → Prop} {a : Act} {w : World} {rest : List Oper} {o : Oper} {w0 : World} {H : List Th} (ow : Own w0 H w) (k off : Nat) {g : Nat} {cs : Array Value} {t T : TypeId} {x y : Operand} {v : Value} (hx : a.eval x = .pointer (some ⟨g, off, none⟩)) (hy : a.eval y = v) (c : ∀ u, Own w0 (H.set k (Th.obj g (.cells (bT cs off v.cells.toList) t (0, 0)))) u → wpList Tryz.prog ops Q rest a u) (hg : o.guard = none := by rfl) (hn : o.dst = none := by rfl) (ho : o.op = .store T x y := by rfl) (hs : (sizeOf T).run Tryz.prog w = .ok v.cells.size w := by kernel_rfl) (e : H[k]? = some (Th.obj g (.cells cs t (0, 0))) := by rfl) (h1 : (v.cells.toList.all fun v => v.oneCell') = true := by rfl) (hb : Nat.ble (off + v.cells.toList.length) cs.size = true := by rfl) : wpList Tryz.prog ops Q (o :: rest) a w := ub ow k off (aC hg) hn ho hx hy hs e h1 hb c
theorem aS {P : Program} {ops : Array Oper} {n i : Nat} {ys : List Yield} {w0 : World} {a0 : Act} {o : Oper} {r : List Oper} {v : Value} (h : ∀ {a w}, Kept w0 w → BesideN ops n a0 a → iu ops ys o a w → (execOp a.eval o).run P w = .ok (.value v) w) (hy : ys[i]? = some (yV v)) (t : Arms P ops n ys w0 a0 (i + 1) r) (hg : o.guard = none := by rfl) : Arms P ops n ys w0 a0 i (o :: r) := IV (wn hg) (fun _ _ x y z => h x y z) hy t
theorem dp {ops : Array Oper} {ys : List Yield} {o : Oper} {a : Act} {w : World} {v : Value} {t : Nat} (hd : iu ops ys o a w) (j : Nat) (hy : ys[j]? = some (yV v)) (ha : (o.after.toList.any fun e => Region.binds .any e && e.on == j) = true := by rfl) (ht : (ops[j]?).bind (·.dst) = some t := by rfl) : a.eval (.tmp t) = v := dep hd j ha hy ht
theorem gv {ops : Array Oper} {n : Nat} {ys : List Yield} {a : Act} {w : World} {v : Value} {t : Nat} (hv : ∀ j, j < n → Ys ys j (At ops a j) w) (j : Nat) (hy : ys[j]? = some (yV v)) (ht : (ops[j]?).bind (·.dst) = some t) (hj : Nat.blt j n = true := by rfl) : a.eval (.tmp t) = v := got hv j hj hy ht
theorem wt {ops : Array Oper} {Q : Exit → Act → World → Prop} {a : Act} {w : World} {K : Act → World → Prop} {c : Act → World → Prop} (k : ∀ a w, c a w → K a w) (h : c a w) : wpList Tryz.prog ops (Exit.then K Q) [] a w := yr (k a w h)
theorem tn {Q : Exit → Act → World → Prop} {a : Act} {w : World} {K : Act → World → Prop} {c : Act → World → Prop} (k : ∀ a w, c a w → K a w) (h : c a w) : Exit.then K Q .normal a w := bg (k a w h)
theorem sq {P : Program} {Q : Exit → Act → World → Prop} {a : Act} {w : World} {x y : Code} (h : ∀ {K : Act → World → Prop}, (∀ a w, y.wp P Q a w → K a w) → x.wp P (Exit.then K Q) a w) : (Code.seq x y).wp P Q a w := wp_seq_k fun K hK => h hK
theorem b2 {ops : Array Oper} {n : Nat} {a0 a : Act} (b : BesideN ops n a0 a) {t0 : Nat} {v0 : Value} (e0 : a0.eval (.tmp t0) = v0) {t1 : Nat} {v1 : Value} (e1 : a0.eval (.tmp t1) = v1) (h0 : cq ops n t0 = false := by rfl) (h1 : cq ops n t1 = false := by rfl) : a.eval (.tmp t0) = v0 ∧ a.eval (.tmp t1) = v1 := ⟨b.get t0 h0 e0, b.get t1 h1 e1⟩
theorem b3 {ops : Array Oper} {n : Nat} {a0 a : Act} (b : BesideN ops n a0 a) {t0 : Nat} {v0 : Value} (e0 : a0.eval (.tmp t0) = v0) {t1 : Nat} {v1 : Value} (e1 : a0.eval (.tmp t1) = v1) {t2 : Nat} {v2 : Value} (e2 : a0.eval (.tmp t2) = v2) (h0 : cq ops n t0 = false := by rfl) (h1 : cq ops n t1 = false := by rfl) (h2 : cq ops n t2 = false := by rfl) : a.eval (.tmp t0) = v0 ∧ a.eval (.tmp t1) = v1 ∧ a.eval (.tmp t2) = v2 := ⟨b.get t0 h0 e0, b.get t1 h1 e1, b.get t2 h2 e2⟩
theorem b4 {ops : Array Oper} {n : Nat} {a0 a : Act} (b : BesideN ops n a0 a) {t0 : Nat} {v0 : Value} (e0 : a0.eval (.tmp t0) = v0) {t1 : Nat} {v1 : Value} (e1 : a0.eval (.tmp t1) = v1) {t2 : Nat} {v2 : Value} (e2 : a0.eval (.tmp t2) = v2) {t3 : Nat} {v3 : Value} (e3 : a0.eval (.tmp t3) = v3) (h0 : cq ops n t0 = false := by rfl) (h1 : cq ops n t1 = false := by rfl) (h2 : cq ops n t2 = false := by rfl) (h3 : cq ops n t3 = false := by rfl) : a.eval (.tmp t0) = v0 ∧ a.eval (.tmp t1) = v1 ∧ a.eval (.tmp t2) = v2 ∧ a.eval (.tmp t3) = v3 := ⟨b.get t0 h0 e0, b.get t1 h1 e1, b.get t2 h2 e2, b.get t3 h3 e3⟩
theorem gp7 {ops : Array Oper} {rest : List Oper} {Q : Exit → Act → World → Prop} {a : Act} {w w0 : World} {H : List Th} {N T : Nat} {v : Value} (z : a.tmps.size = N) (q : a.defers = []) (o : Own w0 H w) {t0 : Nat} {v0 : Value} (s0 : a.eval (.tmp t0) = v0) {t1 : Nat} {v1 : Value} (s1 : a.eval (.tmp t1) = v1) {t2 : Nat} {v2 : Value} (s2 : a.eval (.tmp t2) = v2) {t3 : Nat} {v3 : Value} (s3 : a.eval (.tmp t3) = v3) {t4 : Nat} {v4 : Value} (s4 : a.eval (.tmp t4) = v4) {t5 : Nat} {v5 : Value} (s5 : a.eval (.tmp t5) = v5) {t6 : Nat} {v6 : Value} (s6 : a.eval (.tmp t6) = v6) (h : ∀ (a : Act) (w : World), a.tmps.size = N → a.defers = [] → Own w0 H w → a.eval (.tmp t0) = v0 → a.eval (.tmp t1) = v1 → a.eval (.tmp t2) = v2 → a.eval (.tmp t3) = v3 → a.eval (.tmp t4) = v4 → a.eval (.tmp t5) = v5 → a.eval (.tmp t6) = v6 → a.eval (.tmp T) = v → wpList Tryz.prog ops Q rest a w) (hT : Nat.blt T N = true := by rfl) (h0 : (T == t0) = false := by rfl) (h1 : (T == t1) = false := by rfl) (h2 : (T == t2) = false := by rfl) (h3 : (T == t3) = false := by rfl) (h4 : (T == t4) = false := by rfl) (h5 : (T == t5) = false := by rfl) (h6 : (T == t6) = false := by rfl) : wpList Tryz.prog ops Q rest (a.put (some T) v) w := h _ _ (ah z) (bj q) o (pb T s0 h0) (pb T s1 h1) (pb T s2 h2) (pb T s3 h3) (pb T s4 h4) (pb T s5 h5) (pb T s6 h6) (bQ z hT)
end

section
open Go.RowKit
section
variable {a : Act} {w : World} {o : Oper}
theorem Gp {T T2 : TypeId} (hT : T = 3 ∨ T = 2) {x y : Operand} (ho : o.op = .binOp .rem T x y T2) {n m : Int} (hx : a.eval x = .int .i64 n) (hy : a.eval y = .int .i64 m) (h0 : m ≠ 0) (h1 : -9223372036854775808 ≤ n) (h2 : n ≤ 9223372036854775807) : (execOp a.eval o).run Tryz.prog w = .ok (.value (.int .i64 (Int.tmod n m))) w := by
  have e : (m == 0) = false := by rw [beq_eq_false_iff_ne]; exact h0
  have e2 : IntKind.i64.wrap (Int.tmod n m) = Int.tmod n m := IntWalk.i64_in _ (by
    have := sr n m
    omega)
  unfold execOp; rw [ho]
  simp only [hx, hy]
  rcases hT with rfl | rfl <;> (go_simp; try exact e2)
theorem Jh {T2 : TypeId} {x y : Operand} (ho : o.op = .binOp .neq 4 x y T2) {b d : Bool} (hx : a.eval x = .bool b) (hy : a.eval y = .bool d) : (execOp a.eval o).run Tryz.prog w = .ok (.value (.bool (b != d))) w := by
  unfold execOp; rw [ho]
  simp only [hx, hy]
  cases b <;> cases d <;> go_simp
theorem Ji {T2 : TypeId} {x y : Operand} (ho : o.op = .binOp .eql 4 x y T2) {b d : Bool} (hx : a.eval x = .bool b) (hy : a.eval y = .bool d) : (execOp a.eval o).run Tryz.prog w = .ok (.value (.bool (b == d))) w := by
  unfold execOp; rw [ho]
  simp only [hx, hy]
  cases b <;> cases d <;> go_simp
end
theorem Gq {P : Program} {c : Code} {Q : Exit → Act → World → Prop} {n : Nat} {a : Act} {w : World} (h : c.wp P (Exit.then (Code.rounds P c Q n) Q) a w) : Code.rounds P c Q (n + 1) a w := h
theorem Own.perm {w0 w : World} {H H' : List Th} (p : H.Perm H') (h : Own w0 H w) : Own w0 H' w :=
  ⟨h.kept, fun t ht => h.has t (p.mem_iff.2 ht), fun t ht => h.old t (p.mem_iff.2 ht), h.apart.perm p (fun {s t} x g e c => x g c e)⟩
end

section
open Go.RowKit
section
variable {P : Program} {ops : Array Oper} {n : Nat} {ys : List Yield} {w0 : World} {a0 : Act} {i : Nat} {o : Oper} {r : List Oper} {v v2 : Value} {c : Prop}
def Gd (ops : Array Oper) (ys : List Yield) (o : Oper) (c : Prop) : Prop := ∀ a w, iu ops ys o a w → (c → Region.wanted o (yielded ops a.tmps) = true) ∧ (¬ c → Region.wanted o (yielded ops a.tmps) = false)
theorem ysI {y : Yield} {j : Nat} {v : Value} {w : World} (hy : ys[j]? = some (yIf c y)) (h : Ys ys j v w) : (c → y.p v w) ∧ (¬ c → v = undef) := by
  unfold Ys at h; rw [hy] at h; exact h
theorem Ds {b b' : Bool} (h : ¬ b' = b) : (b == b') = false := by cases b <;> cases b' <;> simp at h ⊢
theorem g1 (j : Nat) {b b' : Bool} (h : o.guard = some (j, b)) (hy : ys[j]? = some (yV (.bool b'))) (ha : (o.after.toList.any fun e => Region.binds .any e && e.on == j) = true := by rfl) : Gd ops ys o (b' = b) := fun a w d =>
  ⟨fun e => jP h (e ▸ iT (vK d j ha) hy), fun e => ou h (iT (vK d j ha) hy) (Ds e)⟩
theorem g2 (j : Nat) {b b' : Bool} (h : o.guard = some (j, b)) (hy : ys[j]? = some (yIf c (yV (.bool b')))) (ha : (o.after.toList.any fun e => Region.binds .any e && e.on == j) = true := by rfl) : Gd ops ys o (c ∧ b' = b) := fun a w d => by
  obtain ⟨h1, h2⟩ := ysI hy (vK d j ha); refine ⟨fun e => jP h (e.2 ▸ h1 e.1), fun e => ?_⟩
  by_cases hc : c
  · exact ou h (h1 hc) (Ds fun x => e ⟨hc, x⟩)
  · exact Gi h (h2 hc)
theorem g3 (j : Nat) {b : Bool} (h : o.guard = some (j, b)) (hy : ys[j]? = some (yIf c (yV (.bool b)))) (ha : (o.after.toList.any fun e => Region.binds .any e && e.on == j) = true := by rfl) : Gd ops ys o c := fun a w d => by
  obtain ⟨h1, h2⟩ := ysI hy (vK d j ha); exact ⟨fun e => jP h (h1 e), fun e => Gi h (h2 e)⟩
theorem di {a : Act} {w : World} {t : Nat} (hd : iu ops ys o a w) (j : Nat) (hy : ys[j]? = some (yIf c (yV v))) (hc : c) (ha : (o.after.toList.any fun e => Region.binds .any e && e.on == j) = true := by rfl) (ht : (ops[j]?).bind (·.dst) = some t := by rfl) : a.eval (.tmp t) = v := (gI ht).symm.trans ((ysI hy (vK hd j ha)).1 hc)
theorem Gr {w : World} (hy : ys[i]? = some (yIf c (yV v2))) (hc : c) (e : v = v2) : Ys ys i v w := by
  unfold Ys; rw [hy]; exact ⟨fun _ => e, fun h => absurd hc h⟩
theorem Gs {w : World} (hy : ys[i]? = some (yIf c (yV v2))) (hc : ¬ c) : Ys ys i undef w := by
  unfold Ys; rw [hy]; exact ⟨fun h => absurd h hc, fun _ => rfl⟩
theorem BL (hy : ys[i]? = some (yIf c (yV v2))) : Fs ys i = false := by
  unfold Fs; rw [hy]; rfl
end
end

section
open Go.RowKit
structure Sto where
  i : Nat
  j : Nat
  tj : Nat
  t : TypeId
  cs : Array Value
  vs : List Value
def Sto.old (s : Sto) : Obj := .cells s.cs s.t (0, 0)
def Sto.new (s : Sto) : Obj := .cells (bT s.cs 0 s.vs) s.t (0, 0)
def Jj (base : Nat) : Yield := ⟨fun v w => ∃ g, v = .pointer (some ⟨g, 0, none⟩) ∧ base ≤ g ∧ g < w.heap.size, fun _ _ _ ⟨g, e, hb, hh⟩ k => ⟨g, e, hb, Nat.lt_of_lt_of_le hh k.size⟩, true, fun _ _ _ ⟨g, e, _, hh⟩ => ⟨g, by rw [e]; rfl, hh⟩⟩
def Ir (y : Yield) : Prop := ∀ v w w', w.heap.size ≤ w'.heap.size → y.p v w → y.p v w'
def yv (ys : List Yield) : Prop := ∀ y ∈ ys, Ir y
theorem Ys.lasts {ys : List Yield} (h : yv ys) {j : Nat} {v : Value} {w w' : World} (k : w.heap.size ≤ w'.heap.size) (q : Ys ys j v w) : Ys ys j v w' := by
  unfold Ys at q ⊢
  cases e : ys[j]? with
  | none => trivial
  | some y => rw [e] at q; exact h y (List.mem_of_getElem? e) v w w' k q
theorem jw {a w : World} {g : Nat} (hg : a.heap.size ≤ g) : ∀ (vs : List Value) (i : Nat) (w : World), Kept a w → Kept a (bU w g i vs)
  | [], _, _, h => h
  | v :: r, i, w, h => jw (w := w) hg r (i + 1) _ (h.setCell (p := ⟨g, i, none⟩) hg v)
theorem jx {g : Nat} : ∀ (vs : List Value) (i : Nat) (w : World), (bU w g i vs).heap.size = w.heap.size
  | [], _, _ => rfl
  | v :: r, i, w => by
    show (bU (w.setCell ⟨g, i, none⟩ v) g (i + 1) r).heap.size = _; rw [jx r (i + 1), World.size_setCell]
theorem kH {g h : Nat} (ne : h ≠ g) : ∀ (vs : List Value) (i : Nat) (w : World), (bU w g i vs).heap[h]? = w.heap[h]?
  | [], _, _ => rfl
  | v :: r, i, w => by
    show (bU (w.setCell ⟨g, i, none⟩ v) g (i + 1) r).heap[h]? = _; rw [kH ne r (i + 1)]; exact Below.heap_setCell w ⟨g, i, none⟩ v h ne
theorem kI {g : Nat} {t : TypeId} : ∀ (vs : List Value) (i : Nat) (w : World) (cs : Array Value), Box w g t cs → Box (bU w g i vs) g t (bT cs i vs)
  | [], _, _, _, h => h
  | v :: r, i, w, cs, h => kI r (i + 1) _ _ (h.at_ i v)
theorem Ep {l : List Sto} (h : l.Pairwise fun s u => s.i ≠ u.i ∧ s.j ≠ u.j) : ∀ s ∈ l, ∀ u ∈ l, (s.i = u.i ∨ s.j = u.j) → s = u := by
  induction h with
  | nil => intro s hs; cases hs
  | cons hx _ ih =>
    intro s hs u hu c; rcases List.mem_cons.1 hs with rfl | hs1
    · rcases List.mem_cons.1 hu with rfl | hu1
      · rfl
      · have := hx u hu1
        rcases c with c | c
        · exact absurd c this.1
        · exact absurd c this.2
    · rcases List.mem_cons.1 hu with rfl | hu1
      · have := hx s hs1
        rcases c with c | c
        · exact absurd c.symm this.1
        · exact absurd c.symm this.2
      · exact ih s hs1 u hu1 c
def qq (ops : Array Oper) (N : Nat) : Bool :=
  Dn ops && (List.range ops.size).all fun i => match (ops[i]?).bind (·.dst) with
    | none => true
    | some t => decide (t < N) && (List.range ops.size).all fun j => Nat.beq j i || !(((ops[j]?).bind (·.dst)) == some t)
section
variable {P : Program} {ops : Array Oper}
structure InvF9 (ops : Array Oper) (ys : List Yield) (sto : List Sto) (w0 : World) (a0 : Act) (done : Array Bool) (a : Act) (w : World) : Prop where
  len : done.size = ops.size
  kept : Kept w0 w
  beside : BesideN ops ops.size a0 a
  vals : ∀ j, done.getD j false = true → Ys ys j (At ops a j) w
  apart : ∀ j k, j ≠ k → Fs ys j = true → Fs ys k = true → done.getD j false = true → done.getD k false = true → eP (At ops a j) ≠ eP (At ops a k)
  ord : ∀ s ∈ sto, done.getD s.i false = true → done.getD s.j false = true
  cont : ∀ s ∈ sto, done.getD s.j false = true → ∀ g, eP (At ops a s.j) = some g → w.heap[g]? = some (if done.getD s.i false = true then s.new else s.old)
def Dt (P : Program) (ops : Array Oper) (ys : List Yield) (sto : List Sto) (i : Nat) (o : Oper) (a : Act) (w : World) : Prop :=
  (gp P ops ys i o a w ∧ (o.dst.isSome && sto.all fun s => !Nat.beq s.i i && !Nat.beq s.j i) = true) ∨
  (∃ s ∈ sto, s.j = i ∧ Region.wanted o (yielded ops a.tmps) = true ∧ (execOp a.eval o).run P w = .ok (.value (.pointer (some ⟨w.heap.size, 0, none⟩))) (w.alloc s.old)) ∨
  (∃ s ∈ sto, s.i = i ∧ Region.wanted o (yielded ops a.tmps) = true ∧ ∀ g, a.eval (.tmp s.tj) = .pointer (some ⟨g, 0, none⟩) → Box w g s.t s.cs → (execOp a.eval o).run P w = .ok .skip (bU w g 0 s.vs))
theorem kj {done : Array Bool} {j : Nat} (h : done.getD j false = true) (i : Nat) : (done.setIfInBounds i true).getD j false = true := by
  by_cases e : i = j
  · subst e
    have : i < done.size := by
      rcases Nat.lt_or_ge i done.size with c | c
      · exact c
      · simp [Array.getD, Nat.not_lt.2 c] at h
    simp [Array.getD, this]
  · rw [getD_set_ne false e]; exact h
theorem BM {N : Nat} (hB : qq ops N = true) {i t : Nat} {o : Oper} (h : ops[i]? = some o) (hd : o.dst = some t) : t < N ∧ ∀ j q, j ≠ i → ops[j]? = some q → q.dst ≠ some t := by
  simp only [qq, Bool.and_eq_true, List.all_eq_true, List.mem_range] at hB
  have hi : i < ops.size := (Array.getElem?_eq_some_iff.1 h).1; have := hB.2 i hi; rw [h] at this
  simp only [Option.bind_some, hd, Bool.and_eq_true, decide_eq_true_eq, List.all_eq_true, List.mem_range, Bool.or_eq_true, Bool.not_eq_true', beq_eq_false_iff_ne, ne_eq] at this
  refine ⟨this.1, fun j q ne hq e => ?_⟩; have hj : j < ops.size := (Array.getElem?_eq_some_iff.1 hq).1; rcases this.2 j hj with c | c
  · exact ne (Nat.eq_of_beq_eq_true c)
  · rw [hq] at c
    exact c (by simpa using e)
theorem At.put_other {N i : Nat} {o : Oper} {a : Act} {v : Value} (hB : qq ops N = true) (h : ops[i]? = some o) {j : Nat} (ne : j ≠ i) : At ops (a.put o.dst v) j = At ops a j := by
  cases hd : o.dst with
  | none => rfl
  | some t =>
    unfold At
    cases hq : ops[j]? with
    | none => rfl
    | some q =>
      simp only [Option.bind_some]
      cases hu : q.dst with
      | none => rfl
      | some u =>
        simp only
        exact bi (fun e => (BM hB h hd).2 j q ne hq (by rw [hu, e]))
theorem BesideN.put' {i : Nat} {o : Oper} {a0 a : Act} {v : Value} (h : ops[i]? = some o) (b : BesideN ops ops.size a0 a) : BesideN ops ops.size a0 (a.put o.dst v) := by
  cases hd : o.dst with
  | none => exact b
  | some t =>
    have hi : i < ops.size := (Array.getElem?_eq_some_iff.1 h).1; refine ⟨b.defers, by simp only [Act.put, Array.size_setIfInBounds]; exact b.size, fun u hu => ?_⟩; rw [bi, b.same u hu]; rintro rfl
    have : cq ops ops.size t = true := by
      unfold cq; rw [List.any_eq_true]; exact ⟨i, List.mem_range.2 hi, by rw [h]; simp [hd]⟩
    rw [this] at hu; cases hu
theorem InvF9.put {ys : List Yield} {sto : List Sto} {N : Nat} {w0 w w' : World} {a0 a : Act} {done : Array Bool} (hB : qq ops N = true)
    (inv : InvF9 ops ys sto w0 a0 done a w) {i : Nat} {o : Oper} (h : ops[i]? = some o) {v : Value} (hu : done.getD i true = false) (hv : Ys ys i (At ops (a.put o.dst v) i) w') (k : Kept w w') (hf : Fs ys i = true → ∃ g, eP (At ops (a.put o.dst v) i) = some g ∧ w.heap.size ≤ g)
    (hc : ∀ s ∈ sto, s.j = i → ∀ g, eP (At ops (a.put o.dst v) i) = some g → done.getD s.i false = false ∧ w'.heap[g]? = some s.old) (hn : ∀ s ∈ sto, s.i ≠ i) (hp : ∀ s ∈ sto, Fs ys s.j = true) :
    InvF9 ops ys sto w0 a0 (done.setIfInBounds i true) (a.put o.dst v) w' := by
  have hi : i < ops.size := (Array.getElem?_eq_some_iff.1 h).1; have old : ∀ j, j ≠ i → (done.setIfInBounds i true).getD j false = true → done.getD j false = true := fun j ne hj => by rwa [getD_set_ne false (fun e => ne e.symm)] at hj
  have oth : ∀ j, j ≠ i → At ops (a.put o.dst v) j = At ops a j := fun j ne => At.put_other hB h ne; refine ⟨by rw [Array.size_setIfInBounds]; exact inv.len, inv.kept.trans k, inv.beside.put' h, fun j hd => ?_, fun j q ne fj fq dj dq => ?_, fun s hs hd => ?_, fun s hs hd g hg => ?_⟩
  · by_cases e : j = i
    · subst e; exact hv
    · rw [oth j e]; exact (inv.vals j (old j e hd)).stays k
  · by_cases ej : j = i
    · subst ej
      have eq : q ≠ j := fun e => ne e.symm; rw [oth q eq]; obtain ⟨g, hg, hge⟩ := hf fj; obtain ⟨g2, hg2, hlt⟩ := (inv.vals q (old q eq dq)).inside fq; rw [hg, hg2]; intro e
      cases e
      omega
    · by_cases eq : q = i
      · subst eq
        rw [oth j ej]; obtain ⟨g, hg, hge⟩ := hf fq; obtain ⟨g2, hg2, hlt⟩ := (inv.vals j (old j ej dj)).inside fj; rw [hg, hg2]; intro e
        cases e
        omega
      · rw [oth j ej, oth q eq]
        exact inv.apart j q ne fj fq (old j ej dj) (old q eq dq)
  · rw [getD_set_ne false (fun e => hn s hs e.symm)] at hd
    exact kj (inv.ord s hs hd) i
  · have ns : s.i ≠ i := hn s hs
    rw [getD_set_ne false (fun e => ns e.symm)]
    by_cases e : s.j = i
    · rw [e] at hg
      obtain ⟨h1, h2⟩ := hc s hs e g hg; rw [h1]; exact h2
    · rw [oth s.j e] at hg
      have := inv.cont s hs (old s.j e hd) g hg; obtain ⟨g2, hg2, hlt⟩ := (inv.vals s.j (old s.j e hd)).inside (hp s hs); rw [hg] at hg2
      cases hg2
      exact (k.block g hlt).trans this
theorem InvF9.store {ys : List Yield} {sto : List Sto} {N : Nat} {w0 w : World} {a0 a : Act} {done : Array Bool} (hB : qq ops N = true) (hP : sto.Pairwise fun s u => s.i ≠ u.i ∧ s.j ≠ u.j) (hl : yv ys) (hy : ∀ s ∈ sto, ys[s.j]? = some (Jj w0.heap.size)) (hyi : ∀ s ∈ sto, ys[s.i]? = some yNo)
    (inv : InvF9 ops ys sto w0 a0 done a w) {s : Sto} (hs : s ∈ sto) {o : Oper} (h : ops[s.i]? = some o) (hd : o.dst = none) (hu : done.getD s.i true = false) (hdj : done.getD s.j false = true) {g : Nat} (hg : At ops a s.j = .pointer (some ⟨g, 0, none⟩)) (v : Value) :
    InvF9 ops ys sto w0 a0 (done.setIfInBounds s.i true) (a.put o.dst v) (bU w g 0 s.vs) := by
  have hi : s.i < ops.size := (Array.getElem?_eq_some_iff.1 h).1; have ea : a.put o.dst v = a := by rw [hd]; rfl
  rw [ea]; have old : ∀ j, j ≠ s.i → (done.setIfInBounds s.i true).getD j false = true → done.getD j false = true := fun j ne hj => by rwa [getD_set_ne false (fun e => ne e.symm)] at hj
  have fj : ∀ u ∈ sto, Fs ys u.j = true := fun u hu => by unfold Fs; rw [hy u hu]; rfl
  have fi : Fs ys s.i = false := by unfold Fs; rw [hyi s hs]; rfl
  have ne_of : ∀ j, Fs ys j = true → j ≠ s.i := fun j f e => by rw [e, fi] at f; cases f
  have gb : w0.heap.size ≤ g := by
    have := inv.vals s.j hdj; unfold Ys at this; rw [hy s hs, hg] at this; obtain ⟨g', e, hb, _⟩ := this
    cases e
    exact hb
  refine ⟨by rw [Array.size_setIfInBounds]; exact inv.len, jw (w := w) gb _ _ _ inv.kept, inv.beside, fun j hd => ?_, fun j q ne fj' fq' dj dq => inv.apart j q ne fj' fq' (old j (ne_of j fj') dj) (old q (ne_of q fq') dq), fun u hu' hd => ?_, fun u hu' hd g2 hg2 => ?_⟩
  · by_cases e : j = s.i
    · subst e
      unfold Ys; rw [hyi s hs]
      trivial
    · exact (inv.vals j (old j e hd)).lasts hl (by rw [jx]; exact Nat.le_refl _)
  · by_cases e : u = s
    · subst e; exact kj hdj _
    · exact kj (inv.ord u hu' (old u.i (fun c => e (Ep hP u hu' s hs (Or.inl c))) hd)) _
  · have old1 := old u.j (ne_of u.j (fj u hu')) hd
    by_cases e : u = s
    · subst e
      rw [hg] at hg2
      cases hg2
      have is_ : (done.setIfInBounds u.i true).getD u.i false = true := by
        have : u.i < done.size := by rw [inv.len]; exact hi
        simp [Array.getD, this]
      rw [if_pos is_]; have c := inv.cont u hs hdj g (by rw [hg]; rfl); rw [if_neg (by rw [getD_both hu]; simp)] at c; exact kI u.vs 0 w u.cs c
    · have nj : u.j ≠ s.j := fun c => e (Ep hP u hu' s hs (Or.inr c))
      have ni : u.i ≠ s.i := fun c => e (Ep hP u hu' s hs (Or.inl c))
      have gne : g2 ≠ g := fun c => by
        have := inv.apart u.j s.j nj (fj u hu') (fj s hs) old1 hdj; rw [hg2, hg, c] at this; exact this rfl
      rw [kH gne, getD_set_ne false (fun c => ni c.symm)]; exact inv.cont u hu' old1 g2 hg2
def AllS (p : Sto → Prop) : List Sto → Prop
  | [] => True
  | s :: l => p s ∧ AllS p l
theorem AllS.out {p : Sto → Prop} : ∀ {l : List Sto}, AllS p l → ∀ s ∈ l, p s
  | [], _, s, h => by cases h
  | x :: l, h, s, hs => by
    rcases List.mem_cons.1 hs with rfl | c
    · exact h.1
    · exact AllS.out h.2 s c
def ArmsF (P : Program) (ops : Array Oper) (ys : List Yield) (sto : List Sto) (w0 : World) (a0 : Act) : Nat → List Oper → Prop
  | _, [] => True
  | i, o :: r => (∀ a w, Kept w0 w → BesideN ops ops.size a0 a → iu ops ys o a w → Dt P ops ys sto i o a w) ∧ ArmsF P ops ys sto w0 a0 (i + 1) r
theorem ArmsF.get {ys : List Yield} {sto : List Sto} {w0 : World} {a0 : Act} : ∀ (l : List Oper) (i : Nat), ArmsF P ops ys sto w0 a0 i l → ∀ (k : Nat) (o : Oper), l[k]? = some o → ∀ a w, Kept w0 w → BesideN ops ops.size a0 a → iu ops ys o a w → Dt P ops ys sto (i + k) o a w
  | [], _, _, k, o, h => by simp at h
  | x :: l, i, hA, 0, o, h => by simp at h; subst h; exact hA.1
  | x :: l, i, hA, k + 1, o, h => by
    have := ArmsF.get l (i + 1) hA.2 k o (by simpa using h)
    rwa [show i + 1 + k = i + (k + 1) by omega] at this
variable {ys : List Yield} {sto : List Sto} {w0 : World} {a0 : Act} {i : Nat} {o : Oper} {r : List Oper}
end
end

section
open Go.RowKit Lv
end

namespace Lv
open Go
def It (t : List UInt8) : Vl := if 256 < t.length then aG 2 else ⟨3, 0, t⟩
end Lv

namespace Lv
open Go
def up : List Int → Int
  | [] => 0
  | a :: l => (if a < 0 then 0 else a) + up l
def dC : List Int → Int
  | [] => 0
  | a :: l => (if a < 0 then -a else 0) + dC l
def aW : List Int → Int
  | [] => 0
  | a :: l => a + aW l
def All64 (l : List Int) : Prop := ∀ a ∈ l, i64 a
theorem yw (l m : List Int) : up (l ++ m) = up l + up m := by
  induction l with
  | nil => simp [up]
  | cons a l ih => simp only [List.cons_append, up, ih]; omega
theorem sw (l m : List Int) : dC (l ++ m) = dC l + dC m := by
  induction l with
  | nil => simp [dC]
  | cons a l ih => simp only [List.cons_append, dC, ih]; omega
theorem sA (l : List Int) : up l - dC l = aW l := by
  induction l with
  | nil => simp [up, dC, aW]
  | cons a l ih => simp only [up, dC, aW]; split <;> omega
theorem ey (l : List Int) (h : All64 l) : 0 ≤ up l ∧ up l ≤ 9223372036854775808 * l.length ∧ 0 ≤ dC l ∧ dC l ≤ 9223372036854775808 * l.length := by
  induction l with
  | nil => simp [up, dC]
  | cons a l ih =>
    have ih := ih (fun b hb => h b (List.mem_cons_of_mem _ hb)); have ha := h a (List.mem_cons_self ..); obtain ⟨h1, h2⟩ := ha
    simp only [up, dC, List.length_cons]
    split <;> omega
theorem All64.take {l : List Int} (h : All64 l) (k : Nat) : All64 (l.take k) := fun a ha => h a (List.mem_of_mem_take ha)
theorem qr (l : List Int) (k : Nat) (h : k < l.length) : l.take (k + 1) = l.take k ++ [l.getD k 0] := by
  rw [List.take_succ_eq_append_getElem h]; simp [h]
theorem All64.get {l : List Int} (h : All64 l) {k : Nat} (hk : k < l.length) : i64 (l.getD k 0) := by
  have : l.getD k 0 = l[k] := by simp [hk]
  rw [this]; exact h _ (List.getElem_mem hk)
theorem Du {u s : Int} (u0 : 0 ≤ u) (u1 : u < 170141183460469231731687303715884105728) (s0 : 0 ≤ s) (s1 : s ≤ 18446744073709551615) : aF u + (aK u + s) / 18446744073709551616 = aF (u + s) := by unfold aF aK; omega
theorem Dv (u s : Int) : (aK u + s) % 18446744073709551616 = aK (u + s) := by unfold aK; omega
theorem uc {u : Int} (u0 : 0 ≤ u) (u1 : u < 170141183460469231731687303715884105728) : aF u < 18446744073709551615 := by unfold aF; omega
theorem oD (l : List Int) (a : Int) : up (l ++ [a]) = up l + (if a < 0 then 0 else a) := by rw [yw]; simp [up]
theorem jy (l : List Int) (a : Int) : dC (l ++ [a]) = dC l + (if a < 0 then -a else 0) := by rw [sw]; simp [dC]
theorem vS {u d : Int} (u0 : 0 ≤ u) (u1 : u < 170141183460469231731687303715884105728) (d0 : 0 ≤ d) (d1 : d < 170141183460469231731687303715884105728) : 0 ≤ abs (u - d) ∧ abs (u - d) < 170141183460469231731687303715884105728 := by
  unfold abs; split <;> omega
def lZ (l : List Int) : Int × Bool := fit (aW l)
def bM (l : List Int) : Int × Bool := if l = [] then (0, false) else fit (sg (neg (aW l)) (rnd (abs (aW l)) l.length))
end Lv

namespace Lv
open Go
def pw (a : Int) : Nat → Int × Bool
  | 0 => (10000, true)
  | n + 1 => if (pw a n).2 = true then lh (pw a n).1 a else (0, false)
def Jk (a n : Int) : Int × Bool :=
  if n < -1000 ∨ 1000 < n then (0, false)
  else if n < 0 then (if (pw a (-n).toNat).2 = true then IQ 10000 (pw a (-n).toNat).1 else (0, false))
  else pw a n.toNat
theorem fX (n : Int) : i64 (fit n).1 := by unfold fit i64; split <;> simp; omega
theorem ue (a b : Int) : i64 (lh a b).1 := fX _
theorem ma {a : Int} (h : 0 ≤ a) : a.tmod 10000 = a % 10000 := Int.tmod_eq_emod_of_nonneg h
theorem BN {a : Int} (h : a < 0) : a.tmod 10000 = -((-a) % 10000) := by
  have e := Int.neg_tmod (-a) 10000; rw [Int.neg_neg, ma (a := -a) (by omega)] at e; exact e
theorem sB (a : Int) : -9999 ≤ a.tmod 10000 ∧ a.tmod 10000 ≤ 9999 ∧ (0 ≤ a → 0 ≤ a.tmod 10000 ∧ a.tmod 10000 ≤ a) ∧ (a ≤ 0 → a.tmod 10000 ≤ 0 ∧ a ≤ a.tmod 10000) := by
  by_cases c : 0 ≤ a
  · rw [ma c]; omega
  · rw [BN (by omega)]; omega
end Lv

namespace Lv
open Go
def Small (v : Vl) : Prop := i64 v.n ∧ v.t.length ≤ 2000
theorem nJ (c : Int) : Small (aG c) := by
  unfold Small aG i64; refine ⟨⟨?_, ?_⟩, by simp⟩ <;> simp only <;> split <;> omega
theorem vT {n : Int} (h : i64 n) : Small (ay n) := by
  unfold ay
  split
  · exact nJ 3
  · exact ⟨h, by simp⟩
theorem kn (t : List UInt8) : Small (iC t) := by
  unfold iC
  split
  · rename_i h
    obtain ⟨n, h1, h2, h3, _⟩ := Bm h; rw [h3]; exact vT ⟨by simp only; omega, by simp only; omega⟩
  · split <;> exact nJ _
end Lv

namespace Lv
open Go
def eX (p : Int × Bool) : Vl := if p.2 then ay p.1 else aG 3
def Iu (x n : Int) : Vl := if n.tmod 10000 ≠ 0 then aG 3 else if x = 0 ∧ n < 0 then aG 1 else eX (Jk x (n.tdiv 10000))
def Eq (op : Int) (x y : Int) : Vl :=
  if op = 1 then eX (lZ [x, y]) else if op = 2 then eX (fit (x - y)) else if op = 3 then eX (lh x y)
  else if op = 4 then (if y = 0 then aG 1 else eX (IQ x y)) else Iu x y
def Iv (a b : Vl) : Vl := if isE (F1 a) then F1 a else if isE (F1 b) then F1 b else It ((F1 a).t ++ (F1 b).t)
def Er (op : Int) (a b : Vl) : Vl :=
  if isE a then a else if isE b then b
  else eL (decide (if op = 7 then (lI a b).1 = 0 else if op = 8 then (lI a b).1 ≠ 0 else if op = 9 then (lI a b).1 < 0 else if op = 10 then (lI a b).1 ≤ 0 else if op = 11 then 0 < (lI a b).1 else 0 ≤ (lI a b).1))
def yx (op : Int) (a b : Vl) : Vl × Int :=
  if op < 1 ∨ 12 < op ∨ ([a, b].any fun v => !vOk v) then (aj, 2)
  else if op = 6 then (Iv a b, 0)
  else if 6 < op then (Er op a b, 0)
  else match ax [aL a, aL b] with
    | some e => (e, 0)
    | none => (Eq op (aL a).n (aL b).n, 0)
theorem gJ {v : Vl} (h : isE (aL v) = false) (hn : i64 v.n) : -9223372036854775807 ≤ (aL v).n ∧ (aL v).n ≤ 9223372036854775807 := by
  obtain ⟨h1, h2⟩ := pL v
  have h3 : (aL v).k = 1 := by
    rcases h2 with e | e
    · exact e
    · unfold isE at h; rw [e] at h; cases h
  have h4 : i64 (aL v).n := by
    by_cases ok : vOk v = true
    · rcases fd ok with rfl | ⟨n, hn, rfl⟩ | rfl | rfl | ⟨t, ht, rfl⟩ | ⟨c, c1, c2, rfl⟩
      · exact ⟨by decide, by decide⟩
      · unfold aL; rw [ok]; exact hn
      · exact ⟨by decide, by decide⟩
      · exact ⟨by decide, by decide⟩
      · unfold aL; rw [ok]; exact (kn t).1
      · unfold aL; rw [ok]; exact hn
    · unfold aL; rw [if_pos (by simpa using ok)]; exact ⟨by decide, by decide⟩
  generalize aL v = u at *; obtain ⟨k, n, t⟩ := u
  simp only at h3
  subst h3; rw [ok1, decide_eq_true_eq] at h1; obtain ⟨a, b⟩ := h4; have := h1.2
  simp only at a b ⊢
  omega
theorem sC {v : Vl} (h : (v.k : Int) = (4 : Int)) : isE v = true := by unfold isE; rw [decide_eq_true_eq]; omega
theorem yz {v : Vl} (h : ¬ ((v.k : Int) = (4 : Int))) : isE v = false := by unfold isE; rw [decide_eq_false_iff_not]; omega
theorem Es {y : Int} (h : i64 y) : i64 (y.tdiv 10000) := by
  obtain ⟨h1, h2⟩ := h; have e := Int.tmod_add_mul_tdiv y 10000; obtain ⟨a, b, _⟩ := sB y; exact ⟨by omega, by omega⟩
end Lv
