/- A walk in named facts: strings, numbers, rows of one cell each, functions as values: runs of single operations. -/
import Derived.Test.YtbpkfnoenkoabaaGreatDoorFaSX4
import Derived.Test.YtbpkfnoenkoabaaGreatDoorFaSX2
import Derived.Test.YtbpkfnoenkoabaaGreatDoorFaBunG
namespace Go.Proofs.YtbpkfnoenkoabaaGreatDoor
set_option linter.unusedVariables false
set_option linter.unusedSimpArgs false
open Go.RowKit Lv
section
variable {o : Oper} {a : Act} {w : World}
theorem xlenS {T : TypeId} (hu : Tryz.prog.underlying T = some .string) {x : Operand} (ho : o.op = .call { callee := .builtin .len, args := #[x], argTypes := #[T] }) {t : List UInt8} (hx : a.eval x = .string ⟨t.toArray⟩) : (execOp a.eval o).run Tryz.prog w = .ok (.value (.int .i64 (t.length : Nat))) w := by
  unfold execOp
  rw [ho]
  simp only [resolve, List.map_toArray, List.map_cons, List.map_nil, hx]
  have hr := run_underlying (w := w) hu
  go_simp
  try rfl
theorem bytes_take (t : List UInt8) (n : Nat) : (⟨t.toArray⟩ : ByteArray).extract 0 n = ⟨(t.take n).toArray⟩ := by
  ext1; simp [ByteArray.data_extract]
theorem bytes_part (t : List UInt8) (m n : Nat) : (⟨t.toArray⟩ : ByteArray).extract m n = ⟨((t.take n).drop m).toArray⟩ := by
  ext1; simp [ByteArray.data_extract, List.extract_eq_take_drop, List.drop_take]
theorem run_sliceS {T : TypeId} (hu : Tryz.prog.underlying T = some .string) (t : List UInt8) (l h : Nat) (h1 : l ≤ h) (h2 : h ≤ t.length) : (Instr.sliceAt T (.string ⟨t.toArray⟩) (some (.int .i64 l)) (some (.int .i64 h)) none).run Tryz.prog w = .ok (.string ⟨((t.take h).drop l).toArray⟩) w := by
  have hr := run_underlying (w := w) hu
  have b0 : (0 : Int) ≤ (l : Int) := by omega
  have b1 : (l : Int) ≤ (h : Int) := by omega
  have b2 : (0 : Int) ≤ (h : Int) := by omega
  have b3 : (h : Int) ≤ (t.length : Int) := by omega
  have e := bytes_part t l h
  have es : ByteArray.size ⟨t.toArray⟩ = t.length := rfl
  simp [Instr.sliceAt, Instr.slice, Instr.sliceBounds, Instr.sliceBound, hr, Result.andThen, asIntOf, es, b0, b1, b2, b3, h1, h2, e]
theorem run_sliceTo {T : TypeId} (hu : Tryz.prog.underlying T = some .string) (t : List UInt8) (h : Nat) (h2 : h ≤ t.length) : (Instr.sliceAt T (.string ⟨t.toArray⟩) none (some (.int .i64 h)) none).run Tryz.prog w = .ok (.string ⟨(t.take h).toArray⟩) w := by
  have hr := run_underlying (w := w) hu
  have b2 : (0 : Int) ≤ (h : Int) := by omega
  have b3 : (h : Int) ≤ (t.length : Int) := by omega
  have e := bytes_take t h
  have es : ByteArray.size ⟨t.toArray⟩ = t.length := rfl
  simp [Instr.sliceAt, Instr.slice, Instr.sliceBounds, Instr.sliceBound, hr, Result.andThen, asIntOf, es, b2, b3, h2, e]
theorem run_sliceFrom {T : TypeId} (hu : Tryz.prog.underlying T = some .string) (t : List UInt8) (l : Nat) (h2 : l ≤ t.length) : (Instr.sliceAt T (.string ⟨t.toArray⟩) (some (.int .i64 l)) none none).run Tryz.prog w = .ok (.string ⟨(t.drop l).toArray⟩) w := by
  have hr := run_underlying (w := w) hu
  have b2 : (0 : Int) ≤ (l : Int) := by omega
  have b3 : (l : Int) ≤ (t.length : Int) := by omega
  have e := bytes_part t l t.length
  rw [List.take_length] at e
  have es : ByteArray.size ⟨t.toArray⟩ = t.length := rfl
  simp [Instr.sliceAt, Instr.slice, Instr.sliceBounds, Instr.sliceBound, hr, Result.andThen, asIntOf, es, b2, b3, h2, e]
theorem xeqS {T T2 : TypeId} {x y : Operand} (ho : o.op = .binOp .eql T x y T2) {s t : List UInt8} (hx : a.eval x = .string ⟨s.toArray⟩) (hy : a.eval y = .string ⟨t.toArray⟩) : (execOp a.eval o).run Tryz.prog w = .ok (.value (.bool (decide (s = t)))) w := by
  unfold execOp; rw [ho]; simp only [hx, hy]; go_simp
  try (by_cases h : s = t <;> simp [h])
theorem xneS {T T2 : TypeId} {x y : Operand} (ho : o.op = .binOp .neq T x y T2) {s t : List UInt8} (hx : a.eval x = .string ⟨s.toArray⟩) (hy : a.eval y = .string ⟨t.toArray⟩) : (execOp a.eval o).run Tryz.prog w = .ok (.value (.bool (decide (s ≠ t)))) w := by
  unfold execOp; rw [ho]; simp only [hx, hy]; go_simp
  try (by_cases h : s = t <;> simp [h])
theorem xcatS {T T2 : TypeId} {x y : Operand} (ho : o.op = .binOp .add T x y T2) {s t : List UInt8} (hx : a.eval x = .string ⟨s.toArray⟩) (hy : a.eval y = .string ⟨t.toArray⟩) (hl : s.length + t.length ≤ 1000000) : (execOp a.eval o).run Tryz.prog w = .ok (.value (.string ⟨(s ++ t).toArray⟩)) w := by
  have e : (⟨s.toArray⟩ : ByteArray) ++ ⟨t.toArray⟩ = ⟨(s ++ t).toArray⟩ := by ext1; simp
  have es : ByteArray.size ⟨s.toArray⟩ = s.length := rfl
  have et : ByteArray.size ⟨t.toArray⟩ = t.length := rfl
  unfold execOp; rw [ho]; simp only [hx, hy]
  go_simp
  try omega
theorem xminI {x y : Operand} {ts : Array TypeId} (ho : o.op = .call { callee := .builtin .min, args := #[x, y], argTypes := ts }) (ht : o.type = 3 ∨ o.type = 2) {n m : Int} (hx : a.eval x = .int .i64 n) (hy : a.eval y = .int .i64 m) : (execOp a.eval o).run Tryz.prog w = .ok (.value (.int .i64 (min n m))) w := by
  unfold execOp
  rw [ho]
  simp only [resolve, List.map_toArray, List.map_cons, List.map_nil, hx, hy]
  rcases ht with ht | ht <;> go_simp
theorem xmul {T T2 : TypeId} (hT : T = 3 ∨ T = 2) {x y : Operand} (ho : o.op = .binOp .mul T x y T2) {n m : Int} (hx : a.eval x = .int .i64 n) (hy : a.eval y = .int .i64 m) (h1 : -9223372036854775808 ≤ n * m) (h2 : n * m ≤ 9223372036854775807) : (execOp a.eval o).run Tryz.prog w = .ok (.value (.int .i64 (n * m))) w := by
  have e : IntKind.i64.wrap (n * m) = n * m := IntWalk.i64_in _ ⟨h1, h2⟩
  unfold execOp
  rw [ho]
  simp only [hx, hy]
  rcases hT with rfl | rfl <;> (go_simp; try exact e)
theorem xquo {T T2 : TypeId} (hT : T = 3 ∨ T = 2) {x y : Operand} (ho : o.op = .binOp .quo T x y T2) {n m : Int} (hx : a.eval x = .int .i64 n) (hy : a.eval y = .int .i64 m) (h0 : 0 < m) (h1 : -9223372036854775808 ≤ n) (h2 : n ≤ 9223372036854775807) : (execOp a.eval o).run Tryz.prog w = .ok (.value (.int .i64 (Int.tdiv n m))) w := by
  have e0 : ¬ m = 0 := by omega
  have e1 : (m == 0) = false := by rw [beq_eq_false_iff_ne]; omega
  have b : -9223372036854775808 ≤ Int.tdiv n m ∧ Int.tdiv n m ≤ 9223372036854775807 := by
    by_cases c : 0 ≤ n
    · have := Int.tdiv_nonneg c (show 0 ≤ m by omega)
      have := Int.tdiv_le_self m c
      omega
    · have e : Int.tdiv n m = -Int.tdiv (-n) m := by rw [Int.neg_tdiv, Int.neg_neg]
      have := Int.tdiv_nonneg (show 0 ≤ -n by omega) (show 0 ≤ m by omega)
      have := Int.tdiv_le_self m (show 0 ≤ -n by omega)
      omega
  have e2 : IntKind.i64.wrap (Int.tdiv n m) = Int.tdiv n m := IntWalk.i64_in _ b
  unfold execOp
  rw [ho]
  simp only [hx, hy]
  rcases hT with rfl | rfl <;> (go_simp; try exact e2)
abbrev numV (n : Int) : Value := .int .i64 n
/-! rows of one cell each -/
theorem run_place1 {T e : TypeId} (hu : Tryz.prog.underlying T = some (.slice e)) (hs : (sizeOf e).run Tryz.prog w = .ok 1 w) {b off n c k : Nat} (hk : k < n) : (Instr.indexAt T (.slice (some ⟨b, off, none⟩) n c) (.int .i64 k)).run Tryz.prog w = .ok (.pointer (some ⟨b, off + k, none⟩)) w := by
  have hr := run_underlying (w := w) hu
  have b0 : (0 : Int) ≤ (k : Int) := by omega
  have b1 : (k : Int) < (n : Int) := by omega
  have e := add_none (g := b) (off := off) k
  simp [Instr.indexAt, asIntOf, hr, hs, Result.andThen, b0, b1, e]
  intro hc; omega
def RowC (w : World) (A : Option Addr) (l : List Value) : Prop := ∀ i, i < l.length → ∃ b off, A = some ⟨b, off, none⟩ ∧ b < w.heap.size ∧ w.cell? ⟨b, off + i, none⟩ = l[i]?
theorem RowC.kept {w w' : World} {A : Option Addr} {l : List Value} (h : RowC w A l) (k : Kept w w') : RowC w' A l := fun i hi => by
  obtain ⟨b, off, rfl, hb, hc⟩ := h i hi
  exact ⟨b, off, rfl, Nat.lt_of_lt_of_le hb k.size, (k.cell (p := ⟨b, _, none⟩) hb).trans hc⟩
theorem RowC.at_ {w : World} {b off : Nat} {l : List Value} (h : RowC w (some ⟨b, off, none⟩) l) {k : Nat} {v : Value} (e : l[k]? = some v) : w.cell? ⟨b, off + k, none⟩ = some v := by
  obtain ⟨b', off', e', _, hc⟩ := h k (List.getElem?_eq_some_iff.1 e).1
  cases e'
  exact hc.trans e
theorem RowC.nil (w : World) (A : Option Addr) : RowC w A [] := fun i hi => by simp at hi
theorem RowC.of_row {w : World} {base : Nat} {e : TypeId} {v : Value} {l : List Value} (h : w.ownsRow base e 1 v l.length l) : ∃ A c, v = .slice A l.length c ∧ RowC w A l ∧ l.length ≤ c := by
  rcases h.2 with ⟨rfl, h0⟩ | ⟨g, cap, cur, rfl, hb, hh, h4, h5, h6, h7⟩
  · exact ⟨none, 0, by rw [h0], fun i hi => by omega, by omega⟩
  · refine ⟨some ⟨g, 0, none⟩, cap, rfl, fun i hi => ⟨g, 0, rfl, (Array.getElem?_eq_some_iff.1 hh).1, ?_⟩, h4⟩
    rw [Nat.mul_one] at h7
    rw [cell_of_row w g (0 + i) cur e (0, 0) hh, Nat.zero_add, ← h7, List.getElem?_take_of_lt hi, Array.getElem?_toList]
theorem xappendC {T e : TypeId} {s x : Operand} (ho : o.op = .call { callee := .builtin .append, args := #[s, x], argTypes := #[T, T] }) (hu : Tryz.prog.underlying T = some (.slice e)) {i : TypeInfo} {z : Value} {by_ : Nat} (hi : Tryz.prog.info? e = some i) (hz : i.zero = some z) (h1 : i.size = 1) (h2 : i.bytes = by_) (hzc : z.cells.size = 1) {base : Nat} {v : Value} {l : List Value} {u : Value} {g c : Nat} (hs : a.eval s = v) (hx : a.eval x = .slice (some ⟨g, 0, none⟩) 1 c) (hown : w.ownsRow base e 1 v l.length l) (hg : w.heap[g]? = some (.cells #[u] e (0, 0))) (ho1 : u.oneCell' = true) (hl : l.length ≤ 1000000) (hby : by_ ≤ 100) (hbase : base ≤ w.heap.size) :
    ∃ v' w', (execOp a.eval o).run Tryz.prog w = .ok (.value v') w' ∧ w'.ownsRow base e 1 v' (l ++ [u]).length (l ++ [u]) ∧ w.grownBy w' v.ownBlock ∧ (v'.ownBlock = v.ownBlock ∨ v'.ownBlock = some w.heap.size) := by
  obtain ⟨v', w', hrun, ho', hg', _, hb⟩ := run_append_own_at (P := Tryz.prog) w base T o.type e i z 1 by_ hu hi hz h1 h2 hzc (by decide) v l.length l hown ⟨g, 0, none⟩ 1 c [u] rfl (fun j q hj => by
    match j, hj with
    | 0, hj =>
      simp at hj
      subst hj
      rw [add_none]
      exact cell_of_row w g 0 #[u] e (0, 0) hg) (fun q hq => by rw [List.mem_singleton] at hq; rw [hq]; exact ho1) (by simp only [maxLen]; omega) (Nat.le_trans (Nat.mul_le_mul (show l.length + 1 ≤ 1000001 by omega) hby) (by decide)) hbase
  refine ⟨v', w', ?_, by rw [List.length_append, List.length_singleton]; exact ho', hg', hb⟩
  unfold execOp
  simp only [ho, resolve, invoke, builtin, Sem.run_bind, Sem.run_pure, Result.andThen_ok, List.map_toArray, List.map_cons, List.map_nil, hs, hx, hrun]
theorem wl_appendC {ops : Array Oper} {rest : List Oper} {Q : Exit → Act → World → Prop} (hw : Region.wanted o (yielded ops a.tmps) = true) {T e : TypeId} {s x : Operand} (ho : o.op = .call { callee := .builtin .append, args := #[s, x], argTypes := #[T, T] }) (hu : Tryz.prog.underlying T = some (.slice e)) {by_ : Nat} (hi : ∃ i z, Tryz.prog.info? e = some i ∧ i.zero = some z ∧ i.size = 1 ∧ i.bytes = by_ ∧ z.cells.size = 1) {base : Nat} {v : Value} {l : List Value} {u : Value} {g c : Nat} (hs : a.eval s = v) (hx : a.eval x = .slice (some ⟨g, 0, none⟩) 1 c) (hown : w.ownsRow base e 1 v l.length l) (hg : w.heap[g]? = some (.cells #[u] e (0, 0))) (ho1 : u.oneCell' = true) (hl : l.length ≤ 1000000) (hby : by_ ≤ 100) (hbase : base ≤ w.heap.size)
    (h : ∀ v' w', w'.ownsRow base e 1 v' (l ++ [u]).length (l ++ [u]) → w.grownBy w' v.ownBlock → (v'.ownBlock = v.ownBlock ∨ v'.ownBlock = some w.heap.size) → wpList Tryz.prog ops Q rest (a.put o.dst v') w') : wpList Tryz.prog ops Q (o :: rest) a w := by
  obtain ⟨i, z, hi, hz, h1, h2, h3⟩ := hi
  obtain ⟨v', w', hr, k1, k2, k3⟩ := xappendC ho hu hi hz h1 h2 h3 hs hx hown hg ho1 hl hby hbase
  exact wl_value hw hr (h v' w' k1 k2 k3)
theorem row_one {base : Nat} {e : TypeId} {n size : Nat} {v : Value} {l : List Value} {w : World} (h : w.ownsRow base e size v n l) : v.oneCell' = true := by
  rcases h.2 with ⟨rfl, _⟩ | ⟨g, cap, cur, rfl, _⟩ <;> rfl
theorem one_cons {v : Value} {l : List Value} (h : v.oneCell' = true) (t : (l.all fun v => v.oneCell') = true) : ((v :: l).all fun v => v.oneCell') = true := by rw [List.all_cons, h, t]; rfl
theorem cells_one {v : Value} (h : v.oneCell' = true) : v.cells = #[v] := by cases v <;> first | rfl | cases h
theorem xstoreR {T : TypeId} {x y : Operand} {v : Value} {g off : Nat} {t : TypeId} {cs : Array Value} (ho : o.op = .store T x y) (hx : a.eval x = .pointer (some ⟨g, off, none⟩)) (hy : a.eval y = v) (hs : (sizeOf T).run Tryz.prog w = .ok 1 w) (bx : Box w g t cs) (h1 : v.oneCell' = true) (hb : off + 1 ≤ cs.size) : (execOp a.eval o).run Tryz.prog w = .ok .skip (putCells w g off [v]) := by
  have hc := cells_one h1
  have r := xstoreN (P := Tryz.prog) (off := off) ho hx hy (by rw [hc]; exact hs) bx (by rw [hc]; exact one_cons h1 rfl) (by rw [hc]; exact hb)
  rw [hc] at r
  exact r
theorem turn_new {v v' : Value} {w : World} (hb : v'.ownBlock = v.ownBlock ∨ v'.ownBlock = some w.heap.size) : v'.ownBlock = v.ownBlock ∨ ∀ g, v'.ownBlock = some g → w.heap.size ≤ g :=
  hb.imp (fun e => e) (fun e g c => by have z := e.symm.trans c; cases z; exact Nat.le_refl _)
theorem info_one (e : TypeId) (s b : Nat) (h : (Tryz.prog.info? e).map (fun i => (i.zero.map (fun z => z.cells.size), i.size, i.bytes)) = some (some 1, s, b)) (hs : s = 1) : ∃ i z, Tryz.prog.info? e = some i ∧ i.zero = some z ∧ i.size = 1 ∧ i.bytes = b ∧ z.cells.size = 1 := by
  subst hs
  cases hi : Tryz.prog.info? e with
  | none => rw [hi] at h; cases h
  | some i =>
    rw [hi] at h
    simp only [Option.map_some, Option.some.injEq, Prod.mk.injEq] at h
    cases hz : i.zero with
    | none => rw [hz] at h; simp at h
    | some z => rw [hz] at h; simp at h; exact ⟨i, z, rfl, hz, h.2.1, h.2.2, h.1⟩
/-! a call of a function that is a value -/
theorem xcall1V {f x : Operand} {ts : Array TypeId} {F : FuncId} {u : Value} (ho : o.op = .call { callee := .value f, args := #[x], argTypes := ts }) (hf : a.eval f = .func (.func F) #[] #[]) (hx : a.eval x = u) (hF : (callFunc F #[u]).run Tryz.prog w = .ok (.enter F #[u]) w) : (execOp a.eval o).run Tryz.prog w = .ok (.enter F #[u]) w := by
  unfold execOp
  rw [ho]
  simp only [resolve, List.map_toArray, List.map_cons, List.map_nil, hf, hx]
  go_simp
theorem xcall0M {f : Operand} {ts : Array TypeId} {F : FuncId} {u : Value} (ho : o.op = .call { callee := .value f, args := #[], argTypes := ts }) (hf : a.eval f = .func (.func F) #[u] #[]) (hF : (callFunc F #[u]).run Tryz.prog w = .ok (.enter F #[u]) w) : (execOp a.eval o).run Tryz.prog w = .ok (.enter F #[u]) w := by
  unfold execOp
  rw [ho]
  simp only [resolve, List.map_toArray, List.map_nil, hf]
  go_simp
end
end Go.Proofs.YtbpkfnoenkoabaaGreatDoor
