/- A walk in named facts: the runs of single operations at this seat. -/
import Derived.Test.YtbpkfnoenkoabaaGreatDoorFaSX3
import Derived.Test.YtbpkfnoenkoabaaGreatDoorFaGRows
import Derived.Test.YtbpkfnoenkoabaaGreatDoorFaGArgs
import Derived.IntWalk
import Derived.Maps.AppendAt
namespace Go.Proofs.YtbpkfnoenkoabaaGreatDoor
set_option linter.unusedVariables false
set_option linter.unusedSimpArgs false
open Go.RowKit Lv
theorem tmod_within (n m : Int) : -(n.natAbs : Int) ≤ Int.tmod n m ∧ Int.tmod n m ≤ n.natAbs ∧ (n < 0 → Int.tmod n m ≤ 0) := by
  have := Int.natAbs_tmod n m
  have h2 : n.natAbs % m.natAbs ≤ n.natAbs := Nat.mod_le _ _
  refine ⟨by omega, by omega, fun h => ?_⟩
  have e : Int.tmod n m = -Int.tmod (-n) m := by rw [Int.neg_tmod, Int.neg_neg]
  have := Int.tmod_nonneg m (show 0 ≤ -n by omega)
  omega
def sameV (x y : Vl) : Bool := decide (x.k = y.k) && decide (x.n = y.n) && decide (x.t = y.t)
theorem sameV_iff {x y : Vl} : sameV x y = true ↔ x = y := by
  obtain ⟨k, n, t⟩ := x
  obtain ⟨k', n', t'⟩ := y
  unfold sameV
  simp [and_assoc]
theorem sameV_self (x : Vl) : sameV x x = true := sameV_iff.2 rfl
theorem eql_val (x y : Vl) (w : World) : (binOp .eql 25 (aggV x) (aggV y)).run Tryz.prog w = .ok (.bool (sameV x y)) w := by
  go_simp
  unfold sameV
  by_cases hk : x.k = y.k <;> by_cases hn : x.n = y.n <;> by_cases ht : x.t = y.t <;> simp [hk, hn, ht] <;> omega
section
variable {o : Oper} {a : Act} {w : World}
theorem xmove {x : Operand} (ho : o.op = .move x) {v : Value} (hx : a.eval x = v) : (execOp a.eval o).run Tryz.prog w = .ok (.value v) w := by
  unfold execOp; rw [ho]; subst hx; rfl
theorem xassign {x : Operand} (ho : o.op = .assign x) {v : Value} (hx : a.eval x = v) : (execOp a.eval o).run Tryz.prog w = .ok (.value v) w := by
  unfold execOp; rw [ho]; subst hx; rfl
theorem xpick {c x y : Operand} (ho : o.op = .pick c x y) {b : Bool} (hc : a.eval c = .bool b) : (execOp a.eval o).run Tryz.prog w = .ok (.value (if b then a.eval x else a.eval y)) w := by
  unfold execOp
  rw [ho]
  simp only [hc]
  go_simp
theorem xpickT {c x y : Operand} (ho : o.op = .pick c x y) (hc : a.eval c = .bool true) {v : Value} (hx : a.eval x = v) : (execOp a.eval o).run Tryz.prog w = .ok (.value v) w := by subst hx; exact xpick ho hc
theorem xpickF {c x y : Operand} (ho : o.op = .pick c x y) (hc : a.eval c = .bool false) {v : Value} (hy : a.eval y = v) : (execOp a.eval o).run Tryz.prog w = .ok (.value v) w := by subst hy; exact xpick ho hc
theorem xand {c x y : Operand} (ho : o.op = .pick c x y) {b d : Bool} (hc : a.eval c = .bool b) (hx : b = true → a.eval x = .bool d) (hy : a.eval y = .bool false) : (execOp a.eval o).run Tryz.prog w = .ok (.value (.bool (b && d))) w := by
  rw [xpick ho hc]
  cases b
  · rw [if_neg (by decide), hy]; rfl
  · rw [if_pos rfl, hx rfl]; rfl
theorem xor_ {c x y : Operand} (ho : o.op = .pick c x y) {b d : Bool} (hc : a.eval c = .bool b) (hx : a.eval x = .bool true) (hy : b = false → a.eval y = .bool d) : (execOp a.eval o).run Tryz.prog w = .ok (.value (.bool (b || d))) w := by
  rw [xpick ho hc]
  cases b
  · rw [if_neg (by decide), hy rfl]; rfl
  · rw [if_pos rfl, hx]; rfl
theorem xnot {T : TypeId} {x : Operand} (ho : o.op = .unOp .not T x) {b : Bool} (hx : a.eval x = .bool b) : (execOp a.eval o).run Tryz.prog w = .ok (.value (.bool (!b))) w := by
  unfold execOp; rw [ho]; simp only [hx]; go_simp
theorem xadd {T T2 : TypeId} (hT : T = 3 ∨ T = 2) {x y : Operand} (ho : o.op = .binOp .add T x y T2) {n m : Int} (hx : a.eval x = .int .i64 n) (hy : a.eval y = .int .i64 m) (h1 : -9223372036854775808 ≤ n + m) (h2 : n + m ≤ 9223372036854775807) : (execOp a.eval o).run Tryz.prog w = .ok (.value (.int .i64 (n + m))) w := by
  unfold execOp
  rw [ho]
  simp only [hx, hy]
  rcases hT with rfl | rfl <;> (go_simp; exact IntWalk.i64_in _ (by omega))
theorem xsub {T T2 : TypeId} (hT : T = 3 ∨ T = 2) {x y : Operand} (ho : o.op = .binOp .sub T x y T2) {n m : Int} (hx : a.eval x = .int .i64 n) (hy : a.eval y = .int .i64 m) (h1 : -9223372036854775808 ≤ n - m) (h2 : n - m ≤ 9223372036854775807) : (execOp a.eval o).run Tryz.prog w = .ok (.value (.int .i64 (n - m))) w := by
  unfold execOp
  rw [ho]
  simp only [hx, hy]
  rcases hT with rfl | rfl <;> (go_simp; exact IntWalk.i64_in _ (by omega))
theorem xlss {T T2 : TypeId} {x y : Operand} (ho : o.op = .binOp .lss T x y T2) {k : IntKind} {n m : Int} (hx : a.eval x = .int k n) (hy : a.eval y = .int k m) : (execOp a.eval o).run Tryz.prog w = .ok (.value (.bool (decide (n < m)))) w := by
  unfold execOp; rw [ho]; simp only [hx, hy]; go_simp
theorem xleq {T T2 : TypeId} {x y : Operand} (ho : o.op = .binOp .leq T x y T2) {k : IntKind} {n m : Int} (hx : a.eval x = .int k n) (hy : a.eval y = .int k m) : (execOp a.eval o).run Tryz.prog w = .ok (.value (.bool (decide (n ≤ m)))) w := by
  unfold execOp; rw [ho]; simp only [hx, hy]; go_simp
theorem xgtr {T T2 : TypeId} {x y : Operand} (ho : o.op = .binOp .gtr T x y T2) {k : IntKind} {n m : Int} (hx : a.eval x = .int k n) (hy : a.eval y = .int k m) : (execOp a.eval o).run Tryz.prog w = .ok (.value (.bool (decide (m < n)))) w := by
  unfold execOp; rw [ho]; simp only [hx, hy]; go_simp
theorem xgeq {T T2 : TypeId} {x y : Operand} (ho : o.op = .binOp .geq T x y T2) {k : IntKind} {n m : Int} (hx : a.eval x = .int k n) (hy : a.eval y = .int k m) : (execOp a.eval o).run Tryz.prog w = .ok (.value (.bool (decide (m ≤ n)))) w := by
  unfold execOp; rw [ho]; simp only [hx, hy]; go_simp
theorem xeqi {T T2 : TypeId} {x y : Operand} (ho : o.op = .binOp .eql T x y T2) {k : IntKind} {n m : Int} (hx : a.eval x = .int k n) (hy : a.eval y = .int k m) : (execOp a.eval o).run Tryz.prog w = .ok (.value (.bool (decide (n = m)))) w := by
  unfold execOp; rw [ho]; simp only [hx, hy]; go_simp
  try (by_cases h : n = m <;> simp [h])
theorem xnei {T T2 : TypeId} {x y : Operand} (ho : o.op = .binOp .neq T x y T2) {k : IntKind} {n m : Int} (hx : a.eval x = .int k n) (hy : a.eval y = .int k m) : (execOp a.eval o).run Tryz.prog w = .ok (.value (.bool (decide (n ≠ m)))) w := by
  unfold execOp; rw [ho]; simp only [hx, hy]; go_simp
  try (by_cases h : n = m <;> simp [h])
theorem xeqv {T2 : TypeId} {x y : Operand} (ho : o.op = .binOp .eql 25 x y T2) {u v : Vl} (hx : a.eval x = aggV u) (hy : a.eval y = aggV v) : (execOp a.eval o).run Tryz.prog w = .ok (.value (.bool (sameV u v))) w := by
  unfold execOp
  rw [ho]
  simp only [hx, hy]
  have := eql_val u v w
  go_simp
  unfold sameV
  by_cases hk : u.k = v.k <;> by_cases hn : u.n = v.n <;> by_cases ht : u.t = v.t <;> simp [hk, hn, ht] <;> omega
theorem xrem {T T2 : TypeId} (hT : T = 3 ∨ T = 2) {x y : Operand} (ho : o.op = .binOp .rem T x y T2) {n m : Int} (hx : a.eval x = .int .i64 n) (hy : a.eval y = .int .i64 m) (h0 : 0 < m) (h1 : -9223372036854775808 ≤ n) (h2 : n ≤ 9223372036854775807) : (execOp a.eval o).run Tryz.prog w = .ok (.value (.int .i64 (Int.tmod n m))) w := by
  have e : (m == 0) = false := by rw [beq_eq_false_iff_ne]; omega
  have e0 : ¬ m = 0 := by omega
  have e2 : IntKind.i64.wrap (Int.tmod n m) = Int.tmod n m := IntWalk.i64_in _ (by
    have := tmod_within n m
    omega)
  unfold execOp
  rw [ho]
  simp only [hx, hy]
  rcases hT with rfl | rfl <;> (go_simp; try exact e2)
/-! structs of a value -/
abbrev rowObj (l : List Vl) : Obj := .cells (flatV l).toArray 25 (0, 0)
theorem xrow1 {x : Operand} (ho : o.op = .buildSlice 22 1 #[(0, x)]) {u : Vl} (hx : a.eval x = aggV u) : (execOp a.eval o).run Tryz.prog w = .ok (.value (.slice (some ⟨w.heap.size, 0, none⟩) 1 1)) (w.alloc (rowObj [u])) := by
  unfold execOp
  rw [ho]
  simp only [List.map_toArray, List.map_cons, List.map_nil, hx]
  go_simp
  rfl
theorem xrow2 {x y : Operand} (ho : o.op = .buildSlice 22 2 #[(0, x), (1, y)]) {u v : Vl} (hx : a.eval x = aggV u) (hy : a.eval y = aggV v) : (execOp a.eval o).run Tryz.prog w = .ok (.value (.slice (some ⟨w.heap.size, 0, none⟩) 2 2)) (w.alloc (rowObj [u, v])) := by
  unfold execOp
  rw [ho]
  simp only [List.map_toArray, List.map_cons, List.map_nil, hx, hy]
  go_simp
  rfl
theorem xrow3 {x y z : Operand} (ho : o.op = .buildSlice 22 3 #[(0, x), (1, y), (2, z)]) {u v s : Vl} (hx : a.eval x = aggV u) (hy : a.eval y = aggV v) (hz : a.eval z = aggV s) : (execOp a.eval o).run Tryz.prog w = .ok (.value (.slice (some ⟨w.heap.size, 0, none⟩) 3 3)) (w.alloc (rowObj [u, v, s])) := by
  unfold execOp
  rw [ho]
  simp only [List.map_toArray, List.map_cons, List.map_nil, hx, hy, hz]
  go_simp
  rfl
theorem rowObj_row {l : List Vl} {g : Nat} (h : w.heap[g]? = some (rowObj l)) : RowV w (some ⟨g, 0, none⟩) l :=
  RowV.box (t := 25) h (by rw [List.take_of_length_le]; rw [flatV_length]; exact Nat.le_refl _)
/-! lengths, places -/
def fz (A : Option Addr) (cap : Nat) : Option Addr := if cap = 0 then A else A.map (·.add 0)
theorem fz_some (b off cap : Nat) : fz (some ⟨b, off, none⟩) cap = some ⟨b, off, none⟩ := by unfold fz; split <;> rfl
theorem xsliceTo {T e : TypeId} (hu : Tryz.prog.underlying T = some (.slice e)) (hz : (sizeOf e).run Tryz.prog w = .ok 1 w) {x y : Operand} (ho : o.op = .slice T x none (some y) none) {A : Option Addr} {n cap h : Nat} (hx : a.eval x = .slice A n cap) (hy : a.eval y = .int .i64 h) (hh : h ≤ cap) : (execOp a.eval o).run Tryz.prog w = .ok (.value (.slice (fz A cap) h cap)) w := by
  have hr := run_underlying (w := w) hu
  have h0 : (0 : Int) ≤ (h : Int) := by omega
  have h1 : (h : Int) ≤ (cap : Int) := by omega
  unfold execOp fz
  rw [ho]
  simp only [hx, hy, Option.map_some, Option.map_none]
  go_simp
theorem xlen {T e : TypeId} (hu : Tryz.prog.underlying T = some (.slice e)) {x : Operand} (ho : o.op = .call { callee := .builtin .len, args := #[x], argTypes := #[T] }) {A : Option Addr} {n cap : Nat} (hx : a.eval x = .slice A n cap) : (execOp a.eval o).run Tryz.prog w = .ok (.value (.int .i64 n)) w := by
  unfold execOp
  rw [ho]
  simp only [resolve, List.map_toArray, List.map_cons, List.map_nil, hx]
  have hr := run_underlying (w := w) hu
  go_simp
theorem xplaceV {x y : Operand} (ho : o.op = .indexAddr 22 x y) {b off n cap k : Nat} (hx : a.eval x = .slice (some ⟨b, off, none⟩) n cap) (hy : a.eval y = .int .i64 k) (hk : k < n) : (execOp a.eval o).run Tryz.prog w = .ok (.value (.pointer (some ⟨b, off + k * 3, none⟩))) w := by
  unfold execOp
  rw [ho]
  simp only [hx, hy]
  have h0 : (0 : Int) ≤ (k : Int) := by omega
  have h1 : (k : Int) < (n : Int) := by omega
  go_simp
theorem xatV {x : Operand} (ho : o.op = .load 25 x) {b off k : Nat} {l : List Vl} (hx : a.eval x = .pointer (some ⟨b, off + k * 3, none⟩)) (hr : RowV w (some ⟨b, off, none⟩) l) (hk : k < l.length) : (execOp a.eval o).run Tryz.prog w = .ok (.value (aggV (l.getD k blankV))) w := by
  obtain ⟨b', off', e, _, x0, x1, x2⟩ := hr k hk
  cases e
  unfold execOp
  rw [ho]
  simp only [hx]
  go_simp
theorem xcall1 {F : FuncId} {x : Operand} {ts : Array TypeId} (ho : o.op = .call { callee := .value (.func F), args := #[x], argTypes := ts }) {u : Value} (hx : a.eval x = u) (hF : (callFunc F #[u]).run Tryz.prog w = .ok (.enter F #[u]) w) : (execOp a.eval o).run Tryz.prog w = .ok (.enter F #[u]) w := by
  have hf : a.eval (.func F) = .func (.func F) #[] #[] := rfl
  unfold execOp
  rw [ho]
  simp only [resolve, List.map_toArray, List.map_cons, List.map_nil, hf, hx]
  go_simp
theorem xcall2 {F : FuncId} {x y : Operand} {ts : Array TypeId} (ho : o.op = .call { callee := .value (.func F), args := #[x, y], argTypes := ts }) {u v : Value} (hx : a.eval x = u) (hy : a.eval y = v) (hF : (callFunc F #[u, v]).run Tryz.prog w = .ok (.enter F #[u, v]) w) : (execOp a.eval o).run Tryz.prog w = .ok (.enter F #[u, v]) w := by
  have hf : a.eval (.func F) = .func (.func F) #[] #[] := rfl
  unfold execOp
  rw [ho]
  simp only [resolve, List.map_toArray, List.map_cons, List.map_nil, hf, hx, hy]
  go_simp
theorem xcall3 {F : FuncId} {x y z : Operand} {ts : Array TypeId} (ho : o.op = .call { callee := .value (.func F), args := #[x, y, z], argTypes := ts }) {u v s : Value} (hx : a.eval x = u) (hy : a.eval y = v) (hz : a.eval z = s) (hF : (callFunc F #[u, v, s]).run Tryz.prog w = .ok (.enter F #[u, v, s]) w) : (execOp a.eval o).run Tryz.prog w = .ok (.enter F #[u, v, s]) w := by
  have hf : a.eval (.func F) = .func (.func F) #[] #[] := rfl
  unfold execOp
  rw [ho]
  simp only [resolve, List.map_toArray, List.map_cons, List.map_nil, hf, hx, hy, hz]
  go_simp
end
section
variable {ops : Array Oper} {rest : List Oper} {Q : Exit → Act → World → Prop} {a : Act} {w : World}
end
end Go.Proofs.YtbpkfnoenkoabaaGreatDoor
