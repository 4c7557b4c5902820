/- A walk in named facts: the runs of single operations at this seat. -/
import Derived.Test.YtipkjpcedfokhaaDoorSX3
import Derived.Test.YtipkjpcedfokhaaDoorGRows
import Derived.Test.YtipkjpcedfokhaaDoorGArgs
import Derived.IntWalk
import Derived.Maps.AppendAt
namespace Go.Proofs.YtipkjpcedfokhaaDoor
set_option linter.unusedVariables false
set_option linter.unusedSimpArgs false
open Go.RowKit Lv
theorem tmod_within (n m : Int) : -(n.natAbs : Int) ≤ Int.tmod n m ∧ Int.tmod n m ≤ n.natAbs ∧ (n < 0 → Int.tmod n m ≤ 0) := by
  have := Int.natAbs_tmod n m
  have h2 : n.natAbs % m.natAbs ≤ n.natAbs := Nat.mod_le _ _
  refine ⟨by omega, by omega, fun h => ?_⟩
  have e : Int.tmod n m = -Int.tmod (-n) m := by rw [Int.neg_tmod, Int.neg_neg]
  have := Int.tmod_nonneg m (show 0 ≤ -n by omega)
  omega
def sameV (x y : Vl) : Bool := decide (x.k = y.k) && decide (x.n = y.n) && decide (x.t = y.t)
theorem sameV_iff {x y : Vl} : sameV x y = true ↔ x = y := by
  obtain ⟨k, n, t⟩ := x
  obtain ⟨k', n', t'⟩ := y
  unfold sameV
  simp [and_assoc]
theorem sameV_no {x y : Vl} (h : x ≠ y) : sameV x y = false := by
  cases e : sameV x y with
  | false => rfl
  | true => exact absurd (sameV_iff.1 e) h
theorem sameV_self (x : Vl) : sameV x x = true := sameV_iff.2 rfl
theorem sameV_of {x y : Vl} (h : x = y) : sameV x y = true := sameV_iff.2 h
theorem eql_val (x y : Vl) (w : World) : (binOp .eql 35 (aggV x) (aggV y)).run Tryd.prog w = .ok (.bool (sameV x y)) w := by
  go_simp
  unfold sameV
  by_cases hk : x.k = y.k <;> by_cases hn : x.n = y.n <;> by_cases ht : x.t = y.t <;> simp [hk, hn, ht] <;> omega
theorem neq_val (x y : Vl) (w : World) : (binOp .neq 35 (aggV x) (aggV y)).run Tryd.prog w = .ok (.bool (!sameV x y)) w := by
  go_simp
  unfold sameV
  by_cases hk : x.k = y.k <;> by_cases hn : x.n = y.n <;> by_cases ht : x.t = y.t <;> simp [hk, hn, ht] <;> omega
def store3 (w : World) (g : Nat) (x : Vl) : World := ((w.setCell ⟨g, 0, none⟩ (.int .u8 x.k)).setCell ⟨g, 1, none⟩ (.int .i64 x.n)).setCell ⟨g, 2, none⟩ (.string ⟨x.t.toArray⟩)
theorem Own.store3 {w0 w : World} {H : List Th} (h : Own w0 H w) (k : Nat) {g : Nat} {t : TypeId} {c0 c1 c2 : Value} (e : H[k]? = some (Th.obj g (.cells #[c0, c1, c2] t (0, 0)))) (x : Vl) : Own w0 (H.set k (Th.obj g (.cells #[.int .u8 x.k, .int .i64 x.n, .string ⟨x.t.toArray⟩] t (0, 0)))) (store3 w g x) := by
  have hk : k < H.length := (List.getElem?_eq_some_iff.1 e).1
  have h1 := h.cell k e 0 (.int .u8 x.k)
  have h2 := h1.cell k (List.getElem?_set_self hk) 1 (.int .i64 x.n)
  rw [List.set_set] at h2
  have h3 := h2.cell k (List.getElem?_set_self hk) 2 (.string ⟨x.t.toArray⟩)
  rw [List.set_set] at h3
  exact h3
section
variable {o : Oper} {a : Act} {w : World}
theorem xmove {x : Operand} (ho : o.op = .move x) {v : Value} (hx : a.eval x = v) : (execOp a.eval o).run Tryd.prog w = .ok (.value v) w := by
  unfold execOp; rw [ho]; subst hx; rfl
theorem xassign {x : Operand} (ho : o.op = .assign x) {v : Value} (hx : a.eval x = v) : (execOp a.eval o).run Tryd.prog w = .ok (.value v) w := by
  unfold execOp; rw [ho]; subst hx; rfl
theorem xpick {c x y : Operand} (ho : o.op = .pick c x y) {b : Bool} (hc : a.eval c = .bool b) : (execOp a.eval o).run Tryd.prog w = .ok (.value (if b then a.eval x else a.eval y)) w := by
  unfold execOp
  rw [ho]
  simp only [hc]
  go_simp
theorem xpickT {c x y : Operand} (ho : o.op = .pick c x y) (hc : a.eval c = .bool true) {v : Value} (hx : a.eval x = v) : (execOp a.eval o).run Tryd.prog w = .ok (.value v) w := by subst hx; exact xpick ho hc
theorem xpickF {c x y : Operand} (ho : o.op = .pick c x y) (hc : a.eval c = .bool false) {v : Value} (hy : a.eval y = v) : (execOp a.eval o).run Tryd.prog w = .ok (.value v) w := by subst hy; exact xpick ho hc
/-- x && y, x || y -/
theorem xand {c x y : Operand} (ho : o.op = .pick c x y) {b d : Bool} (hc : a.eval c = .bool b) (hx : b = true → a.eval x = .bool d) (hy : a.eval y = .bool false) : (execOp a.eval o).run Tryd.prog w = .ok (.value (.bool (b && d))) w := by
  rw [xpick ho hc]
  cases b
  · rw [if_neg (by decide), hy]; rfl
  · rw [if_pos rfl, hx rfl]; rfl
theorem xor_ {c x y : Operand} (ho : o.op = .pick c x y) {b d : Bool} (hc : a.eval c = .bool b) (hx : a.eval x = .bool true) (hy : b = false → a.eval y = .bool d) : (execOp a.eval o).run Tryd.prog w = .ok (.value (.bool (b || d))) w := by
  rw [xpick ho hc]
  cases b
  · rw [if_neg (by decide), hy rfl]; rfl
  · rw [if_pos rfl, hx]; rfl
theorem xnot {T : TypeId} {x : Operand} (ho : o.op = .unOp .not T x) {b : Bool} (hx : a.eval x = .bool b) : (execOp a.eval o).run Tryd.prog w = .ok (.value (.bool (!b))) w := by
  unfold execOp; rw [ho]; simp only [hx]; go_simp
theorem xadd {T T2 : TypeId} (hT : T = 3 ∨ T = 2) {x y : Operand} (ho : o.op = .binOp .add T x y T2) {n m : Int} (hx : a.eval x = .int .i64 n) (hy : a.eval y = .int .i64 m) (h1 : -9223372036854775808 ≤ n + m) (h2 : n + m ≤ 9223372036854775807) : (execOp a.eval o).run Tryd.prog w = .ok (.value (.int .i64 (n + m))) w := by
  unfold execOp
  rw [ho]
  simp only [hx, hy]
  rcases hT with rfl | rfl <;> (go_simp; exact IntWalk.i64_in _ (by omega))
theorem xsub {T T2 : TypeId} (hT : T = 3 ∨ T = 2) {x y : Operand} (ho : o.op = .binOp .sub T x y T2) {n m : Int} (hx : a.eval x = .int .i64 n) (hy : a.eval y = .int .i64 m) (h1 : -9223372036854775808 ≤ n - m) (h2 : n - m ≤ 9223372036854775807) : (execOp a.eval o).run Tryd.prog w = .ok (.value (.int .i64 (n - m))) w := by
  unfold execOp
  rw [ho]
  simp only [hx, hy]
  rcases hT with rfl | rfl <;> (go_simp; exact IntWalk.i64_in _ (by omega))
/-- comparisons of numbers -/
theorem xlss {T T2 : TypeId} {x y : Operand} (ho : o.op = .binOp .lss T x y T2) {k : IntKind} {n m : Int} (hx : a.eval x = .int k n) (hy : a.eval y = .int k m) : (execOp a.eval o).run Tryd.prog w = .ok (.value (.bool (decide (n < m)))) w := by
  unfold execOp; rw [ho]; simp only [hx, hy]; go_simp
theorem xleq {T T2 : TypeId} {x y : Operand} (ho : o.op = .binOp .leq T x y T2) {k : IntKind} {n m : Int} (hx : a.eval x = .int k n) (hy : a.eval y = .int k m) : (execOp a.eval o).run Tryd.prog w = .ok (.value (.bool (decide (n ≤ m)))) w := by
  unfold execOp; rw [ho]; simp only [hx, hy]; go_simp
theorem xgtr {T T2 : TypeId} {x y : Operand} (ho : o.op = .binOp .gtr T x y T2) {k : IntKind} {n m : Int} (hx : a.eval x = .int k n) (hy : a.eval y = .int k m) : (execOp a.eval o).run Tryd.prog w = .ok (.value (.bool (decide (m < n)))) w := by
  unfold execOp; rw [ho]; simp only [hx, hy]; go_simp
theorem xgeq {T T2 : TypeId} {x y : Operand} (ho : o.op = .binOp .geq T x y T2) {k : IntKind} {n m : Int} (hx : a.eval x = .int k n) (hy : a.eval y = .int k m) : (execOp a.eval o).run Tryd.prog w = .ok (.value (.bool (decide (m ≤ n)))) w := by
  unfold execOp; rw [ho]; simp only [hx, hy]; go_simp
theorem xeqi {T T2 : TypeId} {x y : Operand} (ho : o.op = .binOp .eql T x y T2) {k : IntKind} {n m : Int} (hx : a.eval x = .int k n) (hy : a.eval y = .int k m) : (execOp a.eval o).run Tryd.prog w = .ok (.value (.bool (decide (n = m)))) w := by
  unfold execOp; rw [ho]; simp only [hx, hy]; go_simp
  try (by_cases h : n = m <;> simp [h])
theorem xnei {T T2 : TypeId} {x y : Operand} (ho : o.op = .binOp .neq T x y T2) {k : IntKind} {n m : Int} (hx : a.eval x = .int k n) (hy : a.eval y = .int k m) : (execOp a.eval o).run Tryd.prog w = .ok (.value (.bool (decide (n ≠ m)))) w := by
  unfold execOp; rw [ho]; simp only [hx, hy]; go_simp
  try (by_cases h : n = m <;> simp [h])
theorem xeqv {T2 : TypeId} {x y : Operand} (ho : o.op = .binOp .eql 35 x y T2) {u v : Vl} (hx : a.eval x = aggV u) (hy : a.eval y = aggV v) : (execOp a.eval o).run Tryd.prog w = .ok (.value (.bool (sameV u v))) w := by
  unfold execOp
  rw [ho]
  simp only [hx, hy]
  have := eql_val u v w
  go_simp
  unfold sameV
  by_cases hk : u.k = v.k <;> by_cases hn : u.n = v.n <;> by_cases ht : u.t = v.t <;> simp [hk, hn, ht] <;> omega
theorem xnev {T2 : TypeId} {x y : Operand} (ho : o.op = .binOp .neq 35 x y T2) {u v : Vl} (hx : a.eval x = aggV u) (hy : a.eval y = aggV v) : (execOp a.eval o).run Tryd.prog w = .ok (.value (.bool (!sameV u v))) w := by
  unfold execOp
  rw [ho]
  simp only [hx, hy]
  have := neq_val u v w
  go_simp
  unfold sameV
  by_cases hk : u.k = v.k <;> by_cases hn : u.n = v.n <;> by_cases ht : u.t = v.t <;> simp [hk, hn, ht] <;> omega
/-- n % m of natural numbers -/
theorem xremN {T T2 : TypeId} (hT : T = 3 ∨ T = 2) {x y : Operand} (ho : o.op = .binOp .rem T x y T2) {n m : Nat} (hx : a.eval x = .int .i64 n) (hy : a.eval y = .int .i64 m) (h0 : 0 < m) (h1 : n ≤ 9223372036854775807) : (execOp a.eval o).run Tryd.prog w = .ok (.value (.int .i64 ((n % m : Nat) : Int))) w := by
  have e : ((m : Int) == 0) = false := by rw [beq_eq_false_iff_ne]; omega
  have e0 : ¬ (m : Int) = 0 := by omega
  have e1 : Int.tmod (n : Int) (m : Int) = ((n % m : Nat) : Int) := by rw [Int.tmod_eq_emod_of_nonneg (by omega)]; omega
  have e2 : IntKind.i64.wrap ((n % m : Nat) : Int) = ((n % m : Nat) : Int) := IntWalk.i64_in _ (by have := Nat.mod_le n m; omega)
  unfold execOp
  rw [ho]
  simp only [hx, hy]
  rcases hT with rfl | rfl <;> (go_simp; omega)
theorem xrem {T T2 : TypeId} (hT : T = 3 ∨ T = 2) {x y : Operand} (ho : o.op = .binOp .rem T x y T2) {n m : Int} (hx : a.eval x = .int .i64 n) (hy : a.eval y = .int .i64 m) (h0 : 0 < m) (h1 : -9223372036854775808 ≤ n) (h2 : n ≤ 9223372036854775807) : (execOp a.eval o).run Tryd.prog w = .ok (.value (.int .i64 (Int.tmod n m))) w := by
  have e : (m == 0) = false := by rw [beq_eq_false_iff_ne]; omega
  have e0 : ¬ m = 0 := by omega
  have e2 : IntKind.i64.wrap (Int.tmod n m) = Int.tmod n m := IntWalk.i64_in _ (by
    have := tmod_within n m
    omega)
  unfold execOp
  rw [ho]
  simp only [hx, hy]
  rcases hT with rfl | rfl <;> (go_simp; try exact e2)
/-! structs of a value -/
theorem xload3 {x : Operand} (ho : o.op = .load 35 x) {b : Nat} (hx : a.eval x = .pointer (some ⟨b, 0, none⟩)) {c0 c1 c2 : Value} (bx : Box w b 35 #[c0, c1, c2]) : (execOp a.eval o).run Tryd.prog w = .ok (.value (.agg #[c0, c1, c2])) w := by
  have x0 : w.cell? ⟨b, 0, none⟩ = some c0 := bx.cell 0
  have x1 : w.cell? ⟨b, 1, none⟩ = some c1 := bx.cell 1
  have x2 : w.cell? ⟨b, 2, none⟩ = some c2 := bx.cell 2
  unfold execOp
  rw [ho]
  simp only [hx]
  go_simp
theorem xstore3 {x y : Operand} (ho : o.op = .store 35 x y) {b : Nat} (hx : a.eval x = .pointer (some ⟨b, 0, none⟩)) {u : Vl} (hy : a.eval y = aggV u) {c0 c1 c2 : Value} (bx : Box w b 35 #[c0, c1, c2]) : (execOp a.eval o).run Tryd.prog w = .ok .skip (store3 w b u) := by
  have x0 : w.cell? ⟨b, 0, none⟩ = some c0 := bx.cell 0
  have x1 : w.cell? ⟨b, 1, none⟩ = some c1 := bx.cell 1
  have x2 : w.cell? ⟨b, 2, none⟩ = some c2 := bx.cell 2
  have f0 := bx.loose 0
  have f1 := bx.loose 1
  have f2 := bx.loose 2
  unfold execOp
  rw [ho]
  simp only [hx, hy]
  unfold store3
  go_simp
abbrev zeroObj : Obj := .cells #[.int .u8 0, .int .i64 0, .string ⟨#[]⟩] 35 (0, 0)
theorem xalloc3 (ho : o.op = .alloc 35) : (execOp a.eval o).run Tryd.prog w = .ok (.value (.pointer (some ⟨w.heap.size, 0, none⟩))) (w.alloc zeroObj) := by
  unfold execOp
  rw [ho]
  go_simp
/-! slice literals -/
abbrev rowObj (l : List Vl) : Obj := .cells (flatV l).toArray 35 (0, 0)
theorem xrow1 {x : Operand} (ho : o.op = .buildSlice 41 1 #[(0, x)]) {u : Vl} (hx : a.eval x = aggV u) : (execOp a.eval o).run Tryd.prog w = .ok (.value (.slice (some ⟨w.heap.size, 0, none⟩) 1 1)) (w.alloc (rowObj [u])) := by
  unfold execOp
  rw [ho]
  simp only [List.map_toArray, List.map_cons, List.map_nil, hx]
  go_simp
  rfl
theorem xrow2 {x y : Operand} (ho : o.op = .buildSlice 41 2 #[(0, x), (1, y)]) {u v : Vl} (hx : a.eval x = aggV u) (hy : a.eval y = aggV v) : (execOp a.eval o).run Tryd.prog w = .ok (.value (.slice (some ⟨w.heap.size, 0, none⟩) 2 2)) (w.alloc (rowObj [u, v])) := by
  unfold execOp
  rw [ho]
  simp only [List.map_toArray, List.map_cons, List.map_nil, hx, hy]
  go_simp
  rfl
theorem xrow3 {x y z : Operand} (ho : o.op = .buildSlice 41 3 #[(0, x), (1, y), (2, z)]) {u v s : Vl} (hx : a.eval x = aggV u) (hy : a.eval y = aggV v) (hz : a.eval z = aggV s) : (execOp a.eval o).run Tryd.prog w = .ok (.value (.slice (some ⟨w.heap.size, 0, none⟩) 3 3)) (w.alloc (rowObj [u, v, s])) := by
  unfold execOp
  rw [ho]
  simp only [List.map_toArray, List.map_cons, List.map_nil, hx, hy, hz]
  go_simp
  rfl
theorem rowObj_row {l : List Vl} {g : Nat} (h : w.heap[g]? = some (rowObj l)) : RowV w (some ⟨g, 0, none⟩) l :=
  RowV.box (t := 35) h (by rw [List.take_of_length_le]; rw [flatV_length]; exact Nat.le_refl _)
/-! lengths, places -/
theorem xminN {T : TypeId} (hT : T = 3) {x y : Operand} {ts : Array TypeId} (ho : o.op = .call { callee := .builtin .min, args := #[x, y], argTypes := ts }) (ht : o.type = T) {n m : Nat} (hx : a.eval x = .int .i64 n) (hy : a.eval y = .int .i64 m) : (execOp a.eval o).run Tryd.prog w = .ok (.value (.int .i64 (min n m : Nat))) w := by
  subst hT
  have e : min (n : Int) (m : Int) = ((min n m : Nat) : Int) := by omega
  unfold execOp
  rw [ho]
  simp only [resolve, List.map_toArray, List.map_cons, List.map_nil, hx, hy]
  go_simp
  try exact e
/-- x[:h] -/
def fz (A : Option Addr) (cap : Nat) : Option Addr := if cap = 0 then A else A.map (·.add 0)
theorem fz_some (b off cap : Nat) : fz (some ⟨b, off, none⟩) cap = some ⟨b, off, none⟩ := by unfold fz; split <;> rfl
theorem xsliceTo {T e : TypeId} (hu : Tryd.prog.underlying T = some (.slice e)) (hz : (sizeOf e).run Tryd.prog w = .ok 1 w) {x y : Operand} (ho : o.op = .slice T x none (some y) none) {A : Option Addr} {n cap h : Nat} (hx : a.eval x = .slice A n cap) (hy : a.eval y = .int .i64 h) (hh : h ≤ cap) : (execOp a.eval o).run Tryd.prog w = .ok (.value (.slice (fz A cap) h cap)) w := by
  have hr := run_underlying (w := w) hu
  have h0 : (0 : Int) ≤ (h : Int) := by omega
  have h1 : (h : Int) ≤ (cap : Int) := by omega
  unfold execOp fz
  rw [ho]
  simp only [hx, hy, Option.map_some, Option.map_none]
  go_simp
theorem xlen {T e : TypeId} (hu : Tryd.prog.underlying T = some (.slice e)) {x : Operand} (ho : o.op = .call { callee := .builtin .len, args := #[x], argTypes := #[T] }) {A : Option Addr} {n cap : Nat} (hx : a.eval x = .slice A n cap) : (execOp a.eval o).run Tryd.prog w = .ok (.value (.int .i64 n)) w := by
  unfold execOp
  rw [ho]
  simp only [resolve, List.map_toArray, List.map_cons, List.map_nil, hx]
  have hr := run_underlying (w := w) hu
  go_simp
theorem xplaceV {x y : Operand} (ho : o.op = .indexAddr 41 x y) {b off n cap k : Nat} (hx : a.eval x = .slice (some ⟨b, off, none⟩) n cap) (hy : a.eval y = .int .i64 k) (hk : k < n) : (execOp a.eval o).run Tryd.prog w = .ok (.value (.pointer (some ⟨b, off + k * 3, none⟩))) w := by
  unfold execOp
  rw [ho]
  simp only [hx, hy]
  have h0 : (0 : Int) ≤ (k : Int) := by omega
  have h1 : (k : Int) < (n : Int) := by omega
  go_simp
theorem xatV {x : Operand} (ho : o.op = .load 35 x) {b off k : Nat} {l : List Vl} (hx : a.eval x = .pointer (some ⟨b, off + k * 3, none⟩)) (hr : RowV w (some ⟨b, off, none⟩) l) (hk : k < l.length) : (execOp a.eval o).run Tryd.prog w = .ok (.value (aggV (l.getD k blankV))) w := by
  obtain ⟨b', off', e, _, x0, x1, x2⟩ := hr k hk
  cases e
  unfold execOp
  rw [ho]
  simp only [hx]
  go_simp
theorem xplaceB {x y : Operand} (ho : o.op = .indexAddr 55 x y) {b off n cap k : Nat} (hx : a.eval x = .slice (some ⟨b, off, none⟩) n cap) (hy : a.eval y = .int .i64 k) (hk : k < n) : (execOp a.eval o).run Tryd.prog w = .ok (.value (.pointer (some ⟨b, off + k, none⟩))) w := by
  unfold execOp
  rw [ho]
  simp only [hx, hy]
  have h0 : (0 : Int) ≤ (k : Int) := by omega
  have h1 : (k : Int) < (n : Int) := by omega
  go_simp
theorem xload1 {T : TypeId} (hT : T = 4 ∨ T = 3 ∨ T = 2 ∨ T = 5 ∨ T = 9) {x : Operand} (ho : o.op = .load T x) {p : Addr} (hx : a.eval x = .pointer (some p)) {v : Value} (hc : w.cell? p = some v) : (execOp a.eval o).run Tryd.prog w = .ok (.value v) w := by
  unfold execOp
  rw [ho]
  simp only [hx]
  rcases hT with rfl | rfl | rfl | rfl | rfl <;> go_simp
/-- append(s, m..) of a row of the call's own -/
theorem xappendV {s x : Operand} (ho : o.op = .call { callee := .builtin .append, args := #[s, x], argTypes := #[41, 41] }) {base : Nat} {v : Value} {l m : List Vl} {g c : Nat} (hs : a.eval s = v) (hx : a.eval x = .slice (some ⟨g, 0, none⟩) m.length c) (hown : w.ownsRow base 35 3 v l.length (flatV l)) (hr : RowV w (some ⟨g, 0, none⟩) m) (hl : l.length + m.length ≤ 1000000) (hbase : base ≤ w.heap.size) :
    ∃ v' w', (execOp a.eval o).run Tryd.prog w = .ok (.value v') w' ∧ w'.ownsRow base 35 3 v' (l ++ m).length (flatV (l ++ m)) ∧ w.grownBy w' v.ownBlock ∧ (v'.ownBlock = v.ownBlock ∨ v'.ownBlock = some w.heap.size) := by
  obtain ⟨i, hi, hz, h1, h2⟩ := info_val
  obtain ⟨v', w', hrun, ho', hg, _, hb⟩ := run_append_own_at (P := Tryd.prog) w base 41 o.type 35 i _ 3 32 Tryd.underlying41 hi hz h1 h2 rfl (by decide) v l.length (flatV l) hown ⟨g, 0, none⟩ m.length c (flatV m) (flatV_length m) (fun j u hj => by
    have hjl : j < m.length * 3 := by rw [← flatV_length]; exact (List.getElem?_eq_some_iff.1 hj).1
    obtain ⟨b', off', e, _, c0, c1, c2⟩ := hr (j / 3) (by omega)
    cases e
    obtain ⟨g0, g1, g2⟩ := flatV_get m (j / 3) (by omega)
    rw [Go.WideShapes.add_plain]
    rcases (show j % 3 = 0 ∨ j % 3 = 1 ∨ j % 3 = 2 by omega) with r | r | r
    · have e : j = j / 3 * 3 := by omega
      rw [e] at hj
      rw [e, c0, ← g0, hj]
    · have e : j = j / 3 * 3 + 1 := by omega
      rw [e] at hj
      rw [e, ← Nat.add_assoc, c1, ← g1, hj]
    · have e : j = j / 3 * 3 + 2 := by omega
      rw [e] at hj
      rw [e, ← Nat.add_assoc, c2, ← g2, hj]) flatV_one (by simp only [maxLen]; omega) (by omega) hbase
  refine ⟨v', w', ?_, by rw [List.length_append, flatV_append]; exact ho', hg, hb⟩
  unfold execOp
  simp only [ho, resolve, invoke, builtin, Sem.run_bind, Sem.run_pure, Result.andThen_ok, List.map_toArray, List.map_cons, List.map_nil, hs, hx, hrun]
theorem stepC_appendV {S : Value → World → Prop} {p : Value → Prop} {s x : Operand} (ho : o.op = .call { callee := .builtin .append, args := #[s, x], argTypes := #[41, 41] }) {base : Nat} {v : Value} {l m : List Vl} {g c : Nat} (hs : a.eval s = v) (hx : a.eval x = .slice (some ⟨g, 0, none⟩) m.length c) (hown : w.ownsRow base 35 3 v l.length (flatV l)) (hr : RowV w (some ⟨g, 0, none⟩) m) (hl : l.length + m.length ≤ 1000000) (hbase : base ≤ w.heap.size)
    (h : ∀ v' w', w'.ownsRow base 35 3 v' (l ++ m).length (flatV (l ++ m)) → w.grownBy w' v.ownBlock → (v'.ownBlock = v.ownBlock ∨ v'.ownBlock = some w.heap.size) → p v' ∧ S v' w') : StepC Tryd.prog S p o a w := by
  obtain ⟨v', w', hr', h1, h2, h3⟩ := xappendV ho hs hx hown hr hl hbase
  obtain ⟨hp, hS⟩ := h v' w' h1 h2 h3
  exact stepC_value hr' hp hS
/-! calls -/
theorem xcall0 {F : FuncId} {ts : Array TypeId} (ho : o.op = .call { callee := .value (.func F), args := #[], argTypes := ts }) (hF : (callFunc F #[]).run Tryd.prog w = .ok (.enter F #[]) w) : (execOp a.eval o).run Tryd.prog w = .ok (.enter F #[]) w := by
  unfold execOp
  rw [ho]
  simp only [resolve, List.map_toArray, List.map_nil]
  simp only [Act.eval]
  go_simp
theorem xcall1 {F : FuncId} {x : Operand} {ts : Array TypeId} (ho : o.op = .call { callee := .value (.func F), args := #[x], argTypes := ts }) {u : Value} (hx : a.eval x = u) (hF : (callFunc F #[u]).run Tryd.prog w = .ok (.enter F #[u]) w) : (execOp a.eval o).run Tryd.prog w = .ok (.enter F #[u]) w := by
  have hf : a.eval (.func F) = .func (.func F) #[] #[] := rfl
  unfold execOp
  rw [ho]
  simp only [resolve, List.map_toArray, List.map_cons, List.map_nil, hf, hx]
  go_simp
theorem xcall2 {F : FuncId} {x y : Operand} {ts : Array TypeId} (ho : o.op = .call { callee := .value (.func F), args := #[x, y], argTypes := ts }) {u v : Value} (hx : a.eval x = u) (hy : a.eval y = v) (hF : (callFunc F #[u, v]).run Tryd.prog w = .ok (.enter F #[u, v]) w) : (execOp a.eval o).run Tryd.prog w = .ok (.enter F #[u, v]) w := by
  have hf : a.eval (.func F) = .func (.func F) #[] #[] := rfl
  unfold execOp
  rw [ho]
  simp only [resolve, List.map_toArray, List.map_cons, List.map_nil, hf, hx, hy]
  go_simp
theorem xcall3 {F : FuncId} {x y z : Operand} {ts : Array TypeId} (ho : o.op = .call { callee := .value (.func F), args := #[x, y, z], argTypes := ts }) {u v s : Value} (hx : a.eval x = u) (hy : a.eval y = v) (hz : a.eval z = s) (hF : (callFunc F #[u, v, s]).run Tryd.prog w = .ok (.enter F #[u, v, s]) w) : (execOp a.eval o).run Tryd.prog w = .ok (.enter F #[u, v, s]) w := by
  have hf : a.eval (.func F) = .func (.func F) #[] #[] := rfl
  unfold execOp
  rw [ho]
  simp only [resolve, List.map_toArray, List.map_cons, List.map_nil, hf, hx, hy, hz]
  go_simp
theorem xcall4 {F : FuncId} {x y z r : Operand} {ts : Array TypeId} (ho : o.op = .call { callee := .value (.func F), args := #[x, y, z, r], argTypes := ts }) {u v s q : Value} (hx : a.eval x = u) (hy : a.eval y = v) (hz : a.eval z = s) (hr : a.eval r = q) (hF : (callFunc F #[u, v, s, q]).run Tryd.prog w = .ok (.enter F #[u, v, s, q]) w) : (execOp a.eval o).run Tryd.prog w = .ok (.enter F #[u, v, s, q]) w := by
  have hf : a.eval (.func F) = .func (.func F) #[] #[] := rfl
  unfold execOp
  rw [ho]
  simp only [resolve, List.map_toArray, List.map_cons, List.map_nil, hf, hx, hy, hz, hr]
  go_simp
end
section
variable {ops : Array Oper} {rest : List Oper} {Q : Exit → Act → World → Prop} {a : Act} {w : World}
theorem wl_nil (M : Act → World → Prop) (hm : M a w) (h : ∀ b u, M b u → Q .normal b u) : wpList Tryd.prog ops Q [] a w := h a w hm
end
end Go.Proofs.YtipkjpcedfokhaaDoor
