/- More steps of typed regions: sums, negations, places in a row, pieces of a row, lengths. -/
import Derived.Test.YtipkjpcedfokhaaDoorRTyped2
import Derived.Test.YtipkjpcedfokhaaDoorRTyped3
import Derived.Test.YtipkjpcedfokhaaDoorGArgs
import Derived.IntWalk
namespace Go.Proofs.YtipkjpcedfokhaaDoor
set_option linter.unusedVariables false
set_option linter.unusedSimpArgs false
open Go.RowKit Lv
/-- a slot that the head does not write -/
theorem beside {ops : Array Oper} {n : Nat} {a0 a : Act} (same : ∀ t, (∀ j o, j < n → ops[j]? = some o → o.dst ≠ some t) → a.tmps.getD t undef = a0.tmps.getD t undef) (t : Nat) (h : ((List.range n).all fun j => ((ops[j]?).bind (·.dst)) != some t) = true) : a.eval (.tmp t) = a0.tmps.getD t undef := by
  refine same t fun j o hj ho e => ?_
  have := List.all_eq_true.1 h j (List.mem_range.2 hj)
  rw [ho] at this
  simp only [Option.bind_some, bne_iff_ne] at this
  exact this e
/-- one value of a row -/
theorem RowV.piece {w : World} {b off : Nat} {l : List Vl} (h : RowV w (some ⟨b, off, none⟩) l) {k : Nat} (hk : k < l.length) : RowV w (some ⟨b, off + k * 3, none⟩) [l.getD k blankV] := by
  have := (h.drop k).take 1
  rwa [List.drop_eq_getElem_cons hk, List.take_succ_cons, List.take_zero, show l[k] = l.getD k blankV by simp [List.getD, hk]] at this
section
variable {ops : Array Oper} {V : Nat → Value → World → Prop} {i : Nat} {o : Oper} {a : Act} {w : World}
theorem run_add64 {T T2 : TypeId} (hT : T = 3) {x y : Operand} (ho : o.op = .binOp .add T x y T2) {n m : Int} (hx : a.eval x = .int .i64 n) (hy : a.eval y = .int .i64 m) (h1 : -9223372036854775808 ≤ n + m) (h2 : n + m ≤ 9223372036854775807) : (execOp a.eval o).run Tryd.prog w = .ok (.value (.int .i64 (n + m))) w := by
  subst hT
  unfold execOp
  rw [ho]
  simp only [hx, hy]
  go_simp
  exact IntWalk.i64_in _ (by omega)
theorem run_sub64 {T T2 : TypeId} (hT : T = 3) {x y : Operand} (ho : o.op = .binOp .sub T x y T2) {n m : Int} (hx : a.eval x = .int .i64 n) (hy : a.eval y = .int .i64 m) (h1 : -9223372036854775808 ≤ n - m) (h2 : n - m ≤ 9223372036854775807) : (execOp a.eval o).run Tryd.prog w = .ok (.value (.int .i64 (n - m))) w := by
  subst hT
  unfold execOp
  rw [ho]
  simp only [hx, hy]
  go_simp
  exact IntWalk.i64_in _ (by omega)
theorem run_not {T : TypeId} {x : Operand} (ho : o.op = .unOp .not T x) {b : Bool} (hx : a.eval x = .bool b) : (execOp a.eval o).run Tryd.prog w = .ok (.value (.bool (!b))) w := by
  unfold execOp
  rw [ho]
  simp only [hx]
  go_simp
theorem run_notT {T : TypeId} {x : Operand} (ho : o.op = .unOp .not T x) (hx : a.eval x = .bool true) : (execOp a.eval o).run Tryd.prog w = .ok (.value (.bool false)) w := run_not ho hx
theorem run_place {T : TypeId} (hT : T = 41) {x y : Operand} (ho : o.op = .indexAddr T x y) {b off n cap k : Nat} (hx : a.eval x = .slice (some ⟨b, off, none⟩) n cap) (hy : a.eval y = .int .i64 k) (hk : k < n) : (execOp a.eval o).run Tryd.prog w = .ok (.value (.pointer (some ⟨b, off + k * 3, none⟩))) w := by
  subst hT
  unfold execOp
  rw [ho]
  simp only [hx, hy]
  have h0 : (0 : Int) ≤ (k : Int) := by omega
  have h1 : (k : Int) < (n : Int) := by omega
  go_simp
theorem run_at {T : TypeId} (hT : T = 35) {x : Operand} (ho : o.op = .load T x) {b off k : Nat} {l : List Vl} (hx : a.eval x = .pointer (some ⟨b, off + k * 3, none⟩)) (hr : RowV w (some ⟨b, off, none⟩) l) (hk : k < l.length) : (execOp a.eval o).run Tryd.prog w = .ok (.value (aggV (l.getD k blankV))) w := by
  subst hT
  obtain ⟨b', off', e, _, x0, x1, x2⟩ := hr k hk
  cases e
  unfold execOp
  rw [ho]
  simp only [hx]
  go_simp
theorem run_len {x : Operand} (ho : o.op = .call { callee := .builtin .len, args := #[x], argTypes := #[41] }) {A : Option Addr} {n cap : Nat} (hx : a.eval x = .slice A n cap) : (execOp a.eval o).run Tryd.prog w = .ok (.value (.int .i64 n)) w := by
  unfold execOp
  rw [ho]
  simp only [resolve, List.map_toArray, List.map_cons, List.map_nil, hx]
  go_simp
theorem run_piece {T : TypeId} (hT : T = 41) {x y z : Operand} (ho : o.op = .slice T x (some y) (some z) none) {b off n cap k : Nat} (hx : a.eval x = .slice (some ⟨b, off, none⟩) n cap) (hy : a.eval y = .int .i64 k) (hz : a.eval z = .int .i64 ((k : Int) + 1)) (hk : k < n) (hc : n ≤ cap) : (execOp a.eval o).run Tryd.prog w = .ok (.value (.slice (some ⟨b, off + k * 3, none⟩) 1 (cap - k))) w := by
  subst hT
  unfold execOp
  rw [ho]
  simp only [hx, hy, hz, Option.map_some, Option.map_none]
  have h0 : (0 : Int) ≤ (k : Int) := by omega
  have h1 : (k : Int) ≤ (k : Int) + 1 := by omega
  have h2 : (k : Int) + 1 ≤ (cap : Int) := by omega
  have h3 : ¬ cap = k := by omega
  have h4 : ((k : Int) + 1).toNat = k + 1 := by omega
  have h5 : k + 1 - k = 1 := by omega
  go_simp
end
end Go.Proofs.YtipkjpcedfokhaaDoor
