/- Steps of a typed region at this seat: loads of values, literals, rows, calls. -/
import Derived.Test.YtipkjpcedfokhaaDoorRTyped
import Derived.Test.YtipkjpcedfokhaaDoorGRows
namespace Go.Proofs.YtipkjpcedfokhaaDoor
set_option linter.unusedVariables false
set_option linter.unusedSimpArgs false
open Go.RowKit Lv
section
variable {ops : Array Oper} {V : Nat → Value → World → Prop} {i : Nat} {o : Oper} {a : Act} {w : World}

theorem yielded_at {P : Array Oper} {j : Nat} {b : Bool} (h : At P a j = .bool b) : yielded P a.tmps j = some b := by
  unfold At at h
  unfold yielded
  cases hd : (P[j]?).bind (·.dst) with
  | none => rw [hd] at h; cases h
  | some t =>
    rw [hd] at h
    simp only at h
    rw [Array.getD_eq_getD_getElem?] at h
    simp only [Option.bind_some]
    cases ht : a.tmps[t]? with
    | none => rw [ht] at h; cases h
    | some v => rw [ht] at h; simp only [Option.getD_some] at h; rw [h]
theorem wants_none (h : o.guard = none) : Region.wanted o (yielded ops a.tmps) = true := by unfold Region.wanted; rw [h]
theorem wants_some {j : Nat} {b : Bool} (h : o.guard = some (j, b)) (g : At ops a j = .bool b) : Region.wanted o (yielded ops a.tmps) = true := by
  unfold Region.wanted
  rw [h]
  simp only
  rw [yielded_at g]
  simp
theorem stepT_value {v : Value} {w' : World} (hw : Region.wanted o (yielded ops a.tmps) = true) (hr : (execOp a.eval o).run Tryd.prog w = .ok (.value v) w') (hv : V i v w') (hk : Kept w w') : StepT Tryd.prog ops V i o a w := by
  unfold StepT
  rw [if_pos hw]
  intro K R hK
  unfold Oper.wp
  rw [hr]
  exact hK v w' hv hk
theorem stepT_enter {f : FuncId} {args : Array Value} (hw : Region.wanted o (yielded ops a.tmps) = true) (hr : (execOp a.eval o).run Tryd.prog w = .ok (.enter f args) w) (hc : Calls Tryd.prog f args w fun e w' => ∃ v, e = .returned v ∧ V i v w' ∧ Kept w w') : StepT Tryd.prog ops V i o a w := by
  unfold StepT
  rw [if_pos hw]
  intro K R hK
  unfold Oper.wp
  rw [hr]
  refine hc.mono fun e w' ⟨v, he, hv, hk⟩ => ?_
  subst he
  exact hK v w' hv hk
theorem run_load3 {T : TypeId} (hT : T = 35) {x : Operand} (ho : o.op = .load T x) {b : Nat} (hx : a.eval x = .pointer (some ⟨b, 0, none⟩)) {c0 c1 c2 : Value} (bx : Box w b 35 #[c0, c1, c2]) : (execOp a.eval o).run Tryd.prog w = .ok (.value (.agg #[c0, c1, c2])) w := by
  subst hT
  have x0 : w.cell? ⟨b, 0, none⟩ = some c0 := bx.cell 0
  have x1 : w.cell? ⟨b, 1, none⟩ = some c1 := bx.cell 1
  have x2 : w.cell? ⟨b, 2, none⟩ = some c2 := bx.cell 2
  unfold execOp
  rw [ho]
  simp only [hx]
  go_simp
theorem run_move {x : Operand} (ho : o.op = .move x ∨ o.op = .assign x) : (execOp a.eval o).run Tryd.prog w = .ok (.value (a.eval x)) w := by
  unfold execOp
  rcases ho with ho | ho <;> rw [ho] <;> rfl
theorem run_pick {c x y : Operand} (ho : o.op = .pick c x y) {b : Bool} (hc : a.eval c = .bool b) : (execOp a.eval o).run Tryd.prog w = .ok (.value (if b then a.eval x else a.eval y)) w := by
  unfold execOp
  rw [ho]
  simp only [hc]
  go_simp
theorem run_pickT {c x y : Operand} (ho : o.op = .pick c x y) (hc : a.eval c = .bool true) : (execOp a.eval o).run Tryd.prog w = .ok (.value (a.eval x)) w := run_pick ho hc
theorem run_pickF {c x y : Operand} (ho : o.op = .pick c x y) (hc : a.eval c = .bool false) : (execOp a.eval o).run Tryd.prog w = .ok (.value (a.eval y)) w := run_pick ho hc
theorem run_row1 {T : TypeId} (hT : T = 41) {x : Operand} (ho : o.op = .buildSlice T 1 #[(0, x)]) {u : Vl} (hx : a.eval x = aggV u) : (execOp a.eval o).run Tryd.prog w = .ok (.value (.slice (some ⟨w.heap.size, 0, none⟩) 1 1)) (w.alloc (.cells (flatV [u]).toArray 35)) := by
  subst hT
  unfold execOp
  rw [ho]
  simp only [List.map_toArray, List.map_cons, List.map_nil, hx]
  go_simp
  rfl
theorem run_row2 {T : TypeId} (hT : T = 41) {x y : Operand} (ho : o.op = .buildSlice T 2 #[(0, x), (1, y)]) {u v : Vl} (hx : a.eval x = aggV u) (hy : a.eval y = aggV v) : (execOp a.eval o).run Tryd.prog w = .ok (.value (.slice (some ⟨w.heap.size, 0, none⟩) 2 2)) (w.alloc (.cells (flatV [u, v]).toArray 35)) := by
  subst hT
  unfold execOp
  rw [ho]
  simp only [List.map_toArray, List.map_cons, List.map_nil, hx, hy]
  go_simp
  rfl
theorem run_row3 {T : TypeId} (hT : T = 41) {x y z : Operand} (ho : o.op = .buildSlice T 3 #[(0, x), (1, y), (2, z)]) {u v s : Vl} (hx : a.eval x = aggV u) (hy : a.eval y = aggV v) (hz : a.eval z = aggV s) : (execOp a.eval o).run Tryd.prog w = .ok (.value (.slice (some ⟨w.heap.size, 0, none⟩) 3 3)) (w.alloc (.cells (flatV [u, v, s]).toArray 35)) := by
  subst hT
  unfold execOp
  rw [ho]
  simp only [List.map_toArray, List.map_cons, List.map_nil, hx, hy, hz]
  go_simp
  rfl
/-- a new row, of these values -/
def RowIs (l : List Vl) (v : Value) (w : World) : Prop := ∃ g, v = .slice (some ⟨g, 0, none⟩) l.length l.length ∧ RowV w (some ⟨g, 0, none⟩) l
theorem RowIs.kept {l : List Vl} {v : Value} {w w' : World} (h : RowIs l v w) (k : Kept w w') : RowIs l v w' := by
  obtain ⟨g, e, r⟩ := h
  exact ⟨g, e, r.kept k⟩
theorem RowIs.made (l : List Vl) (w : World) : RowIs l (.slice (some ⟨w.heap.size, 0, none⟩) l.length l.length) (w.alloc (.cells (flatV l).toArray 35)) :=
  ⟨_, rfl, RowV.box (Box.new w _ _) (by rw [List.take_of_length_le]; rw [flatV_length]; exact Nat.le_refl _)⟩
/-- what waits for earlier ones, by their numbers -/
theorem dep {W : Nat → Prop} {o : Oper} (hd : ∀ e ∈ o.after, Region.binds .any e = true → W e.on) (j : Nat) (h : (o.after.toList.any fun e => Region.binds .any e && e.on == j) = true) : W j := by
  rw [List.any_eq_true] at h
  obtain ⟨e, he, hb⟩ := h
  rw [Array.mem_toList_iff] at he
  rw [Bool.and_eq_true, beq_iff_eq] at hb
  have := hd e he hb.1
  rwa [hb.2] at this
theorem run_call {F : FuncId} {xs : Array Operand} {ts : Array TypeId} (ho : o.op = .call { callee := .value (.func F), args := xs, argTypes := ts }) {args : Array Value} (ha : xs.map a.eval = args) (hF : (callFunc F args).run Tryd.prog w = .ok (.enter F args) w) : (execOp a.eval o).run Tryd.prog w = .ok (.enter F args) w := by
  unfold execOp
  rw [ho]
  simp only [resolve, ha]
  simp only [Act.eval]
  go_simp
end
end Go.Proofs.YtipkjpcedfokhaaDoor
