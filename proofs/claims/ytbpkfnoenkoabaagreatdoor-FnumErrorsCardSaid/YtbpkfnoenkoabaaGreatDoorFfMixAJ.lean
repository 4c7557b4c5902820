/- Small texts together: RTyped6, SX3, SX4, BunR. -/
import Derived.Test.YtbpkfnoenkoabaaGreatDoorFfMixAH
import Derived.Test.YtbpkfnoenkoabaaGreatDoorFfSX1
import Derived.IntWalk
import Derived.Test.YtbpkfnoenkoabaaGreatDoorFfBunW
import Derived.Test.YtbpkfnoenkoabaaGreatDoorFfBunM
set_option linter.unusedVariables false
set_option linter.unusedSimpArgs false
namespace Go.Proofs.YtbpkfnoenkoabaaGreatDoor
open Go.RowKit
section
variable {P : Program} {ops : Array Oper}
end
end Go.Proofs.YtbpkfnoenkoabaaGreatDoor

namespace Go.Proofs.YtbpkfnoenkoabaaGreatDoor
open Go.RowKit
section
variable {P : Program} {ops : Array Oper}
def Ps (l : List (Value → Prop)) (j : Nat) : Value → Prop := match l[j]? with
  | some p => p
  | none => fun _ => True
structure BesideC (ops : Array Oper) (a0 : Act) (done : Array Bool) (a : Act) : Prop where
  defers : a.defers = a0.defers
  size : a.tmps.size = a0.tmps.size
  same : ∀ t, (∀ j o, done.getD j false = true → ops[j]? = some o → o.dst ≠ some t) → a.tmps.getD t undef = a0.tmps.getD t undef
structure InvC (ops : Array Oper) (ch : List Nat) (ps : List (Value → Prop)) (S : List Value → World → Prop) (a0 : Act) (done : Array Bool) (a : Act) (w : World) : Prop where
  len : done.size = ops.size
  beside : BesideC ops a0 done a
  vals : ∀ j, done.getD j false = true → Ps ps j (At ops a j)
  shut : ∀ j o, ops[j]? = some o → done.getD j false = true → ∀ e ∈ o.after, Region.binds .any e = true → done.getD e.on false = true
  stage : ∃ s, s ≤ ch.length ∧ (∀ t i, ch[t]? = some i → (done.getD i false = true ↔ t < s)) ∧ S ((ch.take s).map (At ops a)) w
structure Stage where
  c : List Nat → List Value → Prop
  H : List Nat → List Value → List Th
def Stages (w0 : World) (l : List Stage) (ys : List Value) (w : World) : Prop := match l[ys.length]? with
  | some s => ∃ gs, s.c gs ys ∧ Own w0 (s.H gs ys) w
  | none => False
theorem Stages.kept (w0 : World) (l : List Stage) (ys : List Value) (w : World) (h : Stages w0 l ys w) : Kept w0 w := by
  unfold Stages at h
  cases hl : l[ys.length]? with
  | none => rw [hl] at h; cases h
  | some s => rw [hl] at h; obtain ⟨_, _, o⟩ := h; exact o.kept
theorem Stages.drew (w0 : World) (l : List Stage) (ys : List Value) (w : World) (h : Stages w0 l ys w) : Stages w0 l ys { w with drawn := w.drawn + 1 } := by
  unfold Stages at h ⊢
  cases hl : l[ys.length]? with
  | none => rw [hl] at h; cases h
  | some s => rw [hl] at h; obtain ⟨gs, hc, o⟩ := h; exact ⟨gs, hc, o.keep (Kept.refl w).drew⟩
end
end Go.Proofs.YtbpkfnoenkoabaaGreatDoor

namespace Go.Proofs.YtbpkfnoenkoabaaGreatDoor
open Go.RowKit
def setCells (cs : Array Value) : Nat → List Value → Array Value
  | _, [] => cs
  | i, v :: r => setCells (cs.setIfInBounds i v) (i + 1) r
def putCells (w : World) (g : Nat) : Nat → List Value → World
  | _, [] => w
  | i, v :: r => putCells (w.setCell ⟨g, i, none⟩ v) g (i + 1) r
section
variable {P : Program} {o : Oper} {a : Act} {w w0 : World} {H : List Th} {g off : Nat} {t T : TypeId} {cs : Array Value}
theorem Own.put (h : Own w0 H w) (k : Nat) (e : H[k]? = some (Th.obj g (.cells cs t (0, 0)))) (i : Nat) (vs : List Value) : Own w0 (H.set k (Th.obj g (.cells (setCells cs i vs) t (0, 0)))) (putCells w g i vs) := by
  induction vs generalizing w H cs i with
  | nil =>
    have hk : k < H.length := (List.getElem?_eq_some_iff.1 e).1
    have : H.set k (Th.obj g (.cells cs t (0, 0))) = H := by
      rw [← (List.getElem?_eq_some_iff.1 e).2]; exact List.set_getElem_self hk
    show Own w0 (H.set k (Th.obj g (.cells cs t (0, 0)))) w; rw [this]; exact h
  | cons v r ih =>
    have hk : k < H.length := (List.getElem?_eq_some_iff.1 e).1; have h1 := h.cell k e i v; have := ih h1 (List.getElem?_set_self hk) (i + 1); rw [List.set_set] at this; exact this
theorem add_none (i : Nat) : (⟨g, off, none⟩ : Addr).add i = ⟨g, off + i, none⟩ := by unfold Addr.add; split <;> simp_all
theorem run_storeCells : ∀ (vs : List Value) (i : Nat) (w : World) (cs : Array Value), Box w g t cs → (vs.all fun v => v.oneCell') = true → off + i + vs.length ≤ cs.size → (storeCells ⟨g, off, none⟩ vs i).run P w = .ok () (putCells w g (off + i) vs)
  | [], i, w, cs, _, _, _ => rfl
  | v :: r, i, w, cs, bx, h1, hl => by
    simp only [List.all_cons, Bool.and_eq_true] at h1
    simp only [List.length_cons] at hl
    have hin : off + i < cs.size := by omega
    have hc : w.cell? ⟨g, off + i, none⟩ = some cs[off + i] := by rw [bx.cell, Array.getElem?_eq_getElem hin]
    have hf : w.frozen? ⟨g, off + i, none⟩ = false := bx.loose _; have ih := run_storeCells r (i + 1) (w.setCell ⟨g, off + i, none⟩ v) _ (Box.at_ bx (off + i) v) h1.2 (by rw [Array.size_setIfInBounds]; omega); unfold storeCells; rw [Sem.run_bind, add_none]
    have hs : (store ⟨g, off + i, none⟩ v).run P w = .ok () (w.setCell ⟨g, off + i, none⟩ v) := by
      cases v with
      | agg _ => exact absurd h1.1 (by simp [Value.oneCell'])
      | tuple _ => exact absurd h1.1 (by simp [Value.oneCell'])
      | _ => simp [store, Sem.run, hc, hf]
    rw [hs, Result.andThen_ok, ih]; show Result.ok () (putCells (w.setCell ⟨g, off + i, none⟩ v) g (off + (i + 1)) r) = _; rw [show off + (i + 1) = off + i + 1 by omega]
    rfl
theorem run_loadCells (bx : Box w g t cs) : ∀ (n i : Nat) (acc : Array Value), off + i + n ≤ cs.size → (loadCellsFrom ⟨g, off, none⟩ i n acc).run P w = .ok (acc ++ ((cs.toList.drop (off + i)).take n).toArray) w
  | 0, i, acc, _ => by simp [loadCellsFrom, Sem.run_pure]
  | n + 1, i, acc, h => by
    have hin : off + i < cs.size := by omega
    have hc : w.cell? ⟨g, off + i, none⟩ = some cs[off + i] := by rw [bx.cell, Array.getElem?_eq_getElem hin]
    have ih := run_loadCells bx n (i + 1) (acc.push cs[off + i]) (by omega); unfold loadCellsFrom; rw [Sem.run_bind, add_none]; have hl : (load ⟨g, off + i, none⟩).run P w = .ok cs[off + i] w := by simp [load, Sem.run, hc]
    rw [hl, Result.andThen_ok, ih, show off + (i + 1) = off + i + 1 by omega]
    congr 1
    have hin' : off + i < cs.toList.length := by rw [Array.length_toList]; exact hin
    rw [List.drop_eq_getElem_cons hin', List.take_succ_cons, Array.getElem_toList]; apply Array.ext'
    simp
theorem xloadN {x : Operand} (n : Nat) {vs : List Value} (ho : o.op = .load T x) (ha : (isAgg T).run P w = .ok true w) (hs : (sizeOf T).run P w = .ok n w) (hx : a.eval x = .pointer (some ⟨g, off, none⟩)) (bx : Box w g t cs) (hb : off + n ≤ cs.size) (hv : (cs.toList.drop off).take n = vs) : (execOp a.eval o).run P w = .ok (.value (.agg vs.toArray)) w := by
  subst hv; have hl := run_loadCells (P := P) (off := off) bx n 0 #[] (by omega); unfold execOp
  simp only [ho, hx, Instr.loadAt, Instr.sureAddr, loadVar, loadCells, Sem.run_bind, Sem.run_pure, Result.andThen_ok, ha, hs, if_true, hl]
  simp
theorem xloadC {x : Operand} {v : Value} (ho : o.op = .load T x) (ha : (isAgg T).run P w = .ok false w) (hx : a.eval x = .pointer (some ⟨g, off, none⟩)) (hc : w.cell? ⟨g, off, none⟩ = some v) : (execOp a.eval o).run P w = .ok (.value v) w := by
  have hl : (load ⟨g, off, none⟩).run P w = .ok v w := by simp [load, Sem.run, hc]
  unfold execOp
  simp only [ho, hx, Instr.loadAt, Instr.sureAddr, loadVar, Sem.run_bind, Sem.run_pure, Result.andThen_ok, ha, Bool.false_eq_true, if_false, hl]
theorem xloadB {x : Operand} {v : Value} (ho : o.op = .load T x) (ha : (isAgg T).run P w = .ok false w) (hx : a.eval x = .pointer (some ⟨g, off, none⟩)) (bx : Box w g t cs) (hc : cs[off]? = some v) : (execOp a.eval o).run P w = .ok (.value v) w := xloadC ho ha hx ((bx.cell off).trans hc)
theorem xstoreN {x y : Operand} {v : Value} (ho : o.op = .store T x y) (hx : a.eval x = .pointer (some ⟨g, off, none⟩)) (hy : a.eval y = v) (hs : (sizeOf T).run P w = .ok v.cells.size w) (bx : Box w g t cs) (h1 : (v.cells.toList.all fun v => v.oneCell') = true) (hb : off + v.cells.toList.length ≤ cs.size) : (execOp a.eval o).run P w = .ok .skip (putCells w g off v.cells.toList) := by
  have hr := run_storeCells (P := P) (off := off) v.cells.toList 0 w cs bx h1 (by omega); rw [Nat.add_zero] at hr; unfold execOp
  simp only [ho, hx, hy, Instr.storeAt, Instr.sureAddr, storeVar, Sem.run_bind, Sem.run_pure, Result.andThen_ok, hs, ne_eq, not_true_eq_false, if_false, hr]
/-! what is reckoned from values alone: the run is the kernel's to see -/
theorem xfieldAddr {x : Operand} {i : Nat} {u v : Value} (ho : o.op = .fieldAddr T x i) (hx : a.eval x = u) (h : (Instr.fieldAt T u i).run P w = .ok v w) : (execOp a.eval o).run P w = .ok (.value v) w := by
  unfold execOp; simp only [ho, hx, Sem.run_bind, Sem.run_pure, h, Result.andThen_ok]
theorem xindexAddr {x y : Operand} {u z v : Value} (ho : o.op = .indexAddr T x y) (hx : a.eval x = u) (hy : a.eval y = z) (h : (Instr.indexAt T u z).run P w = .ok v w) : (execOp a.eval o).run P w = .ok (.value v) w := by
  unfold execOp; simp only [ho, hx, hy, Sem.run_bind, Sem.run_pure, h, Result.andThen_ok]
theorem xindex {x y : Operand} {u z v : Value} (ho : o.op = .index T x y) (hx : a.eval x = u) (hy : a.eval y = z) (h : (Instr.index T u z).run P w = .ok v w) : (execOp a.eval o).run P w = .ok (.value v) w := by
  unfold execOp; simp only [ho, hx, hy, Sem.run_bind, Sem.run_pure, h, Result.andThen_ok]
theorem xextract {x : Operand} {i : Nat} {u v : Value} (ho : o.op = .extract x i) (hx : a.eval x = u) (h : (Instr.extract u i).run P w = .ok v w) : (execOp a.eval o).run P w = .ok (.value v) w := by
  unfold execOp; simp only [ho, hx, Sem.run_bind, Sem.run_pure, h, Result.andThen_ok]
theorem xbuild {ps : Array (Nat × Operand)} {us : Array (Nat × Value)} {v : Value} (ho : o.op = .build T ps) (hx : (ps.map fun (i, x) => (i, a.eval x)) = us) (h : (Instr.build T us).run P w = .ok v w) : (execOp a.eval o).run P w = .ok (.value v) w := by
  unfold execOp; simp only [ho, hx, Sem.run_bind, Sem.run_pure, h, Result.andThen_ok]
theorem xalloc {b : Obj} (ho : o.op = .alloc T) (h : (Instr.alloc T true (.tuple #[])).run P w = .ok (.pointer (some ⟨w.heap.size, 0, none⟩)) (w.alloc b)) : (execOp a.eval o).run P w = .ok (.value (.pointer (some ⟨w.heap.size, 0, none⟩))) (w.alloc b) := by
  unfold execOp; simp only [ho, Sem.run_bind, Sem.run_pure, h, Result.andThen_ok]
theorem xbox {x : Operand} {u : Value} {b : Obj} (ho : o.op = .box T x) (hx : a.eval x = u) (h : (Instr.box T u).run P w = .ok (.pointer (some ⟨w.heap.size, 0, none⟩)) (w.alloc b)) : (execOp a.eval o).run P w = .ok (.value (.pointer (some ⟨w.heap.size, 0, none⟩))) (w.alloc b) := by
  unfold execOp; simp only [ho, hx, Sem.run_bind, Sem.run_pure, h, Result.andThen_ok]
theorem xbuildSlice {n : Nat} {ps : Array (Nat × Operand)} {us : Array (Nat × Value)} {b : Obj} (ho : o.op = .buildSlice T n ps) (hx : (ps.map fun (i, x) => (i, a.eval x)) = us) (h : (Instr.buildSlice T n us).run P w = .ok (.slice (some ⟨w.heap.size, 0, none⟩) n n) (w.alloc b)) : (execOp a.eval o).run P w = .ok (.value (.slice (some ⟨w.heap.size, 0, none⟩) n n)) (w.alloc b) := by
  unfold execOp; simp only [ho, hx, Sem.run_bind, Sem.run_pure, h, Result.andThen_ok]
end
end Go.Proofs.YtbpkfnoenkoabaaGreatDoor
namespace Go.Proofs.YtbpkfnoenkoabaaGreatDoor
open Go.RowKit
/-! results -/
section
variable {P : Program} {a : Act} {w : World}
def resOne (a : Act) : ResultVar → Sem Value
  | .tmp t => pure (a.tmps.getD t undef)
  | .cell x t => do loadVar t (← asAddr (a.tmps.getD x undef))
inductive ResL (P : Program) (a : Act) (w : World) : List ResultVar → List Value → Prop
  | nil : ResL P a w [] []
  | cons {r : ResultVar} {rs : List ResultVar} {v : Value} {vs : List Value} (h : (resOne a r).run P w = .ok v w) (t : ResL P a w rs vs) : ResL P a w (r :: rs) (v :: vs)
theorem res_tmp {t : Tmp} {v : Value} (e : a.eval (.tmp t) = v) : (resOne a (.tmp t)).run P w = .ok v w := by subst e; rfl
theorem res_cell {t : Tmp} {T : TypeId} {g n : Nat} {ty : TypeId} {cs : Array Value} (vs : List Value) (e : a.eval (.tmp t) = .pointer (some ⟨g, 0, none⟩)) (ha : (isAgg T).run P w = .ok true w) (hs : (sizeOf T).run P w = .ok n w) (bx : Box w g ty cs) (hb : 0 + n ≤ cs.size) (hv : cs.toList.take n = vs) : (resOne a (.cell t T)).run P w = .ok (.agg vs.toArray) w := by
  subst hv; have hl := run_loadCells (P := P) (off := 0) bx n 0 #[] (by omega); have e' : a.tmps.getD t undef = .pointer (some ⟨g, 0, none⟩) := e; unfold resOne
  simp only [e', asAddr, loadVar, loadCells, Sem.run_bind, Sem.run_pure, Result.andThen_ok, ha, hs, if_true, hl]
  simp
theorem ResL.run {l : List ResultVar} {vs : List Value} (h : ResL P a w l vs) : (l.mapM (resOne a)).run P w = .ok vs w := by
  induction h with
  | nil => rfl
  | cons h t ih => rw [List.mapM_cons, Sem.run_bind, h, Result.andThen_ok, Sem.run_bind, ih]; rfl
def resVal : List Value → Value
  | [x] => x
  | vs => .tuple vs.toArray
theorem resultsL {fn : Func} {l : List ResultVar} {vs : List Value} {v : Value} (h : fn.results = l.toArray) (hl : ResL P a w l vs) (hv : v = resVal vs) {R : Ending → World → Prop} (hd : a.defers = []) (hR : R (.returned v) w) : bodyPost P fn R .ret a w := by
  refine bodyPost_ret ?_ hd hR
  have hm : (l.toArray.mapM (resOne a)).run P w = .ok vs.toArray w := by
    rw [List.mapM_toArray, show (List.toArray <$> l.mapM (resOne a) : Sem (Array Value)) = (l.mapM (resOne a)) >>= fun x => pure x.toArray from rfl, Sem.run_bind, hl.run]
    rfl
  have e : results fn a.tmps = (fn.results.mapM (resOne a)) >>= fun vs => pure (if h : vs.size = 1 then vs[0] else .tuple vs) := by
    unfold results
    congr 1
  rw [e, h, Sem.run_bind, hm, Result.andThen_ok, hv]
  match vs with
  | [] => rfl
  | [x] => rfl
  | x :: y :: r => simp [Sem.run_pure, resVal]
end
end Go.Proofs.YtbpkfnoenkoabaaGreatDoor

namespace Go.Proofs.YtbpkfnoenkoabaaGreatDoor
open Go.RowKit Lv
end Go.Proofs.YtbpkfnoenkoabaaGreatDoor
namespace Go.Proofs.YtbpkfnoenkoabaaGreatDoor
open Go.RowKit Lv
end Go.Proofs.YtbpkfnoenkoabaaGreatDoor
