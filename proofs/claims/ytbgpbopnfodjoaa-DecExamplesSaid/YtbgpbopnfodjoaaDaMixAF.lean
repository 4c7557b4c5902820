/- Small texts together: RTyped6, SX3, SX4, MGlyph, MPrint, MQuote, MTrim, Strs, MComp, MTrim2, MCaps, MUnq, MParse2, MBack, MVal, MVal2, MLogic, GRows, SX2, SX5. -/
import Derived.Test.YtbgpbopnfodjoaaDaMixAD
import Derived.Test.YtbgpbopnfodjoaaDaSX1
import Derived.IntWalk
import Derived.WalkKit
import Derived.Laws.RangeString
import Derived.Shelf.GgClosure.StringsIndexFunc
import Derived.Lib.Replace
import Derived.Lib.CountLaws
import Derived.Lib.SplitLaws
import Derived.Lib.Join
import Derived.Test.YtbgpbopnfodjoaaDaMixAA
import Derived.Lib.Bytealg
import Derived.Lib.ConvBytes
import Derived.Shelf.Abstract
import Derived.Test.YtbgpbopnfodjoaaDaMixAC
import Derived.Lib.ReplaceLaws
import Derived.Laws.Cover1
import Derived.WalkMore
import Derived.Lib.SmallJoins
import Derived.OpenShut
import Derived.ShutString
import Derived.Deep.Slices
import Derived.Laws.OwnMore
import Derived.Laws.AppendOwn
import Derived.Laws.AppendOwnNone
import Derived.ChangeOld
import Derived.Carry
import Derived.ChangeArms
import Derived.Maps.AppendAt
set_option linter.unusedVariables false
set_option linter.unusedSimpArgs false
namespace Go.Proofs.Ytbgpbopnfodjoaa
open Go.RowKit
section
variable {P : Program} {ops : Array Oper}
def acyB (ops : Array Oper) : Bool :=
  (List.range ops.size).all fun i => match ops[i]? with
    | none => true
    | some o => o.after.all fun e => !Region.binds .any e || decide (e.on < i)
end
end Go.Proofs.Ytbgpbopnfodjoaa

namespace Go.Proofs.Ytbgpbopnfodjoaa
open Go.RowKit
section
variable {P : Program} {ops : Array Oper}
def Ps (l : List (Value → Prop)) (j : Nat) : Value → Prop := match l[j]? with
  | some p => p
  | none => fun _ => True
structure BesideC (ops : Array Oper) (a0 : Act) (done : Array Bool) (a : Act) : Prop where
  defers : a.defers = a0.defers
  size : a.tmps.size = a0.tmps.size
  same : ∀ t, (∀ j o, done.getD j false = true → ops[j]? = some o → o.dst ≠ some t) → a.tmps.getD t undef = a0.tmps.getD t undef
structure InvC (ops : Array Oper) (ch : List Nat) (ps : List (Value → Prop)) (S : List Value → World → Prop) (a0 : Act) (done : Array Bool) (a : Act) (w : World) : Prop where
  len : done.size = ops.size
  beside : BesideC ops a0 done a
  vals : ∀ j, done.getD j false = true → Ps ps j (At ops a j)
  shut : ∀ j o, ops[j]? = some o → done.getD j false = true → ∀ e ∈ o.after, Region.binds .any e = true → done.getD e.on false = true
  stage : ∃ s, s ≤ ch.length ∧ (∀ t i, ch[t]? = some i → (done.getD i false = true ↔ t < s)) ∧ S ((ch.take s).map (At ops a)) w
structure Stage where
  c : List Nat → List Value → Prop
  H : List Nat → List Value → List Th
def Stages (w0 : World) (l : List Stage) (ys : List Value) (w : World) : Prop := match l[ys.length]? with
  | some s => ∃ gs, s.c gs ys ∧ Own w0 (s.H gs ys) w
  | none => False
theorem Stages.kept (w0 : World) (l : List Stage) (ys : List Value) (w : World) (h : Stages w0 l ys w) : Kept w0 w := by
  unfold Stages at h
  cases hl : l[ys.length]? with
  | none => rw [hl] at h; cases h
  | some s => rw [hl] at h; obtain ⟨_, _, o⟩ := h; exact o.kept
theorem Stages.drew (w0 : World) (l : List Stage) (ys : List Value) (w : World) (h : Stages w0 l ys w) : Stages w0 l ys { w with drawn := w.drawn + 1 } := by
  unfold Stages at h ⊢
  cases hl : l[ys.length]? with
  | none => rw [hl] at h; cases h
  | some s => rw [hl] at h; obtain ⟨gs, hc, o⟩ := h; exact ⟨gs, hc, o.keep (Kept.refl w).drew⟩
end
end Go.Proofs.Ytbgpbopnfodjoaa

namespace Go.Proofs.Ytbgpbopnfodjoaa
open Go.RowKit
def setCells (cs : Array Value) : Nat → List Value → Array Value
  | _, [] => cs
  | i, v :: r => setCells (cs.setIfInBounds i v) (i + 1) r
def putCells (w : World) (g : Nat) : Nat → List Value → World
  | _, [] => w
  | i, v :: r => putCells (w.setCell ⟨g, i, none⟩ v) g (i + 1) r
section
variable {P : Program} {o : Oper} {a : Act} {w w0 : World} {H : List Th} {g off : Nat} {t T : TypeId} {cs : Array Value}
theorem Own.put (h : Own w0 H w) (k : Nat) (e : H[k]? = some (Th.obj g (.cells cs t (0, 0)))) (i : Nat) (vs : List Value) : Own w0 (H.set k (Th.obj g (.cells (setCells cs i vs) t (0, 0)))) (putCells w g i vs) := by
  induction vs generalizing w H cs i with
  | nil =>
    have hk : k < H.length := (List.getElem?_eq_some_iff.1 e).1
    have : H.set k (Th.obj g (.cells cs t (0, 0))) = H := by
      rw [← (List.getElem?_eq_some_iff.1 e).2]; exact List.set_getElem_self hk
    show Own w0 (H.set k (Th.obj g (.cells cs t (0, 0)))) w; rw [this]; exact h
  | cons v r ih =>
    have hk : k < H.length := (List.getElem?_eq_some_iff.1 e).1; have h1 := h.cell k e i v; have := ih h1 (List.getElem?_set_self hk) (i + 1); rw [List.set_set] at this; exact this
theorem add_none (i : Nat) : (⟨g, off, none⟩ : Addr).add i = ⟨g, off + i, none⟩ := by unfold Addr.add; split <;> simp_all
theorem run_storeCells : ∀ (vs : List Value) (i : Nat) (w : World) (cs : Array Value), Box w g t cs → (vs.all fun v => v.oneCell') = true → off + i + vs.length ≤ cs.size → (storeCells ⟨g, off, none⟩ vs i).run P w = .ok () (putCells w g (off + i) vs)
  | [], i, w, cs, _, _, _ => rfl
  | v :: r, i, w, cs, bx, h1, hl => by
    simp only [List.all_cons, Bool.and_eq_true] at h1
    simp only [List.length_cons] at hl
    have hin : off + i < cs.size := by omega
    have hc : w.cell? ⟨g, off + i, none⟩ = some cs[off + i] := by rw [bx.cell, Array.getElem?_eq_getElem hin]
    have hf : w.frozen? ⟨g, off + i, none⟩ = false := bx.loose _; have ih := run_storeCells r (i + 1) (w.setCell ⟨g, off + i, none⟩ v) _ (Box.at_ bx (off + i) v) h1.2 (by rw [Array.size_setIfInBounds]; omega); unfold storeCells; rw [Sem.run_bind, add_none]
    have hs : (store ⟨g, off + i, none⟩ v).run P w = .ok () (w.setCell ⟨g, off + i, none⟩ v) := by
      cases v with
      | agg _ => exact absurd h1.1 (by simp [Value.oneCell'])
      | tuple _ => exact absurd h1.1 (by simp [Value.oneCell'])
      | _ => simp [store, Sem.run, hc, hf]
    rw [hs, Result.andThen_ok, ih]; show Result.ok () (putCells (w.setCell ⟨g, off + i, none⟩ v) g (off + (i + 1)) r) = _; rw [show off + (i + 1) = off + i + 1 by omega]
    rfl
theorem run_loadCells (bx : Box w g t cs) : ∀ (n i : Nat) (acc : Array Value), off + i + n ≤ cs.size → (loadCellsFrom ⟨g, off, none⟩ i n acc).run P w = .ok (acc ++ ((cs.toList.drop (off + i)).take n).toArray) w
  | 0, i, acc, _ => by simp [loadCellsFrom, Sem.run_pure]
  | n + 1, i, acc, h => by
    have hin : off + i < cs.size := by omega
    have hc : w.cell? ⟨g, off + i, none⟩ = some cs[off + i] := by rw [bx.cell, Array.getElem?_eq_getElem hin]
    have ih := run_loadCells bx n (i + 1) (acc.push cs[off + i]) (by omega); unfold loadCellsFrom; rw [Sem.run_bind, add_none]; have hl : (load ⟨g, off + i, none⟩).run P w = .ok cs[off + i] w := by simp [load, Sem.run, hc]
    rw [hl, Result.andThen_ok, ih, show off + (i + 1) = off + i + 1 by omega]
    congr 1
    have hin' : off + i < cs.toList.length := by rw [Array.length_toList]; exact hin
    rw [List.drop_eq_getElem_cons hin', List.take_succ_cons, Array.getElem_toList]; apply Array.ext'
    simp
theorem xloadN {x : Operand} (n : Nat) {vs : List Value} (ho : o.op = .load T x) (ha : (isAgg T).run P w = .ok true w) (hs : (sizeOf T).run P w = .ok n w) (hx : a.eval x = .pointer (some ⟨g, off, none⟩)) (bx : Box w g t cs) (hb : off + n ≤ cs.size) (hv : (cs.toList.drop off).take n = vs) : (execOp a.eval o).run P w = .ok (.value (.agg vs.toArray)) w := by
  subst hv; have hl := run_loadCells (P := P) (off := off) bx n 0 #[] (by omega); unfold execOp
  simp only [ho, hx, Instr.loadAt, Instr.sureAddr, loadVar, loadCells, Sem.run_bind, Sem.run_pure, Result.andThen_ok, ha, hs, if_true, hl]
  simp
theorem xloadC {x : Operand} {v : Value} (ho : o.op = .load T x) (ha : (isAgg T).run P w = .ok false w) (hx : a.eval x = .pointer (some ⟨g, off, none⟩)) (hc : w.cell? ⟨g, off, none⟩ = some v) : (execOp a.eval o).run P w = .ok (.value v) w := by
  have hl : (load ⟨g, off, none⟩).run P w = .ok v w := by simp [load, Sem.run, hc]
  unfold execOp
  simp only [ho, hx, Instr.loadAt, Instr.sureAddr, loadVar, Sem.run_bind, Sem.run_pure, Result.andThen_ok, ha, Bool.false_eq_true, if_false, hl]
theorem xloadB {x : Operand} {v : Value} (ho : o.op = .load T x) (ha : (isAgg T).run P w = .ok false w) (hx : a.eval x = .pointer (some ⟨g, off, none⟩)) (bx : Box w g t cs) (hc : cs[off]? = some v) : (execOp a.eval o).run P w = .ok (.value v) w := xloadC ho ha hx ((bx.cell off).trans hc)
theorem xstoreN {x y : Operand} {v : Value} (ho : o.op = .store T x y) (hx : a.eval x = .pointer (some ⟨g, off, none⟩)) (hy : a.eval y = v) (hs : (sizeOf T).run P w = .ok v.cells.size w) (bx : Box w g t cs) (h1 : (v.cells.toList.all fun v => v.oneCell') = true) (hb : off + v.cells.toList.length ≤ cs.size) : (execOp a.eval o).run P w = .ok .skip (putCells w g off v.cells.toList) := by
  have hr := run_storeCells (P := P) (off := off) v.cells.toList 0 w cs bx h1 (by omega); rw [Nat.add_zero] at hr; unfold execOp
  simp only [ho, hx, hy, Instr.storeAt, Instr.sureAddr, storeVar, Sem.run_bind, Sem.run_pure, Result.andThen_ok, hs, ne_eq, not_true_eq_false, if_false, hr]
/-! what is reckoned from values alone: the run is the kernel's to see -/
theorem xindexAddr {x y : Operand} {u z v : Value} (ho : o.op = .indexAddr T x y) (hx : a.eval x = u) (hy : a.eval y = z) (h : (Instr.indexAt T u z).run P w = .ok v w) : (execOp a.eval o).run P w = .ok (.value v) w := by
  unfold execOp; simp only [ho, hx, hy, Sem.run_bind, Sem.run_pure, h, Result.andThen_ok]
theorem xextract {x : Operand} {i : Nat} {u v : Value} (ho : o.op = .extract x i) (hx : a.eval x = u) (h : (Instr.extract u i).run P w = .ok v w) : (execOp a.eval o).run P w = .ok (.value v) w := by
  unfold execOp; simp only [ho, hx, Sem.run_bind, Sem.run_pure, h, Result.andThen_ok]
theorem xbuild {ps : Array (Nat × Operand)} {us : Array (Nat × Value)} {v : Value} (ho : o.op = .build T ps) (hx : (ps.map fun (i, x) => (i, a.eval x)) = us) (h : (Instr.build T us).run P w = .ok v w) : (execOp a.eval o).run P w = .ok (.value v) w := by
  unfold execOp; simp only [ho, hx, Sem.run_bind, Sem.run_pure, h, Result.andThen_ok]
theorem xalloc {b : Obj} (ho : o.op = .alloc T) (h : (Instr.alloc T true (.tuple #[])).run P w = .ok (.pointer (some ⟨w.heap.size, 0, none⟩)) (w.alloc b)) : (execOp a.eval o).run P w = .ok (.value (.pointer (some ⟨w.heap.size, 0, none⟩))) (w.alloc b) := by
  unfold execOp; simp only [ho, Sem.run_bind, Sem.run_pure, h, Result.andThen_ok]
theorem xbuildSlice {n : Nat} {ps : Array (Nat × Operand)} {us : Array (Nat × Value)} {b : Obj} (ho : o.op = .buildSlice T n ps) (hx : (ps.map fun (i, x) => (i, a.eval x)) = us) (h : (Instr.buildSlice T n us).run P w = .ok (.slice (some ⟨w.heap.size, 0, none⟩) n n) (w.alloc b)) : (execOp a.eval o).run P w = .ok (.value (.slice (some ⟨w.heap.size, 0, none⟩) n n)) (w.alloc b) := by
  unfold execOp; simp only [ho, hx, Sem.run_bind, Sem.run_pure, h, Result.andThen_ok]
end
end Go.Proofs.Ytbgpbopnfodjoaa
namespace Go.Proofs.Ytbgpbopnfodjoaa
open Go.RowKit
/-! results -/
section
variable {P : Program} {a : Act} {w : World}
def resOne (a : Act) : ResultVar → Sem Value
  | .tmp t => pure (a.tmps.getD t undef)
  | .cell x t => do loadVar t (← asAddr (a.tmps.getD x undef))
inductive ResL (P : Program) (a : Act) (w : World) : List ResultVar → List Value → Prop
  | nil : ResL P a w [] []
  | cons {r : ResultVar} {rs : List ResultVar} {v : Value} {vs : List Value} (h : (resOne a r).run P w = .ok v w) (t : ResL P a w rs vs) : ResL P a w (r :: rs) (v :: vs)
theorem res_tmp {t : Tmp} {v : Value} (e : a.eval (.tmp t) = v) : (resOne a (.tmp t)).run P w = .ok v w := by subst e; rfl
theorem ResL.run {l : List ResultVar} {vs : List Value} (h : ResL P a w l vs) : (l.mapM (resOne a)).run P w = .ok vs w := by
  induction h with
  | nil => rfl
  | cons h t ih => rw [List.mapM_cons, Sem.run_bind, h, Result.andThen_ok, Sem.run_bind, ih]; rfl
def resVal : List Value → Value
  | [x] => x
  | vs => .tuple vs.toArray
theorem resultsL {fn : Func} {l : List ResultVar} {vs : List Value} {v : Value} (h : fn.results = l.toArray) (hl : ResL P a w l vs) (hv : v = resVal vs) {R : Ending → World → Prop} (hd : a.defers = []) (hR : R (.returned v) w) : bodyPost P fn R .ret a w := by
  refine bodyPost_ret ?_ hd hR
  have hm : (l.toArray.mapM (resOne a)).run P w = .ok vs.toArray w := by
    rw [List.mapM_toArray, show (List.toArray <$> l.mapM (resOne a) : Sem (Array Value)) = (l.mapM (resOne a)) >>= fun x => pure x.toArray from rfl, Sem.run_bind, hl.run]
    rfl
  have e : results fn a.tmps = (fn.results.mapM (resOne a)) >>= fun vs => pure (if h : vs.size = 1 then vs[0] else .tuple vs) := by
    unfold results
    congr 1
  rw [e, h, Sem.run_bind, hm, Result.andThen_ok, hv]
  match vs with
  | [] => rfl
  | [x] => rfl
  | x :: y :: r => simp [Sem.run_pure, resVal]
end
end Go.Proofs.Ytbgpbopnfodjoaa

namespace Go.Proofs.Ytbgpbopnfodjoaa.Lv
open Go
end Go.Proofs.Ytbgpbopnfodjoaa.Lv

namespace Go.Proofs.Ytbgpbopnfodjoaa.Lv
open Go
end Go.Proofs.Ytbgpbopnfodjoaa.Lv

namespace Go.Proofs.Ytbgpbopnfodjoaa.Lv
open Go
end Go.Proofs.Ytbgpbopnfodjoaa.Lv

namespace Go.Proofs.Ytbgpbopnfodjoaa.Lv
open Go
end Go.Proofs.Ytbgpbopnfodjoaa.Lv

namespace Go.Proofs.Ytbgpbopnfodjoaa
open Go.RowKit
abbrev strV (p : List UInt8) : Value := .string ⟨p.toArray⟩
def OwnS (w : World) (base : Nat) (v : Value) (l : List (List UInt8)) : Prop := w.ownsRow base 9 1 v l.length (l.map strV)
theorem OwnS.nil (w : World) (base : Nat) : OwnS w base (.slice none 0 0) [] := World.ownsRow_nil w base _ 1
theorem OwnS.kept {w w' : World} {base : Nat} {v : Value} {l : List (List UInt8)} (h : OwnS w base v l) (k : Kept w w') : OwnS w' base v l := by
  obtain ⟨h1, h2⟩ := h; refine ⟨h1, ?_⟩; rcases h2 with h2 | ⟨g, cap, cur, hv, hg, hh, r⟩
  · exact Or.inl h2
  · have hlt : g < w.heap.size := (Array.getElem?_eq_some_iff.1 hh).1
    exact Or.inr ⟨g, cap, cur, hv, hg, (k.block g hlt).trans hh, r⟩
theorem OwnS.alloc {w : World} {base : Nat} {v : Value} {l : List (List UInt8)} (h : OwnS w base v l) (o : Obj) : OwnS (w.alloc o) base v l := h.kept ((Kept.refl w).alloc o)
theorem OwnS.grown {a w w' : World} {base : Nat} {v : Value} {l : List (List UInt8)} (h : OwnS w base v l) (hb : a.heap.size ≤ base) (k : Kept a w) (g : w.grownBy w' v.ownBlock) : Kept a w' :=
  Below.grown k g k.size (fun x hx => Nat.le_trans hb (World.ownsRow.lt h x hx).1)
theorem OwnS.row {w : World} {base : Nat} {v : Value} {l : List (List UInt8)} (h : OwnS w base v l) :
    (l = [] ∧ v = .slice none 0 0) ∨ ∃ g cap, v = .slice (some ⟨g, 0, none⟩) l.length cap ∧ l.length ≤ cap ∧ g < w.heap.size ∧ ∀ j p, l[j]? = some p → w.cell? ⟨g, 0 + j, none⟩ = some (strV p) := by
  rcases h.2 with ⟨rfl, h0⟩ | ⟨g, cap, cur, rfl, _, hh, h4, h5, h6, h7⟩
  · exact Or.inl ⟨List.eq_nil_of_length_eq_zero h0, rfl⟩
  · have hcells := World.ownsRow.cells h (g := g) rfl
    refine Or.inr ⟨g, cap, rfl, h4, (Array.getElem?_eq_some_iff.1 hh).1, fun j p hj => ?_⟩; have hc := hcells j (strV p) (by simp [hj]); rw [Go.WideShapes.add_plain] at hc; exact hc
end Go.Proofs.Ytbgpbopnfodjoaa

namespace Go.Proofs.Ytbgpbopnfodjoaa.Lv
open Go
end Go.Proofs.Ytbgpbopnfodjoaa.Lv

namespace Go.Proofs.Ytbgpbopnfodjoaa.Lv
open Go
end Go.Proofs.Ytbgpbopnfodjoaa.Lv

namespace Go.Proofs.Ytbgpbopnfodjoaa.Lv
open Go
end Go.Proofs.Ytbgpbopnfodjoaa.Lv

namespace Go.Proofs.Ytbgpbopnfodjoaa.Lv
open Go
end Go.Proofs.Ytbgpbopnfodjoaa.Lv

namespace Go.Proofs.Ytbgpbopnfodjoaa.Lv
open Go
section
variable {pre wh t r : List UInt8} {f P n : Nat}
end
end Go.Proofs.Ytbgpbopnfodjoaa.Lv

namespace Go.Proofs.Ytbgpbopnfodjoaa.Lv
open Go
end Go.Proofs.Ytbgpbopnfodjoaa.Lv

namespace Go.Proofs.Ytbgpbopnfodjoaa.Lv
open Go
structure Vl where
  k : Nat
  n : Int
  t : List UInt8
theorem Vl.same {a b : Vl} (h1 : a.k = b.k) (h2 : a.n = b.n) (h3 : a.t = b.t) : a = b := by cases a; cases b; simp only at h1 h2 h3; subst h1; subst h2; subst h3; rfl
end Go.Proofs.Ytbgpbopnfodjoaa.Lv

namespace Go.Proofs.Ytbgpbopnfodjoaa.Lv
open Go
end Go.Proofs.Ytbgpbopnfodjoaa.Lv

namespace Go.Proofs.Ytbgpbopnfodjoaa.Lv
open Go
def blankV : Vl := ⟨0, 0, []⟩
end Go.Proofs.Ytbgpbopnfodjoaa.Lv

namespace Go.Proofs.Ytbgpbopnfodjoaa
open Go.RowKit Lv
def flatV (l : List Vl) : List Value := l.flatMap fun v => [.int .u8 v.k, .int .i64 v.n, .string ⟨v.t.toArray⟩]
theorem flatV_cons (v : Vl) (l : List Vl) : flatV (v :: l) = .int .u8 v.k :: .int .i64 v.n :: .string ⟨v.t.toArray⟩ :: flatV l := rfl
theorem flatV_get : ∀ (l : List Vl) (i : Nat), i < l.length → (flatV l)[i * 3]? = some (.int .u8 (l.getD i blankV).k) ∧ (flatV l)[i * 3 + 1]? = some (.int .i64 (l.getD i blankV).n) ∧ (flatV l)[i * 3 + 2]? = some (.string ⟨(l.getD i blankV).t.toArray⟩)
  | [], i, h => by simp at h
  | v :: l, 0, _ => ⟨rfl, rfl, rfl⟩
  | v :: l, i + 1, h => by
    have ih := flatV_get l i (by simpa using h); rw [flatV_cons, show (i + 1) * 3 = i * 3 + 3 by omega]; exact ih
def RowV (w : World) (A : Option Addr) (l : List Vl) : Prop := ∀ i, i < l.length → ∃ b off, A = some ⟨b, off, none⟩ ∧ b < w.heap.size ∧ w.cell? ⟨b, off + i * 3, none⟩ = some (.int .u8 (l.getD i blankV).k) ∧ w.cell? ⟨b, off + i * 3 + 1, none⟩ = some (.int .i64 (l.getD i blankV).n) ∧ w.cell? ⟨b, off + i * 3 + 2, none⟩ = some (.string ⟨(l.getD i blankV).t.toArray⟩)
theorem RowV.kept {w w' : World} {A : Option Addr} {l : List Vl} (h : RowV w A l) (k : Kept w w') : RowV w' A l := fun i hi => by
  obtain ⟨b, off, rfl, hb, h0, h1, h2⟩ := h i hi; exact ⟨b, off, rfl, Nat.lt_of_lt_of_le hb k.size, (k.cell (p := ⟨b, _, none⟩) hb).trans h0, (k.cell (p := ⟨b, _, none⟩) hb).trans h1, (k.cell (p := ⟨b, _, none⟩) hb).trans h2⟩
theorem RowV.take {w : World} {A : Option Addr} {l : List Vl} (h : RowV w A l) (k : Nat) : RowV w A (l.take k) := fun i hi => by
  rw [List.length_take] at hi; have e : (l.take k).getD i blankV = l.getD i blankV := by simp [List.getD, List.getElem?_take, show i < k by omega]
  rw [e]; exact h i (by omega)
theorem RowV.drop {w : World} {b off : Nat} {l : List Vl} (h : RowV w (some ⟨b, off, none⟩) l) (k : Nat) : RowV w (some ⟨b, off + k * 3, none⟩) (l.drop k) := fun i hi => by
  rw [List.length_drop] at hi; obtain ⟨b', off', e, hb, h0, h1, h2⟩ := h (k + i) (by omega)
  cases e
  have e : (l.drop k).getD i blankV = l.getD (k + i) blankV := by simp [List.getD, List.getElem?_drop]
  rw [e]; exact ⟨b, off + k * 3, rfl, hb, by rw [show off + k * 3 + i * 3 = off + (k + i) * 3 by omega]; exact h0, by rw [show off + k * 3 + i * 3 = off + (k + i) * 3 by omega]; exact h1, by rw [show off + k * 3 + i * 3 = off + (k + i) * 3 by omega]; exact h2⟩
theorem RowV.nil (w : World) (A : Option Addr) : RowV w A [] := fun i hi => by simp at hi
theorem RowV.box {w : World} {g : Nat} {t : TypeId} {cs : Array Value} {l : List Vl} (h : Box w g t cs) (hl : cs.toList.take (l.length * 3) = flatV l) : RowV w (some ⟨g, 0, none⟩) l := fun i hi => by
  obtain ⟨h0, h1, h2⟩ := flatV_get l i hi
  have c : ∀ j v, j < l.length * 3 → (flatV l)[j]? = some v → w.cell? ⟨g, j, none⟩ = some v := fun j v hj hv => by
    rw [h.cell j, ← hv, ← hl, List.getElem?_take_of_lt hj]
    simp
  exact ⟨g, 0, rfl, h.inside, by rw [Nat.zero_add]; exact c _ _ (by omega) h0, by rw [Nat.zero_add]; exact c _ _ (by omega) h1, by rw [Nat.zero_add]; exact c _ _ (by omega) h2⟩
end Go.Proofs.Ytbgpbopnfodjoaa

namespace Go.Proofs.Ytbgpbopnfodjoaa
open Go.RowKit Lv
section
variable {o : Oper} {a : Act} {w : World}
theorem xmove {x : Operand} (ho : o.op = .move x) {v : Value} (hx : a.eval x = v) : (execOp a.eval o).run Try.prog w = .ok (.value v) w := by
  unfold execOp; rw [ho]; subst hx; rfl
theorem xassign {x : Operand} (ho : o.op = .assign x) {v : Value} (hx : a.eval x = v) : (execOp a.eval o).run Try.prog w = .ok (.value v) w := by
  unfold execOp; rw [ho]; subst hx; rfl
theorem xpick {c x y : Operand} (ho : o.op = .pick c x y) {b : Bool} (hc : a.eval c = .bool b) : (execOp a.eval o).run Try.prog w = .ok (.value (if b then a.eval x else a.eval y)) w := by
  unfold execOp; rw [ho]
  simp only [hc]
  go_simp
theorem xpickT {c x y : Operand} (ho : o.op = .pick c x y) (hc : a.eval c = .bool true) {v : Value} (hx : a.eval x = v) : (execOp a.eval o).run Try.prog w = .ok (.value v) w := by subst hx; exact xpick ho hc
theorem xpickF {c x y : Operand} (ho : o.op = .pick c x y) (hc : a.eval c = .bool false) {v : Value} (hy : a.eval y = v) : (execOp a.eval o).run Try.prog w = .ok (.value v) w := by subst hy; exact xpick ho hc
theorem xnot {T : TypeId} {x : Operand} (ho : o.op = .unOp .not T x) {b : Bool} (hx : a.eval x = .bool b) : (execOp a.eval o).run Try.prog w = .ok (.value (.bool (!b))) w := by
  unfold execOp; rw [ho]; simp only [hx]; go_simp
theorem xadd {T T2 : TypeId} (hT : T = 3 ∨ T = 2) {x y : Operand} (ho : o.op = .binOp .add T x y T2) {n m : Int} (hx : a.eval x = .int .i64 n) (hy : a.eval y = .int .i64 m) (h1 : -9223372036854775808 ≤ n + m) (h2 : n + m ≤ 9223372036854775807) : (execOp a.eval o).run Try.prog w = .ok (.value (.int .i64 (n + m))) w := by
  unfold execOp; rw [ho]
  simp only [hx, hy]
  rcases hT with rfl | rfl <;> (go_simp; exact IntWalk.i64_in _ (by omega))
theorem xlss {T T2 : TypeId} {x y : Operand} (ho : o.op = .binOp .lss T x y T2) {k : IntKind} {n m : Int} (hx : a.eval x = .int k n) (hy : a.eval y = .int k m) : (execOp a.eval o).run Try.prog w = .ok (.value (.bool (decide (n < m)))) w := by
  unfold execOp; rw [ho]; simp only [hx, hy]; go_simp
theorem xeqi {T T2 : TypeId} {x y : Operand} (ho : o.op = .binOp .eql T x y T2) {k : IntKind} {n m : Int} (hx : a.eval x = .int k n) (hy : a.eval y = .int k m) : (execOp a.eval o).run Try.prog w = .ok (.value (.bool (decide (n = m)))) w := by
  unfold execOp; rw [ho]; simp only [hx, hy]; go_simp
  try (by_cases h : n = m <;> simp [h])
theorem xnei {T T2 : TypeId} {x y : Operand} (ho : o.op = .binOp .neq T x y T2) {k : IntKind} {n m : Int} (hx : a.eval x = .int k n) (hy : a.eval y = .int k m) : (execOp a.eval o).run Try.prog w = .ok (.value (.bool (decide (n ≠ m)))) w := by
  unfold execOp; rw [ho]; simp only [hx, hy]; go_simp
  try (by_cases h : n = m <;> simp [h])
theorem xlen {T e : TypeId} (hu : Try.prog.underlying T = some (.slice e)) {x : Operand} (ho : o.op = .call { callee := .builtin .len, args := #[x], argTypes := #[T] }) {A : Option Addr} {n cap : Nat} (hx : a.eval x = .slice A n cap) : (execOp a.eval o).run Try.prog w = .ok (.value (.int .i64 n)) w := by
  unfold execOp; rw [ho]
  simp only [resolve, List.map_toArray, List.map_cons, List.map_nil, hx]
  have hr := run_underlying (w := w) hu
  go_simp
theorem xcall1 {F : FuncId} {x : Operand} {ts : Array TypeId} (ho : o.op = .call { callee := .value (.func F), args := #[x], argTypes := ts }) {u : Value} (hx : a.eval x = u) (hF : (callFunc F #[u]).run Try.prog w = .ok (.enter F #[u]) w) : (execOp a.eval o).run Try.prog w = .ok (.enter F #[u]) w := by
  have hf : a.eval (.func F) = .func (.func F) #[] #[] := rfl; unfold execOp; rw [ho]
  simp only [resolve, List.map_toArray, List.map_cons, List.map_nil, hf, hx]
  go_simp
theorem xcall2 {F : FuncId} {x y : Operand} {ts : Array TypeId} (ho : o.op = .call { callee := .value (.func F), args := #[x, y], argTypes := ts }) {u v : Value} (hx : a.eval x = u) (hy : a.eval y = v) (hF : (callFunc F #[u, v]).run Try.prog w = .ok (.enter F #[u, v]) w) : (execOp a.eval o).run Try.prog w = .ok (.enter F #[u, v]) w := by
  have hf : a.eval (.func F) = .func (.func F) #[] #[] := rfl; unfold execOp; rw [ho]
  simp only [resolve, List.map_toArray, List.map_cons, List.map_nil, hf, hx, hy]
  go_simp
theorem xcall3 {F : FuncId} {x y z : Operand} {ts : Array TypeId} (ho : o.op = .call { callee := .value (.func F), args := #[x, y, z], argTypes := ts }) {u v s : Value} (hx : a.eval x = u) (hy : a.eval y = v) (hz : a.eval z = s) (hF : (callFunc F #[u, v, s]).run Try.prog w = .ok (.enter F #[u, v, s]) w) : (execOp a.eval o).run Try.prog w = .ok (.enter F #[u, v, s]) w := by
  have hf : a.eval (.func F) = .func (.func F) #[] #[] := rfl; unfold execOp; rw [ho]
  simp only [resolve, List.map_toArray, List.map_cons, List.map_nil, hf, hx, hy, hz]
  go_simp
end
section
variable {ops : Array Oper} {rest : List Oper} {Q : Exit → Act → World → Prop} {a : Act} {w : World}
end
end Go.Proofs.Ytbgpbopnfodjoaa

namespace Go.Proofs.Ytbgpbopnfodjoaa
open Go.RowKit Lv
section
variable {o : Oper} {a : Act} {w : World}
theorem xeqS {T T2 : TypeId} {x y : Operand} (ho : o.op = .binOp .eql T x y T2) {s t : List UInt8} (hx : a.eval x = .string ⟨s.toArray⟩) (hy : a.eval y = .string ⟨t.toArray⟩) : (execOp a.eval o).run Try.prog w = .ok (.value (.bool (decide (s = t)))) w := by
  unfold execOp; rw [ho]; simp only [hx, hy]; go_simp
  try (by_cases h : s = t <;> simp [h])
theorem run_place1 {T e : TypeId} (hu : Try.prog.underlying T = some (.slice e)) (hs : (sizeOf e).run Try.prog w = .ok 1 w) {b off n c k : Nat} (hk : k < n) : (Instr.indexAt T (.slice (some ⟨b, off, none⟩) n c) (.int .i64 k)).run Try.prog w = .ok (.pointer (some ⟨b, off + k, none⟩)) w := by
  have hr := run_underlying (w := w) hu; have b0 : (0 : Int) ≤ (k : Int) := by omega
  have b1 : (k : Int) < (n : Int) := by omega
  have e := add_none (g := b) (off := off) k
  simp [Instr.indexAt, asIntOf, hr, hs, Result.andThen, b0, b1, e]
  intro hc; omega
def RowC (w : World) (A : Option Addr) (l : List Value) : Prop := ∀ i, i < l.length → ∃ b off, A = some ⟨b, off, none⟩ ∧ b < w.heap.size ∧ w.cell? ⟨b, off + i, none⟩ = l[i]?
theorem RowC.kept {w w' : World} {A : Option Addr} {l : List Value} (h : RowC w A l) (k : Kept w w') : RowC w' A l := fun i hi => by
  obtain ⟨b, off, rfl, hb, hc⟩ := h i hi; exact ⟨b, off, rfl, Nat.lt_of_lt_of_le hb k.size, (k.cell (p := ⟨b, _, none⟩) hb).trans hc⟩
theorem RowC.at_ {w : World} {b off : Nat} {l : List Value} (h : RowC w (some ⟨b, off, none⟩) l) {k : Nat} {v : Value} (e : l[k]? = some v) : w.cell? ⟨b, off + k, none⟩ = some v := by
  obtain ⟨b', off', e', _, hc⟩ := h k (List.getElem?_eq_some_iff.1 e).1
  cases e'
  exact hc.trans e
theorem RowC.nil (w : World) (A : Option Addr) : RowC w A [] := fun i hi => by simp at hi
end
end Go.Proofs.Ytbgpbopnfodjoaa
