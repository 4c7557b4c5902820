/- Small texts together: SX7, SX11, SX9, SX10, MText14, MSum, MRoot, MVal3, MNum13, MAgg, GAgg0, MAgg2. -/
import Derived.Test.YtbkjdcpfkepheaaGreatDoorUSX6
import Derived.LoopN
import Derived.Test.YtbkjdcpfkepheaaGreatDoorUMixAJ
import Derived.Test.YtbkjdcpfkepheaaGreatDoorUBunW
import Derived.Test.YtbkjdcpfkepheaaGreatDoorUMixAL
import Derived.Laws.MakeOwn
import Derived.Lib.IndexMore
import Derived.Test.YtbkjdcpfkepheaaGreatDoorUBunM
import Derived.Laws.Cells
set_option linter.unusedVariables false
set_option linter.unusedSimpArgs false
namespace Go.Proofs.YtbkjdcpfkepheaaGreatDoor
open Go.RowKit
section
variable {a : Act} {w : World} {o : Oper}
theorem xremZ {T T2 : TypeId} (hT : T = 3 ∨ T = 2) {x y : Operand} (ho : o.op = .binOp .rem T x y T2) {n m : Int} (hx : a.eval x = .int .i64 n) (hy : a.eval y = .int .i64 m) (h0 : m ≠ 0) (h1 : -9223372036854775808 ≤ n) (h2 : n ≤ 9223372036854775807) : (execOp a.eval o).run Tryz.prog w = .ok (.value (.int .i64 (Int.tmod n m))) w := by
  have e : (m == 0) = false := by rw [beq_eq_false_iff_ne]; exact h0
  have e2 : IntKind.i64.wrap (Int.tmod n m) = Int.tmod n m := IntWalk.i64_in _ (by
    have := tmod_within n m
    omega)
  unfold execOp; rw [ho]
  simp only [hx, hy]
  rcases hT with rfl | rfl <;> (go_simp; try exact e2)
theorem xneB {T2 : TypeId} {x y : Operand} (ho : o.op = .binOp .neq 4 x y T2) {b d : Bool} (hx : a.eval x = .bool b) (hy : a.eval y = .bool d) : (execOp a.eval o).run Tryz.prog w = .ok (.value (.bool (b != d))) w := by
  unfold execOp; rw [ho]
  simp only [hx, hy]
  cases b <;> cases d <;> go_simp
end
theorem rnd1 {P : Program} {c : Code} {Q : Exit → Act → World → Prop} {n : Nat} {a : Act} {w : World} (h : c.wp P (Exit.then (Code.rounds P c Q n) Q) a w) : Code.rounds P c Q (n + 1) a w := h
theorem Own.perm {w0 w : World} {H H' : List Th} (p : H.Perm H') (h : Own w0 H w) : Own w0 H' w :=
  ⟨h.kept, fun t ht => h.has t (p.mem_iff.2 ht), fun t ht => h.old t (p.mem_iff.2 ht), h.apart.perm p (fun {s t} x g e c => x g c e)⟩
end Go.Proofs.YtbkjdcpfkepheaaGreatDoor

namespace Go.Proofs.YtbkjdcpfkepheaaGreatDoor
open Go.RowKit
section
variable {P : Program} {ops : Array Oper} {n : Nat} {ys : List Yield} {w0 : World} {a0 : Act} {i : Nat} {o : Oper} {r : List Oper} {v v2 : Value} {c : Prop}
def Gd (ops : Array Oper) (ys : List Yield) (o : Oper) (c : Prop) : Prop := ∀ a w, Deps ops ys o a w → (c → Region.wanted o (yielded ops a.tmps) = true) ∧ (¬ c → Region.wanted o (yielded ops a.tmps) = false)
theorem ysI {y : Yield} {j : Nat} {v : Value} {w : World} (hy : ys[j]? = some (yIf c y)) (h : Ys ys j v w) : (c → y.p v w) ∧ (¬ c → v = undef) := by
  unfold Ys at h; rw [hy] at h; exact h
theorem bne_of {b b' : Bool} (h : ¬ b' = b) : (b == b') = false := by cases b <;> cases b' <;> simp at h ⊢
theorem g1 (j : Nat) {b b' : Bool} (h : o.guard = some (j, b)) (hy : ys[j]? = some (yV (.bool b'))) (ha : (o.after.toList.any fun e => Region.binds .any e && e.on == j) = true := by rfl) : Gd ops ys o (b' = b) := fun a w d =>
  ⟨fun e => want1 h (e ▸ ysV_out (depX d j ha) hy), fun e => wantN h (ysV_out (depX d j ha) hy) (bne_of e)⟩
theorem g2 (j : Nat) {b b' : Bool} (h : o.guard = some (j, b)) (hy : ys[j]? = some (yIf c (yV (.bool b')))) (ha : (o.after.toList.any fun e => Region.binds .any e && e.on == j) = true := by rfl) : Gd ops ys o (c ∧ b' = b) := fun a w d => by
  obtain ⟨h1, h2⟩ := ysI hy (depX d j ha); refine ⟨fun e => want1 h (e.2 ▸ h1 e.1), fun e => ?_⟩
  by_cases hc : c
  · exact wantN h (h1 hc) (bne_of fun x => e ⟨hc, x⟩)
  · exact wantU h (h2 hc)
theorem g3 (j : Nat) {b : Bool} (h : o.guard = some (j, b)) (hy : ys[j]? = some (yIf c (yV (.bool b)))) (ha : (o.after.toList.any fun e => Region.binds .any e && e.on == j) = true := by rfl) : Gd ops ys o c := fun a w d => by
  obtain ⟨h1, h2⟩ := ysI hy (depX d j ha); exact ⟨fun e => want1 h (h1 e), fun e => wantU h (h2 e)⟩
theorem di {a : Act} {w : World} {t : Nat} (hd : Deps ops ys o a w) (j : Nat) (hy : ys[j]? = some (yIf c (yV v))) (hc : c) (ha : (o.after.toList.any fun e => Region.binds .any e && e.on == j) = true := by rfl) (ht : (ops[j]?).bind (·.dst) = some t := by rfl) : a.eval (.tmp t) = v := (at_slot ht).symm.trans ((ysI hy (depX hd j ha)).1 hc)
theorem ai_ys {w : World} (hy : ys[i]? = some (yIf c (yV v2))) (hc : c) (e : v = v2) : Ys ys i v w := by
  unfold Ys; rw [hy]; exact ⟨fun _ => e, fun h => absurd hc h⟩
theorem ai_no {w : World} (hy : ys[i]? = some (yIf c (yV v2))) (hc : ¬ c) : Ys ys i undef w := by
  unfold Ys; rw [hy]; exact ⟨fun h => absurd h hc, fun _ => rfl⟩
theorem ai_fs (hy : ys[i]? = some (yIf c (yV v2))) : Fs ys i = false := by
  unfold Fs; rw [hy]; rfl
theorem aiE (g : Gd ops ys o c) (h : ∀ {a w}, Kept w0 w → BesideN ops n a0 a → Deps ops ys o a w → c → (execOp a.eval o).run P w = .ok (.value v) w) (e : c → v = v2) (hy : ys[i]? = some (yIf c (yV v2))) (t : Arms P ops n ys w0 a0 (i + 1) r) : Arms P ops n ys w0 a0 i (o :: r) :=
  ⟨fun a w k b d => by
    by_cases hc : c
    · exact stepX_same ((g a w d).1 hc) (h k b d hc) (ai_ys hy hc (e hc)) (ai_fs hy)
    · exact stepX_skip ((g a w d).2 hc) (ai_no hy hc) (ai_fs hy), t⟩
theorem ai (g : Gd ops ys o c) (h : ∀ {a w}, Kept w0 w → BesideN ops n a0 a → Deps ops ys o a w → c → (execOp a.eval o).run P w = .ok (.value v) w) (hy : ys[i]? = some (yIf c (yV v))) (t : Arms P ops n ys w0 a0 (i + 1) r) : Arms P ops n ys w0 a0 i (o :: r) := aiE g h (fun _ => rfl) hy t
theorem aiD {f : FuncId} {args : Array Value} (g : Gd ops ys o c) (h : ∀ {a w}, Kept w0 w → BesideN ops n a0 a → Deps ops ys o a w → c → (execOp a.eval o).run P w = .ok (.enter f args) w) (q : ∀ {a w}, Kept w0 w → BesideN ops n a0 a → Deps ops ys o a w → c → Calls P f args w fun e w' => e = .returned v ∧ Kept w w') (e : c → v = v2) (hy : ys[i]? = some (yIf c (yV v2))) (t : Arms P ops n ys w0 a0 (i + 1) r) : Arms P ops n ys w0 a0 i (o :: r) :=
  ⟨fun a w k b d => by
    by_cases hc : c
    · exact stepX_enter ((g a w d).1 hc) (h k b d hc) ((q k b d hc).mono fun _ _ ⟨he, hk⟩ => ⟨_, he, ai_ys hy hc (e hc), hk⟩) (ai_fs hy)
    · exact stepX_skip ((g a w d).2 hc) (ai_no hy hc) (ai_fs hy), t⟩
theorem aiC {f : FuncId} {args : Array Value} (g : Gd ops ys o c) (h : ∀ {a w}, Kept w0 w → BesideN ops n a0 a → Deps ops ys o a w → c → (execOp a.eval o).run P w = .ok (.enter f args) w) (q : ∀ {a w}, Kept w0 w → BesideN ops n a0 a → Deps ops ys o a w → c → Calls P f args w fun e w' => e = .returned v ∧ Kept w w') (hy : ys[i]? = some (yIf c (yV v))) (t : Arms P ops n ys w0 a0 (i + 1) r) : Arms P ops n ys w0 a0 i (o :: r) := aiD g h q (fun _ => rfl) hy t
end
end Go.Proofs.YtbkjdcpfkepheaaGreatDoor

namespace Go.Proofs.YtbkjdcpfkepheaaGreatDoor
open Go.RowKit
structure Sto where
  i : Nat
  j : Nat
  tj : Nat
  t : TypeId
  cs : Array Value
  vs : List Value
def Sto.old (s : Sto) : Obj := .cells s.cs s.t (0, 0)
def Sto.new (s : Sto) : Obj := .cells (setCells s.cs 0 s.vs) s.t (0, 0)
def yPtr (base : Nat) : Yield := ⟨fun v w => ∃ g, v = .pointer (some ⟨g, 0, none⟩) ∧ base ≤ g ∧ g < w.heap.size, fun _ _ _ ⟨g, e, hb, hh⟩ k => ⟨g, e, hb, Nat.lt_of_lt_of_le hh k.size⟩, true, fun _ _ _ ⟨g, e, _, hh⟩ => ⟨g, by rw [e]; rfl, hh⟩⟩
def Lasts (y : Yield) : Prop := ∀ v w w', w.heap.size ≤ w'.heap.size → y.p v w → y.p v w'
def Lasting (ys : List Yield) : Prop := ∀ y ∈ ys, Lasts y
theorem lasting0 : Lasting [] := fun _ h => by cases h
theorem lastingV {ys : List Yield} {v : Value} (h : Lasting ys) : Lasting (yV v :: ys) := fun y hy => by
  rcases List.mem_cons.1 hy with rfl | c
  · exact fun _ _ _ _ q => q
  · exact h y c
theorem lastingN {ys : List Yield} (h : Lasting ys) : Lasting (yNo :: ys) := fun y hy => by
  rcases List.mem_cons.1 hy with rfl | c
  · exact fun _ _ _ _ q => q
  · exact h y c
theorem lastingP {ys : List Yield} {b : Nat} (h : Lasting ys) : Lasting (yPtr b :: ys) := fun y hy => by
  rcases List.mem_cons.1 hy with rfl | c
  · exact fun _ _ _ k ⟨g, e, hb, hh⟩ => ⟨g, e, hb, Nat.lt_of_lt_of_le hh k⟩
  · exact h y c
theorem Ys.lasts {ys : List Yield} (h : Lasting ys) {j : Nat} {v : Value} {w w' : World} (k : w.heap.size ≤ w'.heap.size) (q : Ys ys j v w) : Ys ys j v w' := by
  unfold Ys at q ⊢
  cases e : ys[j]? with
  | none => trivial
  | some y => rw [e] at q; exact h y (List.mem_of_getElem? e) v w w' k q
theorem putCells_kept {a w : World} {g : Nat} (hg : a.heap.size ≤ g) : ∀ (vs : List Value) (i : Nat) (w : World), Kept a w → Kept a (putCells w g i vs)
  | [], _, _, h => h
  | v :: r, i, w, h => putCells_kept (w := w) hg r (i + 1) _ (h.setCell (p := ⟨g, i, none⟩) hg v)
theorem putCells_size {g : Nat} : ∀ (vs : List Value) (i : Nat) (w : World), (putCells w g i vs).heap.size = w.heap.size
  | [], _, _ => rfl
  | v :: r, i, w => by
    show (putCells (w.setCell ⟨g, i, none⟩ v) g (i + 1) r).heap.size = _; rw [putCells_size r (i + 1), World.size_setCell]
theorem putCells_far {g h : Nat} (ne : h ≠ g) : ∀ (vs : List Value) (i : Nat) (w : World), (putCells w g i vs).heap[h]? = w.heap[h]?
  | [], _, _ => rfl
  | v :: r, i, w => by
    show (putCells (w.setCell ⟨g, i, none⟩ v) g (i + 1) r).heap[h]? = _; rw [putCells_far ne r (i + 1)]; exact Below.heap_setCell w ⟨g, i, none⟩ v h ne
theorem putCells_box {g : Nat} {t : TypeId} : ∀ (vs : List Value) (i : Nat) (w : World) (cs : Array Value), Box w g t cs → Box (putCells w g i vs) g t (setCells cs i vs)
  | [], _, _, _, h => h
  | v :: r, i, w, cs, h => putCells_box r (i + 1) _ _ (h.at_ i v)
theorem pw_eq {l : List Sto} (h : l.Pairwise fun s u => s.i ≠ u.i ∧ s.j ≠ u.j) : ∀ s ∈ l, ∀ u ∈ l, (s.i = u.i ∨ s.j = u.j) → s = u := by
  induction h with
  | nil => intro s hs; cases hs
  | cons hx _ ih =>
    intro s hs u hu c; rcases List.mem_cons.1 hs with rfl | hs1
    · rcases List.mem_cons.1 hu with rfl | hu1
      · rfl
      · have := hx u hu1
        rcases c with c | c
        · exact absurd c this.1
        · exact absurd c this.2
    · rcases List.mem_cons.1 hu with rfl | hu1
      · have := hx s hs1
        rcases c with c | c
        · exact absurd c.symm this.1
        · exact absurd c.symm this.2
      · exact ih s hs1 u hu1 c
def freeB9 (ops : Array Oper) (N : Nat) : Bool :=
  acyB ops && (List.range ops.size).all fun i => match (ops[i]?).bind (·.dst) with
    | none => true
    | some t => decide (t < N) && (List.range ops.size).all fun j => Nat.beq j i || !(((ops[j]?).bind (·.dst)) == some t)
def stoB (ops : Array Oper) (ij : List (Nat × Nat × Nat)) : Bool := ij.all fun s => ((ops[s.2.1]?).bind (·.dst) == some s.2.2) && (match ops[s.1]? with
  | some o => o.dst.isNone && o.after.toList.any fun e => Region.binds .any e && e.on == s.2.1
  | none => false)
section
variable {P : Program} {ops : Array Oper}
structure InvF9 (ops : Array Oper) (ys : List Yield) (sto : List Sto) (w0 : World) (a0 : Act) (done : Array Bool) (a : Act) (w : World) : Prop where
  len : done.size = ops.size
  kept : Kept w0 w
  beside : BesideN ops ops.size a0 a
  vals : ∀ j, done.getD j false = true → Ys ys j (At ops a j) w
  apart : ∀ j k, j ≠ k → Fs ys j = true → Fs ys k = true → done.getD j false = true → done.getD k false = true → blkOf (At ops a j) ≠ blkOf (At ops a k)
  ord : ∀ s ∈ sto, done.getD s.i false = true → done.getD s.j false = true
  cont : ∀ s ∈ sto, done.getD s.j false = true → ∀ g, blkOf (At ops a s.j) = some g → w.heap[g]? = some (if done.getD s.i false = true then s.new else s.old)
def StepF9 (P : Program) (ops : Array Oper) (ys : List Yield) (sto : List Sto) (i : Nat) (o : Oper) (a : Act) (w : World) : Prop :=
  (StepX P ops ys i o a w ∧ (o.dst.isSome && sto.all fun s => !Nat.beq s.i i && !Nat.beq s.j i) = true) ∨
  (∃ s ∈ sto, s.j = i ∧ Region.wanted o (yielded ops a.tmps) = true ∧ (execOp a.eval o).run P w = .ok (.value (.pointer (some ⟨w.heap.size, 0, none⟩))) (w.alloc s.old)) ∨
  (∃ s ∈ sto, s.i = i ∧ Region.wanted o (yielded ops a.tmps) = true ∧ ∀ g, a.eval (.tmp s.tj) = .pointer (some ⟨g, 0, none⟩) → Box w g s.t s.cs → (execOp a.eval o).run P w = .ok .skip (putCells w g 0 s.vs))
theorem getD_keep' {done : Array Bool} {j : Nat} (h : done.getD j false = true) (i : Nat) : (done.setIfInBounds i true).getD j false = true := by
  by_cases e : i = j
  · subst e
    have : i < done.size := by
      rcases Nat.lt_or_ge i done.size with c | c
      · exact c
      · simp [Array.getD, Nat.not_lt.2 c] at h
    simp [Array.getD, this]
  · rw [getD_set_ne false e]; exact h
theorem At.put_same {i t : Nat} {o : Oper} {a : Act} {v : Value} (h : ops[i]? = some o) (hd : o.dst = some t) (hs : t < a.tmps.size) : At ops (a.put o.dst v) i = v := by
  unfold At; rw [h, hd]
  simp only [Option.bind_some, hd]
  exact getD_put_same hs
theorem free_dst {N : Nat} (hB : freeB9 ops N = true) {i t : Nat} {o : Oper} (h : ops[i]? = some o) (hd : o.dst = some t) : t < N ∧ ∀ j q, j ≠ i → ops[j]? = some q → q.dst ≠ some t := by
  simp only [freeB9, Bool.and_eq_true, List.all_eq_true, List.mem_range] at hB
  have hi : i < ops.size := (Array.getElem?_eq_some_iff.1 h).1; have := hB.2 i hi; rw [h] at this
  simp only [Option.bind_some, hd, Bool.and_eq_true, decide_eq_true_eq, List.all_eq_true, List.mem_range, Bool.or_eq_true, Bool.not_eq_true', beq_eq_false_iff_ne, ne_eq] at this
  refine ⟨this.1, fun j q ne hq e => ?_⟩; have hj : j < ops.size := (Array.getElem?_eq_some_iff.1 hq).1; rcases this.2 j hj with c | c
  · exact ne (Nat.eq_of_beq_eq_true c)
  · rw [hq] at c
    exact c (by simpa using e)
theorem At.put_other {N i : Nat} {o : Oper} {a : Act} {v : Value} (hB : freeB9 ops N = true) (h : ops[i]? = some o) {j : Nat} (ne : j ≠ i) : At ops (a.put o.dst v) j = At ops a j := by
  cases hd : o.dst with
  | none => rfl
  | some t =>
    unfold At
    cases hq : ops[j]? with
    | none => rfl
    | some q =>
      simp only [Option.bind_some]
      cases hu : q.dst with
      | none => rfl
      | some u =>
        simp only
        exact getD_put_other (fun e => (free_dst hB h hd).2 j q ne hq (by rw [hu, e]))
theorem BesideN.put' {i : Nat} {o : Oper} {a0 a : Act} {v : Value} (h : ops[i]? = some o) (b : BesideN ops ops.size a0 a) : BesideN ops ops.size a0 (a.put o.dst v) := by
  cases hd : o.dst with
  | none => exact b
  | some t =>
    have hi : i < ops.size := (Array.getElem?_eq_some_iff.1 h).1; refine ⟨b.defers, by simp only [Act.put, Array.size_setIfInBounds]; exact b.size, fun u hu => ?_⟩; rw [getD_put_other, b.same u hu]; rintro rfl
    have : writesN ops ops.size t = true := by
      unfold writesN; rw [List.any_eq_true]; exact ⟨i, List.mem_range.2 hi, by rw [h]; simp [hd]⟩
    rw [this] at hu; cases hu
theorem sto_at {ij : List Sto} (hS : stoB ops (ij.map fun s => (s.i, s.j, s.tj)) = true) {s : Sto} (hs : s ∈ ij) : (ops[s.j]?).bind (·.dst) = some s.tj ∧ ∃ o, ops[s.i]? = some o ∧ o.dst = none ∧ ∃ e ∈ o.after, Region.binds .any e = true ∧ e.on = s.j := by
  simp only [stoB, List.all_map, List.all_eq_true, Function.comp, Bool.and_eq_true, beq_iff_eq] at hS
  obtain ⟨h1, h2⟩ := hS s hs; refine ⟨h1, ?_⟩
  cases ho : ops[s.i]? with
  | none => rw [ho] at h2; cases h2
  | some o =>
    rw [ho] at h2
    simp only [Bool.and_eq_true, Option.isNone_iff_eq_none, List.any_eq_true, beq_iff_eq] at h2
    obtain ⟨e, he, hb⟩ := h2.2; exact ⟨o, rfl, h2.1, e, by simpa using he, hb⟩
theorem InvF9.put {ys : List Yield} {sto : List Sto} {N : Nat} {w0 w w' : World} {a0 a : Act} {done : Array Bool} (hB : freeB9 ops N = true)
    (inv : InvF9 ops ys sto w0 a0 done a w) {i : Nat} {o : Oper} (h : ops[i]? = some o) {v : Value} (hu : done.getD i true = false) (hv : Ys ys i (At ops (a.put o.dst v) i) w') (k : Kept w w') (hf : Fs ys i = true → ∃ g, blkOf (At ops (a.put o.dst v) i) = some g ∧ w.heap.size ≤ g)
    (hc : ∀ s ∈ sto, s.j = i → ∀ g, blkOf (At ops (a.put o.dst v) i) = some g → done.getD s.i false = false ∧ w'.heap[g]? = some s.old) (hn : ∀ s ∈ sto, s.i ≠ i) (hp : ∀ s ∈ sto, Fs ys s.j = true) :
    InvF9 ops ys sto w0 a0 (done.setIfInBounds i true) (a.put o.dst v) w' := by
  have hi : i < ops.size := (Array.getElem?_eq_some_iff.1 h).1; have old : ∀ j, j ≠ i → (done.setIfInBounds i true).getD j false = true → done.getD j false = true := fun j ne hj => by rwa [getD_set_ne false (fun e => ne e.symm)] at hj
  have oth : ∀ j, j ≠ i → At ops (a.put o.dst v) j = At ops a j := fun j ne => At.put_other hB h ne; refine ⟨by rw [Array.size_setIfInBounds]; exact inv.len, inv.kept.trans k, inv.beside.put' h, fun j hd => ?_, fun j q ne fj fq dj dq => ?_, fun s hs hd => ?_, fun s hs hd g hg => ?_⟩
  · by_cases e : j = i
    · subst e; exact hv
    · rw [oth j e]; exact (inv.vals j (old j e hd)).stays k
  · by_cases ej : j = i
    · subst ej
      have eq : q ≠ j := fun e => ne e.symm; rw [oth q eq]; obtain ⟨g, hg, hge⟩ := hf fj; obtain ⟨g2, hg2, hlt⟩ := (inv.vals q (old q eq dq)).inside fq; rw [hg, hg2]; intro e
      cases e
      omega
    · by_cases eq : q = i
      · subst eq
        rw [oth j ej]; obtain ⟨g, hg, hge⟩ := hf fq; obtain ⟨g2, hg2, hlt⟩ := (inv.vals j (old j ej dj)).inside fj; rw [hg, hg2]; intro e
        cases e
        omega
      · rw [oth j ej, oth q eq]
        exact inv.apart j q ne fj fq (old j ej dj) (old q eq dq)
  · rw [getD_set_ne false (fun e => hn s hs e.symm)] at hd
    exact getD_keep' (inv.ord s hs hd) i
  · have ns : s.i ≠ i := hn s hs
    rw [getD_set_ne false (fun e => ns e.symm)]
    by_cases e : s.j = i
    · rw [e] at hg
      obtain ⟨h1, h2⟩ := hc s hs e g hg; rw [h1]; exact h2
    · rw [oth s.j e] at hg
      have := inv.cont s hs (old s.j e hd) g hg; obtain ⟨g2, hg2, hlt⟩ := (inv.vals s.j (old s.j e hd)).inside (hp s hs); rw [hg] at hg2
      cases hg2
      exact (k.block g hlt).trans this
theorem InvF9.store {ys : List Yield} {sto : List Sto} {N : Nat} {w0 w : World} {a0 a : Act} {done : Array Bool} (hB : freeB9 ops N = true) (hP : sto.Pairwise fun s u => s.i ≠ u.i ∧ s.j ≠ u.j) (hl : Lasting ys) (hy : ∀ s ∈ sto, ys[s.j]? = some (yPtr w0.heap.size)) (hyi : ∀ s ∈ sto, ys[s.i]? = some yNo)
    (inv : InvF9 ops ys sto w0 a0 done a w) {s : Sto} (hs : s ∈ sto) {o : Oper} (h : ops[s.i]? = some o) (hd : o.dst = none) (hu : done.getD s.i true = false) (hdj : done.getD s.j false = true) {g : Nat} (hg : At ops a s.j = .pointer (some ⟨g, 0, none⟩)) (v : Value) :
    InvF9 ops ys sto w0 a0 (done.setIfInBounds s.i true) (a.put o.dst v) (putCells w g 0 s.vs) := by
  have hi : s.i < ops.size := (Array.getElem?_eq_some_iff.1 h).1; have ea : a.put o.dst v = a := by rw [hd]; rfl
  rw [ea]; have old : ∀ j, j ≠ s.i → (done.setIfInBounds s.i true).getD j false = true → done.getD j false = true := fun j ne hj => by rwa [getD_set_ne false (fun e => ne e.symm)] at hj
  have fj : ∀ u ∈ sto, Fs ys u.j = true := fun u hu => by unfold Fs; rw [hy u hu]; rfl
  have fi : Fs ys s.i = false := by unfold Fs; rw [hyi s hs]; rfl
  have ne_of : ∀ j, Fs ys j = true → j ≠ s.i := fun j f e => by rw [e, fi] at f; cases f
  have gb : w0.heap.size ≤ g := by
    have := inv.vals s.j hdj; unfold Ys at this; rw [hy s hs, hg] at this; obtain ⟨g', e, hb, _⟩ := this
    cases e
    exact hb
  refine ⟨by rw [Array.size_setIfInBounds]; exact inv.len, putCells_kept (w := w) gb _ _ _ inv.kept, inv.beside, fun j hd => ?_, fun j q ne fj' fq' dj dq => inv.apart j q ne fj' fq' (old j (ne_of j fj') dj) (old q (ne_of q fq') dq), fun u hu' hd => ?_, fun u hu' hd g2 hg2 => ?_⟩
  · by_cases e : j = s.i
    · subst e
      unfold Ys; rw [hyi s hs]
      trivial
    · exact (inv.vals j (old j e hd)).lasts hl (by rw [putCells_size]; exact Nat.le_refl _)
  · by_cases e : u = s
    · subst e; exact getD_keep' hdj _
    · exact getD_keep' (inv.ord u hu' (old u.i (fun c => e (pw_eq hP u hu' s hs (Or.inl c))) hd)) _
  · have old1 := old u.j (ne_of u.j (fj u hu')) hd
    by_cases e : u = s
    · subst e
      rw [hg] at hg2
      cases hg2
      have is_ : (done.setIfInBounds u.i true).getD u.i false = true := by
        have : u.i < done.size := by rw [inv.len]; exact hi
        simp [Array.getD, this]
      rw [if_pos is_]; have c := inv.cont u hs hdj g (by rw [hg]; rfl); rw [if_neg (by rw [getD_both hu]; simp)] at c; exact putCells_box u.vs 0 w u.cs c
    · have nj : u.j ≠ s.j := fun c => e (pw_eq hP u hu' s hs (Or.inr c))
      have ni : u.i ≠ s.i := fun c => e (pw_eq hP u hu' s hs (Or.inl c))
      have gne : g2 ≠ g := fun c => by
        have := inv.apart u.j s.j nj (fj u hu') (fj s hs) old1 hdj; rw [hg2, hg, c] at this; exact this rfl
      rw [putCells_far gne, getD_set_ne false (fun c => ni c.symm)]; exact inv.cont u hu' old1 g2 hg2
theorem region_free {id : Nat} {l : List Oper} (ys : List Yield) (sto : List Sto) (N : Nat) {Q : Exit → Act → World → Prop} {w0 : World} {a0 : Act} (hm : P.follows .mixedOrders = true) (hz : a0.tmps.size = N) (hB : freeB9 l.toArray N = true) (hS : stoB l.toArray (sto.map fun s => (s.i, s.j, s.tj)) = true) (hP : sto.Pairwise fun s u => s.i ≠ u.i ∧ s.j ≠ u.j)
    (hl : Lasting ys) (hy : ∀ s ∈ sto, ys[s.j]? = some (yPtr w0.heap.size)) (hyi : ∀ s ∈ sto, ys[s.i]? = some yNo)
    (step : ∀ i o, l.toArray[i]? = some o → ∀ a w, Kept w0 w → BesideN l.toArray l.toArray.size a0 a → Deps l.toArray ys o a w → StepF9 P l.toArray ys sto i o a w)
    (fin : ∀ a w, Kept w0 w → BesideN l.toArray l.toArray.size a0 a → (∀ j, j < l.toArray.size → Ys ys j (At l.toArray a j) w) → (∀ j k, j < l.toArray.size → k < l.toArray.size → j ≠ k → Fs ys j = true → Fs ys k = true → blkOf (At l.toArray a j) ≠ blkOf (At l.toArray a k)) →
      (∀ s ∈ sto, ∀ g, blkOf (At l.toArray a s.j) = some g → w.heap[g]? = some s.new) → Q .normal a w) :
    (Code.region id l.toArray true).wp P Q a0 w0 := by
  have hA : acyB l.toArray = true := by
    have := hB
    simp only [freeB9, Bool.and_eq_true] at this
    exact this.1
  have fs : ∀ u ∈ sto, Fs ys u.j = true := fun u hu => by unfold Fs; rw [hy u hu]; rfl
  refine region_inv (I := InvF9 l.toArray ys sto w0 a0) hm hA ?_ ?_ ?_
  · refine ⟨Array.size_replicate, (Kept.refl w0).drew, ⟨rfl, rfl, fun _ _ => rfl⟩, fun j hj => ?_, fun j k _ _ _ hj _ => ?_, fun s _ hj => ?_, fun s _ hj => ?_⟩ <;> (rw [getD_replicate_false] at hj; cases hj)
  · intro done i o ho hsz hu waits a w inv
    have hi : i < l.toArray.size := (Array.getElem?_eq_some_iff.1 ho).1; have deps : Deps l.toArray ys o a w := fun e he hb => inv.vals e.on (waits e he hb); have st := step i o ho a w inv.kept inv.beside deps; rcases st with ⟨st, no⟩ | ⟨s, hs, rfl, wa, run⟩ | ⟨s, hs, rfl, wa, run⟩
    · have nos : ∀ s ∈ sto, s.i ≠ i ∧ s.j ≠ i := fun s hs => by
        rw [Bool.and_eq_true] at no; have := List.all_eq_true.1 no.2 s hs
        simp only [Bool.and_eq_true, Bool.not_eq_true'] at this
        exact ⟨fun e => (by rw [e, Nat.beq_refl] at this; cases this.1), fun e => (by rw [e, Nat.beq_refl] at this; cases this.2)⟩
      unfold StepX at st; unfold StepI
      have res : ∀ v w', Ys ys i v w' → Kept w w' → (Fs ys i = true → ∃ g, blkOf v = some g ∧ w.heap.size ≤ g) → InvF9 l.toArray ys sto w0 a0 (done.setIfInBounds i true) (a.put o.dst v) w' := fun v w' hv hk hf => by
        cases hd : o.dst with
        | none => rw [hd] at no; cases no
        | some t =>
          have sz : t < a.tmps.size := by rw [inv.beside.size, hz]; exact (free_dst hB ho hd).1
          have ev := At.put_same (v := v) ho hd sz; exact hd ▸ InvF9.put hB inv ho hu (v := v) (by rw [ev]; exact hv) hk (by rw [ev]; exact hf) (fun s hs e => absurd e (nos s hs).2) (fun s hs => (nos s hs).1) fs
      split
      · rename_i hw
        rw [if_pos hw] at st; exact fun K R hK => st K R fun v w' hv hk hf => hK v w' (res v w' hv hk hf)
      · rename_i hw
        rw [if_neg hw] at st; exact res undef w st.1 (Kept.refl w) (fun e => by rw [st.2] at e; cases e)
    · obtain ⟨hdj, o', ho', hd', e, he, hb, hon⟩ := sto_at hS hs
      unfold StepI; rw [if_pos wa]; intro K R hK; rw [ho] at hdj
      simp only [Option.bind_some] at hdj
      have sz : s.tj < a.tmps.size := by rw [inv.beside.size, hz]; exact (free_dst hB ho hdj).1
      have ev := At.put_same (v := .pointer (some ⟨w.heap.size, 0, none⟩)) ho hdj sz; unfold Oper.wp; rw [run]; refine hK _ _ (InvF9.put hB inv ho hu (v := .pointer (some ⟨w.heap.size, 0, none⟩)) ?_ ((Kept.refl w).alloc _) (fun _ => ⟨_, by rw [ev]; rfl, Nat.le_refl _⟩) (fun u hu' eu g hg => ?_) (fun u hu' eu => ?_) fs)
      · unfold Ys
        rw [hy s hs, ev]; exact ⟨_, rfl, inv.kept.size, by rw [World.size_alloc]; omega⟩
      · rw [ev] at hg
        cases hg
        obtain rfl := pw_eq hP u hu' s hs (Or.inr eu); refine ⟨?_, Go.heap_alloc_new _ _⟩
        cases hd2 : done.getD u.i false with
        | false => rfl
        | true =>
          have := inv.ord u hs hd2; rw [getD_both hu] at this
          cases this
      · obtain ⟨_, o2, h2, h3, _⟩ := sto_at hS hu'
        rw [eu, ho] at h2
        cases h2
        rw [h3] at hdj
        cases hdj
    · obtain ⟨hdj, o', ho', hd', e, he, hb, hon⟩ := sto_at hS hs
      rw [ho] at ho'
      cases ho'
      have dj : done.getD s.j false = true := by rw [← hon]; exact waits e he hb
      unfold StepI; rw [if_pos wa]; intro K R hK; have := inv.vals s.j dj; unfold Ys at this; rw [hy s hs] at this; obtain ⟨g, eg, _, _⟩ := this; have c := inv.cont s hs dj g (by rw [eg]; rfl); rw [if_neg (by rw [getD_both hu]; simp)] at c; have ev : a.eval (.tmp s.tj) = .pointer (some ⟨g, 0, none⟩) := by rw [← eg]; unfold At; rw [hdj]; rfl
      have r := hK undef _ (InvF9.store hB hP hl hy hyi inv hs ho hd' hu dj eg undef); rw [hd'] at r; unfold Oper.wp; rw [run g ev c, Oper.upon_skip, hd']; exact r
  · intro done a w inv all
    exact fin a w inv.kept inv.beside (fun j hj => inv.vals j (all j hj)) (fun j k hj hk ne fj fk => inv.apart j k ne fj fk (all j hj) (all k hk)) (fun s hs g hg => by
      obtain ⟨h1, o, h2, _⟩ := sto_at hS hs; have hi : s.i < l.toArray.size := (Array.getElem?_eq_some_iff.1 h2).1
      have hj : s.j < l.toArray.size := by
        cases hq : l.toArray[s.j]? with
        | none => rw [hq] at h1; cases h1
        | some q => exact (Array.getElem?_eq_some_iff.1 hq).1
      have := inv.cont s hs (all _ hj) g hg
      rwa [if_pos (all _ hi)] at this)
/-! the arms, in few words -/
def pwB : List (Nat × Nat × Nat) → Bool
  | [] => true
  | s :: l => (l.all fun u => !Nat.beq s.1 u.1 && !Nat.beq s.2.1 u.2.1) && pwB l
theorem pwB_out : ∀ (l : List Sto), pwB (l.map fun s => (s.i, s.j, s.tj)) = true → l.Pairwise fun s u => s.i ≠ u.i ∧ s.j ≠ u.j
  | [], _ => .nil
  | s :: l, h => by
    simp only [List.map_cons, pwB, List.all_map, Bool.and_eq_true, List.all_eq_true, Function.comp, Bool.not_eq_true'] at h
    refine .cons (fun u hu => ?_) (pwB_out l h.2); have := h.1 u hu; exact ⟨fun e => (by rw [e, Nat.beq_refl] at this; cases this.1), fun e => (by rw [e, Nat.beq_refl] at this; cases this.2)⟩
def AllS (p : Sto → Prop) : List Sto → Prop
  | [] => True
  | s :: l => p s ∧ AllS p l
theorem AllS.out {p : Sto → Prop} : ∀ {l : List Sto}, AllS p l → ∀ s ∈ l, p s
  | [], _, s, h => by cases h
  | x :: l, h, s, hs => by
    rcases List.mem_cons.1 hs with rfl | c
    · exact h.1
    · exact AllS.out h.2 s c
def ArmsF (P : Program) (ops : Array Oper) (ys : List Yield) (sto : List Sto) (w0 : World) (a0 : Act) : Nat → List Oper → Prop
  | _, [] => True
  | i, o :: r => (∀ a w, Kept w0 w → BesideN ops ops.size a0 a → Deps ops ys o a w → StepF9 P ops ys sto i o a w) ∧ ArmsF P ops ys sto w0 a0 (i + 1) r
theorem ArmsF.get {ys : List Yield} {sto : List Sto} {w0 : World} {a0 : Act} : ∀ (l : List Oper) (i : Nat), ArmsF P ops ys sto w0 a0 i l → ∀ (k : Nat) (o : Oper), l[k]? = some o → ∀ a w, Kept w0 w → BesideN ops ops.size a0 a → Deps ops ys o a w → StepF9 P ops ys sto (i + k) o a w
  | [], _, _, k, o, h => by simp at h
  | x :: l, i, hA, 0, o, h => by simp at h; subst h; exact hA.1
  | x :: l, i, hA, k + 1, o, h => by
    have := ArmsF.get l (i + 1) hA.2 k o (by simpa using h)
    rwa [show i + 1 + k = i + (k + 1) by omega] at this
variable {ys : List Yield} {sto : List Sto} {w0 : World} {a0 : Act} {i : Nat} {o : Oper} {r : List Oper}
theorem armF0 : ArmsF P ops ys sto w0 a0 i [] := trivial
theorem fx (h : Arms P ops ops.size ys w0 a0 i [o]) (no : (o.dst.isSome && sto.all fun s => !Nat.beq s.i i && !Nat.beq s.j i) = true) (t : ArmsF P ops ys sto w0 a0 (i + 1) r) : ArmsF P ops ys sto w0 a0 i (o :: r) := ⟨fun a w k b d => Or.inl ⟨h.1 a w k b d, no⟩, t⟩
theorem sfA {s : Sto} (k : Nat) (hk : sto[k]? = some s) (hj : s.j = i) (hg : o.guard = none) (h : ∀ a w, Kept w0 w → BesideN ops ops.size a0 a → Deps ops ys o a w → (execOp a.eval o).run P w = .ok (.value (.pointer (some ⟨w.heap.size, 0, none⟩))) (w.alloc s.old)) (t : ArmsF P ops ys sto w0 a0 (i + 1) r) : ArmsF P ops ys sto w0 a0 i (o :: r) :=
  ⟨fun a w q b d => Or.inr (Or.inl ⟨s, List.mem_of_getElem? hk, hj, want0 hg, h a w q b d⟩), t⟩
theorem sfS {s : Sto} (k : Nat) (hk : sto[k]? = some s) (hi : s.i = i) (hg : o.guard = none) (h : ∀ a w g, Kept w0 w → BesideN ops ops.size a0 a → Deps ops ys o a w → a.eval (.tmp s.tj) = .pointer (some ⟨g, 0, none⟩) → Box w g s.t s.cs → (execOp a.eval o).run P w = .ok .skip (putCells w g 0 s.vs)) (t : ArmsF P ops ys sto w0 a0 (i + 1) r) : ArmsF P ops ys sto w0 a0 i (o :: r) :=
  ⟨fun a w q b d => Or.inr (Or.inr ⟨s, List.mem_of_getElem? hk, hi, want0 hg, fun g e bx => h a w g q b d e bx⟩), t⟩
theorem gotF {a : Act} {w : World} {n t : Nat} {s : Sto} (hv : ∀ j, j < n → Ys ys j (At ops a j) w) (hc : ∀ s ∈ sto, ∀ g, blkOf (At ops a s.j) = some g → w.heap[g]? = some s.new) (k : Nat) (hk : sto[k]? = some s) (hj : Nat.blt s.j n = true) (hy : ys[s.j]? = some (yPtr w0.heap.size)) (ht : (ops[s.j]?).bind (·.dst) = some t) : ∃ g, a.eval (.tmp t) = .pointer (some ⟨g, 0, none⟩) ∧ w0.heap.size ≤ g ∧ w.heap[g]? = some (.cells (setCells s.cs 0 s.vs) s.t (0, 0)) := by
  obtain ⟨g, e, hb, _⟩ : ∃ g, a.eval (.tmp t) = .pointer (some ⟨g, 0, none⟩) ∧ w0.heap.size ≤ g ∧ g < w.heap.size := gotY hv s.j hj hy ht; refine ⟨g, e, hb, hc s (List.mem_of_getElem? hk) g ?_⟩; rw [at_slot ht, e]; rfl
end
theorem rgf {id : Nat} {l : List Oper} (ys : List Yield) (sto : List Sto) (N : Nat) {Q : Exit → Act → World → Prop} {w0 : World} {a0 : Act} (hz : a0.tmps.size = N) (hB : freeB9 l.toArray N = true) (hS : stoB l.toArray (sto.map fun s => (s.i, s.j, s.tj)) = true) (hP : pwB (sto.map fun s => (s.i, s.j, s.tj)) = true) (hl : Lasting ys) (hy : AllS (fun s => ys[s.j]? = some (yPtr w0.heap.size) ∧ ys[s.i]? = some yNo) sto)
    (arms : ArmsF Tryz.prog l.toArray ys sto w0 a0 0 l)
    (fin : ∀ a w, Kept w0 w → BesideN l.toArray l.toArray.size a0 a → (∀ j, j < l.toArray.size → Ys ys j (At l.toArray a j) w) → (∀ j k, j < l.toArray.size → k < l.toArray.size → j ≠ k → Fs ys j = true → Fs ys k = true → blkOf (At l.toArray a j) ≠ blkOf (At l.toArray a k)) → (∀ s ∈ sto, ∀ g, blkOf (At l.toArray a s.j) = some g → w.heap[g]? = some s.new) → wpList Tryz.prog l.toArray Q [] a w) :
    (Code.region id l.toArray true).wp Tryz.prog Q a0 w0 :=
  region_free ys sto N follows_mixed hz hB hS (pwB_out _ hP) hl (fun s hs => (hy.out s hs).1) (fun s hs => (hy.out s hs).2) (fun i o ho a w k b d => by
    have h := arms.get l 0 i o (by simpa using ho) a w k b d
    rwa [Nat.zero_add] at h) (fun a w k b hv ap hc => fin a w k b hv ap hc)
end Go.Proofs.YtbkjdcpfkepheaaGreatDoor

namespace Go.Proofs.YtbkjdcpfkepheaaGreatDoor
open Go.RowKit Lv
end Go.Proofs.YtbkjdcpfkepheaaGreatDoor

namespace Go.Proofs.YtbkjdcpfkepheaaGreatDoor.Lv
open Go
end Go.Proofs.YtbkjdcpfkepheaaGreatDoor.Lv

namespace Go.Proofs.YtbkjdcpfkepheaaGreatDoor.Lv
open Go
def up : List Int → Int
  | [] => 0
  | a :: l => (if a < 0 then 0 else a) + up l
def down : List Int → Int
  | [] => 0
  | a :: l => (if a < 0 then -a else 0) + down l
def total : List Int → Int
  | [] => 0
  | a :: l => a + total l
def All64 (l : List Int) : Prop := ∀ a ∈ l, i64 a
theorem up_append (l m : List Int) : up (l ++ m) = up l + up m := by
  induction l with
  | nil => simp [up]
  | cons a l ih => simp only [List.cons_append, up, ih]; omega
theorem down_append (l m : List Int) : down (l ++ m) = down l + down m := by
  induction l with
  | nil => simp [down]
  | cons a l ih => simp only [List.cons_append, down, ih]; omega
theorem up_down (l : List Int) : up l - down l = total l := by
  induction l with
  | nil => simp [up, down, total]
  | cons a l ih => simp only [up, down, total]; split <;> omega
theorem up_bounds (l : List Int) (h : All64 l) : 0 ≤ up l ∧ up l ≤ 9223372036854775808 * l.length ∧ 0 ≤ down l ∧ down l ≤ 9223372036854775808 * l.length := by
  induction l with
  | nil => simp [up, down]
  | cons a l ih =>
    have ih := ih (fun b hb => h b (List.mem_cons_of_mem _ hb)); have ha := h a (List.mem_cons_self ..); obtain ⟨h1, h2⟩ := ha
    simp only [up, down, List.length_cons]
    split <;> omega
theorem All64.take {l : List Int} (h : All64 l) (k : Nat) : All64 (l.take k) := fun a ha => h a (List.mem_of_mem_take ha)
theorem take_snoc (l : List Int) (k : Nat) (h : k < l.length) : l.take (k + 1) = l.take k ++ [l.getD k 0] := by
  rw [List.take_succ_eq_append_getElem h]; simp [h]
theorem All64.get {l : List Int} (h : All64 l) {k : Nat} (hk : k < l.length) : i64 (l.getD k 0) := by
  have : l.getD k 0 = l[k] := by simp [hk]
  rw [this]; exact h _ (List.getElem_mem hk)
theorem hi_add {u s : Int} (u0 : 0 ≤ u) (u1 : u < 170141183460469231731687303715884105728) (s0 : 0 ≤ s) (s1 : s ≤ 18446744073709551615) : hi64 u + (lo64 u + s) / 18446744073709551616 = hi64 (u + s) := by unfold hi64 lo64; omega
theorem lo_add (u s : Int) : (lo64 u + s) % 18446744073709551616 = lo64 (u + s) := by unfold lo64; omega
theorem hi_small {u : Int} (u0 : 0 ≤ u) (u1 : u < 170141183460469231731687303715884105728) : hi64 u < 18446744073709551615 := by unfold hi64; omega
theorem up_snoc (l : List Int) (a : Int) : up (l ++ [a]) = up l + (if a < 0 then 0 else a) := by rw [up_append]; simp [up]
theorem down_snoc (l : List Int) (a : Int) : down (l ++ [a]) = down l + (if a < 0 then -a else 0) := by rw [down_append]; simp [down]
theorem abs_sub_lt {u d : Int} (u0 : 0 ≤ u) (u1 : u < 170141183460469231731687303715884105728) (d0 : 0 ≤ d) (d1 : d < 170141183460469231731687303715884105728) : 0 ≤ abs (u - d) ∧ abs (u - d) < 170141183460469231731687303715884105728 := by
  unfold abs; split <;> omega
def dSum (l : List Int) : Int × Bool := fit (total l)
def dMean (l : List Int) : Int × Bool := if l = [] then (0, false) else fit (sg (neg (total l)) (rnd (abs (total l)) l.length))
end Go.Proofs.YtbkjdcpfkepheaaGreatDoor.Lv

namespace Go.Proofs.YtbkjdcpfkepheaaGreatDoor.Lv
open Go
def pw (a : Int) : Nat → Int × Bool
  | 0 => (10000, true)
  | n + 1 => if (pw a n).2 = true then dMul (pw a n).1 a else (0, false)
theorem fit_i64 (n : Int) : i64 (fit n).1 := by unfold fit i64; split <;> simp; omega
theorem dMul_i64 (a b : Int) : i64 (dMul a b).1 := fit_i64 _
theorem tmod_nonneg {a : Int} (h : 0 ≤ a) : a.tmod 10000 = a % 10000 := Int.tmod_eq_emod_of_nonneg h
theorem tmod_neg {a : Int} (h : a < 0) : a.tmod 10000 = -((-a) % 10000) := by
  have e := Int.neg_tmod (-a) 10000; rw [Int.neg_neg, tmod_nonneg (a := -a) (by omega)] at e; exact e
theorem tmod_bounds (a : Int) : -9999 ≤ a.tmod 10000 ∧ a.tmod 10000 ≤ 9999 ∧ (0 ≤ a → 0 ≤ a.tmod 10000 ∧ a.tmod 10000 ≤ a) ∧ (a ≤ 0 → a.tmod 10000 ≤ 0 ∧ a ≤ a.tmod 10000) := by
  by_cases c : 0 ≤ a
  · rw [tmod_nonneg c]; omega
  · rw [tmod_neg (by omega)]; omega
end Go.Proofs.YtbkjdcpfkepheaaGreatDoor.Lv

namespace Go.Proofs.YtbkjdcpfkepheaaGreatDoor.Lv
open Go
def Small (v : Vl) : Prop := i64 v.n ∧ v.t.length ≤ 2000
theorem small_fail (c : Int) : Small (vFail c) := by
  unfold Small vFail i64; refine ⟨⟨?_, ?_⟩, by simp⟩ <;> simp only <;> split <;> omega
theorem small_make {n : Int} (h : i64 n) : Small (vMake n) := by
  unfold vMake
  split
  · exact small_fail 3
  · exact ⟨h, by simp⟩
theorem small_read (t : List UInt8) : Small (vRead t) := by
  unfold vRead
  split
  · rename_i h
    obtain ⟨n, h1, h2, h3, _⟩ := parse_ok h; rw [h3]; exact small_make ⟨by simp only; omega, by simp only; omega⟩
  · split <;> exact small_fail _
end Go.Proofs.YtbkjdcpfkepheaaGreatDoor.Lv

namespace Go.Proofs.YtbkjdcpfkepheaaGreatDoor.Lv
open Go
def vRes (p : Int × Bool) : Vl := if p.2 then vMake p.1 else vFail 3
theorem num_range {v : Vl} (h : isE (vNum v) = false) (hn : i64 v.n) : -9223372036854775807 ≤ (vNum v).n ∧ (vNum v).n ≤ 9223372036854775807 := by
  obtain ⟨h1, h2⟩ := num_kinds v
  have h3 : (vNum v).k = 1 := by
    rcases h2 with e | e
    · exact e
    · unfold isE at h; rw [e] at h; cases h
  have h4 : i64 (vNum v).n := by
    by_cases ok : vOk v = true
    · rcases ok_cases ok with rfl | ⟨n, hn, rfl⟩ | rfl | rfl | ⟨t, ht, rfl⟩ | ⟨c, c1, c2, rfl⟩
      · exact ⟨by decide, by decide⟩
      · unfold vNum; rw [ok]; exact hn
      · exact ⟨by decide, by decide⟩
      · exact ⟨by decide, by decide⟩
      · unfold vNum; rw [ok]; exact (small_read t).1
      · unfold vNum; rw [ok]; exact hn
    · unfold vNum; rw [if_pos (by simpa using ok)]; exact ⟨by decide, by decide⟩
  generalize vNum v = u at *; obtain ⟨k, n, t⟩ := u
  simp only at h3
  subst h3; rw [ok1, decide_eq_true_eq] at h1; obtain ⟨a, b⟩ := h4; have := h1.2
  simp only at a b ⊢
  omega
theorem tdiv_in {y : Int} (h : i64 y) : i64 (y.tdiv 10000) := by
  obtain ⟨h1, h2⟩ := h; have e := Int.tmod_add_mul_tdiv y 10000; obtain ⟨a, b, _⟩ := tmod_bounds y; exact ⟨by omega, by omega⟩
end Go.Proofs.YtbkjdcpfkepheaaGreatDoor.Lv

namespace Go.Proofs.YtbkjdcpfkepheaaGreatDoor.Lv
open Go
structure Rc where
  c1 : Int
  r1 : Int
  c2 : Int
  r2 : Int
deriving DecidableEq
structure Cl where
  c : Int
  r : Int
  v : Vl
structure Ar where
  w : Bool
  v : Vl
  x : Rc
  l : List Cl
def okAt (c r : Int) : Bool := decide (1 ≤ c ∧ c ≤ 1024 ∧ 1 ≤ r ∧ r ≤ 1024)
def okR (x : Rc) : Bool := okAt x.c1 x.r1 && okAt x.c2 x.r2 && decide (x.c1 ≤ x.c2 ∧ x.r1 ≤ x.r2)
def hasR (x : Rc) (c r : Int) : Bool := decide (x.c1 ≤ c ∧ c ≤ x.c2 ∧ x.r1 ≤ r ∧ r ≤ x.r2)
def wide16 (x : Rc) : Int := x.c2 - x.c1 + 1
def high16 (x : Rc) : Int := x.r2 - x.r1 + 1
def size16 (x : Rc) : Int := if okR x then wide16 x * high16 x else 0
def idx16 (x : Rc) (c r : Int) : Int := (r - x.r1) * wide16 x + c - x.c1
def less16 (p q : Cl) : Bool := decide (p.r < q.r) || (decide (p.r = q.r) && decide (p.c < q.c))
def okCell (x : Rc) (b : Int) (c : Cl) : Bool := hasR x c.c c.r && decide (c.v.k ≠ 0) && vOk c.v && decide (b < idx16 x c.c c.r)
def okCells (x : Rc) : Int → List Cl → Bool
  | _, [] => true
  | b, c :: l => okCell x b c && okCells x (idx16 x c.c c.r) l
def noRc : Rc := ⟨0, 0, 0, 0⟩
def okArg (a : Ar) : Bool := if a.w then decide (a.v.k = 0 ∧ a.v.n = 0 ∧ a.v.t = []) && okR a.x && okCells a.x (-1) a.l else vOk a.v && decide (a.x = noRc) && decide (a.l.length = 0)
def seq1 (a : Ar) : List Vl := if a.w then (a.l.map Cl.v).filter (fun v => decide (v.k = 1 ∨ v.k = 4)) else [vNum a.v]
def seq16 (l : List Ar) : List Vl := (l.map seq1).flatten
def nums16 (l : List Ar) : List Int × Vl × Bool := match firstE (seq16 l) with
  | some e => ([], e, false)
  | none => ((seq16 l).map Vl.n, blankV, true)
def vNums16 (l : List Ar) : List Int × Vl × Bool := if l.all okArg then nums16 l else ([], vFail 2, false)
def area16 (a : Ar) : Rc × List Cl := if a.w then (a.x, a.l) else (⟨1, 1, 1, 1⟩, if a.v.k = 0 then [] else [⟨1, 1, a.v⟩])
def at16 (l : List Cl) (c r : Int) : Vl := match l.find? (fun p => decide (p.c = c ∧ p.r = r)) with
  | some p => p.v
  | none => blankV
def same16 (a b : Vl) : Bool := decide ((vCmp a b).2 = 0) && decide ((vCmp a b).1 = 0)
def sort16 (l : List Int) : List Int := l.mergeSort (fun a b => decide (a ≤ b))
def prod16 : Int → List Int → Int × Bool
  | x, [] => (x, true)
  | x, n :: l => if (dMul x n).2 then prod16 (dMul x n).1 l else (0, false)
def fold16 (fn : Nat) (l : List Int) : Vl :=
  if fn = 9 ∨ fn = 46 then vRes (dSum l)
  else if fn = 14 ∨ fn = 48 then (if l = [] then vFail 1 else vRes (dMean l))
  else if fn = 17 then (if l = [] then vFail 3 else if l.length % 2 = 1 then vMake ((sort16 l).getD (l.length / 2) 0) else vRes (dMean [(sort16 l).getD (l.length / 2 - 1) 0, (sort16 l).getD (l.length / 2) 0]))
  else if l = [] then vMake 0
  else if fn = 15 ∨ fn = 49 then vMake (l.tail.foldl min (l.headD 0))
  else if fn = 16 ∨ fn = 50 then vMake (l.tail.foldl max (l.headD 0))
  else vRes (prod16 (l.headD 0) l.tail)
def isFold16 (fn : Nat) : Bool := decide (fn = 9 ∨ fn = 10 ∨ fn = 14 ∨ fn = 15 ∨ fn = 16 ∨ fn = 17 ∨ fn = 46 ∨ fn = 48 ∨ fn = 49 ∨ fn = 50)
def count16 (fn : Nat) (l : List Ar) : Int := ((l.map fun a =>
  if fn = 13 then size16 (area16 a).1 - (area16 a).2.length
  else ((((area16 a).2.filter fun c => decide (fn = 12 ∨ c.v.k = 1)).length : Nat) : Int)).sum)
def pos16 (v : Vl) : Int := Int.tdiv (vNum v).n 10000
def rank16 (a : Ar) (k : Vl) (desc : Bool) : Vl :=
  if (nums16 [a]).2.2 = false then (nums16 [a]).2.1
  else if isE (vNum k) then vNum k
  else if pos16 k < 1 ∨ ((nums16 [a]).1.length : Int) < pos16 k then vFail 3
  else vMake ((if desc then (sort16 (nums16 [a]).1).reverse else sort16 (nums16 [a]).1).getD (pos16 k - 1).toNat 0)
def countIf16 (a : Ar) (v : Vl) : Vl :=
  if v.k = 4 then v
  else vMake (((if same16 blankV v then size16 (area16 a).1 - (area16 a).2.length else 0) + ((area16 a).2.filter fun c => same16 c.v v).length) * 10000)
def match16 (x : Rc) (v : Vl) (b : Bool) : Int → List Cl → Int
  | next, [] => if b = true ∧ next < size16 x then next + 1 else 0
  | next, c :: l => if b = true ∧ next < idx16 x c.c c.r then next + 1 else if same16 c.v v then idx16 x c.c c.r + 1 else match16 x v b (idx16 x c.c c.r + 1) l
def vMatch16 (v : Vl) (a : Ar) : Vl := if v.k = 4 then v else
  if match16 (area16 a).1 v (same16 blankV v) 0 (area16 a).2 = 0 then vFail 4 else vMake (match16 (area16 a).1 v (same16 blankV v) 0 (area16 a).2 * 10000)
def index2 (a : Ar) (i j : Int) : Vl := if i < 1 ∨ high16 (area16 a).1 < i ∨ j < 1 ∨ wide16 (area16 a).1 < j then vFail 5 else at16 (area16 a).2 ((area16 a).1.c1 + (j - 1)) ((area16 a).1.r1 + (i - 1))
def index1 (a : Ar) (i : Int) : Vl := if i < 1 ∨ wide16 (area16 a).1 * high16 (area16 a).1 < i then vFail 5 else at16 (area16 a).2 ((area16 a).1.c1 + (i - 1) % wide16 (area16 a).1) ((area16 a).1.r1 + (i - 1) / wide16 (area16 a).1)
def vIndex16 (a : Ar) (l : List Vl) : Vl := match firstE (l.map vNum) with
  | some e => e
  | none => match l.map pos16 with
    | [i] => index1 a i
    | [i, j] => index2 a i j
    | _ => blankV
def own16 (fn : Nat) : Bool := decide ((9 ≤ fn ∧ fn ≤ 19) ∨ (43 ≤ fn ∧ fn ≤ 50))
def lo16 (fn : Nat) : Nat := if fn = 18 ∨ fn = 19 ∨ fn = 45 ∨ fn = 43 ∨ fn = 44 then 2 else 1
def hi16 (fn : Nat) : Nat := if fn = 13 ∨ 46 ≤ fn then 1 else if fn = 43 then 3 else if fn = 18 ∨ fn = 19 ∨ fn = 45 ∨ fn = 44 then 2 else 16
def area16At (fn i : Nat) : Bool := if fn = 13 ∨ 46 ≤ fn ∨ fn = 18 ∨ fn = 19 ∨ fn = 45 ∨ fn = 43 then decide (i = 0) else if fn = 44 then decide (i = 1) else true
def fits16 (fn i : Nat) (a : Ar) : Bool := okArg a && !(a.w && !area16At fn i) && !(decide (46 ≤ fn) && !a.w)
def fits16All (fn : Nat) : Nat → List Ar → Bool
  | _, [] => true
  | i, a :: l => fits16 fn i a && fits16All fn (i + 1) l
def val16 (fn : Nat) (l : List Ar) : Vl :=
  if isFold16 fn then (match nums16 l with
    | (_, e, false) => e
    | (n, _, true) => fold16 fn n)
  else if fn = 18 ∨ fn = 19 then rank16 (l.getD 0 ⟨false, blankV, noRc, []⟩) (l.getD 1 ⟨false, blankV, noRc, []⟩).v (decide (fn = 18))
  else if fn = 45 then countIf16 (l.getD 0 ⟨false, blankV, noRc, []⟩) (l.getD 1 ⟨false, blankV, noRc, []⟩).v
  else if fn = 44 then vMatch16 (l.getD 0 ⟨false, blankV, noRc, []⟩).v (l.getD 1 ⟨false, blankV, noRc, []⟩)
  else if fn = 43 then vIndex16 (l.getD 0 ⟨false, blankV, noRc, []⟩) (l.tail.map Ar.v)
  else vMake (count16 fn l * 10000)
def vCall16 (fn : Nat) (l : List Ar) : Vl × Int :=
  if own16 fn = false then (blankV, 10)
  else if l.length < lo16 fn ∨ hi16 fn < l.length then (blankV, 11)
  else if fits16All fn 0 l = false then (blankV, 2)
  else (val16 fn l, 0)
theorem idx_less {x : Rc} {p q : Cl} (hp : hasR x p.c p.r = true) (hq : hasR x q.c q.r = true) : decide (idx16 x p.c p.r < idx16 x q.c q.r) = less16 p q := by
  unfold hasR at hp hq; rw [decide_eq_true_eq] at hp hq; unfold less16 idx16 wide16; obtain ⟨W, hW⟩ : ∃ W, W = x.c2 - x.c1 + 1 := ⟨_, rfl⟩; rw [← hW]
  by_cases h : p.r < q.r
  · rw [decide_eq_true h, Bool.true_or, decide_eq_true_eq]
    have h1 : (p.r - x.r1 + 1) * W ≤ (q.r - x.r1) * W := Int.mul_le_mul_of_nonneg_right (by omega) (by omega); rw [Int.add_mul, Int.one_mul] at h1
    omega
  · by_cases h2 : p.r = q.r
    · rw [h2, decide_eq_false (Int.lt_irrefl _), Bool.false_or, decide_eq_true rfl, Bool.true_and, decide_eq_decide]
      omega
    · rw [decide_eq_false h, decide_eq_false h2, Bool.false_and, Bool.false_or, decide_eq_false_iff_not]
      have h1 : (q.r - x.r1 + 1) * W ≤ (p.r - x.r1) * W := Int.mul_le_mul_of_nonneg_right (by omega) (by omega); rw [Int.add_mul, Int.one_mul] at h1
      omega
theorem idx_in {x : Rc} {c r : Int} (h : hasR x c r = true) : 0 ≤ idx16 x c r ∧ idx16 x c r < wide16 x * high16 x := by
  unfold hasR at h; rw [decide_eq_true_eq] at h; unfold idx16 high16; obtain ⟨W, hW⟩ : ∃ W, W = wide16 x := ⟨_, rfl⟩; have hw : W = x.c2 - x.c1 + 1 := hW; rw [← hW]; have h0 : 0 ≤ (r - x.r1) * W := Int.mul_nonneg (by omega) (by omega); have h1 : (r - x.r1) * W ≤ (x.r2 - x.r1) * W := Int.mul_le_mul_of_nonneg_right (by omega) (by omega); have h2 : W * (x.r2 - x.r1 + 1) = (x.r2 - x.r1) * W + W := by rw [Int.mul_add, Int.mul_one, Int.mul_comm]
  omega
end Go.Proofs.YtbkjdcpfkepheaaGreatDoor.Lv

namespace Go.Proofs.YtbkjdcpfkepheaaGreatDoor
open Go.RowKit Lv
def RowK {α : Type} (k : Nat) (enc : α → List Value) (w : World) (A : Option Addr) (l : List α) : Prop :=
  ∀ i x, l[i]? = some x → ∃ b off, A = some ⟨b, off, none⟩ ∧ b < w.heap.size ∧ ∀ j v, (enc x)[j]? = some v → w.cell? ⟨b, off + i * k + j, none⟩ = some v
section
variable {α : Type} {k : Nat} {enc : α → List Value} {w w' : World} {A : Option Addr} {l : List α}
theorem RowK.kept (h : RowK k enc w A l) (q : Kept w w') : RowK k enc w' A l := fun i x hx => by
  obtain ⟨b, off, rfl, hb, hc⟩ := h i x hx; exact ⟨b, off, rfl, Nat.lt_of_lt_of_le hb q.size, fun j v hv => (q.cell (p := ⟨b, _, none⟩) hb).trans (hc j v hv)⟩
theorem RowK.nil : RowK k enc w A [] := fun i x h => by simp at h
theorem RowK.take (h : RowK k enc w A l) (n : Nat) : RowK k enc w A (l.take n) := fun i x hx => h i x (by
  rw [List.getElem?_take] at hx
  split at hx
  · exact hx
  · cases hx)
theorem RowK.addr (h : RowK k enc w A l) (h0 : l ≠ []) : ∃ b off, A = some ⟨b, off, none⟩ ∧ b < w.heap.size := by
  cases l with
  | nil => exact absurd rfl h0
  | cons x l =>
    obtain ⟨b, off, e, hb, _⟩ := h 0 x rfl; exact ⟨b, off, e, hb⟩
theorem flat_get (hk : ∀ x, (enc x).length = k) : ∀ (l : List α) (i j : Nat) (x : α) (v : Value), l[i]? = some x → (enc x)[j]? = some v → (l.map enc).flatten[i * k + j]? = some v ∧ i * k + j < l.length * k
  | [], i, _, _, _, h, _ => by simp at h
  | y :: l, 0, j, x, v, h, hv => by
    simp at h
    subst h; have hj : j < k := by rw [← hk y]; exact (List.getElem?_eq_some_iff.1 hv).1
    refine ⟨?_, by simp only [List.length_cons, Nat.succ_mul, Nat.zero_mul]; omega⟩; rw [List.map_cons, List.flatten_cons, Nat.zero_mul, Nat.zero_add, List.getElem?_append_left (by rw [hk]; exact hj)]; exact hv
  | y :: l, i + 1, j, x, v, h, hv => by
    obtain ⟨h1, h2⟩ := flat_get hk l i j x v (by simpa using h) hv; have e : (i + 1) * k + j = k + (i * k + j) := by rw [Nat.succ_mul]; omega
    refine ⟨?_, by simp only [List.length_cons, Nat.succ_mul] at *; omega⟩; rw [List.map_cons, List.flatten_cons, e, List.getElem?_append_right (by rw [hk]; omega), hk, Nat.add_sub_cancel_left]; exact h1
theorem RowK.box {g : Nat} {t : TypeId} {cs : Array Value} (h : Box w g t cs) (hk : ∀ x, (enc x).length = k) (hl : cs.toList.take (l.length * k) = (l.map enc).flatten) : RowK k enc w (some ⟨g, 0, none⟩) l := fun i x hx => by
  refine ⟨g, 0, rfl, h.inside, fun j v hv => ?_⟩; obtain ⟨h1, h2⟩ := flat_get hk l i j x v hx hv; rw [Nat.zero_add, h.cell, ← h1, ← hl, List.getElem?_take_of_lt h2]
  simp
theorem RowK.own {base : Nat} {e : TypeId} {v : Value} (hk : ∀ x, (enc x).length = k) (h : w.ownsRow base e k v l.length (l.map enc).flatten) : ∃ A cap, v = .slice A l.length cap ∧ RowK k enc w A l ∧ l.length ≤ cap ∧ cap ≤ maxLen ∧ (l ≠ [] → ∃ g, A = Option.some ⟨g, 0, none⟩ ∧ base ≤ g) := by
  rcases h.2 with ⟨rfl, h0⟩ | ⟨g, cap, cur, rfl, hb, hh, h4, h5, h6, h7⟩
  · have : l = [] := List.eq_nil_of_length_eq_zero h0
    subst this; exact ⟨none, 0, rfl, RowK.nil, Nat.le_refl _, Nat.zero_le _, fun h => absurd rfl h⟩
  · exact ⟨Option.some ⟨g, 0, none⟩, cap, rfl, RowK.box (t := e) (cs := cur) hh hk h7, h4, h5, fun _ => ⟨g, rfl, hb⟩⟩
def ElemK (w : World) (b p : Nat) (vs : List Value) : Prop := b < w.heap.size ∧ ∀ j v, vs[j]? = some v → w.cell? ⟨b, p + j, none⟩ = some v
theorem ElemK.kept {b p : Nat} {vs : List Value} (h : ElemK w b p vs) (q : Kept w w') : ElemK w' b p vs := ⟨Nat.lt_of_lt_of_le h.1 q.size, fun j v hv => (q.cell (p := ⟨b, _, none⟩) h.1).trans (h.2 j v hv)⟩
theorem RowK.elem (h : RowK k enc w A l) {i : Nat} {x : α} (hx : l[i]? = some x) : ∃ b off, A = some ⟨b, off, none⟩ ∧ ElemK w b (off + i * k) (enc x) := by
  obtain ⟨b, off, e, hb, hc⟩ := h i x hx; exact ⟨b, off, e, hb, hc⟩
variable {a : Act} {o : Oper}
theorem run_placeS {T e : TypeId} (s : Nat) (hu : Tryz.prog.underlying T = some (.slice e)) (hs : (sizeOf e).run Tryz.prog w = .ok s w) {b off n c i : Nat} (hi : i < n) : (Instr.indexAt T (.slice (some ⟨b, off, none⟩) n c) (.int .i64 i)).run Tryz.prog w = .ok (.pointer (some ⟨b, off + i * s, none⟩)) w := by
  have hr := run_underlying (w := w) hu; have b0 : (0 : Int) ≤ (i : Int) := by omega
  have b1 : (i : Int) < (n : Int) := by omega
  have e := add_none (g := b) (off := off) (i * s)
  simp [Instr.indexAt, asIntOf, hr, hs, Result.andThen, b0, b1, e]
  intro hc; omega
theorem xplaceK {T e : TypeId} (s : Nat) (hu : Tryz.prog.underlying T = some (.slice e)) (hs : (sizeOf e).run Tryz.prog w = .ok s w) {x y : Operand} (ho : o.op = .indexAddr T x y) {A : Option Addr} {b off n c i : Nat} (hA : A = some ⟨b, off, none⟩) (hx : a.eval x = .slice A n c) (hy : a.eval y = .int .i64 i) (hi : i < n) : (execOp a.eval o).run Tryz.prog w = .ok (.value (.pointer (some ⟨b, off + i * s, none⟩))) w := by
  subst hA; exact xindexAddr ho hx hy (run_placeS s hu hs hi)
theorem xpartK {T : TypeId} {x : Operand} {n b p q : Nat} (j : Nat) {ws vs : List Value} (ho : o.op = .load T x) (ha : (isAgg T).run Tryz.prog w = .ok true w) (hs : (sizeOf T).run Tryz.prog w = .ok n w) (hx : a.eval x = .pointer (some ⟨b, q, none⟩)) (hq : q = p + j) (he : ElemK w b p ws) (hv : (ws.drop j).take n = vs := by rfl) (hn : vs.length = n := by rfl) : (execOp a.eval o).run Tryz.prog w = .ok (.value (.agg vs.toArray)) w := by
  subst hq
  have hl := run_loadCells_list (P := Tryz.prog) (w := w) ⟨b, p + j, none⟩ vs (fun q v hq => by
    rw [add_none, show p + j + q = p + (j + q) by omega]; refine he.2 (j + q) v ?_; rw [← hv, List.getElem?_take] at hq
    split at hq
    · rwa [List.getElem?_drop] at hq
    · cases hq)
  rw [hn] at hl; unfold execOp
  simp only [ho, hx, Instr.loadAt, Instr.sureAddr, loadVar, Sem.run_bind, Sem.run_pure, Result.andThen_ok, ha, hs, if_true, hl]
theorem xcellK {T : TypeId} {x : Operand} {b p q : Nat} (j : Nat) {ws : List Value} {v : Value} (ho : o.op = .load T x) (ha : (isAgg T).run Tryz.prog w = .ok false w) (hx : a.eval x = .pointer (some ⟨b, q, none⟩)) (hq : q = p + j) (he : ElemK w b p ws) (hv : ws[j]? = some v) : (execOp a.eval o).run Tryz.prog w = .ok (.value v) w := by
  subst hq; exact xloadC ho ha hx (he.2 j v hv)
theorem drop_at {l : List α} {i : Nat} {x : α} (h : l[i]? = some x) : l.drop i = x :: l.drop (i + 1) := by
  obtain ⟨hi, e⟩ := List.getElem?_eq_some_iff.1 h; rw [List.drop_eq_getElem_cons hi, e]
theorem take_at {l : List α} {i : Nat} {x : α} (h : l[i]? = some x) : l.take (i + 1) = l.take i ++ [x] := by
  rw [List.take_add_one, h]
  rfl
theorem at_some {l : List α} {i : Nat} (h : i < l.length) : ∃ x, l[i]? = some x := ⟨_, List.getElem?_eq_getElem h⟩
end
/-! cells, ranges, arguments -/
def rcV (x : Rc) : List Value := [.int .i64 x.c1, .int .i64 x.r1, .int .i64 x.c2, .int .i64 x.r2]
def clV (c : Cl) : List Value := [.int .i64 c.c, .int .i64 c.r, .int .u8 c.v.k, .int .i64 c.v.n, .string ⟨c.v.t.toArray⟩]
def arV (a : Ar) (s : Value) : List Value := [.bool a.w, .int .u8 a.v.k, .int .i64 a.v.n, .string ⟨a.v.t.toArray⟩, .int .i64 a.x.c1, .int .i64 a.x.r1, .int .i64 a.x.c2, .int .i64 a.x.r2, s]
theorem clV_len (c : Cl) : (clV c).length = 5 := rfl
def CellsAt (w : World) (s : Value) (l : List Cl) : Prop := ∃ A cap, s = .slice A l.length cap ∧ RowK 5 clV w A l ∧ l.length ≤ cap
theorem CellsAt.kept {w w' : World} {s : Value} {l : List Cl} (h : CellsAt w s l) (q : Kept w w') : CellsAt w' s l := by
  obtain ⟨A, c, e, r, hc⟩ := h; exact ⟨A, c, e, r.kept q, hc⟩
theorem CellsAt.nil (w : World) : CellsAt w (.slice none 0 0) [] := ⟨none, 0, rfl, RowK.nil, Nat.le_refl _⟩
def ArgsAt (w : World) (A : Option Addr) (l : List Ar) : Prop := ∃ L : List (Ar × Value), L.map Prod.fst = l ∧ RowK 9 (fun p : Ar × Value => arV p.1 p.2) w A L ∧ ∀ p ∈ L, CellsAt w p.2 p.1.l
theorem ArgsAt.kept {w w' : World} {A : Option Addr} {l : List Ar} (h : ArgsAt w A l) (q : Kept w w') : ArgsAt w' A l := by
  obtain ⟨L, e, r, c⟩ := h; exact ⟨L, e, r.kept q, fun p hp => (c p hp).kept q⟩
theorem ArgsAt.elem {w : World} {A : Option Addr} {l : List Ar} (h : ArgsAt w A l) {i : Nat} {x : Ar} (hx : l[i]? = some x) : ∃ b off A1 c1, A = some ⟨b, off, none⟩ ∧ ElemK w b (off + i * 9) (arV x (.slice A1 x.l.length c1)) ∧ RowK 5 clV w A1 x.l ∧ x.l.length ≤ c1 := by
  obtain ⟨L, e, r, c⟩ := h; subst e; rw [List.getElem?_map] at hx
  cases hL : L[i]? with
  | none => rw [hL] at hx; cases hx
  | some p =>
    rw [hL] at hx
    cases hx
    obtain ⟨b, off, hA, he⟩ := r.elem hL; obtain ⟨A1, c1, e1, r1, h1⟩ := c p (List.mem_of_getElem? hL); exact ⟨b, off, A1, c1, hA, e1 ▸ he, r1, h1⟩
end Go.Proofs.YtbkjdcpfkepheaaGreatDoor

namespace Go.Proofs.YtbkjdcpfkepheaaGreatDoor.Lv
open Go
def Fine16 (x : Rc) (c : Cl) : Prop := hasR x c.c c.r = true ∧ c.v.k ≠ 0 ∧ vOk c.v = true
abbrev Row16 (l : List Cl) : Prop := l.Pairwise fun p q => less16 p q = true
theorem okCell_iff {x : Rc} {b : Int} {c : Cl} : okCell x b c = true ↔ Fine16 x c ∧ b < idx16 x c.c c.r := by
  unfold okCell Fine16
  simp only [Bool.and_eq_true, decide_eq_true_eq]
  constructor
  · rintro ⟨⟨⟨a, b⟩, c⟩, d⟩; exact ⟨⟨a, b, c⟩, d⟩
  · rintro ⟨⟨a, b, c⟩, d⟩; exact ⟨⟨⟨a, b⟩, c⟩, d⟩
theorem okCells_iff {x : Rc} : ∀ (l : List Cl) (b : Int), okCells x b l = true ↔ (∀ c ∈ l, Fine16 x c) ∧ Row16 l ∧ (∀ c ∈ l, b < idx16 x c.c c.r)
  | [], b => by simp [okCells]
  | c :: l, b => by
    rw [okCells, Bool.and_eq_true, okCell_iff, okCells_iff l]
    constructor
    · rintro ⟨⟨f, hb⟩, g, p, h⟩
      refine ⟨fun q hq => ?_, ?_, fun q hq => ?_⟩
      · rcases List.mem_cons.1 hq with rfl | hq
        · exact f
        · exact g q hq
      · exact List.pairwise_cons.2 ⟨fun q hq => by rw [← idx_less f.1 (g q hq).1, decide_eq_true_eq]; exact h q hq, p⟩
      · rcases List.mem_cons.1 hq with rfl | hq
        · exact hb
        · exact Int.lt_trans hb (h q hq)
    · rintro ⟨g, p, h⟩
      obtain ⟨p1, p2⟩ := List.pairwise_cons.1 p; have f := g c List.mem_cons_self; refine ⟨⟨f, h c List.mem_cons_self⟩, fun q hq => g q (List.mem_cons_of_mem _ hq), p2, fun q hq => ?_⟩; have := p1 q hq; rw [← idx_less f.1 (g q (List.mem_cons_of_mem _ hq)).1, decide_eq_true_eq] at this; exact this
theorem okCells_start {x : Rc} {l : List Cl} : okCells x (-1) l = true ↔ (∀ c ∈ l, Fine16 x c) ∧ Row16 l := by
  rw [okCells_iff]
  constructor
  · rintro ⟨a, b, _⟩; exact ⟨a, b⟩
  · rintro ⟨a, b⟩; exact ⟨a, b, fun c hc => by have := (idx_in (a c hc).1).1; omega⟩
def upC (row : Int) (l : List Cl) : List Cl := l.filter fun c => decide (c.r ≤ row)
def downC (row : Int) (l : List Cl) : List Cl := l.filter fun c => !decide (c.r ≤ row)
theorem divide16 {row : Int} : ∀ {l : List Cl}, Row16 l → l = upC row l ++ downC row l
  | [], _ => rfl
  | c :: l, h => by
    obtain ⟨h1, h2⟩ := List.pairwise_cons.1 h; have ih := divide16 (row := row) h2; unfold upC downC at ih ⊢
    by_cases hc : c.r ≤ row
    · rw [List.filter_cons_of_pos (by simpa using hc), List.filter_cons_of_neg (by simpa using hc), List.cons_append, ← ih]
    · have all : ∀ q ∈ l, ¬ q.r ≤ row := fun q hq => by
        have := h1 q hq; unfold less16 at this
        simp only [Bool.or_eq_true, Bool.and_eq_true, decide_eq_true_eq] at this
        omega
      rw [List.filter_cons_of_neg (by simpa using hc), List.filter_cons_of_pos (by simpa using hc)]; rw [List.filter_eq_nil_iff.2 (fun q hq => by simpa using all q hq), List.nil_append]; rw [List.filter_eq_self.2 (fun q hq => by simpa using all q hq)]
def upR (x : Rc) (row : Int) : Rc := { x with r2 := row }
def downR (x : Rc) (row : Int) : Rc := { x with r1 := row + 1 }
theorem okR_iff {x : Rc} : okR x = true ↔ (1 ≤ x.c1 ∧ x.c1 ≤ x.c2 ∧ x.c2 ≤ 1024) ∧ (1 ≤ x.r1 ∧ x.r1 ≤ x.r2 ∧ x.r2 ≤ 1024) := by
  unfold okR okAt
  simp only [Bool.and_eq_true, decide_eq_true_eq]
  omega
theorem okWide_iff {x : Rc} {l : List Cl} : okArg ⟨true, blankV, x, l⟩ = true ↔ okR x = true ∧ (∀ c ∈ l, Fine16 x c) ∧ Row16 l := by
  unfold okArg
  simp only [if_true, Bool.and_eq_true, okCells_start]
  constructor
  · rintro ⟨⟨_, a⟩, b⟩; exact ⟨a, b⟩
  · rintro ⟨a, b⟩; exact ⟨⟨rfl, a⟩, b⟩
theorem up_ok {x : Rc} {l : List Cl} {row : Int} (h : okArg ⟨true, blankV, x, l⟩ = true) (h1 : x.r1 ≤ row) (h2 : row < x.r2) : okArg ⟨true, blankV, upR x row, upC row l⟩ = true := by
  rw [okWide_iff] at h ⊢; obtain ⟨a, b, c⟩ := h; rw [okR_iff] at a ⊢; refine ⟨by unfold upR; simp only; omega, fun q hq => ?_, c.sublist List.filter_sublist⟩; obtain ⟨hm, hr⟩ := List.mem_filter.1 hq; obtain ⟨f1, f2, f3⟩ := b q hm; refine ⟨?_, f2, f3⟩; unfold hasR at f1 ⊢; unfold upR; rw [decide_eq_true_eq] at f1 hr ⊢
  simp only
  omega
theorem down_ok {x : Rc} {l : List Cl} {row : Int} (h : okArg ⟨true, blankV, x, l⟩ = true) (h1 : x.r1 ≤ row) (h2 : row < x.r2) : okArg ⟨true, blankV, downR x row, downC row l⟩ = true := by
  rw [okWide_iff] at h ⊢; obtain ⟨a, b, c⟩ := h; rw [okR_iff] at a ⊢; refine ⟨by unfold downR; simp only; omega, fun q hq => ?_, c.sublist List.filter_sublist⟩; obtain ⟨hm, hr⟩ := List.mem_filter.1 hq; obtain ⟨f1, f2, f3⟩ := b q hm; refine ⟨?_, f2, f3⟩; unfold hasR at f1 ⊢; unfold downR; rw [decide_eq_true_eq] at f1 ⊢
  simp only [Bool.not_eq_true', decide_eq_false_iff_not] at hr
  simp only
  omega
theorem seq_divide {x y z : Rc} {l : List Cl} {row : Int} (h : Row16 l) : seq16 [⟨true, blankV, x, l⟩] = seq16 [⟨true, blankV, y, upC row l⟩, ⟨true, blankV, z, downC row l⟩] := by
  unfold seq16 seq1
  simp only [List.map_cons, List.map_nil, if_true, List.flatten_cons, List.flatten_nil, List.append_nil]
  rw [← List.filter_append, ← List.map_append, ← divide16 h]
theorem nums_divide {x y z : Rc} {l : List Cl} {row : Int} (h : Row16 l) : nums16 [⟨true, blankV, x, l⟩] = nums16 [⟨true, blankV, y, upC row l⟩, ⟨true, blankV, z, downC row l⟩] := by
  unfold nums16; rw [seq_divide h]
theorem count_divide {fn : Nat} (hf : fn ≠ 13) {x y z : Rc} {l : List Cl} {row : Int} (h : Row16 l) : count16 fn [⟨true, blankV, x, l⟩] = count16 fn [⟨true, blankV, y, upC row l⟩, ⟨true, blankV, z, downC row l⟩] := by
  unfold count16 area16
  simp only [List.map_cons, List.map_nil, if_true, if_neg hf, List.sum_cons, List.sum_nil]
  have e := congrArg (fun l : List Cl => (l.filter fun c => decide (fn = 12 ∨ c.v.k = 1)).length) (divide16 (row := row) h)
  simp only [List.filter_append, List.length_append] at e
  omega
theorem val_divide {fn : Nat} (hf : fn = 9 ∨ fn = 11 ∨ fn = 12 ∨ fn = 15 ∨ fn = 16) {x : Rc} {l : List Cl} {row : Int} (h : okArg ⟨true, blankV, x, l⟩ = true) (h1 : x.r1 ≤ row) (h2 : row < x.r2) :
    vCall16 fn [⟨true, blankV, x, l⟩] = vCall16 fn [⟨true, blankV, upR x row, upC row l⟩, ⟨true, blankV, downR x row, downC row l⟩] := by
  have u := up_ok h h1 h2; have d := down_ok h h1 h2; have r := (okWide_iff.1 h).2.2; have n := nums_divide (x := x) (y := upR x row) (z := downR x row) (row := row) r; have c1 := count_divide (fn := 11) (by decide) (x := x) (y := upR x row) (z := downR x row) (row := row) r; have c2 := count_divide (fn := 12) (by decide) (x := x) (y := upR x row) (z := downR x row) (row := row) r; rcases hf with rfl | rfl | rfl | rfl | rfl <;> simp [vCall16, own16, lo16, hi16, fits16All, fits16, area16At, h, u, d, val16, isFold16, n, c1, c2]
end Go.Proofs.YtbkjdcpfkepheaaGreatDoor.Lv
