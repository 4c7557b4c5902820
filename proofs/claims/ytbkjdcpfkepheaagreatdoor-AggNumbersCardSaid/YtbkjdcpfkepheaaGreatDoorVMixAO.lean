/- Small texts together: SX7, SX11, SX9, SX10, MText14, MSum, MRoot, MVal3, MNum13, MAgg, GAgg0, SX13, MAgg2. -/
import Derived.Test.YtbkjdcpfkepheaaGreatDoorVSX6
import Derived.LoopN
import Derived.Test.YtbkjdcpfkepheaaGreatDoorVMixAJ
import Derived.Test.YtbkjdcpfkepheaaGreatDoorVBunW
import Derived.Test.YtbkjdcpfkepheaaGreatDoorVMixAM
import Derived.Laws.MakeOwn
import Derived.Lib.IndexMore
import Derived.Test.YtbkjdcpfkepheaaGreatDoorVBunM
import Derived.Laws.Cells
set_option linter.unusedVariables false
set_option linter.unusedSimpArgs false
namespace Go.Proofs.YtbkjdcpfkepheaaGreatDoor
section
open Go.RowKit
section
variable {a : Act} {w : World} {o : Oper}
theorem Dr {T T2 : TypeId} (hT : T = 3 ∨ T = 2) {x y : Operand} (ho : o.op = .binOp .rem T x y T2) {n m : Int} (hx : a.eval x = .int .i64 n) (hy : a.eval y = .int .i64 m) (h0 : m ≠ 0) (h1 : -9223372036854775808 ≤ n) (h2 : n ≤ 9223372036854775807) : (execOp a.eval o).run Tryz.prog w = .ok (.value (.int .i64 (Int.tmod n m))) w := by
  have e : (m == 0) = false := by rw [beq_eq_false_iff_ne]; exact h0
  have e2 : IntKind.i64.wrap (Int.tmod n m) = Int.tmod n m := IntWalk.i64_in _ (by
    have := pZ n m
    omega)
  unfold execOp; rw [ho]
  simp only [hx, hy]
  rcases hT with rfl | rfl <;> (go_simp; try exact e2)
theorem DJ {T2 : TypeId} {x y : Operand} (ho : o.op = .binOp .neq 4 x y T2) {b d : Bool} (hx : a.eval x = .bool b) (hy : a.eval y = .bool d) : (execOp a.eval o).run Tryz.prog w = .ok (.value (.bool (b != d))) w := by
  unfold execOp; rw [ho]
  simp only [hx, hy]
  cases b <;> cases d <;> go_simp
theorem D1 {T2 : TypeId} {x y : Operand} (ho : o.op = .binOp .eql 4 x y T2) {b d : Bool} (hx : a.eval x = .bool b) (hy : a.eval y = .bool d) : (execOp a.eval o).run Tryz.prog w = .ok (.value (.bool (b == d))) w := by
  unfold execOp; rw [ho]
  simp only [hx, hy]
  cases b <;> cases d <;> go_simp
end
theorem Own.perm {w0 w : World} {H H' : List Th} (p : H.Perm H') (h : Own w0 H w) : Own w0 H' w :=
  ⟨h.kept, fun t ht => h.has t (p.mem_iff.2 ht), fun t ht => h.old t (p.mem_iff.2 ht), h.apart.perm p (fun {s t} x g e c => x g c e)⟩
end

section
open Go.RowKit
section
variable {P : Program} {ops : Array Oper} {n : Nat} {ys : List Yield} {w0 : World} {a0 : Act} {i : Nat} {o : Oper} {r : List Oper} {v v2 : Value} {c : Prop}
def Gd (ops : Array Oper) (ys : List Yield) (o : Oper) (c : Prop) : Prop := ∀ a w, fh ops ys o a w → (c → Region.wanted o (yielded ops a.tmps) = true) ∧ (¬ c → Region.wanted o (yielded ops a.tmps) = false)
theorem ysI {y : Yield} {j : Nat} {v : Value} {w : World} (hy : ys[j]? = some (yIf c y)) (h : Ys ys j v w) : (c → y.p v w) ∧ (¬ c → v = undef) := by
  unfold Ys at h; rw [hy] at h; exact h
theorem zl {b b' : Bool} (h : ¬ b' = b) : (b == b') = false := by cases b <;> cases b' <;> simp at h ⊢
theorem g1 (j : Nat) {b b' : Bool} (h : o.guard = some (j, b)) (hy : ys[j]? = some (yV (.bool b'))) (ha : (o.after.toList.any fun e => Region.binds .any e && e.on == j) = true := by rfl) : Gd ops ys o (b' = b) := fun a w d =>
  ⟨fun e => db h (e ▸ kG (fy d j ha) hy), fun e => mG h (kG (fy d j ha) hy) (zl e)⟩
theorem g2 (j : Nat) {b b' : Bool} (h : o.guard = some (j, b)) (hy : ys[j]? = some (yIf c (yV (.bool b')))) (ha : (o.after.toList.any fun e => Region.binds .any e && e.on == j) = true := by rfl) : Gd ops ys o (c ∧ b' = b) := fun a w d => by
  obtain ⟨h1, h2⟩ := ysI hy (fy d j ha); refine ⟨fun e => db h (e.2 ▸ h1 e.1), fun e => ?_⟩
  by_cases hc : c
  · exact mG h (h1 hc) (zl fun x => e ⟨hc, x⟩)
  · exact BW h (h2 hc)
theorem g3 (j : Nat) {b : Bool} (h : o.guard = some (j, b)) (hy : ys[j]? = some (yIf c (yV (.bool b)))) (ha : (o.after.toList.any fun e => Region.binds .any e && e.on == j) = true := by rfl) : Gd ops ys o c := fun a w d => by
  obtain ⟨h1, h2⟩ := ysI hy (fy d j ha); exact ⟨fun e => db h (h1 e), fun e => BW h (h2 e)⟩
theorem di {a : Act} {w : World} {t : Nat} (hd : fh ops ys o a w) (j : Nat) (hy : ys[j]? = some (yIf c (yV v))) (hc : c) (ha : (o.after.toList.any fun e => Region.binds .any e && e.on == j) = true := by rfl) (ht : (ops[j]?).bind (·.dst) = some t := by rfl) : a.eval (.tmp t) = v := (iq ht).symm.trans ((ysI hy (fy hd j ha)).1 hc)
theorem B9 {w : World} (hy : ys[i]? = some (yIf c (yV v2))) (hc : c) (e : v = v2) : Ys ys i v w := by
  unfold Ys; rw [hy]; exact ⟨fun _ => e, fun h => absurd hc h⟩
theorem Ca {w : World} (hy : ys[i]? = some (yIf c (yV v2))) (hc : ¬ c) : Ys ys i undef w := by
  unfold Ys; rw [hy]; exact ⟨fun h => absurd h hc, fun _ => rfl⟩
theorem xU (hy : ys[i]? = some (yIf c (yV v2))) : Fs ys i = false := by
  unfold Fs; rw [hy]; rfl
theorem aiE (g : Gd ops ys o c) (h : ∀ {a w}, Kept w0 w → BesideN ops n a0 a → fh ops ys o a w → c → (execOp a.eval o).run P w = .ok (.value v) w) (e : c → v = v2) (hy : ys[i]? = some (yIf c (yV v2))) (t : Arms P ops n ys w0 a0 (i + 1) r) : Arms P ops n ys w0 a0 i (o :: r) :=
  ⟨fun a w k b d => by
    by_cases hc : c
    · exact bS ((g a w d).1 hc) (h k b d hc) (B9 hy hc (e hc)) (xU hy)
    · exact lW ((g a w d).2 hc) (Ca hy hc) (xU hy), t⟩
theorem ai (g : Gd ops ys o c) (h : ∀ {a w}, Kept w0 w → BesideN ops n a0 a → fh ops ys o a w → c → (execOp a.eval o).run P w = .ok (.value v) w) (hy : ys[i]? = some (yIf c (yV v))) (t : Arms P ops n ys w0 a0 (i + 1) r) : Arms P ops n ys w0 a0 i (o :: r) := aiE g h (fun _ => rfl) hy t
theorem aiD {f : FuncId} {args : Array Value} (g : Gd ops ys o c) (h : ∀ {a w}, Kept w0 w → BesideN ops n a0 a → fh ops ys o a w → c → (execOp a.eval o).run P w = .ok (.enter f args) w) (q : ∀ {a w}, Kept w0 w → BesideN ops n a0 a → fh ops ys o a w → c → Calls P f args w fun e w' => e = .returned v ∧ Kept w w') (e : c → v = v2) (hy : ys[i]? = some (yIf c (yV v2))) (t : Arms P ops n ys w0 a0 (i + 1) r) : Arms P ops n ys w0 a0 i (o :: r) :=
  ⟨fun a w k b d => by
    by_cases hc : c
    · exact aB ((g a w d).1 hc) (h k b d hc) ((q k b d hc).mono fun _ _ ⟨he, hk⟩ => ⟨_, he, B9 hy hc (e hc), hk⟩) (xU hy)
    · exact lW ((g a w d).2 hc) (Ca hy hc) (xU hy), t⟩
theorem aiC {f : FuncId} {args : Array Value} (g : Gd ops ys o c) (h : ∀ {a w}, Kept w0 w → BesideN ops n a0 a → fh ops ys o a w → c → (execOp a.eval o).run P w = .ok (.enter f args) w) (q : ∀ {a w}, Kept w0 w → BesideN ops n a0 a → fh ops ys o a w → c → Calls P f args w fun e w' => e = .returned v ∧ Kept w w') (hy : ys[i]? = some (yIf c (yV v))) (t : Arms P ops n ys w0 a0 (i + 1) r) : Arms P ops n ys w0 a0 i (o :: r) := aiD g h q (fun _ => rfl) hy t
end
end

section
open Go.RowKit
structure Sto where
  i : Nat
  j : Nat
  tj : Nat
  t : TypeId
  cs : Array Value
  vs : List Value
def Sto.old (s : Sto) : Obj := .cells s.cs s.t (0, 0)
def Sto.new (s : Sto) : Obj := .cells (fA s.cs 0 s.vs) s.t (0, 0)
def D4 (base : Nat) : Yield := ⟨fun v w => ∃ g, v = .pointer (some ⟨g, 0, none⟩) ∧ base ≤ g ∧ g < w.heap.size, fun _ _ _ ⟨g, e, hb, hh⟩ k => ⟨g, e, hb, Nat.lt_of_lt_of_le hh k.size⟩, true, fun _ _ _ ⟨g, e, _, hh⟩ => ⟨g, by rw [e]; rfl, hh⟩⟩
def Ds (y : Yield) : Prop := ∀ v w w', w.heap.size ≤ w'.heap.size → y.p v w → y.p v w'
def vi (ys : List Yield) : Prop := ∀ y ∈ ys, Ds y
theorem Ys.lasts {ys : List Yield} (h : vi ys) {j : Nat} {v : Value} {w w' : World} (k : w.heap.size ≤ w'.heap.size) (q : Ys ys j v w) : Ys ys j v w' := by
  unfold Ys at q ⊢
  cases e : ys[j]? with
  | none => trivial
  | some y => rw [e] at q; exact h y (List.mem_of_getElem? e) v w w' k q
theorem iR {a w : World} {g : Nat} (hg : a.heap.size ≤ g) : ∀ (vs : List Value) (i : Nat) (w : World), Kept a w → Kept a (bN w g i vs)
  | [], _, _, h => h
  | v :: r, i, w, h => iR (w := w) hg r (i + 1) _ (h.setCell (p := ⟨g, i, none⟩) hg v)
theorem iT {g : Nat} : ∀ (vs : List Value) (i : Nat) (w : World), (bN w g i vs).heap.size = w.heap.size
  | [], _, _ => rfl
  | v :: r, i, w => by
    show (bN (w.setCell ⟨g, i, none⟩ v) g (i + 1) r).heap.size = _; rw [iT r (i + 1), World.size_setCell]
theorem jG {g h : Nat} (ne : h ≠ g) : ∀ (vs : List Value) (i : Nat) (w : World), (bN w g i vs).heap[h]? = w.heap[h]?
  | [], _, _ => rfl
  | v :: r, i, w => by
    show (bN (w.setCell ⟨g, i, none⟩ v) g (i + 1) r).heap[h]? = _; rw [jG ne r (i + 1)]; exact Below.heap_setCell w ⟨g, i, none⟩ v h ne
theorem jH {g : Nat} {t : TypeId} : ∀ (vs : List Value) (i : Nat) (w : World) (cs : Array Value), Box w g t cs → Box (bN w g i vs) g t (fA cs i vs)
  | [], _, _, _, h => h
  | v :: r, i, w, cs, h => jH r (i + 1) _ _ (h.at_ i v)
theorem Ad {l : List Sto} (h : l.Pairwise fun s u => s.i ≠ u.i ∧ s.j ≠ u.j) : ∀ s ∈ l, ∀ u ∈ l, (s.i = u.i ∨ s.j = u.j) → s = u := by
  induction h with
  | nil => intro s hs; cases hs
  | cons hx _ ih =>
    intro s hs u hu c; rcases List.mem_cons.1 hs with rfl | hs1
    · rcases List.mem_cons.1 hu with rfl | hu1
      · rfl
      · have := hx u hu1
        rcases c with c | c
        · exact absurd c this.1
        · exact absurd c this.2
    · rcases List.mem_cons.1 hu with rfl | hu1
      · have := hx s hs1
        rcases c with c | c
        · exact absurd c.symm this.1
        · exact absurd c.symm this.2
      · exact ih s hs1 u hu1 c
def om (ops : Array Oper) (N : Nat) : Bool :=
  zW ops && (List.range ops.size).all fun i => match (ops[i]?).bind (·.dst) with
    | none => true
    | some t => decide (t < N) && (List.range ops.size).all fun j => Nat.beq j i || !(((ops[j]?).bind (·.dst)) == some t)
section
variable {P : Program} {ops : Array Oper}
structure InvF9 (ops : Array Oper) (ys : List Yield) (sto : List Sto) (w0 : World) (a0 : Act) (done : Array Bool) (a : Act) (w : World) : Prop where
  len : done.size = ops.size
  kept : Kept w0 w
  beside : BesideN ops ops.size a0 a
  vals : ∀ j, done.getD j false = true → Ys ys j (At ops a j) w
  apart : ∀ j k, j ≠ k → Fs ys j = true → Fs ys k = true → done.getD j false = true → done.getD k false = true → dA (At ops a j) ≠ dA (At ops a k)
  ord : ∀ s ∈ sto, done.getD s.i false = true → done.getD s.j false = true
  cont : ∀ s ∈ sto, done.getD s.j false = true → ∀ g, dA (At ops a s.j) = some g → w.heap[g]? = some (if done.getD s.i false = true then s.new else s.old)
def zm (P : Program) (ops : Array Oper) (ys : List Yield) (sto : List Sto) (i : Nat) (o : Oper) (a : Act) (w : World) : Prop :=
  (gP P ops ys i o a w ∧ (o.dst.isSome && sto.all fun s => !Nat.beq s.i i && !Nat.beq s.j i) = true) ∨
  (∃ s ∈ sto, s.j = i ∧ Region.wanted o (yielded ops a.tmps) = true ∧ (execOp a.eval o).run P w = .ok (.value (.pointer (some ⟨w.heap.size, 0, none⟩))) (w.alloc s.old)) ∨
  (∃ s ∈ sto, s.i = i ∧ Region.wanted o (yielded ops a.tmps) = true ∧ ∀ g, a.eval (.tmp s.tj) = .pointer (some ⟨g, 0, none⟩) → Box w g s.t s.cs → (execOp a.eval o).run P w = .ok .skip (bN w g 0 s.vs))
theorem jv {done : Array Bool} {j : Nat} (h : done.getD j false = true) (i : Nat) : (done.setIfInBounds i true).getD j false = true := by
  by_cases e : i = j
  · subst e
    have : i < done.size := by
      rcases Nat.lt_or_ge i done.size with c | c
      · exact c
      · simp [Array.getD, Nat.not_lt.2 c] at h
    simp [Array.getD, this]
  · rw [getD_set_ne false e]; exact h
theorem xV {N : Nat} (hB : om ops N = true) {i t : Nat} {o : Oper} (h : ops[i]? = some o) (hd : o.dst = some t) : t < N ∧ ∀ j q, j ≠ i → ops[j]? = some q → q.dst ≠ some t := by
  simp only [om, Bool.and_eq_true, List.all_eq_true, List.mem_range] at hB
  have hi : i < ops.size := (Array.getElem?_eq_some_iff.1 h).1; have := hB.2 i hi; rw [h] at this
  simp only [Option.bind_some, hd, Bool.and_eq_true, decide_eq_true_eq, List.all_eq_true, List.mem_range, Bool.or_eq_true, Bool.not_eq_true', beq_eq_false_iff_ne, ne_eq] at this
  refine ⟨this.1, fun j q ne hq e => ?_⟩; have hj : j < ops.size := (Array.getElem?_eq_some_iff.1 hq).1; rcases this.2 j hj with c | c
  · exact ne (Nat.eq_of_beq_eq_true c)
  · rw [hq] at c
    exact c (by simpa using e)
theorem At.put_other {N i : Nat} {o : Oper} {a : Act} {v : Value} (hB : om ops N = true) (h : ops[i]? = some o) {j : Nat} (ne : j ≠ i) : At ops (a.put o.dst v) j = At ops a j := by
  cases hd : o.dst with
  | none => rfl
  | some t =>
    unfold At
    cases hq : ops[j]? with
    | none => rfl
    | some q =>
      simp only [Option.bind_some]
      cases hu : q.dst with
      | none => rfl
      | some u =>
        simp only
        exact bf (fun e => (xV hB h hd).2 j q ne hq (by rw [hu, e]))
theorem BesideN.put' {i : Nat} {o : Oper} {a0 a : Act} {v : Value} (h : ops[i]? = some o) (b : BesideN ops ops.size a0 a) : BesideN ops ops.size a0 (a.put o.dst v) := by
  cases hd : o.dst with
  | none => exact b
  | some t =>
    have hi : i < ops.size := (Array.getElem?_eq_some_iff.1 h).1; refine ⟨b.defers, by simp only [Act.put, Array.size_setIfInBounds]; exact b.size, fun u hu => ?_⟩; rw [bf, b.same u hu]; rintro rfl
    have : aH ops ops.size t = true := by
      unfold aH; rw [List.any_eq_true]; exact ⟨i, List.mem_range.2 hi, by rw [h]; simp [hd]⟩
    rw [this] at hu; cases hu
theorem InvF9.put {ys : List Yield} {sto : List Sto} {N : Nat} {w0 w w' : World} {a0 a : Act} {done : Array Bool} (hB : om ops N = true)
    (inv : InvF9 ops ys sto w0 a0 done a w) {i : Nat} {o : Oper} (h : ops[i]? = some o) {v : Value} (hu : done.getD i true = false) (hv : Ys ys i (At ops (a.put o.dst v) i) w') (k : Kept w w') (hf : Fs ys i = true → ∃ g, dA (At ops (a.put o.dst v) i) = some g ∧ w.heap.size ≤ g)
    (hc : ∀ s ∈ sto, s.j = i → ∀ g, dA (At ops (a.put o.dst v) i) = some g → done.getD s.i false = false ∧ w'.heap[g]? = some s.old) (hn : ∀ s ∈ sto, s.i ≠ i) (hp : ∀ s ∈ sto, Fs ys s.j = true) :
    InvF9 ops ys sto w0 a0 (done.setIfInBounds i true) (a.put o.dst v) w' := by
  have hi : i < ops.size := (Array.getElem?_eq_some_iff.1 h).1; have old : ∀ j, j ≠ i → (done.setIfInBounds i true).getD j false = true → done.getD j false = true := fun j ne hj => by rwa [getD_set_ne false (fun e => ne e.symm)] at hj
  have oth : ∀ j, j ≠ i → At ops (a.put o.dst v) j = At ops a j := fun j ne => At.put_other hB h ne; refine ⟨by rw [Array.size_setIfInBounds]; exact inv.len, inv.kept.trans k, inv.beside.put' h, fun j hd => ?_, fun j q ne fj fq dj dq => ?_, fun s hs hd => ?_, fun s hs hd g hg => ?_⟩
  · by_cases e : j = i
    · subst e; exact hv
    · rw [oth j e]; exact (inv.vals j (old j e hd)).stays k
  · by_cases ej : j = i
    · subst ej
      have eq : q ≠ j := fun e => ne e.symm; rw [oth q eq]; obtain ⟨g, hg, hge⟩ := hf fj; obtain ⟨g2, hg2, hlt⟩ := (inv.vals q (old q eq dq)).inside fq; rw [hg, hg2]; intro e
      cases e
      omega
    · by_cases eq : q = i
      · subst eq
        rw [oth j ej]; obtain ⟨g, hg, hge⟩ := hf fq; obtain ⟨g2, hg2, hlt⟩ := (inv.vals j (old j ej dj)).inside fj; rw [hg, hg2]; intro e
        cases e
        omega
      · rw [oth j ej, oth q eq]
        exact inv.apart j q ne fj fq (old j ej dj) (old q eq dq)
  · rw [getD_set_ne false (fun e => hn s hs e.symm)] at hd
    exact jv (inv.ord s hs hd) i
  · have ns : s.i ≠ i := hn s hs
    rw [getD_set_ne false (fun e => ns e.symm)]
    by_cases e : s.j = i
    · rw [e] at hg
      obtain ⟨h1, h2⟩ := hc s hs e g hg; rw [h1]; exact h2
    · rw [oth s.j e] at hg
      have := inv.cont s hs (old s.j e hd) g hg; obtain ⟨g2, hg2, hlt⟩ := (inv.vals s.j (old s.j e hd)).inside (hp s hs); rw [hg] at hg2
      cases hg2
      exact (k.block g hlt).trans this
theorem InvF9.store {ys : List Yield} {sto : List Sto} {N : Nat} {w0 w : World} {a0 a : Act} {done : Array Bool} (hB : om ops N = true) (hP : sto.Pairwise fun s u => s.i ≠ u.i ∧ s.j ≠ u.j) (hl : vi ys) (hy : ∀ s ∈ sto, ys[s.j]? = some (D4 w0.heap.size)) (hyi : ∀ s ∈ sto, ys[s.i]? = some yNo)
    (inv : InvF9 ops ys sto w0 a0 done a w) {s : Sto} (hs : s ∈ sto) {o : Oper} (h : ops[s.i]? = some o) (hd : o.dst = none) (hu : done.getD s.i true = false) (hdj : done.getD s.j false = true) {g : Nat} (hg : At ops a s.j = .pointer (some ⟨g, 0, none⟩)) (v : Value) :
    InvF9 ops ys sto w0 a0 (done.setIfInBounds s.i true) (a.put o.dst v) (bN w g 0 s.vs) := by
  have hi : s.i < ops.size := (Array.getElem?_eq_some_iff.1 h).1; have ea : a.put o.dst v = a := by rw [hd]; rfl
  rw [ea]; have old : ∀ j, j ≠ s.i → (done.setIfInBounds s.i true).getD j false = true → done.getD j false = true := fun j ne hj => by rwa [getD_set_ne false (fun e => ne e.symm)] at hj
  have fj : ∀ u ∈ sto, Fs ys u.j = true := fun u hu => by unfold Fs; rw [hy u hu]; rfl
  have fi : Fs ys s.i = false := by unfold Fs; rw [hyi s hs]; rfl
  have ne_of : ∀ j, Fs ys j = true → j ≠ s.i := fun j f e => by rw [e, fi] at f; cases f
  have gb : w0.heap.size ≤ g := by
    have := inv.vals s.j hdj; unfold Ys at this; rw [hy s hs, hg] at this; obtain ⟨g', e, hb, _⟩ := this
    cases e
    exact hb
  refine ⟨by rw [Array.size_setIfInBounds]; exact inv.len, iR (w := w) gb _ _ _ inv.kept, inv.beside, fun j hd => ?_, fun j q ne fj' fq' dj dq => inv.apart j q ne fj' fq' (old j (ne_of j fj') dj) (old q (ne_of q fq') dq), fun u hu' hd => ?_, fun u hu' hd g2 hg2 => ?_⟩
  · by_cases e : j = s.i
    · subst e
      unfold Ys; rw [hyi s hs]
      trivial
    · exact (inv.vals j (old j e hd)).lasts hl (by rw [iT]; exact Nat.le_refl _)
  · by_cases e : u = s
    · subst e; exact jv hdj _
    · exact jv (inv.ord u hu' (old u.i (fun c => e (Ad hP u hu' s hs (Or.inl c))) hd)) _
  · have old1 := old u.j (ne_of u.j (fj u hu')) hd
    by_cases e : u = s
    · subst e
      rw [hg] at hg2
      cases hg2
      have is_ : (done.setIfInBounds u.i true).getD u.i false = true := by
        have : u.i < done.size := by rw [inv.len]; exact hi
        simp [Array.getD, this]
      rw [if_pos is_]; have c := inv.cont u hs hdj g (by rw [hg]; rfl); rw [if_neg (by rw [getD_both hu]; simp)] at c; exact jH u.vs 0 w u.cs c
    · have nj : u.j ≠ s.j := fun c => e (Ad hP u hu' s hs (Or.inr c))
      have ni : u.i ≠ s.i := fun c => e (Ad hP u hu' s hs (Or.inl c))
      have gne : g2 ≠ g := fun c => by
        have := inv.apart u.j s.j nj (fj u hu') (fj s hs) old1 hdj; rw [hg2, hg, c] at this; exact this rfl
      rw [jG gne, getD_set_ne false (fun c => ni c.symm)]; exact inv.cont u hu' old1 g2 hg2
def AllS (p : Sto → Prop) : List Sto → Prop
  | [] => True
  | s :: l => p s ∧ AllS p l
theorem AllS.out {p : Sto → Prop} : ∀ {l : List Sto}, AllS p l → ∀ s ∈ l, p s
  | [], _, s, h => by cases h
  | x :: l, h, s, hs => by
    rcases List.mem_cons.1 hs with rfl | c
    · exact h.1
    · exact AllS.out h.2 s c
def ArmsF (P : Program) (ops : Array Oper) (ys : List Yield) (sto : List Sto) (w0 : World) (a0 : Act) : Nat → List Oper → Prop
  | _, [] => True
  | i, o :: r => (∀ a w, Kept w0 w → BesideN ops ops.size a0 a → fh ops ys o a w → zm P ops ys sto i o a w) ∧ ArmsF P ops ys sto w0 a0 (i + 1) r
theorem ArmsF.get {ys : List Yield} {sto : List Sto} {w0 : World} {a0 : Act} : ∀ (l : List Oper) (i : Nat), ArmsF P ops ys sto w0 a0 i l → ∀ (k : Nat) (o : Oper), l[k]? = some o → ∀ a w, Kept w0 w → BesideN ops ops.size a0 a → fh ops ys o a w → zm P ops ys sto (i + k) o a w
  | [], _, _, k, o, h => by simp at h
  | x :: l, i, hA, 0, o, h => by simp at h; subst h; exact hA.1
  | x :: l, i, hA, k + 1, o, h => by
    have := ArmsF.get l (i + 1) hA.2 k o (by simpa using h)
    rwa [show i + 1 + k = i + (k + 1) by omega] at this
variable {ys : List Yield} {sto : List Sto} {w0 : World} {a0 : Act} {i : Nat} {o : Oper} {r : List Oper}
end
end

section
open Go.RowKit Lv
end

namespace Lv
open Go
end Lv

namespace Lv
open Go
def up : List Int → Int
  | [] => 0
  | a :: l => (if a < 0 then 0 else a) + up l
def jI : List Int → Int
  | [] => 0
  | a :: l => (if a < 0 then -a else 0) + jI l
def cg : List Int → Int
  | [] => 0
  | a :: l => a + cg l
def All64 (l : List Int) : Prop := ∀ a ∈ l, i64 a
theorem vj (l m : List Int) : up (l ++ m) = up l + up m := by
  induction l with
  | nil => simp [up]
  | cons a l ih => simp only [List.cons_append, up, ih]; omega
theorem qc (l m : List Int) : jI (l ++ m) = jI l + jI m := by
  induction l with
  | nil => simp [jI]
  | cons a l ih => simp only [List.cons_append, jI, ih]; omega
theorem vk (l : List Int) : up l - jI l = cg l := by
  induction l with
  | nil => simp [up, jI, cg]
  | cons a l ih => simp only [up, jI, cg]; split <;> omega
theorem gk (l : List Int) (h : All64 l) : 0 ≤ up l ∧ up l ≤ 9223372036854775808 * l.length ∧ 0 ≤ jI l ∧ jI l ≤ 9223372036854775808 * l.length := by
  induction l with
  | nil => simp [up, jI]
  | cons a l ih =>
    have ih := ih (fun b hb => h b (List.mem_cons_of_mem _ hb)); have ha := h a (List.mem_cons_self ..); obtain ⟨h1, h2⟩ := ha
    simp only [up, jI, List.length_cons]
    split <;> omega
theorem All64.take {l : List Int} (h : All64 l) (k : Nat) : All64 (l.take k) := fun a ha => h a (List.mem_of_mem_take ha)
theorem vl (l : List Int) (k : Nat) (h : k < l.length) : l.take (k + 1) = l.take k ++ [l.getD k 0] := by
  rw [List.take_succ_eq_append_getElem h]; simp [h]
theorem All64.get {l : List Int} (h : All64 l) {k : Nat} (hk : k < l.length) : i64 (l.getD k 0) := by
  have : l.getD k 0 = l[k] := by simp [hk]
  rw [this]; exact h _ (List.getElem_mem hk)
theorem zo {u s : Int} (u0 : 0 ≤ u) (u1 : u < 170141183460469231731687303715884105728) (s0 : 0 ≤ s) (s1 : s ≤ 18446744073709551615) : aY u + (bj u + s) / 18446744073709551616 = aY (u + s) := by unfold aY bj; omega
theorem zp (u s : Int) : (bj u + s) % 18446744073709551616 = bj (u + s) := by unfold bj; omega
theorem rn {u : Int} (u0 : 0 ≤ u) (u1 : u < 170141183460469231731687303715884105728) : aY u < 18446744073709551615 := by unfold aY; omega
theorem vm (l : List Int) (a : Int) : up (l ++ [a]) = up l + (if a < 0 then 0 else a) := by rw [vj]; simp [up]
theorem oo (l : List Int) (a : Int) : jI (l ++ [a]) = jI l + (if a < 0 then -a else 0) := by rw [qc]; simp [jI]
theorem sP {u d : Int} (u0 : 0 ≤ u) (u1 : u < 170141183460469231731687303715884105728) (d0 : 0 ≤ d) (d1 : d < 170141183460469231731687303715884105728) : 0 ≤ abs (u - d) ∧ abs (u - d) < 170141183460469231731687303715884105728 := by
  unfold abs; split <;> omega
def tJ (l : List Int) : Int × Bool := fit (cg l)
def dT (l : List Int) : Int × Bool := if l = [] then (0, false) else fit (sg (neg (cg l)) (rnd (abs (cg l)) l.length))
end Lv

namespace Lv
open Go
def pw (a : Int) : Nat → Int × Bool
  | 0 => (10000, true)
  | n + 1 => if (pw a n).2 = true then mB (pw a n).1 a else (0, false)
theorem qd (n : Int) : i64 (fit n).1 := by unfold fit i64; split <;> simp; omega
theorem xW (a b : Int) : i64 (mB a b).1 := qd _
theorem kH {a : Int} (h : 0 ≤ a) : a.tmod 10000 = a % 10000 := Int.tmod_eq_emod_of_nonneg h
theorem xX {a : Int} (h : a < 0) : a.tmod 10000 = -((-a) % 10000) := by
  have e := Int.neg_tmod (-a) 10000; rw [Int.neg_neg, kH (a := -a) (by omega)] at e; exact e
theorem qe (a : Int) : -9999 ≤ a.tmod 10000 ∧ a.tmod 10000 ≤ 9999 ∧ (0 ≤ a → 0 ≤ a.tmod 10000 ∧ a.tmod 10000 ≤ a) ∧ (a ≤ 0 → a.tmod 10000 ≤ 0 ∧ a ≤ a.tmod 10000) := by
  by_cases c : 0 ≤ a
  · rw [kH c]; omega
  · rw [xX (by omega)]; omega
end Lv

namespace Lv
open Go
def Small (v : Vl) : Prop := i64 v.n ∧ v.t.length ≤ 2000
theorem mg (c : Int) : Small (aW c) := by
  unfold Small aW i64; refine ⟨⟨?_, ?_⟩, by simp⟩ <;> simp only <;> split <;> omega
theorem sQ {n : Int} (h : i64 n) : Small (aK n) := by
  unfold aK
  split
  · exact mg 3
  · exact ⟨h, by simp⟩
theorem mh (t : List UInt8) : Small (hU t) := by
  unfold hU
  split
  · rename_i h
    obtain ⟨n, h1, h2, h3, _⟩ := xz h; rw [h3]; exact sQ ⟨by simp only; omega, by simp only; omega⟩
  · split <;> exact mg _
end Lv

namespace Lv
open Go
def mL (p : Int × Bool) : Vl := if p.2 then aK p.1 else aW 3
theorem vn {v : Vl} (h : isE (bB v) = false) (hn : i64 v.n) : -9223372036854775807 ≤ (bB v).n ∧ (bB v).n ≤ 9223372036854775807 := by
  obtain ⟨h1, h2⟩ := uo v
  have h3 : (bB v).k = 1 := by
    rcases h2 with e | e
    · exact e
    · unfold isE at h; rw [e] at h; cases h
  have h4 : i64 (bB v).n := by
    by_cases ok : vOk v = true
    · rcases gF ok with rfl | ⟨n, hn, rfl⟩ | rfl | rfl | ⟨t, ht, rfl⟩ | ⟨c, c1, c2, rfl⟩
      · exact ⟨by decide, by decide⟩
      · unfold bB; rw [ok]; exact hn
      · exact ⟨by decide, by decide⟩
      · exact ⟨by decide, by decide⟩
      · unfold bB; rw [ok]; exact (mh t).1
      · unfold bB; rw [ok]; exact hn
    · unfold bB; rw [if_pos (by simpa using ok)]; exact ⟨by decide, by decide⟩
  generalize bB v = u at *; obtain ⟨k, n, t⟩ := u
  simp only at h3
  subst h3; rw [ok1, decide_eq_true_eq] at h1; obtain ⟨a, b⟩ := h4; have := h1.2
  simp only at a b ⊢
  omega
theorem vo {v : Vl} (h : (v.k : Int) = (4 : Int)) : isE v = true := by unfold isE; rw [decide_eq_true_eq]; omega
theorem zq {v : Vl} (h : ¬ ((v.k : Int) = (4 : Int))) : isE v = false := by unfold isE; rw [decide_eq_false_iff_not]; omega
theorem Ae {y : Int} (h : i64 y) : i64 (y.tdiv 10000) := by
  obtain ⟨h1, h2⟩ := h; have e := Int.tmod_add_mul_tdiv y 10000; obtain ⟨a, b, _⟩ := qe y; exact ⟨by omega, by omega⟩
end Lv

namespace Lv
open Go
structure Rc where
  c1 : Int
  r1 : Int
  c2 : Int
  r2 : Int
deriving DecidableEq
structure Cl where
  c : Int
  r : Int
  v : Vl
structure Ar where
  w : Bool
  v : Vl
  x : Rc
  l : List Cl
def lE (c r : Int) : Bool := decide (1 ≤ c ∧ c ≤ 1024 ∧ 1 ≤ r ∧ r ≤ 1024)
def okR (x : Rc) : Bool := lE x.c1 x.r1 && lE x.c2 x.r2 && decide (x.c1 ≤ x.c2 ∧ x.r1 ≤ x.r2)
def gU (x : Rc) (c r : Int) : Bool := decide (x.c1 ≤ c ∧ c ≤ x.c2 ∧ x.r1 ≤ r ∧ r ≤ x.r2)
def cd (x : Rc) : Int := x.c2 - x.c1 + 1
def dw (x : Rc) : Int := x.r2 - x.r1 + 1
def ck (x : Rc) : Int := if okR x then cd x * dw x else 0
def cJ (x : Rc) (c r : Int) : Int := (r - x.r1) * cd x + c - x.c1
def cO (p q : Cl) : Bool := decide (p.r < q.r) || (decide (p.r = q.r) && decide (p.c < q.c))
def kI (x : Rc) (b : Int) (c : Cl) : Bool := gU x c.c c.r && decide (c.v.k ≠ 0) && vOk c.v && decide (b < cJ x c.c c.r)
def cQ (x : Rc) : Int → List Cl → Bool
  | _, [] => true
  | b, c :: l => kI x b c && cQ x (cJ x c.c c.r) l
def qf : Rc := ⟨0, 0, 0, 0⟩
def br (a : Ar) : Bool := if a.w then decide (a.v.k = 0 ∧ a.v.n = 0 ∧ a.v.t = []) && okR a.x && cQ a.x (-1) a.l else vOk a.v && decide (a.x = qf) && decide (a.l.length = 0)
def rq (a : Ar) : List Vl := if a.w then (a.l.map Cl.v).filter (fun v => decide (v.k = 1 ∨ v.k = 4)) else [bB a.v]
def aF (l : List Ar) : List Vl := (l.map rq).flatten
def eJ (l : List Ar) : List Int × Vl × Bool := match aN (aF l) with
  | some e => ([], e, false)
  | none => ((aF l).map Vl.n, aG, true)
def aA (l : List Ar) : List Int × Vl × Bool := if l.all br then eJ l else ([], aW 2, false)
def av (a : Ar) : Rc × List Cl := if a.w then (a.x, a.l) else (⟨1, 1, 1, 1⟩, if a.v.k = 0 then [] else [⟨1, 1, a.v⟩])
def vp (l : List Cl) (c r : Int) : Vl := match l.find? (fun p => decide (p.c = c ∧ p.r = r)) with
  | some p => p.v
  | none => aG
def bE (a b : Vl) : Bool := decide ((xk a b).2 = 0) && decide ((xk a b).1 = 0)
def aV (l : List Int) : List Int := l.mergeSort (fun a b => decide (a ≤ b))
def gm : Int → List Int → Int × Bool
  | x, [] => (x, true)
  | x, n :: l => if (mB x n).2 then gm (mB x n).1 l else (0, false)
def oq (fn : Nat) (l : List Int) : Vl :=
  if fn = 9 ∨ fn = 46 then mL (tJ l)
  else if fn = 14 ∨ fn = 48 then (if l = [] then aW 1 else mL (dT l))
  else if fn = 17 then (if l = [] then aW 3 else if l.length % 2 = 1 then aK ((aV l).getD (l.length / 2) 0) else mL (dT [(aV l).getD (l.length / 2 - 1) 0, (aV l).getD (l.length / 2) 0]))
  else if l = [] then aK 0
  else if fn = 15 ∨ fn = 49 then aK (l.tail.foldl min (l.headD 0))
  else if fn = 16 ∨ fn = 50 then aK (l.tail.foldl max (l.headD 0))
  else mL (gm (l.headD 0) l.tail)
def dM (fn : Nat) : Bool := decide (fn = 9 ∨ fn = 10 ∨ fn = 14 ∨ fn = 15 ∨ fn = 16 ∨ fn = 17 ∨ fn = 46 ∨ fn = 48 ∨ fn = 49 ∨ fn = 50)
def cR (fn : Nat) (l : List Ar) : Int := ((l.map fun a =>
  if fn = 13 then ck (av a).1 - (av a).2.length
  else ((((av a).2.filter fun c => decide (fn = 12 ∨ c.v.k = 1)).length : Nat) : Int)).sum)
def mM (v : Vl) : Int := Int.tdiv (bB v).n 10000
def eK (a : Ar) (k : Vl) (desc : Bool) : Vl :=
  if (eJ [a]).2.2 = false then (eJ [a]).2.1
  else if isE (bB k) then bB k
  else if mM k < 1 ∨ ((eJ [a]).1.length : Int) < mM k then aW 3
  else aK ((if desc then (aV (eJ [a]).1).reverse else aV (eJ [a]).1).getD (mM k - 1).toNat 0)
def ev (a : Ar) (v : Vl) : Vl :=
  if v.k = 4 then v
  else aK (((if bE aG v then ck (av a).1 - (av a).2.length else 0) + ((av a).2.filter fun c => bE c.v v).length) * 10000)
def cu (x : Rc) (v : Vl) (b : Bool) : Int → List Cl → Int
  | next, [] => if b = true ∧ next < ck x then next + 1 else 0
  | next, c :: l => if b = true ∧ next < cJ x c.c c.r then next + 1 else if bE c.v v then cJ x c.c c.r + 1 else cu x v b (cJ x c.c c.r + 1) l
def fG (v : Vl) (a : Ar) : Vl := if v.k = 4 then v else
  if cu (av a).1 v (bE aG v) 0 (av a).2 = 0 then aW 4 else aK (cu (av a).1 v (bE aG v) 0 (av a).2 * 10000)
def rr (a : Ar) (i j : Int) : Vl := if i < 1 ∨ dw (av a).1 < i ∨ j < 1 ∨ cd (av a).1 < j then aW 5 else vp (av a).2 ((av a).1.c1 + (j - 1)) ((av a).1.r1 + (i - 1))
def rt (a : Ar) (i : Int) : Vl := if i < 1 ∨ cd (av a).1 * dw (av a).1 < i then aW 5 else vp (av a).2 ((av a).1.c1 + (i - 1) % cd (av a).1) ((av a).1.r1 + (i - 1) / cd (av a).1)
def cm (a : Ar) (l : List Vl) : Vl := match aN (l.map bB) with
  | some e => e
  | none => match l.map mM with
    | [i] => rt a i
    | [i, j] => rr a i j
    | _ => aG
def eR (fn : Nat) : Bool := decide ((9 ≤ fn ∧ fn ≤ 19) ∨ (43 ≤ fn ∧ fn ≤ 50))
def Cb (fn : Nat) : Nat := if fn = 18 ∨ fn = 19 ∨ fn = 45 ∨ fn = 43 ∨ fn = 44 then 2 else 1
def Cc (fn : Nat) : Nat := if fn = 13 ∨ 46 ≤ fn then 1 else if fn = 43 then 3 else if fn = 18 ∨ fn = 19 ∨ fn = 45 ∨ fn = 44 then 2 else 16
def kc (fn i : Nat) : Bool := if fn = 13 ∨ 46 ≤ fn ∨ fn = 18 ∨ fn = 19 ∨ fn = 45 ∨ fn = 43 then decide (i = 0) else if fn = 44 then decide (i = 1) else true
def ot (fn i : Nat) (a : Ar) : Bool := br a && !(a.w && !kc fn i) && !(decide (46 ≤ fn) && !a.w)
def bM (fn : Nat) : Nat → List Ar → Bool
  | _, [] => true
  | i, a :: l => ot fn i a && bM fn (i + 1) l
def eS (fn : Nat) (l : List Ar) : Vl :=
  if dM fn then (match eJ l with
    | (_, e, false) => e
    | (n, _, true) => oq fn n)
  else if fn = 18 ∨ fn = 19 then eK (l.getD 0 ⟨false, aG, qf, []⟩) (l.getD 1 ⟨false, aG, qf, []⟩).v (decide (fn = 18))
  else if fn = 45 then ev (l.getD 0 ⟨false, aG, qf, []⟩) (l.getD 1 ⟨false, aG, qf, []⟩).v
  else if fn = 44 then fG (l.getD 0 ⟨false, aG, qf, []⟩).v (l.getD 1 ⟨false, aG, qf, []⟩)
  else if fn = 43 then cm (l.getD 0 ⟨false, aG, qf, []⟩) (l.tail.map Ar.v)
  else aK (cR fn l * 10000)
def bd (fn : Nat) (l : List Ar) : Vl × Int :=
  if eR fn = false then (aG, 10)
  else if l.length < Cb fn ∨ Cc fn < l.length then (aG, 11)
  else if bM fn 0 l = false then (aG, 2)
  else (eS fn l, 0)
theorem ru {x : Rc} {p q : Cl} (hp : gU x p.c p.r = true) (hq : gU x q.c q.r = true) : decide (cJ x p.c p.r < cJ x q.c q.r) = cO p q := by
  unfold gU at hp hq; rw [decide_eq_true_eq] at hp hq; unfold cO cJ cd; obtain ⟨W, hW⟩ : ∃ W, W = x.c2 - x.c1 + 1 := ⟨_, rfl⟩; rw [← hW]
  by_cases h : p.r < q.r
  · rw [decide_eq_true h, Bool.true_or, decide_eq_true_eq]
    have h1 : (p.r - x.r1 + 1) * W ≤ (q.r - x.r1) * W := Int.mul_le_mul_of_nonneg_right (by omega) (by omega); rw [Int.add_mul, Int.one_mul] at h1
    omega
  · by_cases h2 : p.r = q.r
    · rw [h2, decide_eq_false (Int.lt_irrefl _), Bool.false_or, decide_eq_true rfl, Bool.true_and, decide_eq_decide]
      omega
    · rw [decide_eq_false h, decide_eq_false h2, Bool.false_and, Bool.false_or, decide_eq_false_iff_not]
      have h1 : (q.r - x.r1 + 1) * W ≤ (p.r - x.r1) * W := Int.mul_le_mul_of_nonneg_right (by omega) (by omega); rw [Int.add_mul, Int.one_mul] at h1
      omega
theorem vq {x : Rc} {c r : Int} (h : gU x c r = true) : 0 ≤ cJ x c r ∧ cJ x c r < cd x * dw x := by
  unfold gU at h; rw [decide_eq_true_eq] at h; unfold cJ dw; obtain ⟨W, hW⟩ : ∃ W, W = cd x := ⟨_, rfl⟩; have hw : W = x.c2 - x.c1 + 1 := hW; rw [← hW]; have h0 : 0 ≤ (r - x.r1) * W := Int.mul_nonneg (by omega) (by omega); have h1 : (r - x.r1) * W ≤ (x.r2 - x.r1) * W := Int.mul_le_mul_of_nonneg_right (by omega) (by omega); have h2 : W * (x.r2 - x.r1 + 1) = (x.r2 - x.r1) * W + W := by rw [Int.mul_add, Int.mul_one, Int.mul_comm]
  omega
end Lv

section
open Go.RowKit Lv
def RowK {α : Type} (k : Nat) (enc : α → List Value) (w : World) (A : Option Addr) (l : List α) : Prop :=
  ∀ i x, l[i]? = some x → ∃ b off, A = some ⟨b, off, none⟩ ∧ b < w.heap.size ∧ ∀ j v, (enc x)[j]? = some v → w.cell? ⟨b, off + i * k + j, none⟩ = some v
section
variable {α : Type} {k : Nat} {enc : α → List Value} {w w' : World} {A : Option Addr} {l : List α}
theorem RowK.kept (h : RowK k enc w A l) (q : Kept w w') : RowK k enc w' A l := fun i x hx => by
  obtain ⟨b, off, rfl, hb, hc⟩ := h i x hx; exact ⟨b, off, rfl, Nat.lt_of_lt_of_le hb q.size, fun j v hv => (q.cell (p := ⟨b, _, none⟩) hb).trans (hc j v hv)⟩
theorem RowK.nil : RowK k enc w A [] := fun i x h => by simp at h
theorem RowK.take (h : RowK k enc w A l) (n : Nat) : RowK k enc w A (l.take n) := fun i x hx => h i x (by
  rw [List.getElem?_take] at hx
  split at hx
  · exact hx
  · cases hx)
theorem RowK.addr (h : RowK k enc w A l) (h0 : l ≠ []) : ∃ b off, A = some ⟨b, off, none⟩ ∧ b < w.heap.size := by
  cases l with
  | nil => exact absurd rfl h0
  | cons x l =>
    obtain ⟨b, off, e, hb, _⟩ := h 0 x rfl; exact ⟨b, off, e, hb⟩
theorem kd (hk : ∀ x, (enc x).length = k) : ∀ (l : List α) (i j : Nat) (x : α) (v : Value), l[i]? = some x → (enc x)[j]? = some v → (l.map enc).flatten[i * k + j]? = some v ∧ i * k + j < l.length * k
  | [], i, _, _, _, h, _ => by simp at h
  | y :: l, 0, j, x, v, h, hv => by
    simp at h
    subst h; have hj : j < k := by rw [← hk y]; exact (List.getElem?_eq_some_iff.1 hv).1
    refine ⟨?_, by simp only [List.length_cons, Nat.succ_mul, Nat.zero_mul]; omega⟩; rw [List.map_cons, List.flatten_cons, Nat.zero_mul, Nat.zero_add, List.getElem?_append_left (by rw [hk]; exact hj)]; exact hv
  | y :: l, i + 1, j, x, v, h, hv => by
    obtain ⟨h1, h2⟩ := kd hk l i j x v (by simpa using h) hv; have e : (i + 1) * k + j = k + (i * k + j) := by rw [Nat.succ_mul]; omega
    refine ⟨?_, by simp only [List.length_cons, Nat.succ_mul] at *; omega⟩; rw [List.map_cons, List.flatten_cons, e, List.getElem?_append_right (by rw [hk]; omega), hk, Nat.add_sub_cancel_left]; exact h1
theorem RowK.box {g : Nat} {t : TypeId} {cs : Array Value} (h : Box w g t cs) (hk : ∀ x, (enc x).length = k) (hl : cs.toList.take (l.length * k) = (l.map enc).flatten) : RowK k enc w (some ⟨g, 0, none⟩) l := fun i x hx => by
  refine ⟨g, 0, rfl, h.inside, fun j v hv => ?_⟩; obtain ⟨h1, h2⟩ := kd hk l i j x v hx hv; rw [Nat.zero_add, h.cell, ← h1, ← hl, List.getElem?_take_of_lt h2]
  simp
theorem RowK.own {base : Nat} {e : TypeId} {v : Value} (hk : ∀ x, (enc x).length = k) (h : w.ownsRow base e k v l.length (l.map enc).flatten) : ∃ A cap, v = .slice A l.length cap ∧ RowK k enc w A l ∧ l.length ≤ cap ∧ cap ≤ maxLen ∧ (l ≠ [] → ∃ g, A = Option.some ⟨g, 0, none⟩ ∧ base ≤ g) := by
  rcases h.2 with ⟨rfl, h0⟩ | ⟨g, cap, cur, rfl, hb, hh, h4, h5, h6, h7⟩
  · have : l = [] := List.eq_nil_of_length_eq_zero h0
    subst this; exact ⟨none, 0, rfl, RowK.nil, Nat.le_refl _, Nat.zero_le _, fun h => absurd rfl h⟩
  · exact ⟨Option.some ⟨g, 0, none⟩, cap, rfl, RowK.box (t := e) (cs := cur) hh hk h7, h4, h5, fun _ => ⟨g, rfl, hb⟩⟩
def ElemK (w : World) (b p : Nat) (vs : List Value) : Prop := b < w.heap.size ∧ ∀ j v, vs[j]? = some v → w.cell? ⟨b, p + j, none⟩ = some v
theorem ElemK.kept {b p : Nat} {vs : List Value} (h : ElemK w b p vs) (q : Kept w w') : ElemK w' b p vs := ⟨Nat.lt_of_lt_of_le h.1 q.size, fun j v hv => (q.cell (p := ⟨b, _, none⟩) h.1).trans (h.2 j v hv)⟩
theorem RowK.elem (h : RowK k enc w A l) {i : Nat} {x : α} (hx : l[i]? = some x) : ∃ b off, A = some ⟨b, off, none⟩ ∧ ElemK w b (off + i * k) (enc x) := by
  obtain ⟨b, off, e, hb, hc⟩ := h i x hx; exact ⟨b, off, e, hb, hc⟩
variable {a : Act} {o : Oper}
theorem sR {T e : TypeId} (s : Nat) (hu : Tryz.prog.underlying T = some (.slice e)) (hs : (sizeOf e).run Tryz.prog w = .ok s w) {b off n c i : Nat} (hi : i < n) : (Instr.indexAt T (.slice (some ⟨b, off, none⟩) n c) (.int .i64 i)).run Tryz.prog w = .ok (.pointer (some ⟨b, off + i * s, none⟩)) w := by
  have hr := run_underlying (w := w) hu; have b0 : (0 : Int) ≤ (i : Int) := by omega
  have b1 : (i : Int) < (n : Int) := by omega
  have e := gI (g := b) (off := off) (i * s)
  simp [Instr.indexAt, asIntOf, hr, hs, Result.andThen, b0, b1, e]
  intro hc; omega
theorem jw {T e : TypeId} (s : Nat) (hu : Tryz.prog.underlying T = some (.slice e)) (hs : (sizeOf e).run Tryz.prog w = .ok s w) {x y : Operand} (ho : o.op = .indexAddr T x y) {A : Option Addr} {b off n c i : Nat} (hA : A = some ⟨b, off, none⟩) (hx : a.eval x = .slice A n c) (hy : a.eval y = .int .i64 i) (hi : i < n) : (execOp a.eval o).run Tryz.prog w = .ok (.value (.pointer (some ⟨b, off + i * s, none⟩))) w := by
  subst hA; exact mc ho hx hy (sR s hu hs hi)
theorem mi {T : TypeId} {x : Operand} {n b p q : Nat} (j : Nat) {ws vs : List Value} (ho : o.op = .load T x) (ha : (isAgg T).run Tryz.prog w = .ok true w) (hs : (sizeOf T).run Tryz.prog w = .ok n w) (hx : a.eval x = .pointer (some ⟨b, q, none⟩)) (hq : q = p + j) (he : ElemK w b p ws) (hv : (ws.drop j).take n = vs := by rfl) (hn : vs.length = n := by rfl) : (execOp a.eval o).run Tryz.prog w = .ok (.value (.agg vs.toArray)) w := by
  subst hq
  have hl := run_loadCells_list (P := Tryz.prog) (w := w) ⟨b, p + j, none⟩ vs (fun q v hq => by
    rw [gI, show p + j + q = p + (j + q) by omega]; refine he.2 (j + q) v ?_; rw [← hv, List.getElem?_take] at hq
    split at hq
    · rwa [List.getElem?_drop] at hq
    · cases hq)
  rw [hn] at hl; unfold execOp
  simp only [ho, hx, Instr.loadAt, Instr.sureAddr, loadVar, Sem.run_bind, Sem.run_pure, Result.andThen_ok, ha, hs, if_true, hl]
theorem kJ {T : TypeId} {x : Operand} {b p q : Nat} (j : Nat) {ws : List Value} {v : Value} (ho : o.op = .load T x) (ha : (isAgg T).run Tryz.prog w = .ok false w) (hx : a.eval x = .pointer (some ⟨b, q, none⟩)) (hq : q = p + j) (he : ElemK w b p ws) (hv : ws[j]? = some v) : (execOp a.eval o).run Tryz.prog w = .ok (.value v) w := by
  subst hq; exact rd ho ha hx (he.2 j v hv)
theorem dJ {l : List α} {i : Nat} {x : α} (h : l[i]? = some x) : l.drop i = x :: l.drop (i + 1) := by
  obtain ⟨hi, e⟩ := List.getElem?_eq_some_iff.1 h; rw [List.drop_eq_getElem_cons hi, e]
theorem eT {l : List α} {i : Nat} {x : α} (h : l[i]? = some x) : l.take (i + 1) = l.take i ++ [x] := by
  rw [List.take_add_one, h]
  rfl
theorem bQ {l : List α} {i : Nat} (h : i < l.length) : ∃ x, l[i]? = some x := ⟨_, List.getElem?_eq_getElem h⟩
end
/-! cells, ranges, arguments -/
def rcV (x : Rc) : List Value := [.int .i64 x.c1, .int .i64 x.r1, .int .i64 x.c2, .int .i64 x.r2]
def clV (c : Cl) : List Value := [.int .i64 c.c, .int .i64 c.r, .int .u8 c.v.k, .int .i64 c.v.n, .string ⟨c.v.t.toArray⟩]
def arV (a : Ar) (s : Value) : List Value := [.bool a.w, .int .u8 a.v.k, .int .i64 a.v.n, .string ⟨a.v.t.toArray⟩, .int .i64 a.x.c1, .int .i64 a.x.r1, .int .i64 a.x.c2, .int .i64 a.x.r2, s]
theorem dW (c : Cl) : (clV c).length = 5 := rfl
def CellsAt (w : World) (s : Value) (l : List Cl) : Prop := ∃ A cap, s = .slice A l.length cap ∧ RowK 5 clV w A l ∧ l.length ≤ cap
theorem CellsAt.kept {w w' : World} {s : Value} {l : List Cl} (h : CellsAt w s l) (q : Kept w w') : CellsAt w' s l := by
  obtain ⟨A, c, e, r, hc⟩ := h; exact ⟨A, c, e, r.kept q, hc⟩
theorem CellsAt.nil (w : World) : CellsAt w (.slice none 0 0) [] := ⟨none, 0, rfl, RowK.nil, Nat.le_refl _⟩
def ArgsAt (w : World) (A : Option Addr) (l : List Ar) : Prop := ∃ L : List (Ar × Value), L.map Prod.fst = l ∧ RowK 9 (fun p : Ar × Value => arV p.1 p.2) w A L ∧ ∀ p ∈ L, CellsAt w p.2 p.1.l
theorem ArgsAt.kept {w w' : World} {A : Option Addr} {l : List Ar} (h : ArgsAt w A l) (q : Kept w w') : ArgsAt w' A l := by
  obtain ⟨L, e, r, c⟩ := h; exact ⟨L, e, r.kept q, fun p hp => (c p hp).kept q⟩
theorem ArgsAt.elem {w : World} {A : Option Addr} {l : List Ar} (h : ArgsAt w A l) {i : Nat} {x : Ar} (hx : l[i]? = some x) : ∃ b off A1 c1, A = some ⟨b, off, none⟩ ∧ ElemK w b (off + i * 9) (arV x (.slice A1 x.l.length c1)) ∧ RowK 5 clV w A1 x.l ∧ x.l.length ≤ c1 := by
  obtain ⟨L, e, r, c⟩ := h; subst e; rw [List.getElem?_map] at hx
  cases hL : L[i]? with
  | none => rw [hL] at hx; cases hx
  | some p =>
    rw [hL] at hx
    cases hx
    obtain ⟨b, off, hA, he⟩ := r.elem hL; obtain ⟨A1, c1, e1, r1, h1⟩ := c p (List.mem_of_getElem? hL); exact ⟨b, off, A1, c1, hA, e1 ▸ he, r1, h1⟩
end

section
open Go.RowKit
section
variable {P : Program} {ops : Array Oper} {n : Nat} {ys : List Yield} {w0 : World} {a0 : Act} {i : Nat} {o : Oper} {r : List Oper} {u v v2 : Value} {c : Prop} {x y z : Operand} {b d : Bool} {t j : Nat} {T T2 e : TypeId} {k : IntKind} {p q m g off N : Nat} {B : World} {H : List Th} {cs : Array Value} {ws vs : List Value} {f : FuncId}
def Ev (ops : Array Oper) (n : Nat) (ys : List Yield) (w0 : World) (a0 : Act) (o : Oper) (c : Prop) (x : Operand) (v : Value) : Prop := ∀ a w, Kept w0 w → BesideN ops n a0 a → fh ops ys o a w → c → a.eval x = v
def Rn (P : Program) (ops : Array Oper) (n : Nat) (ys : List Yield) (w0 : World) (a0 : Act) (o : Oper) (c : Prop) (v : Value) : Prop := ∀ a w, Kept w0 w → BesideN ops n a0 a → fh ops ys o a w → c → (execOp a.eval o).run P w = .ok (.value v) w
def Aft (o : Oper) (j : Nat) : Prop := (o.after.toList.any fun e => Region.binds .any e && e.on == j) = true
theorem zt (s : a0.eval (.tmp t) = v) (hn : aH ops n t = false := by exact rfl) : Ev ops n ys w0 a0 o c (.tmp t) v := fun _ _ _ bs _ _ => bs.get t hn s
theorem zd (j : Nat) (hj : ys[j]? = some (yV v) := by exact rfl) (ha : Aft o j := by exact rfl) (ht : (ops[j]?).bind (·.dst) = some t := by exact rfl) : Ev ops n ys w0 a0 o c (.tmp t) v := fun _ _ _ _ hd _ => dep hd j ha hj ht
theorem zi (j : Nat) (hj : ys[j]? = some (yIf c (yV v)) := by exact rfl) (ha : Aft o j := by exact rfl) (ht : (ops[j]?).bind (·.dst) = some t := by exact rfl) : Ev ops n ys w0 a0 o c (.tmp t) v := fun _ _ _ _ hd hc => di hd j hj hc ha ht
theorem zc : Ev ops n ys w0 a0 o c (.const v) v := fun _ _ _ _ _ _ => rfl
/- heads -/
theorem ua (h : Rn P ops n ys w0 a0 o True v) (hy : ys[i]? = some (yV v)) (tl : Arms P ops n ys w0 a0 (i + 1) r) (hg : o.guard = none := by exact rfl) : Arms P ops n ys w0 a0 i (o :: r) := rm (wn hg) (fun a w hk bs hd => h a w hk bs hd trivial) hy tl
theorem ub (h : Rn P ops n ys w0 a0 o True (.bool b)) (hy : ys[i]? = some (yV (.bool d))) (tl : Arms P ops n ys w0 a0 (i + 1) r) (hg : o.guard = none := by exact rfl) (e : b = d := by exact rfl) : Arms P ops n ys w0 a0 i (o :: r) := xo (wn hg) (fun a w hk bs hd => h a w hk bs hd trivial) (congrArg Value.bool e) hy tl
theorem ue (h : Rn P ops n ys w0 a0 o True v) (e : v = v2) (hy : ys[i]? = some (yV v2)) (tl : Arms P ops n ys w0 a0 (i + 1) r) (hg : o.guard = none := by exact rfl) : Arms P ops n ys w0 a0 i (o :: r) := xo (wn hg) (fun a w hk bs hd => h a w hk bs hd trivial) e hy tl
theorem ui (g : Gd ops ys o c) (h : Rn P ops n ys w0 a0 o c v) (hy : ys[i]? = some (yIf c (yV v))) (tl : Arms P ops n ys w0 a0 (i + 1) r) : Arms P ops n ys w0 a0 i (o :: r) := ai g (fun hk bs hd hz => h _ _ hk bs hd hz) hy tl
theorem uw (j : Nat) (h : Rn P ops n ys w0 a0 o True v) (hy : ys[i]? = some (yV v)) (tl : Arms P ops n ys w0 a0 (i + 1) r) (hg : o.guard = some (j, b) := by exact rfl) (hj : ys[j]? = some (yV (.bool b)) := by exact rfl) (ha : Aft o j := by exact rfl) : Arms P ops n ys w0 a0 i (o :: r) := rm (wg hg hj ha) (fun a w hk bs hd => h a w hk bs hd trivial) hy tl
theorem gd1 (j : Nat) (h : o.guard = some (j, b) := by exact rfl) (hy : ys[j]? = some (yV (.bool d)) := by exact rfl) (ha : Aft o j := by exact rfl) : Gd ops ys o (d = b) := g1 j h hy ha
theorem gd2 (j : Nat) (h : o.guard = some (j, b) := by exact rfl) (hy : ys[j]? = some (yIf c (yV (.bool d))) := by exact rfl) (ha : Aft o j := by exact rfl) : Gd ops ys o (c ∧ d = b) := g2 j h hy ha
theorem rfa {k : Nat} (h0 : Ev ops n ys w0 a0 o c x u) (ho : o.op = .fieldAddr T x k := by exact rfl) (h : ∀ w, (Instr.fieldAt T u k).run P w = .ok v w := by intro w; kernel_rfl) : Rn P ops n ys w0 a0 o c v := fun a w hk bs hd hz => bH ho (h0 a w hk bs hd hz) (h w)
theorem rex {k : Nat} (h0 : Ev ops n ys w0 a0 o c x u) (ho : o.op = .extract x k := by exact rfl) (h : ∀ w, (Instr.extract u k).run P w = .ok v w := by exact fun _ => rfl) : Rn P ops n ys w0 a0 o c v := fun a w hk bs hd hz => aR ho (h0 a w hk bs hd hz) (h w)
theorem rlb (ow : Own B H w0) (k : Nat) (h0 : Ev ops n ys w0 a0 o c x (.pointer (some ⟨g, off, none⟩))) (ho : o.op = .load T x := by exact rfl) (hb : H[k]? = some (Th.obj g (.cells cs T2 (0, 0))) := by exact rfl) (hc : cs[off]? = some v := by exact rfl) (ha : ∀ w, (isAgg T).run P w = .ok false w := by intro w; kernel_rfl) : Rn P ops n ys w0 a0 o c v := fun a w hk bs hd hz => iO ho (ha w) (h0 a w hk bs hd hz) ((ow.keep hk).box k hb) hc
theorem rln (m : Nat) (ow : Own B H w0) (k : Nat) (h0 : Ev ops n ys w0 a0 o c x (.pointer (some ⟨g, off, none⟩))) (ho : o.op = .load T x := by exact rfl) (hb : H[k]? = some (Th.obj g (.cells cs T2 (0, 0))) := by exact rfl) (hl : off + m ≤ cs.size := by exact Nat.le_of_ble_eq_true rfl) (hv : (cs.toList.drop off).take m = vs := by exact rfl) (ha : ∀ w, (isAgg T).run P w = .ok true w := by intro w; kernel_rfl) (hs : ∀ w, (sizeOf T).run P w = .ok m w := by intro w; kernel_rfl) : Rn P ops n ys w0 a0 o c (.agg vs.toArray) := fun a w hk bs hd hz => oe m ho (ha w) (hs w) (h0 a w hk bs hd hz) ((ow.keep hk).box k hb) hl hv
theorem rpk (m j : Nat) (he : ElemK B g p ws) (ow : Own B H w0) (h0 : Ev ops n ys w0 a0 o c x (.pointer (some ⟨g, q, none⟩))) (ho : o.op = .load T x := by exact rfl) (hq : q = p + j := by exact rfl) (hv : (ws.drop j).take m = vs := by exact rfl) (hn : vs.length = m := by exact rfl) (ha : ∀ w, (isAgg T).run Tryz.prog w = .ok true w := by intro w; kernel_rfl) (hs : ∀ w, (sizeOf T).run Tryz.prog w = .ok m w := by intro w; kernel_rfl) : Rn Tryz.prog ops n ys w0 a0 o c (.agg vs.toArray) := fun a w hk bs hd hz => mi (n := m) j ho (ha w) (hs w) (h0 a w hk bs hd hz) hq (he.kept (ow.keep hk).kept) hv hn
theorem rck (j : Nat) (he : ElemK B g p ws) (ow : Own B H w0) (h0 : Ev ops n ys w0 a0 o c x (.pointer (some ⟨g, q, none⟩))) (ho : o.op = .load T x := by exact rfl) (hq : q = p + j := by exact rfl) (hv : ws[j]? = some v := by exact rfl) (ha : ∀ w, (isAgg T).run Tryz.prog w = .ok false w := by intro w; kernel_rfl) : Rn Tryz.prog ops n ys w0 a0 o c v := fun a w hk bs hd hz => kJ j ho (ha w) (h0 a w hk bs hd hz) hq (he.kept (ow.keep hk).kept) hv
theorem rpl (s : Nat) (hu : Tryz.prog.underlying T = some (.slice e)) {A : Option Addr} {N cap i : Nat} (hA : A = some ⟨g, off, none⟩) (h0 : Ev ops n ys w0 a0 o c x (.slice A N cap)) (h1 : Ev ops n ys w0 a0 o c y (.int .i64 i)) (hi : i < N) (ho : o.op = .indexAddr T x y := by exact rfl) (hs : ∀ w, (sizeOf e).run Tryz.prog w = .ok s w := by intro w; kernel_rfl) : Rn Tryz.prog ops n ys w0 a0 o c (.pointer (some ⟨g, off + i * s, none⟩)) := fun a w hk bs hd hz => jw s hu (hs w) ho hA (h0 a w hk bs hd hz) (h1 a w hk bs hd hz) hi
theorem rp0 (s : Nat) (hu : Tryz.prog.underlying T = some (.slice e)) {A : Option Addr} {N cap i : Nat} (hA : A = some ⟨g, off, none⟩) (h0 : Ev ops n ys w0 a0 o c x (.slice A N cap)) (h1 : Ev ops n ys w0 a0 o c y (.int .i64 i)) (ho : o.op = .indexAddr T x y := by exact rfl) (hi : i < N := by exact Nat.le_of_ble_eq_true rfl) (hs : ∀ w, (sizeOf e).run Tryz.prog w = .ok s w := by intro w; kernel_rfl) : Rn Tryz.prog ops n ys w0 a0 o c (.pointer (some ⟨g, off + i * s, none⟩)) := fun a w hk bs hd hz => jw s hu (hs w) ho hA (h0 a w hk bs hd hz) (h1 a w hk bs hd hz) hi
theorem rmo (h0 : Ev ops n ys w0 a0 o c x v) (ho : o.op = .move x := by exact rfl) : Rn Tryz.prog ops n ys w0 a0 o c v := fun a w hk bs hd hz => ce ho (h0 a w hk bs hd hz)
theorem rle (hu : Tryz.prog.underlying T = some (.slice e)) {A : Option Addr} {N cap : Nat} (h0 : Ev ops n ys w0 a0 o c x (.slice A N cap)) (ho : o.op = .call { callee := .builtin .len, args := #[x], argTypes := #[T] } := by exact rfl) : Rn Tryz.prog ops n ys w0 a0 o c (.int .i64 N) := fun a w hk bs hd hz => DU hu ho (h0 a w hk bs hd hz)
theorem rno (h0 : Ev ops n ys w0 a0 o c x (.bool b)) (ho : o.op = .unOp .not T x := by exact rfl) : Rn Tryz.prog ops n ys w0 a0 o c (.bool (!b)) := fun a w hk bs hd hz => B6 ho (h0 a w hk bs hd hz)
theorem rpt (h1 : Ev ops n ys w0 a0 o c z (.bool true)) (h0 : Ev ops n ys w0 a0 o c x v) (ho : o.op = .pick z x y := by exact rfl) : Rn Tryz.prog ops n ys w0 a0 o c v := fun a w hk bs hd hz => uY ho (h1 a w hk bs hd hz) (h0 a w hk bs hd hz)
theorem rpf (h1 : Ev ops n ys w0 a0 o c z (.bool false)) (h0 : Ev ops n ys w0 a0 o c y v) (ho : o.op = .pick z x y := by exact rfl) : Rn Tryz.prog ops n ys w0 a0 o c v := fun a w hk bs hd hz => uZ ho (h1 a w hk bs hd hz) (h0 a w hk bs hd hz)
theorem ran (h0 : Ev ops n ys w0 a0 o True z (.bool b)) (h1 : Ev ops n ys w0 a0 o (b = true) x (.bool d)) (ho : o.op = .pick z x y := by exact rfl) (h2 : ∀ a : Act, a.eval y = .bool false := by exact fun _ => rfl) : Rn Tryz.prog ops n ys w0 a0 o True (.bool (b && d)) := fun a w hk bs hd hz => DE ho (h0 a w hk bs hd hz) (fun hb => h1 a w hk bs hd hb) (h2 a)
theorem ron (h0 : Ev ops n ys w0 a0 o True z (.bool b)) (h1 : Ev ops n ys w0 a0 o (b = false) y (.bool d)) (ho : o.op = .pick z x y := by exact rfl) (h2 : ∀ a : Act, a.eval x = .bool true := by exact fun _ => rfl) : Rn Tryz.prog ops n ys w0 a0 o True (.bool (b || d)) := fun a w hk bs hd hz => DF ho (h0 a w hk bs hd hz) (h2 a) (fun hb => h1 a w hk bs hd hb)
theorem rai (h0 : Ev ops n ys w0 a0 o c z (.bool b)) (h1 : Ev ops n ys w0 a0 o (c ∧ b = true) x (.bool d)) (ho : o.op = .pick z x y := by exact rfl) (h2 : ∀ a : Act, a.eval y = .bool false := by exact fun _ => rfl) : Rn Tryz.prog ops n ys w0 a0 o c (.bool (b && d)) := fun a w hk bs hd hz => DE ho (h0 a w hk bs hd hz) (fun hb => h1 a w hk bs hd ⟨hz, hb⟩) (h2 a)
theorem roi (h0 : Ev ops n ys w0 a0 o c z (.bool b)) (h1 : Ev ops n ys w0 a0 o (c ∧ b = false) y (.bool d)) (ho : o.op = .pick z x y := by exact rfl) (h2 : ∀ a : Act, a.eval x = .bool true := by exact fun _ => rfl) : Rn Tryz.prog ops n ys w0 a0 o c (.bool (b || d)) := fun a w hk bs hd hz => DF ho (h0 a w hk bs hd hz) (h2 a) (fun hb => h1 a w hk bs hd ⟨hz, hb⟩)
theorem rad {n' m : Int} (h0 : Ev ops n ys w0 a0 o c x (.int .i64 n')) (h1 : Ev ops n ys w0 a0 o c y (.int .i64 m)) (ho : o.op = .binOp .add T x y T2 := by exact rfl) (hT : T = 3 ∨ T = 2 := by first | exact Or.inl rfl | exact Or.inr rfl) (l1 : -9223372036854775808 ≤ n' + m := by omega) (l2 : n' + m ≤ 9223372036854775807 := by omega) : Rn Tryz.prog ops n ys w0 a0 o c (.int .i64 (n' + m)) := fun a w hk bs hd hz => DN hT ho (h0 a w hk bs hd hz) (h1 a w hk bs hd hz) l1 l2
theorem rsb {n' m : Int} (h0 : Ev ops n ys w0 a0 o c x (.int .i64 n')) (h1 : Ev ops n ys w0 a0 o c y (.int .i64 m)) (ho : o.op = .binOp .sub T x y T2 := by exact rfl) (hT : T = 3 ∨ T = 2 := by first | exact Or.inl rfl | exact Or.inr rfl) (l1 : -9223372036854775808 ≤ n' - m := by omega) (l2 : n' - m ≤ 9223372036854775807 := by omega) : Rn Tryz.prog ops n ys w0 a0 o c (.int .i64 (n' - m)) := fun a w hk bs hd hz => DG hT ho (h0 a w hk bs hd hz) (h1 a w hk bs hd hz) l1 l2
theorem rlt {n' m : Int} (h0 : Ev ops n ys w0 a0 o c x (.int k n')) (h1 : Ev ops n ys w0 a0 o c y (.int k m)) (ho : o.op = .binOp .lss T x y T2 := by exact rfl) : Rn Tryz.prog ops n ys w0 a0 o c (.bool (decide (n' < m))) := fun a w hk bs hd hz => DP ho (h0 a w hk bs hd hz) (h1 a w hk bs hd hz)
theorem rlq {n' m : Int} (h0 : Ev ops n ys w0 a0 o c x (.int k n')) (h1 : Ev ops n ys w0 a0 o c y (.int k m)) (ho : o.op = .binOp .leq T x y T2 := by exact rfl) : Rn Tryz.prog ops n ys w0 a0 o c (.bool (decide (n' ≤ m))) := fun a w hk bs hd hz => DQ ho (h0 a w hk bs hd hz) (h1 a w hk bs hd hz)
theorem rgt {n' m : Int} (h0 : Ev ops n ys w0 a0 o c x (.int k n')) (h1 : Ev ops n ys w0 a0 o c y (.int k m)) (ho : o.op = .binOp .gtr T x y T2 := by exact rfl) : Rn Tryz.prog ops n ys w0 a0 o c (.bool (decide (m < n'))) := fun a w hk bs hd hz => DR ho (h0 a w hk bs hd hz) (h1 a w hk bs hd hz)
theorem rgq {n' m : Int} (h0 : Ev ops n ys w0 a0 o c x (.int k n')) (h1 : Ev ops n ys w0 a0 o c y (.int k m)) (ho : o.op = .binOp .geq T x y T2 := by exact rfl) : Rn Tryz.prog ops n ys w0 a0 o c (.bool (decide (m ≤ n'))) := fun a w hk bs hd hz => DS ho (h0 a w hk bs hd hz) (h1 a w hk bs hd hz)
theorem req {n' m : Int} (h0 : Ev ops n ys w0 a0 o c x (.int k n')) (h1 : Ev ops n ys w0 a0 o c y (.int k m)) (ho : o.op = .binOp .eql T x y T2 := by exact rfl) : Rn Tryz.prog ops n ys w0 a0 o c (.bool (decide (n' = m))) := fun a w hk bs hd hz => C5 ho (h0 a w hk bs hd hz) (h1 a w hk bs hd hz)
theorem rne {n' m : Int} (h0 : Ev ops n ys w0 a0 o c x (.int k n')) (h1 : Ev ops n ys w0 a0 o c y (.int k m)) (ho : o.op = .binOp .neq T x y T2 := by exact rfl) : Rn Tryz.prog ops n ys w0 a0 o c (.bool (decide (n' ≠ m))) := fun a w hk bs hd hz => DT ho (h0 a w hk bs hd hz) (h1 a w hk bs hd hz)
/- whole arms -/
theorem uq1 (ho : o.op = .assign x) (h : Act.eval ⟨#[], []⟩ x = v) (hy : ys[i]? = some (yV v)) (tl : Arms Tryz.prog ops n ys w0 a0 (i + 1) r) (hg : o.guard = none := by exact rfl) (hx : ∀ a : Act, a.eval x = v := by exact fun _ => rfl) : Arms Tryz.prog ops n ys w0 a0 i (o :: r) := rm (wn hg) (fun a w hk bs hd => aq ho (hx a)) hy tl
theorem um (s : a0.eval (.tmp t) = v) (hy : ys[i]? = some (yV v)) (tl : Arms Tryz.prog ops n ys w0 a0 (i + 1) r) (ho : o.op = .move (.tmp t) := by exact rfl) (hg : o.guard = none := by exact rfl) (hn : aH ops n t = false := by exact rfl) : Arms Tryz.prog ops n ys w0 a0 i (o :: r) := mvS s ho hg hn hy tl
theorem uq2 (j : Nat) (hj : ys[j]? = some (yV v)) (hy : ys[i]? = some (yV v)) (tl : Arms Tryz.prog ops n ys w0 a0 (i + 1) r) (ho : o.op = .move (.tmp t) := by exact rfl) (hg : o.guard = none := by exact rfl) (ha : Aft o j := by exact rfl) (ht : (ops[j]?).bind (·.dst) = some t := by exact rfl) : Arms Tryz.prog ops n ys w0 a0 i (o :: r) := mvD j ho hg ha hj ht hy tl
theorem uq3 (j : Nat) (hj : ys[j]? = some (yV v)) (hy : ys[i]? = some (yV v)) (tl : Arms Tryz.prog ops n ys w0 a0 (i + 1) r) (ho : o.op = .assign (.tmp t) := by exact rfl) (hg : o.guard = none := by exact rfl) (ha : Aft o j := by exact rfl) (ht : (ops[j]?).bind (·.dst) = some t := by exact rfl) : Arms Tryz.prog ops n ys w0 a0 i (o :: r) := asD j ho hg ha hj ht hy tl
theorem uq4 {B : Obj} (tl : Arms P ops n ys w0 a0 (i + 1) r) (hg : o.guard = none := by exact rfl) (ho : o.op = .alloc T := by exact rfl) (hy : ys[i]? = some (bJ w0.heap.size B) := by exact rfl) (h : ∀ w : World, (Instr.alloc T true (.tuple #[])).run P w = .ok (.pointer (some ⟨w.heap.size, 0, none⟩)) (w.alloc B) := by intro w; kernel_rfl) : Arms P ops n ys w0 a0 i (o :: r) := DI (wn hg) (fun a w hk bs hd => gg ho (h w)) hy tl
theorem ux {B : Obj} (s : a0.eval (.tmp t) = u) (tl : Arms P ops n ys w0 a0 (i + 1) r) (hg : o.guard = none := by exact rfl) (ho : o.op = .box T (.tmp t) := by exact rfl) (hn : aH ops n t = false := by exact rfl) (hy : ys[i]? = some (bJ w0.heap.size B) := by exact rfl) (h : ∀ w : World, (Instr.box T u).run P w = .ok (.pointer (some ⟨w.heap.size, 0, none⟩)) (w.alloc B) := by intro w; kernel_rfl) : Arms P ops n ys w0 a0 i (o :: r) := DI (wn hg) (fun a w hk bs hd => DM ho (bs.get t hn s) (h w)) hy tl
/- calls -/
def Cn (ops : Array Oper) (n : Nat) (ys : List Yield) (w0 : World) (a0 : Act) (o : Oper) (c : Prop) (f : FuncId) (args : Array Value) : Prop := ∀ a w, Kept w0 w → BesideN ops n a0 a → fh ops ys o a w → c → (execOp a.eval o).run Tryz.prog w = .ok (.enter f args) w
theorem rc1 {ts : Array TypeId} (h0 : Ev ops n ys w0 a0 o c x u) (hF : ∀ (l : Array Value) (w : World), (callFunc f l).run Tryz.prog w = .ok (.enter f l) w) (ho : o.op = .call { callee := .value (.func f), args := #[x], argTypes := ts } := by exact rfl) : Cn ops n ys w0 a0 o c f #[u] := fun a w hk bs hd hz => cz ho (h0 a w hk bs hd hz) (hF _ _)
theorem rc2 {ts : Array TypeId} (h0 : Ev ops n ys w0 a0 o c x u) (h1 : Ev ops n ys w0 a0 o c y v) (hF : ∀ (l : Array Value) (w : World), (callFunc f l).run Tryz.prog w = .ok (.enter f l) w) (ho : o.op = .call { callee := .value (.func f), args := #[x, y], argTypes := ts } := by exact rfl) : Cn ops n ys w0 a0 o c f #[u, v] := fun a w hk bs hd hz => rf ho (h0 a w hk bs hd hz) (h1 a w hk bs hd hz) (hF _ _)
theorem uc {l : Array Value} (h : Cn ops n ys w0 a0 o True f l) (q : ∀ {w}, Kept w0 w → Calls Tryz.prog f l w fun e w' => e = .returned v ∧ Kept w w') (hy : ys[i]? = some (yV v)) (tl : Arms Tryz.prog ops n ys w0 a0 (i + 1) r) (hg : o.guard = none := by exact rfl) : Arms Tryz.prog ops n ys w0 a0 i (o :: r) := tI (wn hg) (fun a w hk bs hd => h a w hk bs hd trivial) (fun a w hk bs hd => q hk) hy tl
theorem ud {l : Array Value} (j : Nat) (h : Cn ops n ys w0 a0 o True f l) (q : ∀ {w}, Kept w0 w → Calls Tryz.prog f l w fun e w' => e = .returned v ∧ Kept w w') (hy : ys[i]? = some (yV v)) (tl : Arms Tryz.prog ops n ys w0 a0 (i + 1) r) (hg : o.guard = some (j, b) := by exact rfl) (hj : ys[j]? = some (yV (.bool b)) := by exact rfl) (ha : Aft o j := by exact rfl) : Arms Tryz.prog ops n ys w0 a0 i (o :: r) := tI (wg hg hj ha) (fun a w hk bs hd => h a w hk bs hd trivial) (fun a w hk bs hd => q hk) hy tl
theorem uq6 {l : Array Value} (g : Gd ops ys o c) (h : Cn ops n ys w0 a0 o c f l) (q : ∀ {w}, Kept w0 w → c → Calls Tryz.prog f l w fun e w' => e = .returned v ∧ Kept w w') (hy : ys[i]? = some (yIf c (yV v))) (tl : Arms Tryz.prog ops n ys w0 a0 (i + 1) r) : Arms Tryz.prog ops n ys w0 a0 i (o :: r) := aiC g (fun hk bs hd hz => h _ _ hk bs hd hz) (fun hk bs hd hz => q hk hz) hy tl
end
/- what stands behind a region -/
section
variable {ops : Array Oper} {n : Nat} {ys : List Yield} {a : Act} {w : World} {v : Value} {t g s : Nat} {b : Obj} {Q : Exit → Act → World → Prop} {w0 wr : World} {H : List Th} {a0 : Act}
theorem zh (hv : ∀ j, j < n → Ys ys j (At ops a j) w) (j : Nat) (hy : ys[j]? = some (yV v) := by exact rfl) (ht : (ops[j]?).bind (·.dst) = some t := by exact rfl) (hj : Nat.blt j n = true := by exact rfl) : a.eval (.tmp t) = v := got hv j hj hy ht
theorem zn (hv : ∀ j, j < n → Ys ys j (At ops a j) w) (j : Nat) (hy : ys[j]? = some (bJ s b) := by exact rfl) (ht : (ops[j]?).bind (·.dst) = some t := by exact rfl) (hj : Nat.blt j n = true := by exact rfl) : ∃ g, a.eval (.tmp t) = .pointer (some ⟨g, 0, none⟩) ∧ s ≤ g ∧ w.heap[g]? = some b := DX hv j hj hy ht
theorem Own.hc (h : Own w0 H w) (o : Own w0 H wr) (hg : wr.heap.size ≤ g) (hb : w.heap[g]? = some b) : Own w0 (Th.obj g b :: H) w := h.cons hb (Nat.le_trans o.kept.size hg) (o.below hg)
theorem rgx {id : Nat} {l : List Oper} {draw : Bool} (ys : List Yield) (n N : Nat) {y : Code} (hs : a0.tmps.size = N) (hq : a0.defers = []) (ow : Own wr H w0)
    (arms : Arms Tryz.prog l.toArray n ys w0 a0 0 (l.take n))
    (fin : ∀ a w, BesideN l.toArray n a0 a → (∀ j, j < n → Ys ys j (At l.toArray a j) w) → (∀ j k, j < n → k < n → j ≠ k → Fs ys j = true → Fs ys k = true → dA (At l.toArray a j) ≠ dA (At l.toArray a k)) → a.tmps.size = N → a.defers = [] → Own wr H w → y.wp Tryz.prog Q a w)
    (hd : l.drop n = [] := by exact rfl) (hB : eZ l.toArray n N = true := by kernel_rfl) (hT : (!draw || pW l.toArray n) = true := by kernel_rfl) :
    (Code.seq (.region id l.toArray draw) y).wp Tryz.prog Q a0 w0 :=
  wp_seq_k fun K hK => rgn ys n N hs hB hT arms fun a w hk bs hv ap => by rw [hd]; exact vh (hK _ _ (fin a w bs hv ap (bs.size.trans hs) (bs.defers.trans hq) (ow.keep hk)))
end
end

namespace Lv
open Go
def eL (x : Rc) (c : Cl) : Prop := gU x c.c c.r = true ∧ c.v.k ≠ 0 ∧ vOk c.v = true
abbrev qg (l : List Cl) : Prop := l.Pairwise fun p q => cO p q = true
theorem sS {x : Rc} {b : Int} {c : Cl} : kI x b c = true ↔ eL x c ∧ b < cJ x c.c c.r := by
  unfold kI eL
  simp only [Bool.and_eq_true, decide_eq_true_eq]
  constructor
  · rintro ⟨⟨⟨a, b⟩, c⟩, d⟩; exact ⟨⟨a, b, c⟩, d⟩
  · rintro ⟨⟨a, b, c⟩, d⟩; exact ⟨⟨⟨a, b⟩, c⟩, d⟩
theorem kK {x : Rc} : ∀ (l : List Cl) (b : Int), cQ x b l = true ↔ (∀ c ∈ l, eL x c) ∧ qg l ∧ (∀ c ∈ l, b < cJ x c.c c.r)
  | [], b => by simp [cQ]
  | c :: l, b => by
    rw [cQ, Bool.and_eq_true, sS, kK l]
    constructor
    · rintro ⟨⟨f, hb⟩, g, p, h⟩
      refine ⟨fun q hq => ?_, ?_, fun q hq => ?_⟩
      · rcases List.mem_cons.1 hq with rfl | hq
        · exact f
        · exact g q hq
      · exact List.pairwise_cons.2 ⟨fun q hq => by rw [← ru f.1 (g q hq).1, decide_eq_true_eq]; exact h q hq, p⟩
      · rcases List.mem_cons.1 hq with rfl | hq
        · exact hb
        · exact Int.lt_trans hb (h q hq)
    · rintro ⟨g, p, h⟩
      obtain ⟨p1, p2⟩ := List.pairwise_cons.1 p; have f := g c List.mem_cons_self; refine ⟨⟨f, h c List.mem_cons_self⟩, fun q hq => g q (List.mem_cons_of_mem _ hq), p2, fun q hq => ?_⟩; have := p1 q hq; rw [← ru f.1 (g q (List.mem_cons_of_mem _ hq)).1, decide_eq_true_eq] at this; exact this
theorem dx {x : Rc} {l : List Cl} : cQ x (-1) l = true ↔ (∀ c ∈ l, eL x c) ∧ qg l := by
  rw [kK]
  constructor
  · rintro ⟨a, b, _⟩; exact ⟨a, b⟩
  · rintro ⟨a, b⟩; exact ⟨a, b, fun c hc => by have := (vq (a c hc).1).1; omega⟩
theorem ou : ∀ (l : List Cl), (∀ i, i + 1 < l.length → ∀ p q, l[i]? = some p → l[i + 1]? = some q → cO p q = true) → qg l
  | [], _ => .nil
  | [c], _ => List.pairwise_cons.2 ⟨fun _ h => (by cases h), .nil⟩
  | c :: d :: l, h => by
    have ih := ou (d :: l) (fun i hi p q hp hq => h (i + 1) (by simp only [List.length_cons] at hi ⊢; omega) p q (by simpa using hp) (by simpa using hq)); have h0 := h 0 (by simp) c d rfl rfl; refine List.pairwise_cons.2 ⟨fun q hq => ?_, ih⟩; rcases List.mem_cons.1 hq with rfl | hq
    · exact h0
    · have h1 := (List.pairwise_cons.1 ih).1 q hq
      unfold cO at h0 h1 ⊢
      simp only [Bool.or_eq_true, Bool.and_eq_true, decide_eq_true_eq] at h0 h1 ⊢
      omega
/-! an area divided -/
theorem jx {x : Rc} : okR x = true ↔ (1 ≤ x.c1 ∧ x.c1 ≤ x.c2 ∧ x.c2 ≤ 1024) ∧ (1 ≤ x.r1 ∧ x.r1 ≤ x.r2 ∧ x.r2 ≤ 1024) := by
  unfold okR lE
  simp only [Bool.and_eq_true, decide_eq_true_eq]
  omega
theorem sT {x : Rc} {l : List Cl} : br ⟨true, aG, x, l⟩ = true ↔ okR x = true ∧ (∀ c ∈ l, eL x c) ∧ qg l := by
  unfold br
  simp only [if_true, Bool.and_eq_true, dx]
  constructor
  · rintro ⟨⟨_, a⟩, b⟩; exact ⟨a, b⟩
  · rintro ⟨a, b⟩; exact ⟨⟨rfl, a⟩, b⟩
end Lv
