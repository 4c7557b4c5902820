/- A walk in named facts, in few words: the arms of a region's head one behind the other; the values are found by unification. -/
import Derived.Test.YtbpkfnoenkoabaaGreatDoorFaSX5
namespace Go.Proofs.YtbpkfnoenkoabaaGreatDoor
set_option linter.unusedVariables false
set_option linter.unusedSimpArgs false
open Go.RowKit
section
variable {P : Program} {ops : Array Oper} {n i : Nat} {ys : List Yield} {w0 : World} {a0 : Act} {o : Oper} {r : List Oper} {v v2 : Value}
abbrev Deps (ops : Array Oper) (ys : List Yield) (o : Oper) (a : Act) (w : World) : Prop := ∀ e ∈ o.after, Region.binds .any e = true → Ys ys e.on (At ops a e.on) w
def Arms (P : Program) (ops : Array Oper) (n : Nat) (ys : List Yield) (w0 : World) (a0 : Act) : Nat → List Oper → Prop
  | _, [] => True
  | i, o :: r => (∀ a w, Kept w0 w → BesideN ops n a0 a → Deps ops ys o a w → StepX P ops ys i o a w) ∧ Arms P ops n ys w0 a0 (i + 1) r
theorem Arms.get : ∀ (l : List Oper) (i : Nat), Arms P ops n ys w0 a0 i l → ∀ (k : Nat) (o : Oper), l[k]? = some o → ∀ a w, Kept w0 w → BesideN ops n a0 a → Deps ops ys o a w → StepX P ops ys (i + k) o a w
  | [], _, _, k, o, h => by simp at h
  | x :: l, i, hA, 0, o, h => by simp at h; subst h; exact hA.1
  | x :: l, i, hA, k + 1, o, h => by
    have := Arms.get l (i + 1) hA.2 k o (by simpa using h)
    rwa [show i + 1 + k = i + (k + 1) by omega] at this
theorem arm (h : ∀ a w, Kept w0 w → BesideN ops n a0 a → Deps ops ys o a w → StepX P ops ys i o a w) (t : Arms P ops n ys w0 a0 (i + 1) r) : Arms P ops n ys w0 a0 i (o :: r) := ⟨h, t⟩
theorem arm0 : Arms P ops n ys w0 a0 i [] := trivial
theorem ysV {w : World} (hy : ys[i]? = some (yV v)) (e : v2 = v) : Ys ys i v2 w := by unfold Ys; rw [hy]; exact e
theorem ysV_out {w : World} (h : Ys ys i v2 w) (hy : ys[i]? = some (yV v)) : v2 = v := by unfold Ys at h; rw [hy] at h; exact h
theorem fsV (hy : ys[i]? = some (yV v)) : Fs ys i = false := by unfold Fs; rw [hy]; rfl
theorem wn (h : o.guard = none) : ∀ a w, Deps ops ys o a w → Region.wanted o (yielded ops a.tmps) = true := fun _ _ _ => want0 h
theorem wg {j : Nat} {b : Bool} (h : o.guard = some (j, b)) (hy : ys[j]? = some (yV (.bool b))) (ha : (o.after.toList.any fun e => Region.binds .any e && e.on == j) = true) : ∀ a w, Deps ops ys o a w → Region.wanted o (yielded ops a.tmps) = true := fun _ _ d => want1 h (ysV_out (depX d j ha) hy)
theorem armE (hw : ∀ a w, Deps ops ys o a w → Region.wanted o (yielded ops a.tmps) = true) (h : ∀ a w, Kept w0 w → BesideN ops n a0 a → Deps ops ys o a w → (execOp a.eval o).run P w = .ok (.value v) w) (e : v = v2) (hy : ys[i]? = some (yV v2)) (t : Arms P ops n ys w0 a0 (i + 1) r) : Arms P ops n ys w0 a0 i (o :: r) :=
  ⟨fun a w k b d => stepX_same (hw a w d) (h a w k b d) (ysV hy e) (fsV hy), t⟩
theorem armS (hw : ∀ a w, Deps ops ys o a w → Region.wanted o (yielded ops a.tmps) = true) (h : ∀ a w, Kept w0 w → BesideN ops n a0 a → Deps ops ys o a w → (execOp a.eval o).run P w = .ok (.value v) w) (hy : ys[i]? = some (yV v)) (t : Arms P ops n ys w0 a0 (i + 1) r) : Arms P ops n ys w0 a0 i (o :: r) := armE hw h rfl hy t
theorem armP {b : Obj} (hw : ∀ a w, Deps ops ys o a w → Region.wanted o (yielded ops a.tmps) = true) (h : ∀ a w, Kept w0 w → BesideN ops n a0 a → Deps ops ys o a w → (execOp a.eval o).run P w = .ok (.value (.pointer (some ⟨w.heap.size, 0, none⟩))) (w.alloc b)) (hy : ys[i]? = some (yNew w0.heap.size b)) (t : Arms P ops n ys w0 a0 (i + 1) r) : Arms P ops n ys w0 a0 i (o :: r) :=
  ⟨fun a w k bs d => stepX_new _ (hw a w d) (h a w k bs d) (by unfold Ys; rw [hy]; exact ⟨_, rfl, k.size, Go.heap_alloc_new _ _⟩) ((Kept.refl _).alloc _) rfl (Nat.le_refl _), t⟩
theorem armL {b : Obj} {c : Nat} (hw : ∀ a w, Deps ops ys o a w → Region.wanted o (yielded ops a.tmps) = true) (h : ∀ a w, Kept w0 w → BesideN ops n a0 a → Deps ops ys o a w → (execOp a.eval o).run P w = .ok (.value (.slice (some ⟨w.heap.size, 0, none⟩) c c)) (w.alloc b)) (hy : ys[i]? = some (ySlice w0.heap.size c b)) (t : Arms P ops n ys w0 a0 (i + 1) r) : Arms P ops n ys w0 a0 i (o :: r) :=
  ⟨fun a w k bs d => stepX_new _ (hw a w d) (h a w k bs d) (by unfold Ys; rw [hy]; exact ⟨_, rfl, k.size, Go.heap_alloc_new _ _⟩) ((Kept.refl _).alloc _) rfl (Nat.le_refl _), t⟩
theorem armM {b : Obj} (hw : ∀ a w, Deps ops ys o a w → Region.wanted o (yielded ops a.tmps) = true) (h : ∀ a w, Kept w0 w → BesideN ops n a0 a → Deps ops ys o a w → (execOp a.eval o).run P w = .ok (.value (.map (some w.heap.size))) (w.alloc b)) (hy : ys[i]? = some (yMap w0.heap.size b)) (t : Arms P ops n ys w0 a0 (i + 1) r) : Arms P ops n ys w0 a0 i (o :: r) :=
  ⟨fun a w k bs d => stepX_new _ (hw a w d) (h a w k bs d) (by unfold Ys; rw [hy]; exact ⟨_, rfl, k.size, Go.heap_alloc_new _ _⟩) ((Kept.refl _).alloc _) rfl (Nat.le_refl _), t⟩
theorem armD {f : FuncId} {args : Array Value} (hw : ∀ a w, Deps ops ys o a w → Region.wanted o (yielded ops a.tmps) = true) (h : ∀ a w, Kept w0 w → BesideN ops n a0 a → Deps ops ys o a w → (execOp a.eval o).run P w = .ok (.enter f args) w) (c : ∀ a w, Kept w0 w → BesideN ops n a0 a → Deps ops ys o a w → Calls P f args w fun e w' => e = .returned v ∧ Kept w w') (e : v = v2) (hy : ys[i]? = some (yV v2)) (t : Arms P ops n ys w0 a0 (i + 1) r) : Arms P ops n ys w0 a0 i (o :: r) :=
  ⟨fun a w k b d => stepX_enter (hw a w d) (h a w k b d) ((c a w k b d).mono fun _ _ ⟨he, hk⟩ => ⟨_, he, ysV hy e, hk⟩) (fsV hy), t⟩
theorem armC {f : FuncId} {args : Array Value} (hw : ∀ a w, Deps ops ys o a w → Region.wanted o (yielded ops a.tmps) = true) (h : ∀ a w, Kept w0 w → BesideN ops n a0 a → Deps ops ys o a w → (execOp a.eval o).run P w = .ok (.enter f args) w) (c : ∀ a w, Kept w0 w → BesideN ops n a0 a → Deps ops ys o a w → Calls P f args w fun e w' => e = .returned v ∧ Kept w w') (hy : ys[i]? = some (yV v)) (t : Arms P ops n ys w0 a0 (i + 1) r) : Arms P ops n ys w0 a0 i (o :: r) := armD hw h c rfl hy t
theorem back_kept {f : FuncId} {args : Array Value} {w : World} (c : Calls P f args w fun e w' => e = .returned v ∧ w' = w) : Calls P f args w fun e w' => e = .returned v ∧ Kept w w' := c.mono fun _ _ ⟨he, e⟩ => ⟨he, e ▸ Kept.refl _⟩
variable {a : Act} {w : World} {t : Nat}
theorem at_slot {j : Nat} (ht : (ops[j]?).bind (·.dst) = some t) : At ops a j = a.eval (.tmp t) := by unfold At; rw [ht]; rfl
theorem dep (hd : Deps ops ys o a w) (j : Nat) (ha : (o.after.toList.any fun e => Region.binds .any e && e.on == j) = true) (hy : ys[j]? = some (yV v)) (ht : (ops[j]?).bind (·.dst) = some t) : a.eval (.tmp t) = v := (at_slot ht).symm.trans (ysV_out (depX hd j ha) hy)
theorem got (hv : ∀ j, j < n → Ys ys j (At ops a j) w) (j : Nat) (hj : Nat.blt j n = true) (hy : ys[j]? = some (yV v)) (ht : (ops[j]?).bind (·.dst) = some t) : a.eval (.tmp t) = v := (at_slot ht).symm.trans (ysV_out (hv j (Nat.le_of_ble_eq_true hj)) hy)
theorem gotY {y : Yield} (hv : ∀ j, j < n → Ys ys j (At ops a j) w) (j : Nat) (hj : Nat.blt j n = true) (hy : ys[j]? = some y) (ht : (ops[j]?).bind (·.dst) = some t) : y.p (a.eval (.tmp t)) w := by
  have := hv j (Nat.le_of_ble_eq_true hj)
  unfold Ys at this
  rw [hy, at_slot ht] at this
  exact this
theorem gotP {b : Obj} {s : Nat} (hv : ∀ j, j < n → Ys ys j (At ops a j) w) (j : Nat) (hj : Nat.blt j n = true) (hy : ys[j]? = some (yNew s b)) (ht : (ops[j]?).bind (·.dst) = some t) : ∃ g, a.eval (.tmp t) = .pointer (some ⟨g, 0, none⟩) ∧ s ≤ g ∧ w.heap[g]? = some b := gotY hv j hj hy ht
theorem gotL {b : Obj} {s c : Nat} (hv : ∀ j, j < n → Ys ys j (At ops a j) w) (j : Nat) (hj : Nat.blt j n = true) (hy : ys[j]? = some (ySlice s c b)) (ht : (ops[j]?).bind (·.dst) = some t) : ∃ g, a.eval (.tmp t) = .slice (some ⟨g, 0, none⟩) c c ∧ s ≤ g ∧ w.heap[g]? = some b := gotY hv j hj hy ht
theorem gotM {b : Obj} {s : Nat} (hv : ∀ j, j < n → Ys ys j (At ops a j) w) (j : Nat) (hj : Nat.blt j n = true) (hy : ys[j]? = some (yMap s b)) (ht : (ops[j]?).bind (·.dst) = some t) : ∃ g, a.eval (.tmp t) = .map (some g) ∧ s ≤ g ∧ w.heap[g]? = some b := gotY hv j hj hy ht
theorem apartP (ap : ∀ j k, j < n → k < n → j ≠ k → Fs ys j = true → Fs ys k = true → blkOf (At ops a j) ≠ blkOf (At ops a k)) (j k : Nat) {t u g h : Nat} {x y : Value} (hj : (Nat.blt j n && Nat.blt k n && !Nat.beq j k && Fs ys j && Fs ys k) = true) (ht : (ops[j]?).bind (·.dst) = some t) (hu : (ops[k]?).bind (·.dst) = some u) (ej : a.eval (.tmp t) = x) (bx : blkOf x = some g) (ek : a.eval (.tmp u) = y) (bk : blkOf y = some h) : some g ≠ some h := by
  simp only [Bool.and_eq_true] at hj
  obtain ⟨⟨⟨⟨h1, h2⟩, h3⟩, h4⟩, h5⟩ := hj
  have := ap j k (Nat.le_of_ble_eq_true h1) (Nat.le_of_ble_eq_true h2) (fun e => by subst e; simp at h3) h4 h5
  rw [at_slot ht, at_slot hu, ej, ek, bx, bk] at this
  exact this
end
theorem aft {w0 wr w : World} {H : List Th} {ops : Array Oper} {n N : Nat} {a0 a : Act} (hk : Kept wr w) (bs : BesideN ops n a0 a) (z : a0.tmps.size = N) (q : a0.defers = []) (ow : Own w0 H wr) : a.tmps.size = N ∧ a.defers = [] ∧ Own w0 H w := ⟨bs.size.trans z, bs.defers.trans q, ow.keep hk⟩
theorem follows_mixed : Tryz.prog.follows .mixedOrders = true := by kernel_rfl
theorem rgn {id : Nat} {l : List Oper} {draw : Bool} (ys : List Yield) (n N : Nat) {Q : Exit → Act → World → Prop} {w0 : World} {a0 : Act} (hs : a0.tmps.size = N) (hB : headB l.toArray n N = true) (hT : (!draw || tailB l.toArray n) = true)
    (arms : Arms Tryz.prog l.toArray n ys w0 a0 0 (l.take n))
    (fin : ∀ a w, Kept w0 w → BesideN l.toArray n a0 a → (∀ j, j < n → Ys ys j (At l.toArray a j) w) → (∀ j k, j < n → k < n → j ≠ k → Fs ys j = true → Fs ys k = true → blkOf (At l.toArray a j) ≠ blkOf (At l.toArray a k)) → wpList Tryz.prog l.toArray Q (l.drop n) a w) :
    (Code.region id l.toArray draw).wp Tryz.prog Q a0 w0 :=
  region_sx ys n N follows_mixed hs hB hT (fun i o ho hi a w k b d => by
    have h := arms.get (l.take n) 0 i o (by rw [List.getElem?_take_of_lt hi]; simpa using ho) a w k b d
    rwa [Nat.zero_add] at h) fin
section
variable {ops : Array Oper} {n i : Nat} {ys : List Yield} {w0 : World} {a0 : Act} {o : Oper} {r : List Oper} {v : Value} {t : Nat}
theorem mvS (s : a0.eval (.tmp t) = v) (ho : o.op = .move (.tmp t)) (hg : o.guard = none) (hn : writesN ops n t = false) (hy : ys[i]? = some (yV v)) (tl : Arms Tryz.prog ops n ys w0 a0 (i + 1) r) : Arms Tryz.prog ops n ys w0 a0 i (o :: r) := armS (wn hg) (fun _ _ _ b _ => xmove ho (b.get t hn s)) hy tl
theorem mvD (j : Nat) (ho : o.op = .move (.tmp t)) (hg : o.guard = none) (ha : (o.after.toList.any fun e => Region.binds .any e && e.on == j) = true) (hj : ys[j]? = some (yV v)) (ht : (ops[j]?).bind (·.dst) = some t) (hy : ys[i]? = some (yV v)) (tl : Arms Tryz.prog ops n ys w0 a0 (i + 1) r) : Arms Tryz.prog ops n ys w0 a0 i (o :: r) := armS (wn hg) (fun _ _ _ _ d => xmove ho (dep d j ha hj ht)) hy tl
theorem asD (j : Nat) (ho : o.op = .assign (.tmp t)) (hg : o.guard = none) (ha : (o.after.toList.any fun e => Region.binds .any e && e.on == j) = true) (hj : ys[j]? = some (yV v)) (ht : (ops[j]?).bind (·.dst) = some t) (hy : ys[i]? = some (yV v)) (tl : Arms Tryz.prog ops n ys w0 a0 (i + 1) r) : Arms Tryz.prog ops n ys w0 a0 i (o :: r) := armS (wn hg) (fun _ _ _ _ d => xassign ho (dep d j ha hj ht)) hy tl
end
section
variable {ops : Array Oper} {Q : Exit → Act → World → Prop} {a : Act} {w : World}
theorem put_def {t : Nat} {v : Value} (q : a.defers = []) : (a.put (some t) v).defers = [] := q
theorem pb (t : Nat) {u : Nat} {v x : Value} (e : a.eval (.tmp u) = x) (h : (t == u) = false) : (a.put (some t) v).eval (.tmp u) = x := put_by h e
theorem put_in {t N : Nat} {v : Value} (hs : a.tmps.size = N) (h : Nat.blt t N = true) : (a.put (some t) v).eval (.tmp t) = v := put_at (by rw [hs]; exact Nat.le_of_ble_eq_true h)
theorem wl_then {K : Act → World → Prop} (h : K a w) : wpList Tryz.prog ops (Exit.then K Q) [] a w := h
theorem wl_store {rest : List Oper} {o : Oper} {w0 : World} {H : List Th} (ow : Own w0 H w) (k off : Nat) {g : Nat} {cs : Array Value} {t T : TypeId} {x y : Operand} {v : Value} (hw : Region.wanted o (yielded ops a.tmps) = true) (hn : o.dst = none) (ho : o.op = .store T x y) (hx : a.eval x = .pointer (some ⟨g, off, none⟩)) (hy : a.eval y = v) (hs : (sizeOf T).run Tryz.prog w = .ok v.cells.size w) (e : H[k]? = some (Th.obj g (.cells cs t (0, 0)))) (h1 : (v.cells.toList.all fun v => v.oneCell') = true) (hb : Nat.ble (off + v.cells.toList.length) cs.size = true)
    (c : ∀ w', Own w0 (H.set k (Th.obj g (.cells (setCells cs off v.cells.toList) t (0, 0)))) w' → wpList Tryz.prog ops Q rest a w') : wpList Tryz.prog ops Q (o :: rest) a w :=
  wl_skip hw hn (xstoreN ho hx hy hs (ow.box k e) h1 (Nat.le_of_ble_eq_true hb)) (c _ (ow.put k e off _))
theorem wl_newP {rest : List Oper} {o : Oper} {w0 : World} {H : List Th} {b : Obj} (ow : Own w0 H w) (hw : Region.wanted o (yielded ops a.tmps) = true) (hr : (execOp a.eval o).run Tryz.prog w = .ok (.value (.pointer (some ⟨w.heap.size, 0, none⟩))) (w.alloc b)) (c : ∀ g w', Own w0 (Th.obj g b :: H) w' → wpList Tryz.prog ops Q rest (a.put o.dst (.pointer (some ⟨g, 0, none⟩))) w') : wpList Tryz.prog ops Q (o :: rest) a w :=
  wl_value hw hr (c _ _ (ow.add (t := Th.obj w.heap.size b) (Go.heap_alloc_new _ _) ((Kept.refl _).alloc _) (fun g e => by cases e; exact Nat.le_refl _)))
theorem wl_end (h : Q .normal a w) : wpList Tryz.prog ops Q [] a w := h
end
theorem results_one {P : Program} {a : Act} {w : World} {fn : Func} {r : ResultVar} {v : Value} (h : fn.results = #[r]) (hr : (resOne a r).run P w = .ok v w) {R : Ending → World → Prop} (hd : a.defers = []) (hR : R (.returned v) w) : bodyPost P fn R .ret a w := resultsL (l := [r]) h (.cons hr .nil) rfl hd hR
/-! more on the memory of the call's own -/
theorem Own.sub {w0 w : World} {H H' : List Th} (h : Own w0 H w) (s : H'.Sublist H) : Own w0 H' w := ⟨h.kept, fun t ht => h.has t (s.subset ht), fun t ht => h.old t (s.subset ht), h.apart.sublist s⟩
theorem Own.two {w0 w : World} {s t : Th} {H : List Th} (h : Own w0 (s :: t :: H) w) : Own w0 [s, t] w := h.sub (by simp)
theorem Own.join {w0 w w' : World} {H H' : List Th} (h : Own w0 H w) (k : Own w H' w') : Own w0 (H' ++ H) w' := by
  refine ⟨h.kept.trans k.kept, fun t ht => ?_, fun t ht g hg => ?_, ?_⟩
  · rcases List.mem_append.1 ht with x | x
    · exact k.has t x
    · exact (h.keep k.kept).has t x
  · rcases List.mem_append.1 ht with x | x
    · exact Nat.le_trans h.kept.size (k.old t x g hg)
    · exact h.old t x g hg
  · refine List.pairwise_append.2 ⟨k.apart, h.apart, fun s hs t ht g hg c => ?_⟩
    have h1 := k.old s hs g hg
    have h2 := t.ins w (h.has t ht) g c
    omega
theorem row_slice {w : World} {base n size : Nat} {e : TypeId} {v : Value} {l : List Value} (h : w.ownsRow base e size v n l) : ∃ A c, v = .slice A n c := by
  rcases h.2 with ⟨rfl, h0⟩ | ⟨g, cap, cur, rfl, _⟩
  · exact ⟨none, 0, by rw [h0]⟩
  · exact ⟨_, _, rfl⟩
theorem RowC.of_own {w : World} {base n c : Nat} {e : TypeId} {A : Option Addr} {l : List Value} (h : w.ownsRow base e 1 (.slice A n c) l.length l) : RowC w A l ∧ l.length ≤ c ∧ n = l.length := by
  obtain ⟨A', c', e', r, hc⟩ := RowC.of_row h
  cases e'
  exact ⟨r, hc, rfl⟩
theorem RowC.some {w : World} {A : Option Addr} {l : List Value} (h : RowC w A l) (h0 : 0 < l.length) : ∃ b off, A = .some ⟨b, off, none⟩ := by
  obtain ⟨b, off, e, _⟩ := h 0 h0
  exact ⟨b, off, e⟩
/-! the frame and the world become letters, with what is known of them -/
section
variable {ops : Array Oper} {rest : List Oper} {Q : Exit → Act → World → Prop} {a : Act} {w w0 : World} {H : List Th} {N : Nat}
theorem gt1 (z : a.tmps.size = N) (q : a.defers = []) (o : Own w0 H w) (t0 : Nat) {v0 : Value} (s0 : a.eval (.tmp t0) = v0) (h : ∀ (a : Act) (w : World), a.tmps.size = N → a.defers = [] → Own w0 H w → a.eval (.tmp t0) = v0 → wpList Tryz.prog ops Q rest a w) : wpList Tryz.prog ops Q rest a w := h a w z q o s0
theorem gt2 (z : a.tmps.size = N) (q : a.defers = []) (o : Own w0 H w) (t0 : Nat) {v0 : Value} (s0 : a.eval (.tmp t0) = v0) (t1 : Nat) {v1 : Value} (s1 : a.eval (.tmp t1) = v1) (h : ∀ (a : Act) (w : World), a.tmps.size = N → a.defers = [] → Own w0 H w → a.eval (.tmp t0) = v0 → a.eval (.tmp t1) = v1 → wpList Tryz.prog ops Q rest a w) : wpList Tryz.prog ops Q rest a w := h a w z q o s0 s1
theorem gt3 (z : a.tmps.size = N) (q : a.defers = []) (o : Own w0 H w) (t0 : Nat) {v0 : Value} (s0 : a.eval (.tmp t0) = v0) (t1 : Nat) {v1 : Value} (s1 : a.eval (.tmp t1) = v1) (t2 : Nat) {v2 : Value} (s2 : a.eval (.tmp t2) = v2) (h : ∀ (a : Act) (w : World), a.tmps.size = N → a.defers = [] → Own w0 H w → a.eval (.tmp t0) = v0 → a.eval (.tmp t1) = v1 → a.eval (.tmp t2) = v2 → wpList Tryz.prog ops Q rest a w) : wpList Tryz.prog ops Q rest a w := h a w z q o s0 s1 s2
theorem gt4 (z : a.tmps.size = N) (q : a.defers = []) (o : Own w0 H w) (t0 : Nat) {v0 : Value} (s0 : a.eval (.tmp t0) = v0) (t1 : Nat) {v1 : Value} (s1 : a.eval (.tmp t1) = v1) (t2 : Nat) {v2 : Value} (s2 : a.eval (.tmp t2) = v2) (t3 : Nat) {v3 : Value} (s3 : a.eval (.tmp t3) = v3) (h : ∀ (a : Act) (w : World), a.tmps.size = N → a.defers = [] → Own w0 H w → a.eval (.tmp t0) = v0 → a.eval (.tmp t1) = v1 → a.eval (.tmp t2) = v2 → a.eval (.tmp t3) = v3 → wpList Tryz.prog ops Q rest a w) : wpList Tryz.prog ops Q rest a w := h a w z q o s0 s1 s2 s3
theorem gt5 (z : a.tmps.size = N) (q : a.defers = []) (o : Own w0 H w) (t0 : Nat) {v0 : Value} (s0 : a.eval (.tmp t0) = v0) (t1 : Nat) {v1 : Value} (s1 : a.eval (.tmp t1) = v1) (t2 : Nat) {v2 : Value} (s2 : a.eval (.tmp t2) = v2) (t3 : Nat) {v3 : Value} (s3 : a.eval (.tmp t3) = v3) (t4 : Nat) {v4 : Value} (s4 : a.eval (.tmp t4) = v4) (h : ∀ (a : Act) (w : World), a.tmps.size = N → a.defers = [] → Own w0 H w → a.eval (.tmp t0) = v0 → a.eval (.tmp t1) = v1 → a.eval (.tmp t2) = v2 → a.eval (.tmp t3) = v3 → a.eval (.tmp t4) = v4 → wpList Tryz.prog ops Q rest a w) : wpList Tryz.prog ops Q rest a w := h a w z q o s0 s1 s2 s3 s4
theorem gt6 (z : a.tmps.size = N) (q : a.defers = []) (o : Own w0 H w) (t0 : Nat) {v0 : Value} (s0 : a.eval (.tmp t0) = v0) (t1 : Nat) {v1 : Value} (s1 : a.eval (.tmp t1) = v1) (t2 : Nat) {v2 : Value} (s2 : a.eval (.tmp t2) = v2) (t3 : Nat) {v3 : Value} (s3 : a.eval (.tmp t3) = v3) (t4 : Nat) {v4 : Value} (s4 : a.eval (.tmp t4) = v4) (t5 : Nat) {v5 : Value} (s5 : a.eval (.tmp t5) = v5) (h : ∀ (a : Act) (w : World), a.tmps.size = N → a.defers = [] → Own w0 H w → a.eval (.tmp t0) = v0 → a.eval (.tmp t1) = v1 → a.eval (.tmp t2) = v2 → a.eval (.tmp t3) = v3 → a.eval (.tmp t4) = v4 → a.eval (.tmp t5) = v5 → wpList Tryz.prog ops Q rest a w) : wpList Tryz.prog ops Q rest a w := h a w z q o s0 s1 s2 s3 s4 s5
theorem gt7 (z : a.tmps.size = N) (q : a.defers = []) (o : Own w0 H w) (t0 : Nat) {v0 : Value} (s0 : a.eval (.tmp t0) = v0) (t1 : Nat) {v1 : Value} (s1 : a.eval (.tmp t1) = v1) (t2 : Nat) {v2 : Value} (s2 : a.eval (.tmp t2) = v2) (t3 : Nat) {v3 : Value} (s3 : a.eval (.tmp t3) = v3) (t4 : Nat) {v4 : Value} (s4 : a.eval (.tmp t4) = v4) (t5 : Nat) {v5 : Value} (s5 : a.eval (.tmp t5) = v5) (t6 : Nat) {v6 : Value} (s6 : a.eval (.tmp t6) = v6) (h : ∀ (a : Act) (w : World), a.tmps.size = N → a.defers = [] → Own w0 H w → a.eval (.tmp t0) = v0 → a.eval (.tmp t1) = v1 → a.eval (.tmp t2) = v2 → a.eval (.tmp t3) = v3 → a.eval (.tmp t4) = v4 → a.eval (.tmp t5) = v5 → a.eval (.tmp t6) = v6 → wpList Tryz.prog ops Q rest a w) : wpList Tryz.prog ops Q rest a w := h a w z q o s0 s1 s2 s3 s4 s5 s6
theorem gt8 (z : a.tmps.size = N) (q : a.defers = []) (o : Own w0 H w) (t0 : Nat) {v0 : Value} (s0 : a.eval (.tmp t0) = v0) (t1 : Nat) {v1 : Value} (s1 : a.eval (.tmp t1) = v1) (t2 : Nat) {v2 : Value} (s2 : a.eval (.tmp t2) = v2) (t3 : Nat) {v3 : Value} (s3 : a.eval (.tmp t3) = v3) (t4 : Nat) {v4 : Value} (s4 : a.eval (.tmp t4) = v4) (t5 : Nat) {v5 : Value} (s5 : a.eval (.tmp t5) = v5) (t6 : Nat) {v6 : Value} (s6 : a.eval (.tmp t6) = v6) (t7 : Nat) {v7 : Value} (s7 : a.eval (.tmp t7) = v7) (h : ∀ (a : Act) (w : World), a.tmps.size = N → a.defers = [] → Own w0 H w → a.eval (.tmp t0) = v0 → a.eval (.tmp t1) = v1 → a.eval (.tmp t2) = v2 → a.eval (.tmp t3) = v3 → a.eval (.tmp t4) = v4 → a.eval (.tmp t5) = v5 → a.eval (.tmp t6) = v6 → a.eval (.tmp t7) = v7 → wpList Tryz.prog ops Q rest a w) : wpList Tryz.prog ops Q rest a w := h a w z q o s0 s1 s2 s3 s4 s5 s6 s7
end
end Go.Proofs.YtbpkfnoenkoabaaGreatDoor
