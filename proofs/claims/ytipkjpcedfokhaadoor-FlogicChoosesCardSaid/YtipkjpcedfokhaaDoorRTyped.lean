/- A region that draws its order, whose operations read, or make memory: each operation yields what its predicate says, whatever the order: one proof an operation, no order looked at. -/
import Derived.Test.YtipkjpcedfokhaaDoorBunV
import Derived.Orders
import Derived.StillTail
namespace Go.Proofs.YtipkjpcedfokhaaDoor
set_option linter.unusedVariables false
set_option linter.unusedSimpArgs false
open Go.RowKit
section
variable {P : Program} {ops : Array Oper}

/-- what operation j has yielded -/
def At (ops : Array Oper) (a : Act) (j : Nat) : Value := match (ops[j]?).bind (·.dst) with
  | some t => a.tmps.getD t undef
  | none => undef
/-- is the slot written by the region? -/
def writes (ops : Array Oper) (t : Nat) : Bool := ops.any fun o => o.dst == some t
/-- every operation has a slot of its own, and waits for earlier ones alone -/
def typedB (ops : Array Oper) (size : Nat) : Bool :=
  Region.noSelect ops && (List.range ops.size).all fun i => match ops[i]? with
    | none => true
    | some o => (match o.dst with
      | none => false
      | some t => decide (t < size) && (List.range i).all fun j => ((ops[j]?).bind (·.dst)) != some t) && o.after.all fun e => !Region.binds .any e || decide (e.on < i)
/-- the frame beside the region's own slots -/
structure Beside (ops : Array Oper) (a0 a : Act) : Prop where
  defers : a.defers = a0.defers
  size : a.tmps.size = a0.tmps.size
  same : ∀ t, writes ops t = false → a.tmps.getD t undef = a0.tmps.getD t undef
/-- one operation, in any world that has grown out of w0: what it yields -/
def StepT (P : Program) (ops : Array Oper) (V : Nat → Value → World → Prop) (i : Nat) (o : Oper) (a : Act) (w : World) : Prop :=
  if Region.wanted o (yielded ops a.tmps) = true then ∀ (K : Act → World → Prop) (R : Exit → Act → World → Prop), (∀ v w', V i v w' → Kept w w' → K (a.put o.dst v) w') → o.wp P a w K R else V i undef w
theorem getD_put_same {a : Act} {t : Nat} {v : Value} (h : t < a.tmps.size) : (a.put (some t) v).tmps.getD t undef = v := by
  simp [Act.put, Array.getD, h]
theorem getD_put_other {a : Act} {t u : Nat} {v : Value} (h : t ≠ u) : (a.put (some t) v).tmps.getD u undef = a.tmps.getD u undef := by
  simp only [Act.put, Array.getD_eq_getD_getElem?, Array.getElem?_setIfInBounds_ne h]

structure InvT (ops : Array Oper) (V : Nat → Value → World → Prop) (w0 : World) (a0 : Act) (done : Array Bool) (a : Act) (w : World) : Prop where
  len : done.size = ops.size
  kept : Kept w0 w
  beside : Beside ops a0 a
  vals : ∀ j, done.getD j false = true → V j (At ops a j) w

theorem typed_dst {size : Nat} (hB : typedB ops size = true) {i : Nat} {o : Oper} (h : ops[i]? = some o) : ∃ t, o.dst = some t ∧ t < size ∧ (∀ j, j < i → (ops[j]?).bind (·.dst) ≠ some t) ∧ ∀ e ∈ o.after, Region.binds .any e = true → e.on < i := by
  simp only [typedB, Bool.and_eq_true, List.all_eq_true, List.mem_range] at hB
  have hi : i < ops.size := (Array.getElem?_eq_some_iff.1 h).1
  have := hB.2 i hi
  rw [h] at this
  simp only at this
  cases hd : o.dst with
  | none => rw [hd] at this; simp at this
  | some t =>
    rw [hd] at this
    simp only [Bool.and_eq_true, decide_eq_true_eq, List.all_eq_true, List.mem_range, bne_iff_ne, ne_eq] at this
    obtain ⟨⟨h1, h2⟩, h3⟩ := this
    refine ⟨t, rfl, h1, h2, fun e he hb => ?_⟩
    have := Array.all_eq_true_iff_forall_mem.1 h3 e he
    rw [hb] at this
    simpa using this
theorem typed_other {size : Nat} (hB : typedB ops size = true) {i j : Nat} {o q : Oper} (h : ops[i]? = some o) (g : ops[j]? = some q) (ne : i ≠ j) : o.dst ≠ q.dst := by
  obtain ⟨t, ht, _, h1, _⟩ := typed_dst hB h
  obtain ⟨u, hu, _, h2, _⟩ := typed_dst hB g
  rw [ht, hu]
  intro e
  cases e
  rcases Nat.lt_or_gt_of_ne ne with c | c
  · exact h2 i c (by rw [h]; exact ht)
  · exact h1 j c (by rw [g]; exact hu)
theorem InvT.put {V : Nat → Value → World → Prop} (mono : ∀ j v w w', V j v w → Kept w w' → V j v w') {w0 w w' : World} {a0 a : Act} {done : Array Bool} (hB : typedB ops a0.tmps.size = true) (inv : InvT ops V w0 a0 done a w) {i : Nat} {o : Oper} (h : ops[i]? = some o) {v : Value} (hv : V i v w') (k : Kept w w') :
    InvT ops V w0 a0 (done.setIfInBounds i true) (a.put o.dst v) w' := by
  obtain ⟨t, ht, hs, _, _⟩ := typed_dst hB h
  have sz : t < a.tmps.size := by rw [inv.beside.size]; exact hs
  refine ⟨by rw [Array.size_setIfInBounds]; exact inv.len, inv.kept.trans k, ⟨?_, ?_, fun u hu => ?_⟩, fun j hj => ?_⟩
  · rw [ht]; exact inv.beside.defers
  · rw [ht]; simp only [Act.put, Array.size_setIfInBounds]; exact inv.beside.size
  · rw [ht, getD_put_other, inv.beside.same u hu]
    rintro rfl
    have : writes ops t = true := by
      unfold writes
      rw [Array.any_eq_true']
      exact ⟨o, Array.mem_of_getElem? h, by rw [ht]; simp⟩
    rw [this] at hu; cases hu
  · by_cases e : i = j
    · subst e
      have : At ops (a.put o.dst v) i = v := by
        unfold At
        rw [h]
        simp only [Option.bind_some, ht]
        exact getD_put_same sz
      rw [this]; exact hv
    · rw [getD_set_ne false e] at hj
      have old := mono j _ _ _ (inv.vals j hj) k
      have hjl : j < ops.size := by
        rw [← inv.len]
        rcases Nat.lt_or_ge j done.size with c | c
        · exact c
        · rw [Array.getD_eq_getD_getElem?, Array.getElem?_eq_none c] at hj; cases hj
      have hq : ops[j]? = some ops[j] := Array.getElem?_eq_getElem hjl
      have same : At ops (a.put o.dst v) j = At ops a j := by
        unfold At
        rw [hq]
        simp only [Option.bind_some]
        obtain ⟨u, hu, _⟩ := typed_dst hB hq
        rw [hu, ht]
        have ne := typed_other hB h hq e
        rw [hu, ht] at ne
        exact getD_put_other (fun x => ne (by rw [x]))
      rw [same]; exact old

theorem typed_any {V : Nat → Value → World → Prop} (mono : ∀ j v w w', V j v w → Kept w w' → V j v w') {Q : Exit → Act → World → Prop} {w0 : World} {a0 : Act} (hB : typedB ops a0.tmps.size = true)
    (step : ∀ i o, ops[i]? = some o → ∀ a w, Kept w0 w → Beside ops a0 a → (∀ e ∈ o.after, Region.binds .any e = true → V e.on (At ops a e.on) w) → StepT P ops V i o a w)
    (fin : ∀ a w, Kept w0 w → Beside ops a0 a → (∀ j, j < ops.size → V j (At ops a j) w) → Q .normal a w) :
    ∀ (f : Nat) (done : Array Bool) (a : Act) (w : World), InvT ops V w0 a0 done a w → ((List.range ops.size).filter (fun i => !done.getD i true)).length = f → wpAny P .any ops Q f done a w := by
  intro f
  have noneReady : ∀ (done : Array Bool), done.size = ops.size → Region.ready .any ops done = [] → ∀ j, j < ops.size → done.getD j false = true := by
    intro done hsz hr j
    induction j using Nat.strongRecOn with
    | _ j ih =>
      intro hj
      cases hd : done.getD j false with
      | true => rfl
      | false =>
        exfalso
        have hq : ops[j]? = some ops[j] := Array.getElem?_eq_getElem hj
        have rj : j ∈ Region.ready .any ops done := by
          rw [mem_ready]
          refine ⟨?_, _, hq, fun e he hb => ?_⟩
          · have : j < done.size := by omega
            simp [Array.getD, this] at hd ⊢
            exact hd
          · obtain ⟨_, _, _, _, h4⟩ := typed_dst hB hq
            exact ih e.on (h4 e he hb) (by have := h4 e he hb; omega)
        rw [hr] at rj; cases rj
  induction f with
  | zero =>
    intro done a w inv hf
    have hr : Region.ready .any ops done = [] := by
      rw [List.eq_nil_iff_forall_not_mem]
      intro i hi
      have := (mem_ready.1 hi).1
      have hil : i < ops.size := by
        obtain ⟨o, ho, _⟩ := (mem_ready.1 hi).2
        exact (Array.getElem?_eq_some_iff.1 ho).1
      have : i ∈ (List.range ops.size).filter (fun i => !done.getD i true) := by
        rw [List.mem_filter, List.mem_range]; exact ⟨hil, by rw [this]; rfl⟩
      rw [List.eq_nil_of_length_eq_zero hf] at this; cases this
    exact ⟨hr, fin a w inv.kept inv.beside (fun j hj => inv.vals j (noneReady done inv.len hr j hj))⟩
  | succ f ih =>
    intro done a w inv hf
    refine ⟨fun hr => fin a w inv.kept inv.beside (fun j hj => inv.vals j (noneReady done inv.len hr j hj)), fun i hi => ?_⟩
    obtain ⟨un, o, ho, waits⟩ := mem_ready.1 hi
    have hil : i < ops.size := (Array.getElem?_eq_some_iff.1 ho).1
    have st := step i o ho a w inv.kept inv.beside (fun e he hb => inv.vals e.on (waits e he hb))
    have cnt : ((List.range ops.size).filter (fun j => !(done.setIfInBounds i true).getD j true)).length = f := by
      have e : (List.range ops.size).filter (fun j => !(done.setIfInBounds i true).getD j true) = ((List.range ops.size).filter (fun j => !done.getD j true)).erase i := by
        rw [List.Nodup.erase_eq_filter (List.Nodup.sublist List.filter_sublist List.nodup_range)]
        rw [List.filter_filter]
        refine List.filter_congr fun j hj => ?_
        by_cases e : i = j
        · subst e
          have : i < done.size := by rw [inv.len]; exact hil
          simp [Array.getD, this]
        · rw [getD_set_ne true e]
          have : (j != i) = true := by simp; omega
          rw [this, Bool.true_and]
      rw [e, List.length_erase_of_mem (by rw [List.mem_filter, List.mem_range]; exact ⟨hil, by rw [un]; rfl⟩), hf]
      rfl
    unfold wpOp
    simp only [ho]
    unfold StepT at st
    split
    · rename_i hw
      rw [if_pos hw] at st
      exact Or.inl (st _ _ fun v w' hv k => ih _ _ _ (inv.put mono hB ho hv k) cnt)
    · rename_i hw
      rw [if_neg hw] at st
      exact ih _ _ _ (inv.put mono hB ho st (Kept.refl w)) cnt
theorem region_typed {id : Nat} {l : List Oper} {V : Nat → Value → World → Prop} (mono : ∀ j v w w', V j v w → Kept w w' → V j v w') {Q : Exit → Act → World → Prop} {w0 : World} {a0 : Act} (hm : P.follows .mixedOrders = true) (hB : typedB l.toArray a0.tmps.size = true)
    (step : ∀ i o, l.toArray[i]? = some o → ∀ a w, Kept w0 w → Beside l.toArray a0 a → (∀ e ∈ o.after, Region.binds .any e = true → V e.on (At l.toArray a e.on) w) → StepT P l.toArray V i o a w)
    (fin : ∀ a w, Kept w0 w → Beside l.toArray a0 a → (∀ j, j < l.length → V j (At l.toArray a j) w) → Q .normal a w) :
    (Code.region id l.toArray true).wp P Q a0 w0 := by
  refine wp_region_any hm (typed_any mono hB step (fun a w h1 h2 h3 => fin a w h1 h2 (fun j hj => h3 j (by simpa using hj))) _ _ _ _ ⟨by simp, (Kept.refl w0).drew, ⟨rfl, rfl, fun _ _ => rfl⟩, fun j hj => ?_⟩ ?_)
  · rw [getD_replicate_false'] at hj; cases hj
  · rw [List.filter_eq_self.2]
    · rw [List.length_range]
    · intro i hi
      rw [List.mem_range] at hi
      have : (Array.replicate l.toArray.size false).getD i true = false := by simp [Array.getD] at hi ⊢; omega
      rw [this]; rfl
where
  getD_replicate_false' {n j : Nat} : (Array.replicate n false).getD j false = false := by
    simp only [Array.getD]; split <;> simp
end
end Go.Proofs.YtipkjpcedfokhaaDoor
