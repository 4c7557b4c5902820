/- A region that draws its order, whose operations read, or make memory: each operation yields what its predicate says, whatever the order: one proof an operation, no order looked at. -/
import Derived.Test.YtbpkfnoenkoabaaGreatDoorFaBunV
import Derived.Orders
import Derived.StillTail
namespace Go.Proofs.YtbpkfnoenkoabaaGreatDoor
set_option linter.unusedVariables false
set_option linter.unusedSimpArgs false
open Go.RowKit
section
variable {P : Program} {ops : Array Oper}
def At (ops : Array Oper) (a : Act) (j : Nat) : Value := match (ops[j]?).bind (·.dst) with
  | some t => a.tmps.getD t undef
  | none => undef
def writes (ops : Array Oper) (t : Nat) : Bool := ops.any fun o => o.dst == some t
def typedB (ops : Array Oper) (size : Nat) : Bool :=
  Region.noSelect ops && (List.range ops.size).all fun i => match ops[i]? with
    | none => true
    | some o => (match o.dst with
      | none => false
      | some t => decide (t < size) && (List.range i).all fun j => ((ops[j]?).bind (·.dst)) != some t) && o.after.all fun e => !Region.binds .any e || decide (e.on < i)
structure Beside (ops : Array Oper) (a0 a : Act) : Prop where
  defers : a.defers = a0.defers
  size : a.tmps.size = a0.tmps.size
  same : ∀ t, writes ops t = false → a.tmps.getD t undef = a0.tmps.getD t undef
def StepT (P : Program) (ops : Array Oper) (V : Nat → Value → World → Prop) (i : Nat) (o : Oper) (a : Act) (w : World) : Prop :=
  if Region.wanted o (yielded ops a.tmps) = true then ∀ (K : Act → World → Prop) (R : Exit → Act → World → Prop), (∀ v w', V i v w' → Kept w w' → K (a.put o.dst v) w') → o.wp P a w K R else V i undef w
theorem getD_put_same {a : Act} {t : Nat} {v : Value} (h : t < a.tmps.size) : (a.put (some t) v).tmps.getD t undef = v := by
  simp [Act.put, Array.getD, h]
theorem getD_put_other {a : Act} {t u : Nat} {v : Value} (h : t ≠ u) : (a.put (some t) v).tmps.getD u undef = a.tmps.getD u undef := by
  simp only [Act.put, Array.getD_eq_getD_getElem?, Array.getElem?_setIfInBounds_ne h]
structure InvT (ops : Array Oper) (V : Nat → Value → World → Prop) (w0 : World) (a0 : Act) (done : Array Bool) (a : Act) (w : World) : Prop where
  len : done.size = ops.size
  kept : Kept w0 w
  beside : Beside ops a0 a
  vals : ∀ j, done.getD j false = true → V j (At ops a j) w
theorem typed_dst {size : Nat} (hB : typedB ops size = true) {i : Nat} {o : Oper} (h : ops[i]? = some o) : ∃ t, o.dst = some t ∧ t < size ∧ (∀ j, j < i → (ops[j]?).bind (·.dst) ≠ some t) ∧ ∀ e ∈ o.after, Region.binds .any e = true → e.on < i := by
  simp only [typedB, Bool.and_eq_true, List.all_eq_true, List.mem_range] at hB
  have hi : i < ops.size := (Array.getElem?_eq_some_iff.1 h).1
  have := hB.2 i hi
  rw [h] at this
  simp only at this
  cases hd : o.dst with
  | none => rw [hd] at this; simp at this
  | some t =>
    rw [hd] at this
    simp only [Bool.and_eq_true, decide_eq_true_eq, List.all_eq_true, List.mem_range, bne_iff_ne, ne_eq] at this
    obtain ⟨⟨h1, h2⟩, h3⟩ := this
    refine ⟨t, rfl, h1, h2, fun e he hb => ?_⟩
    have := Array.all_eq_true_iff_forall_mem.1 h3 e he
    rw [hb] at this
    simpa using this
theorem typed_other {size : Nat} (hB : typedB ops size = true) {i j : Nat} {o q : Oper} (h : ops[i]? = some o) (g : ops[j]? = some q) (ne : i ≠ j) : o.dst ≠ q.dst := by
  obtain ⟨t, ht, _, h1, _⟩ := typed_dst hB h
  obtain ⟨u, hu, _, h2, _⟩ := typed_dst hB g
  rw [ht, hu]
  intro e
  cases e
  rcases Nat.lt_or_gt_of_ne ne with c | c
  · exact h2 i c (by rw [h]; exact ht)
  · exact h1 j c (by rw [g]; exact hu)
theorem InvT.put {V : Nat → Value → World → Prop} (mono : ∀ j v w w', V j v w → Kept w w' → V j v w') {w0 w w' : World} {a0 a : Act} {done : Array Bool} (hB : typedB ops a0.tmps.size = true) (inv : InvT ops V w0 a0 done a w) {i : Nat} {o : Oper} (h : ops[i]? = some o) {v : Value} (hv : V i v w') (k : Kept w w') :
    InvT ops V w0 a0 (done.setIfInBounds i true) (a.put o.dst v) w' := by
  obtain ⟨t, ht, hs, _, _⟩ := typed_dst hB h
  have sz : t < a.tmps.size := by rw [inv.beside.size]; exact hs
  refine ⟨by rw [Array.size_setIfInBounds]; exact inv.len, inv.kept.trans k, ⟨?_, ?_, fun u hu => ?_⟩, fun j hj => ?_⟩
  · rw [ht]; exact inv.beside.defers
  · rw [ht]; simp only [Act.put, Array.size_setIfInBounds]; exact inv.beside.size
  · rw [ht, getD_put_other, inv.beside.same u hu]
    rintro rfl
    have : writes ops t = true := by
      unfold writes
      rw [Array.any_eq_true']
      exact ⟨o, Array.mem_of_getElem? h, by rw [ht]; simp⟩
    rw [this] at hu; cases hu
  · by_cases e : i = j
    · subst e
      have : At ops (a.put o.dst v) i = v := by
        unfold At
        rw [h]
        simp only [Option.bind_some, ht]
        exact getD_put_same sz
      rw [this]; exact hv
    · rw [getD_set_ne false e] at hj
      have old := mono j _ _ _ (inv.vals j hj) k
      have hjl : j < ops.size := by
        rw [← inv.len]
        rcases Nat.lt_or_ge j done.size with c | c
        · exact c
        · rw [Array.getD_eq_getD_getElem?, Array.getElem?_eq_none c] at hj; cases hj
      have hq : ops[j]? = some ops[j] := Array.getElem?_eq_getElem hjl
      have same : At ops (a.put o.dst v) j = At ops a j := by
        unfold At
        rw [hq]
        simp only [Option.bind_some]
        obtain ⟨u, hu, _⟩ := typed_dst hB hq
        rw [hu, ht]
        have ne := typed_other hB h hq e
        rw [hu, ht] at ne
        exact getD_put_other (fun x => ne (by rw [x]))
      rw [same]; exact old
end
end Go.Proofs.YtbpkfnoenkoabaaGreatDoor
