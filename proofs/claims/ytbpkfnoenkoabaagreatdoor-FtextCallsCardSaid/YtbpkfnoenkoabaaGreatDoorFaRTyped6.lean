/- A region that draws its order, by an invariant over what is done: stores to the region's own variables too. -/
import Derived.Test.YtbpkfnoenkoabaaGreatDoorFaRTyped3
namespace Go.Proofs.YtbpkfnoenkoabaaGreatDoor
set_option linter.unusedVariables false
set_option linter.unusedSimpArgs false
open Go.RowKit
section
variable {P : Program} {ops : Array Oper}
def acyB (ops : Array Oper) : Bool :=
  (List.range ops.size).all fun i => match ops[i]? with
    | none => true
    | some o => o.after.all fun e => !Region.binds .any e || decide (e.on < i)
theorem acy_on (hB : acyB ops = true) {i : Nat} {o : Oper} (h : ops[i]? = some o) : ∀ e ∈ o.after, Region.binds .any e = true → e.on < i := by
  simp only [acyB, List.all_eq_true, List.mem_range] at hB
  have hi : i < ops.size := (Array.getElem?_eq_some_iff.1 h).1
  have := hB i hi
  rw [h] at this
  simp only at this
  intro e he hb
  have := Array.all_eq_true_iff_forall_mem.1 this e he
  rw [hb] at this
  simpa using this
def StepI (P : Program) (ops : Array Oper) (I : Array Bool → Act → World → Prop) (done : Array Bool) (i : Nat) (o : Oper) (a : Act) (w : World) : Prop :=
  if Region.wanted o (yielded ops a.tmps) = true then ∀ (K : Act → World → Prop) (R : Exit → Act → World → Prop), (∀ v w', I (done.setIfInBounds i true) (a.put o.dst v) w' → K (a.put o.dst v) w') → o.wp P a w K R else I (done.setIfInBounds i true) (a.put o.dst undef) w
theorem inv_any {I : Array Bool → Act → World → Prop} {Q : Exit → Act → World → Prop} (hB : acyB ops = true)
    (step : ∀ (done : Array Bool) i o, ops[i]? = some o → done.size = ops.size → done.getD i true = false → (∀ e ∈ o.after, Region.binds .any e = true → done.getD e.on false = true) → ∀ a w, I done a w → StepI P ops I done i o a w)
    (fin : ∀ (done : Array Bool) a w, I done a w → (∀ j, j < ops.size → done.getD j false = true) → Q .normal a w) :
    ∀ (f : Nat) (done : Array Bool) (a : Act) (w : World), done.size = ops.size → I done a w → ((List.range ops.size).filter (fun i => !done.getD i true)).length = f → wpAny P .any ops Q f done a w := by
  intro f
  have noneReady : ∀ (done : Array Bool), done.size = ops.size → Region.ready .any ops done = [] → ∀ j, j < ops.size → done.getD j false = true := by
    intro done hsz hr j
    induction j using Nat.strongRecOn with
    | _ j ih =>
      intro hj
      cases hd : done.getD j false with
      | true => rfl
      | false =>
        exfalso
        have hq : ops[j]? = some ops[j] := Array.getElem?_eq_getElem hj
        have rj : j ∈ Region.ready .any ops done := by
          rw [mem_ready]
          refine ⟨?_, _, hq, fun e he hb => ?_⟩
          · have : j < done.size := by omega
            simp [Array.getD, this] at hd ⊢
            exact hd
          · have h4 := acy_on hB hq
            exact ih e.on (h4 e he hb) (by have := h4 e he hb; omega)
        rw [hr] at rj; cases rj
  induction f with
  | zero =>
    intro done a w hsz inv hf
    have hr : Region.ready .any ops done = [] := by
      rw [List.eq_nil_iff_forall_not_mem]
      intro i hi
      have := (mem_ready.1 hi).1
      have hil : i < ops.size := by
        obtain ⟨o, ho, _⟩ := (mem_ready.1 hi).2
        exact (Array.getElem?_eq_some_iff.1 ho).1
      have : i ∈ (List.range ops.size).filter (fun i => !done.getD i true) := by
        rw [List.mem_filter, List.mem_range]; exact ⟨hil, by rw [this]; rfl⟩
      rw [List.eq_nil_of_length_eq_zero hf] at this; cases this
    exact ⟨hr, fin done a w inv (fun j hj => noneReady done hsz hr j hj)⟩
  | succ f ih =>
    intro done a w hsz inv hf
    refine ⟨fun hr => fin done a w inv (fun j hj => noneReady done hsz hr j hj), fun i hi => ?_⟩
    obtain ⟨un, o, ho, waits⟩ := mem_ready.1 hi
    have hil : i < ops.size := (Array.getElem?_eq_some_iff.1 ho).1
    have st := step done i o ho hsz un waits a w inv
    have cnt : ((List.range ops.size).filter (fun j => !(done.setIfInBounds i true).getD j true)).length = f := by
      have e : (List.range ops.size).filter (fun j => !(done.setIfInBounds i true).getD j true) = ((List.range ops.size).filter (fun j => !done.getD j true)).erase i := by
        rw [List.Nodup.erase_eq_filter (List.Nodup.sublist List.filter_sublist List.nodup_range)]
        rw [List.filter_filter]
        refine List.filter_congr fun j hj => ?_
        by_cases e : i = j
        · subst e
          have : i < done.size := by omega
          simp [Array.getD, this]
        · rw [getD_set_ne true e]
          have : (j != i) = true := by simp; omega
          rw [this, Bool.true_and]
      rw [e, List.length_erase_of_mem (by rw [List.mem_filter, List.mem_range]; exact ⟨hil, by rw [un]; rfl⟩), hf]
      rfl
    unfold wpOp
    simp only [ho]
    unfold StepI at st
    split
    · rename_i hw
      rw [if_pos hw] at st
      exact Or.inl (st _ _ fun v w' hI => ih _ _ _ (by rw [Array.size_setIfInBounds]; exact hsz) hI cnt)
    · rename_i hw
      rw [if_neg hw] at st
      exact ih _ _ _ (by rw [Array.size_setIfInBounds]; exact hsz) st cnt
theorem region_inv {id : Nat} {l : List Oper} {I : Array Bool → Act → World → Prop} {Q : Exit → Act → World → Prop} {w0 : World} {a0 : Act} (hm : P.follows .mixedOrders = true) (hB : acyB l.toArray = true)
    (start : I (Array.replicate l.toArray.size false) a0 { w0 with drawn := w0.drawn + 1 })
    (step : ∀ (done : Array Bool) i o, l.toArray[i]? = some o → done.size = l.toArray.size → done.getD i true = false → (∀ e ∈ o.after, Region.binds .any e = true → done.getD e.on false = true) → ∀ a w, I done a w → StepI P l.toArray I done i o a w)
    (fin : ∀ (done : Array Bool) a w, I done a w → (∀ j, j < l.toArray.size → done.getD j false = true) → Q .normal a w) :
    (Code.region id l.toArray true).wp P Q a0 w0 := by
  refine wp_region_any hm (inv_any hB step fin _ _ _ _ (by simp) start ?_)
  rw [List.filter_eq_self.2]
  · rw [List.length_range]
  · intro i hi
    rw [List.mem_range] at hi
    have : (Array.replicate l.toArray.size false).getD i true = false := by simp [Array.getD] at hi ⊢; omega
    rw [this]; rfl
end
end Go.Proofs.YtbpkfnoenkoabaaGreatDoor
