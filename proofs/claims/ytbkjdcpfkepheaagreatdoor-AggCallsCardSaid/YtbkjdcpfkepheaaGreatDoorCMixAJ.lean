/- Small texts together: RTyped6, SX3, SX4. -/
import Derived.Test.YtbkjdcpfkepheaaGreatDoorCMixAH
import Derived.Test.YtbkjdcpfkepheaaGreatDoorCSX1
import Derived.IntWalk
set_option linter.unusedVariables false
set_option linter.unusedSimpArgs false
namespace Go.Proofs.YtbkjdcpfkepheaaGreatDoor
section
open Go.RowKit
section
variable {P : Program} {ops : Array Oper}
def Dn (ops : Array Oper) : Bool :=
  (List.range ops.size).all fun i => match ops[i]? with
    | none => true
    | some o => o.after.all fun e => !Region.binds .any e || decide (e.on < i)
theorem Gk (hB : Dn ops = true) {i : Nat} {o : Oper} (h : ops[i]? = some o) : ∀ e ∈ o.after, Region.binds .any e = true → e.on < i := by
  simp only [Dn, List.all_eq_true, List.mem_range] at hB
  have hi : i < ops.size := (Array.getElem?_eq_some_iff.1 h).1; have := hB i hi; rw [h] at this
  simp only at this
  intro e he hb; have := Array.all_eq_true_iff_forall_mem.1 this e he; rw [hb] at this
  simpa using this
def ya (P : Program) (ops : Array Oper) (I : Array Bool → Act → World → Prop) (done : Array Bool) (i : Nat) (o : Oper) (a : Act) (w : World) : Prop :=
  if Region.wanted o (yielded ops a.tmps) = true then ∀ (K : Act → World → Prop) (R : Exit → Act → World → Prop), (∀ v w', I (done.setIfInBounds i true) (a.put o.dst v) w' → K (a.put o.dst v) w') → o.wp P a w K R else I (done.setIfInBounds i true) (a.put o.dst undef) w
theorem Ef {I : Array Bool → Act → World → Prop} {Q : Exit → Act → World → Prop} (hB : Dn ops = true)
    (step : ∀ (done : Array Bool) i o, ops[i]? = some o → done.size = ops.size → done.getD i true = false → (∀ e ∈ o.after, Region.binds .any e = true → done.getD e.on false = true) → ∀ a w, I done a w → ya P ops I done i o a w)
    (fin : ∀ (done : Array Bool) a w, I done a w → (∀ j, j < ops.size → done.getD j false = true) → Q .normal a w) :
    ∀ (f : Nat) (done : Array Bool) (a : Act) (w : World), done.size = ops.size → I done a w → ((List.range ops.size).filter (fun i => !done.getD i true)).length = f → wpAny P .any ops Q f done a w := by
  intro f
  have noneReady : ∀ (done : Array Bool), done.size = ops.size → Region.ready .any ops done = [] → ∀ j, j < ops.size → done.getD j false = true := by
    intro done hsz hr j
    induction j using Nat.strongRecOn with
    | _ j ih =>
      intro hj
      cases hd : done.getD j false with
      | true => rfl
      | false =>
        exfalso
        have hq : ops[j]? = some ops[j] := Array.getElem?_eq_getElem hj
        have rj : j ∈ Region.ready .any ops done := by
          rw [mem_ready]; refine ⟨?_, _, hq, fun e he hb => ?_⟩
          · have : j < done.size := by omega
            simp [Array.getD, this] at hd ⊢
            exact hd
          · have h4 := Gk hB hq
            exact ih e.on (h4 e he hb) (by have := h4 e he hb; omega)
        rw [hr] at rj; cases rj
  induction f with
  | zero =>
    intro done a w hsz inv hf
    have hr : Region.ready .any ops done = [] := by
      rw [List.eq_nil_iff_forall_not_mem]; intro i hi; have := (mem_ready.1 hi).1
      have hil : i < ops.size := by
        obtain ⟨o, ho, _⟩ := (mem_ready.1 hi).2; exact (Array.getElem?_eq_some_iff.1 ho).1
      have : i ∈ (List.range ops.size).filter (fun i => !done.getD i true) := by
        rw [List.mem_filter, List.mem_range]; exact ⟨hil, by rw [this]; rfl⟩
      rw [List.eq_nil_of_length_eq_zero hf] at this; cases this
    exact ⟨hr, fin done a w inv (fun j hj => noneReady done hsz hr j hj)⟩
  | succ f ih =>
    intro done a w hsz inv hf; refine ⟨fun hr => fin done a w inv (fun j hj => noneReady done hsz hr j hj), fun i hi => ?_⟩; obtain ⟨un, o, ho, waits⟩ := mem_ready.1 hi; have hil : i < ops.size := (Array.getElem?_eq_some_iff.1 ho).1; have st := step done i o ho hsz un waits a w inv
    have cnt : ((List.range ops.size).filter (fun j => !(done.setIfInBounds i true).getD j true)).length = f := by
      have e : (List.range ops.size).filter (fun j => !(done.setIfInBounds i true).getD j true) = ((List.range ops.size).filter (fun j => !done.getD j true)).erase i := by
        rw [List.Nodup.erase_eq_filter (List.Nodup.sublist List.filter_sublist List.nodup_range)]; rw [List.filter_filter]; refine List.filter_congr fun j hj => ?_
        by_cases e : i = j
        · subst e
          have : i < done.size := by omega
          simp [Array.getD, this]
        · rw [getD_set_ne true e]
          have : (j != i) = true := by simp; omega
          rw [this, Bool.true_and]
      rw [e, List.length_erase_of_mem (by rw [List.mem_filter, List.mem_range]; exact ⟨hil, by rw [un]; rfl⟩), hf]
      rfl
    unfold wpOp
    simp only [ho]
    unfold ya at st
    split
    · rename_i hw
      rw [if_pos hw] at st; exact Or.inl (st _ _ fun v w' hI => ih _ _ _ (by rw [Array.size_setIfInBounds]; exact hsz) hI cnt)
    · rename_i hw
      rw [if_neg hw] at st; exact ih _ _ _ (by rw [Array.size_setIfInBounds]; exact hsz) st cnt
theorem nD {id : Nat} {l : List Oper} {I : Array Bool → Act → World → Prop} {Q : Exit → Act → World → Prop} {w0 : World} {a0 : Act} (hm : P.follows .mixedOrders = true) (hB : Dn l.toArray = true)
    (start : I (Array.replicate l.toArray.size false) a0 { w0 with drawn := w0.drawn + 1 })
    (step : ∀ (done : Array Bool) i o, l.toArray[i]? = some o → done.size = l.toArray.size → done.getD i true = false → (∀ e ∈ o.after, Region.binds .any e = true → done.getD e.on false = true) → ∀ a w, I done a w → ya P l.toArray I done i o a w)
    (fin : ∀ (done : Array Bool) a w, I done a w → (∀ j, j < l.toArray.size → done.getD j false = true) → Q .normal a w) :
    (Code.region id l.toArray true).wp P Q a0 w0 := by
  refine wp_region_any hm (Ef hB step fin _ _ _ _ (by simp) start ?_); rw [List.filter_eq_self.2]
  · rw [List.length_range]
  · intro i hi
    rw [List.mem_range] at hi; have : (Array.replicate l.toArray.size false).getD i true = false := by simp [Array.getD] at hi ⊢; omega
    rw [this]; rfl
end
end

section
open Go.RowKit
section
variable {P : Program} {ops : Array Oper}
def vL (ops : Array Oper) (size : Nat) : Bool :=
  Dn ops && (List.range ops.size).all fun i => match ops[i]? with
    | none => true
    | some o => o.guard.isNone && match o.dst with
      | none => true
      | some t => decide (t < size) && (List.range ops.size).all fun j => i == j || ((ops[j]?).bind (·.dst)) != some t
def yb (ops : Array Oper) : List Nat → Bool
  | [] => true
  | [i] => decide (i < ops.size)
  | i :: j :: r => decide (i < j) && decide (i < ops.size) && (match ops[j]? with
    | none => false
    | some o => o.after.toList.any fun e => Region.binds .any e && e.on == i) && yb ops (j :: r)
def Ps (l : List (Value → Prop)) (j : Nat) : Value → Prop := match l[j]? with
  | some p => p
  | none => fun _ => True
def qk (ops : Array Oper) (i t : Nat) : Bool := (List.range ops.size).all fun q => match ops[q]? with
  | none => true
  | some o => o.dst != some t || o.after.toList.any fun e => Region.binds .any e && e.on == i
structure BesideC (ops : Array Oper) (a0 : Act) (done : Array Bool) (a : Act) : Prop where
  defers : a.defers = a0.defers
  size : a.tmps.size = a0.tmps.size
  same : ∀ t, (∀ j o, done.getD j false = true → ops[j]? = some o → o.dst ≠ some t) → a.tmps.getD t undef = a0.tmps.getD t undef
structure InvC (ops : Array Oper) (ch : List Nat) (ps : List (Value → Prop)) (S : List Value → World → Prop) (a0 : Act) (done : Array Bool) (a : Act) (w : World) : Prop where
  len : done.size = ops.size
  beside : BesideC ops a0 done a
  vals : ∀ j, done.getD j false = true → Ps ps j (At ops a j)
  shut : ∀ j o, ops[j]? = some o → done.getD j false = true → ∀ e ∈ o.after, Region.binds .any e = true → done.getD e.on false = true
  stage : ∃ s, s ≤ ch.length ∧ (∀ t i, ch[t]? = some i → (done.getD i false = true ↔ t < s)) ∧ S ((ch.take s).map (At ops a)) w
def Gl (P : Program) (S : Value → World → Prop) (p : Value → Prop) (o : Oper) (a : Act) (w : World) : Prop :=
  ∀ (K : Act → World → Prop) (R : Exit → Act → World → Prop), (∀ v w', p v → S v w' → (o.dst = none → v = undef) → K (a.put o.dst v) w') → o.wp P a w K R
theorem hZ {size : Nat} (hB : vL ops size = true) {i : Nat} {o : Oper} (h : ops[i]? = some o) : o.guard = none ∧ ∀ t, o.dst = some t → t < size ∧ ∀ j q, j ≠ i → ops[j]? = some q → q.dst ≠ some t := by
  simp only [vL, Bool.and_eq_true, List.all_eq_true, List.mem_range] at hB
  have hi : i < ops.size := (Array.getElem?_eq_some_iff.1 h).1; have := hB.2 i hi; rw [h] at this
  simp only [Bool.and_eq_true, Option.isNone_iff_eq_none] at this
  obtain ⟨hg, this⟩ := this; refine ⟨hg, fun t ht => ?_⟩; rw [ht] at this
  simp only [Bool.and_eq_true, decide_eq_true_eq, List.all_eq_true, List.mem_range, Bool.or_eq_true, beq_iff_eq, bne_iff_ne, ne_eq] at this
  refine ⟨this.1, fun j q ne hq e => ?_⟩; have hj : j < ops.size := (Array.getElem?_eq_some_iff.1 hq).1; rcases this.2 j hj with x | x
  · exact ne x.symm
  · exact x (by rw [hq]; simp [e])
theorem jR : ∀ (ch : List Nat), yb ops ch = true → ∀ t i j, ch[t]? = some i → ch[t + 1]? = some j → ∃ o, ops[j]? = some o ∧ ∃ e ∈ o.after, Region.binds .any e = true ∧ e.on = i
  | [], _, t, i, j, h, _ => by simp at h
  | [_], _, t, i, j, _, h => by simp at h
  | i0 :: j0 :: r, hB, 0, i, j, hi, hj => by
    simp at hi hj
    subst hi; subst hj
    simp only [yb, Bool.and_eq_true] at hB
    obtain ⟨⟨_, hB⟩, _⟩ := hB
    cases ho : ops[j0]? with
    | none => rw [ho] at hB; cases hB
    | some o =>
      rw [ho] at hB
      simp only [List.any_eq_true] at hB
      obtain ⟨e, he, hb⟩ := hB; rw [Bool.and_eq_true, beq_iff_eq] at hb; exact ⟨o, rfl, e, Array.mem_toList_iff.1 he, hb.1, hb.2⟩
  | i0 :: j0 :: r, hB, t + 1, i, j, hi, hj => by
    simp only [yb, Bool.and_eq_true] at hB
    exact jR (j0 :: r) hB.2 t i j (by simpa using hi) (by simpa using hj)
theorem jS : ∀ (ch : List Nat), yb ops ch = true → ∀ i ∈ ch, i < ops.size
  | [], _, _, h => by cases h
  | [i0], hB, i, h => by simp at h; subst h; simpa [yb] using hB
  | i0 :: j0 :: r, hB, i, h => by
    simp only [yb, Bool.and_eq_true, decide_eq_true_eq] at hB
    rcases List.mem_cons.1 h with rfl | h
    · exact hB.1.1.2
    · exact jS (j0 :: r) hB.2 i h
theorem jT : ∀ (ch : List Nat), yb ops ch = true → ch.Pairwise (· < ·)
  | [], _ => List.Pairwise.nil
  | [i0], _ => List.pairwise_singleton _ _
  | i0 :: j0 :: r, hB => by
    have hs := hB
    simp only [yb, Bool.and_eq_true, decide_eq_true_eq] at hs
    have ih := jT (j0 :: r) hs.2; refine List.pairwise_cons.2 ⟨fun x hx => ?_, ih⟩; rcases List.mem_cons.1 hx with rfl | hx
    · exact hs.1.1.1
    · exact Nat.lt_trans hs.1.1.1 ((List.pairwise_cons.1 ih).1 x hx)
theorem gE {id : Nat} {l : List Oper} (ch : List Nat) (ps : List (Value → Prop)) (S : List Value → World → Prop) (G : World → Prop) (N : Nat) {Q : Exit → Act → World → Prop} {w0 : World} {a0 : Act} (hm : P.follows .mixedOrders = true) (hs : a0.tmps.size = N) (hB : vL l.toArray N = true) (hC : yb l.toArray ch = true) (hG : ∀ ys w, S ys w → G w) (drew : ∀ ys w, S ys w → S ys { w with drawn := w.drawn + 1 })
    (start : S [] w0)
    (pure : ∀ i o, l.toArray[i]? = some o → i ∉ ch → ∀ a w, G w → (∀ t, qk l.toArray i t = true → a.eval (.tmp t) = a0.eval (.tmp t)) → (∀ e ∈ o.after, Region.binds .any e = true → Ps ps e.on (At l.toArray a e.on)) → ∃ v, (execOp a.eval o).run P w = .ok (.value v) w ∧ Ps ps i v ∧ o.dst ≠ none)
    (step : ∀ t i o, ch[t]? = some i → l.toArray[i]? = some o → ∀ a w, (∀ t, qk l.toArray i t = true → a.eval (.tmp t) = a0.eval (.tmp t)) → S ((ch.take t).map (At l.toArray a)) w → (∀ e ∈ o.after, Region.binds .any e = true → Ps ps e.on (At l.toArray a e.on)) → Gl P (fun v w' => S ((ch.take t).map (At l.toArray a) ++ [v]) w') (Ps ps i) o a w)
    (fin : ∀ a w, Beside l.toArray a0 a → (∀ j, j < l.length → Ps ps j (At l.toArray a j)) → S (ch.map (At l.toArray a)) w → Q .normal a w) :
    (Code.region id l.toArray true).wp P Q a0 w0 := by
  subst hs; have acy : Dn l.toArray = true := by simp only [vL, Bool.and_eq_true] at hB; exact hB.1
  have inj : ∀ t t' i, ch[t]? = some i → ch[t']? = some i → t = t' := fun t t' i h h' => by
    have pw := List.pairwise_iff_getElem.1 (jT ch hC); obtain ⟨h1, e1⟩ := List.getElem?_eq_some_iff.1 h; obtain ⟨h2, e2⟩ := List.getElem?_eq_some_iff.1 h'; rcases Nat.lt_trichotomy t t' with c | c | c
    · have := pw t t' h1 h2 c; omega
    · exact c
    · have := pw t' t h2 h1 c; omega
  have atJ : ∀ {i : Nat} {o : Oper} {a : Act} {v : Value}, l.toArray[i]? = some o → ∀ j, j ≠ i → At l.toArray (a.put o.dst v) j = At l.toArray a j := fun {i o a v} h j ne => by
    cases ht : o.dst with
    | none => rfl
    | some t =>
      obtain ⟨_, hd⟩ := (hZ hB h).2 t ht; unfold At
      cases hq : l.toArray[j]? with
      | none => rfl
      | some q =>
        simp only [Option.bind_some]
        cases hu : q.dst with
        | none => rfl
        | some u => exact bi (fun e => hd j q ne hq (by rw [hu, e]))
  have atI : ∀ {i : Nat} {o : Oper} {a : Act} {v : Value}, l.toArray[i]? = some o → a.tmps.size = a0.tmps.size → (o.dst = none → v = undef) → At l.toArray (a.put o.dst v) i = v := fun {i o a v} h b hn => by
    cases ht : o.dst with
    | none =>
      unfold At; rw [h]
      simp only [Option.bind_some, ht]
      exact (hn ht).symm
    | some t =>
      unfold At; rw [h]
      simp only [Option.bind_some, ht]
      exact cI (by rw [b]; exact ((hZ hB h).2 t ht).1)
  have map_same : ∀ {i : Nat} {o : Oper} {a : Act} {v : Value}, l.toArray[i]? = some o → ∀ L : List Nat, i ∉ L → L.map (At l.toArray (a.put o.dst v)) = L.map (At l.toArray a) := fun {i o a v} h L hL =>
    List.map_congr_left fun j hj => atJ h j (fun e => hL (e ▸ hj))
  have put : ∀ {done : Array Bool} {i : Nat} {o : Oper} {a : Act} {w w' : World} {v : Value}, InvC l.toArray ch ps S a0 done a w → l.toArray[i]? = some o → done.getD i true = false → (∀ e ∈ o.after, Region.binds .any e = true → done.getD e.on false = true) → Ps ps i v → (o.dst = none → v = undef) →
      (∃ s, s ≤ ch.length ∧ (∀ t q, ch[t]? = some q → ((done.setIfInBounds i true).getD q false = true ↔ t < s)) ∧ S ((ch.take s).map (At l.toArray (a.put o.dst v))) w') → InvC l.toArray ch ps S a0 (done.setIfInBounds i true) (a.put o.dst v) w' := fun {done i o a w w' v} inv ho un waits hv hn st => by
    have ne_ : ∀ j, done.getD j false = true → j ≠ i := fun j hj c => by rw [c, getD_both un] at hj; cases hj
    have old : ∀ j, j ≠ i → (done.setIfInBounds i true).getD j false = true → done.getD j false = true := fun j ne hj => by
      rwa [getD_set_ne false (fun e => ne e.symm)] at hj
    have new : ∀ j, done.getD j false = true → (done.setIfInBounds i true).getD j false = true := fun j hj => by
      rw [getD_set_ne false (fun c => ne_ j hj c.symm)]; exact hj
    have dEq : (a.put o.dst v).defers = a.defers := by unfold Act.put; split <;> rfl
    have sEq : (a.put o.dst v).tmps.size = a.tmps.size := by unfold Act.put; split <;> simp
    refine ⟨by rw [Array.size_setIfInBounds]; exact inv.len, ⟨dEq.trans inv.beside.defers, sEq.trans inv.beside.size, fun u hu => ?_⟩, fun j hj => ?_, fun j q hq hj e he hb => ?_, st⟩
    · have hin : i < done.size := by rw [inv.len]; exact (Array.getElem?_eq_some_iff.1 ho).1
      have base := inv.beside.same u (fun j q hj hq => hu j q (new j hj) hq)
      cases ht : o.dst with
      | none => exact base
      | some t =>
        rw [bi, base]; rintro rfl; exact hu i o (by simp [Array.getD, hin]) ho ht
    · by_cases c : j = i
      · subst c; rw [atI ho inv.beside.size hn]; exact hv
      · rw [atJ ho j c]; exact inv.vals j (old j c hj)
    · by_cases c : j = i
      · subst c
        rw [ho] at hq; cases hq; exact new _ (waits e he hb)
      · exact new _ (inv.shut j q hq (old j c hj) e he hb)
  refine nD (I := fun done a w => InvC l.toArray ch ps S a0 done a w) hm acy ⟨by simp, ⟨rfl, rfl, fun _ _ => rfl⟩, fun j hj => ?_, fun j o _ hj => ?_, ⟨0, Nat.zero_le _, fun t i _ => ?_, drew _ _ start⟩⟩ (fun done i o ho hsz un waits a w inv => ?_) (fun done a w inv hall => ?_)
  · rw [getD_replicate_false] at hj; cases hj
  · rw [getD_replicate_false] at hj; cases hj
  · rw [getD_replicate_false]; simp
  · have hg0 := (hZ hB ho).1
    unfold ya; rw [if_pos (aC hg0)]; intro K R hK; obtain ⟨s, hsl, hst, hS⟩ := inv.stage; have un' := getD_both un
    have free : ∀ t, qk l.toArray i t = true → a.eval (.tmp t) = a0.eval (.tmp t) := fun t hf => by
      refine inv.beside.same t fun j q hj hq hd => ?_
      simp only [qk, List.all_eq_true, List.mem_range] at hf
      have := hf j (Array.getElem?_eq_some_iff.1 hq).1; rw [hq] at this
      simp only [Bool.or_eq_true, bne_iff_ne, ne_eq, List.any_eq_true] at this
      rcases this with c | ⟨e, he, hb⟩
      · exact c hd
      · rw [Bool.and_eq_true, beq_iff_eq] at hb
        have := inv.shut j q hq hj e (Array.mem_toList_iff.1 he) hb.1; rw [hb.2, un'] at this; cases this
    have deps : ∀ e ∈ o.after, Region.binds .any e = true → Ps ps e.on (At l.toArray a e.on) := fun e he hb => inv.vals e.on (waits e he hb)
    by_cases hc : i ∈ ch
    · obtain ⟨t, ht⟩ := List.mem_iff_getElem?.1 hc
      have hts : t = s := by
        have h1 : ¬ t < s := fun c => by have := (hst t i ht).2 c; rw [un'] at this; cases this
        have h2 : ¬ s < t := fun c => by
          obtain ⟨t', rfl⟩ : ∃ t', t = t' + 1 := ⟨t - 1, by omega⟩; have hl : t' + 1 < ch.length := (List.getElem?_eq_some_iff.1 ht).1; obtain ⟨o', ho', e, he, hb, eo⟩ := jR ch hC t' _ i (List.getElem?_eq_getElem (by omega)) ht; rw [ho] at ho'; cases ho'; have := waits e he hb; rw [eo] at this; have := (hst t' _ (List.getElem?_eq_getElem (by omega))).1 this
          omega
        omega
      subst hts; have hlt : t < ch.length := (List.getElem?_eq_some_iff.1 ht).1; refine step t i o ht ho a w free hS deps K R fun v w' hv hSv hn => hK v w' (put inv ho un waits hv hn ⟨t + 1, hlt, fun t2 q hq => ?_, ?_⟩)
      · by_cases c : q = i
        · subst c
          have := inj _ _ _ ht hq; subst this; have hin : q < done.size := by rw [hsz]; exact (Array.getElem?_eq_some_iff.1 ho).1
          simp [Array.getD, hin]
        · rw [getD_set_ne false (fun e => c e.symm), hst t2 q hq]
          constructor
          · intro h; omega
          · intro h
            rcases Nat.lt_or_ge t2 t with d | d
            · exact d
            · have : t2 = t := by omega
              subst this; rw [hq] at ht; cases ht; exact absurd rfl c
      · have e : ch.take (t + 1) = ch.take t ++ [i] := by
          rw [List.take_succ_eq_append_getElem hlt]; rw [List.getElem?_eq_getElem hlt] at ht; rw [Option.some.inj ht]
        rw [e, List.map_append, List.map_singleton, atI ho inv.beside.size hn, map_same ho]
        · exact hSv
        · intro hmem
          obtain ⟨k, hk⟩ := List.mem_iff_getElem?.1 hmem; rw [List.getElem?_take] at hk
          split at hk
          · have := inj _ _ _ ht hk; omega
          · cases hk
    · obtain ⟨v, hr, hv, hnn⟩ := pure i o ho hc a w (hG _ _ hS) free deps
      unfold Oper.wp; rw [hr]; refine hK v w (put inv ho un waits hv (fun e => absurd e hnn) ⟨s, hsl, fun t2 q hq => ?_, ?_⟩)
      · have : q ≠ i := fun c => hc (c ▸ List.mem_of_getElem? hq)
        rw [getD_set_ne false (fun e => this e.symm), hst t2 q hq]
      · rw [map_same ho]
        · exact hS
        · exact fun hmem => hc (List.mem_of_mem_take hmem)
  · have all : ∀ j, j < l.length → done.getD j false = true := fun j hj => hall j (by simpa using hj)
    obtain ⟨s, hsl, hst, hS⟩ := inv.stage
    have : s = ch.length := by
      rcases Nat.lt_or_ge s ch.length with c | c
      · have hi := jS ch hC ch[s] (List.getElem_mem c)
        have := (hst s ch[s] (List.getElem?_eq_getElem c)).1 (hall _ hi)
        omega
      · omega
    rw [this, List.take_length] at hS
    exact fin a w ⟨inv.beside.defers, inv.beside.size, fun t ht => inv.beside.same t fun j q hj hq hd => by
      have : lR l.toArray t = true := by
        unfold lR; rw [Array.any_eq_true']; exact ⟨q, Array.mem_of_getElem? hq, by rw [hd]; simp⟩
      rw [this] at ht; cases ht⟩ (fun j hj => inv.vals j (all j hj)) hS
theorem nE {S : Value → World → Prop} {p : Value → Prop} {o : Oper} {a : Act} {w : World} {w' : World} (hr : (execOp a.eval o).run P w = .ok .skip w') (hv : p undef) (hS : S undef w') : Gl P S p o a w := by
  intro K R hK; unfold Oper.wp; rw [hr]; exact hK undef w' hv hS (fun _ => rfl)
structure Stage where
  c : List Nat → List Value → Prop
  H : List Nat → List Value → List Th
def Stages (w0 : World) (l : List Stage) (ys : List Value) (w : World) : Prop := match l[ys.length]? with
  | some s => ∃ gs, s.c gs ys ∧ Own w0 (s.H gs ys) w
  | none => False
theorem Stages.kept (w0 : World) (l : List Stage) (ys : List Value) (w : World) (h : Stages w0 l ys w) : Kept w0 w := by
  unfold Stages at h
  cases hl : l[ys.length]? with
  | none => rw [hl] at h; cases h
  | some s => rw [hl] at h; obtain ⟨_, _, o⟩ := h; exact o.kept
theorem Stages.of {w0 : World} {l : List Stage} {G : World → Prop} (hs : ∀ s ∈ l, ∀ gs ys w, Own w0 (s.H gs ys) w → G w) (ys : List Value) (w : World) (h : Stages w0 l ys w) : G w := by
  unfold Stages at h
  cases hl : l[ys.length]? with
  | none => rw [hl] at h; cases h
  | some s => rw [hl] at h; obtain ⟨_, _, o⟩ := h; exact hs s (List.mem_of_getElem? hl) _ _ _ o
theorem eQ {w0 : World} {s : Stage} {l : List Stage} {G : World → Prop} (h : ∀ gs ys w, Own w0 (s.H gs ys) w → G w) (t : ∀ s ∈ l, ∀ gs ys w, Own w0 (s.H gs ys) w → G w) : ∀ q ∈ s :: l, ∀ gs ys w, Own w0 (q.H gs ys) w → G w := fun q hq => (List.mem_cons.1 hq).elim (fun e => by rw [e]; exact h) (t q)
theorem jU {w0 : World} {G : World → Prop} : ∀ q ∈ ([] : List Stage), ∀ gs ys w, Own w0 (q.H gs ys) w → G w := fun q hq => by cases hq
theorem Stages.drew (w0 : World) (l : List Stage) (ys : List Value) (w : World) (h : Stages w0 l ys w) : Stages w0 l ys { w with drawn := w.drawn + 1 } := by
  unfold Stages at h ⊢
  cases hl : l[ys.length]? with
  | none => rw [hl] at h; cases h
  | some s => rw [hl] at h; obtain ⟨gs, hc, o⟩ := h; exact ⟨gs, hc, o.keep (Kept.refl w).drew⟩
theorem oy {Q : Exit → Act → World → Prop} {a : Act} {w : World} (M : Act → World → Prop) (hm : M a w) (h : ∀ b u, M b u → Q .normal b u) : Q .normal a w := h a w hm
theorem fC {ps : List (Value → Prop)} {o : Oper} {a : Act} (hd : ∀ e ∈ o.after, Region.binds .any e = true → Ps ps e.on (At ops a e.on)) (j : Nat) (h : (o.after.toList.any fun e => Region.binds .any e && e.on == j) = true) : Ps ps j (At ops a j) := by
  rw [List.any_eq_true] at h; obtain ⟨e, he, hb⟩ := h; rw [Array.mem_toList_iff] at he; rw [Bool.and_eq_true, beq_iff_eq] at hb; have := hd e he hb.1
  rwa [hb.2] at this
end
end

section
open Go.RowKit
def bT (cs : Array Value) : Nat → List Value → Array Value
  | _, [] => cs
  | i, v :: r => bT (cs.setIfInBounds i v) (i + 1) r
def bU (w : World) (g : Nat) : Nat → List Value → World
  | _, [] => w
  | i, v :: r => bU (w.setCell ⟨g, i, none⟩ v) g (i + 1) r
section
variable {P : Program} {o : Oper} {a : Act} {w w0 : World} {H : List Th} {g off : Nat} {t T : TypeId} {cs : Array Value}
theorem Own.put (h : Own w0 H w) (k : Nat) (e : H[k]? = some (Th.obj g (.cells cs t (0, 0)))) (i : Nat) (vs : List Value) : Own w0 (H.set k (Th.obj g (.cells (bT cs i vs) t (0, 0)))) (bU w g i vs) := by
  induction vs generalizing w H cs i with
  | nil =>
    have hk : k < H.length := (List.getElem?_eq_some_iff.1 e).1
    have : H.set k (Th.obj g (.cells cs t (0, 0))) = H := by
      rw [← (List.getElem?_eq_some_iff.1 e).2]; exact List.set_getElem_self hk
    show Own w0 (H.set k (Th.obj g (.cells cs t (0, 0)))) w; rw [this]; exact h
  | cons v r ih =>
    have hk : k < H.length := (List.getElem?_eq_some_iff.1 e).1; have h1 := h.cell k e i v; have := ih h1 (List.getElem?_set_self hk) (i + 1); rw [List.set_set] at this; exact this
theorem ia (i : Nat) : (⟨g, off, none⟩ : Addr).add i = ⟨g, off + i, none⟩ := by unfold Addr.add; split <;> simp_all
theorem iw : ∀ (vs : List Value) (i : Nat) (w : World) (cs : Array Value), Box w g t cs → (vs.all fun v => v.oneCell') = true → off + i + vs.length ≤ cs.size → (storeCells ⟨g, off, none⟩ vs i).run P w = .ok () (bU w g (off + i) vs)
  | [], i, w, cs, _, _, _ => rfl
  | v :: r, i, w, cs, bx, h1, hl => by
    simp only [List.all_cons, Bool.and_eq_true] at h1
    simp only [List.length_cons] at hl
    have hin : off + i < cs.size := by omega
    have hc : w.cell? ⟨g, off + i, none⟩ = some cs[off + i] := by rw [bx.cell, Array.getElem?_eq_getElem hin]
    have hf : w.frozen? ⟨g, off + i, none⟩ = false := bx.loose _; have ih := iw r (i + 1) (w.setCell ⟨g, off + i, none⟩ v) _ (Box.at_ bx (off + i) v) h1.2 (by rw [Array.size_setIfInBounds]; omega); unfold storeCells; rw [Sem.run_bind, ia]
    have hs : (store ⟨g, off + i, none⟩ v).run P w = .ok () (w.setCell ⟨g, off + i, none⟩ v) := by
      cases v with
      | agg _ => exact absurd h1.1 (by simp [Value.oneCell'])
      | tuple _ => exact absurd h1.1 (by simp [Value.oneCell'])
      | _ => simp [store, Sem.run, hc, hf]
    rw [hs, Result.andThen_ok, ih]; show Result.ok () (bU (w.setCell ⟨g, off + i, none⟩ v) g (off + (i + 1)) r) = _; rw [show off + (i + 1) = off + i + 1 by omega]
    rfl
theorem fS (bx : Box w g t cs) : ∀ (n i : Nat) (acc : Array Value), off + i + n ≤ cs.size → (loadCellsFrom ⟨g, off, none⟩ i n acc).run P w = .ok (acc ++ ((cs.toList.drop (off + i)).take n).toArray) w
  | 0, i, acc, _ => by simp [loadCellsFrom, Sem.run_pure]
  | n + 1, i, acc, h => by
    have hin : off + i < cs.size := by omega
    have hc : w.cell? ⟨g, off + i, none⟩ = some cs[off + i] := by rw [bx.cell, Array.getElem?_eq_getElem hin]
    have ih := fS bx n (i + 1) (acc.push cs[off + i]) (by omega); unfold loadCellsFrom; rw [Sem.run_bind, ia]; have hl : (load ⟨g, off + i, none⟩).run P w = .ok cs[off + i] w := by simp [load, Sem.run, hc]
    rw [hl, Result.andThen_ok, ih, show off + (i + 1) = off + i + 1 by omega]
    congr 1
    have hin' : off + i < cs.toList.length := by rw [Array.length_toList]; exact hin
    rw [List.drop_eq_getElem_cons hin', List.take_succ_cons, Array.getElem_toList]; apply Array.ext'
    simp
theorem nF {x : Operand} (n : Nat) {vs : List Value} (ho : o.op = .load T x) (ha : (isAgg T).run P w = .ok true w) (hs : (sizeOf T).run P w = .ok n w) (hx : a.eval x = .pointer (some ⟨g, off, none⟩)) (bx : Box w g t cs) (hb : off + n ≤ cs.size) (hv : (cs.toList.drop off).take n = vs) : (execOp a.eval o).run P w = .ok (.value (.agg vs.toArray)) w := by
  subst hv; have hl := fS (P := P) (off := off) bx n 0 #[] (by omega); unfold execOp
  simp only [ho, hx, Instr.loadAt, Instr.sureAddr, loadVar, loadCells, Sem.run_bind, Sem.run_pure, Result.andThen_ok, ha, hs, if_true, hl]
  simp
theorem kE {x : Operand} {v : Value} (ho : o.op = .load T x) (ha : (isAgg T).run P w = .ok false w) (hx : a.eval x = .pointer (some ⟨g, off, none⟩)) (hc : w.cell? ⟨g, off, none⟩ = some v) : (execOp a.eval o).run P w = .ok (.value v) w := by
  have hl : (load ⟨g, off, none⟩).run P w = .ok v w := by simp [load, Sem.run, hc]
  unfold execOp
  simp only [ho, hx, Instr.loadAt, Instr.sureAddr, loadVar, Sem.run_bind, Sem.run_pure, Result.andThen_ok, ha, Bool.false_eq_true, if_false, hl]
theorem dY {x : Operand} {v : Value} (ho : o.op = .load T x) (ha : (isAgg T).run P w = .ok false w) (hx : a.eval x = .pointer (some ⟨g, off, none⟩)) (bx : Box w g t cs) (hc : cs[off]? = some v) : (execOp a.eval o).run P w = .ok (.value v) w := kE ho ha hx ((bx.cell off).trans hc)
theorem fT {x y : Operand} {v : Value} (ho : o.op = .store T x y) (hx : a.eval x = .pointer (some ⟨g, off, none⟩)) (hy : a.eval y = v) (hs : (sizeOf T).run P w = .ok v.cells.size w) (bx : Box w g t cs) (h1 : (v.cells.toList.all fun v => v.oneCell') = true) (hb : off + v.cells.toList.length ≤ cs.size) : (execOp a.eval o).run P w = .ok .skip (bU w g off v.cells.toList) := by
  have hr := iw (P := P) (off := off) v.cells.toList 0 w cs bx h1 (by omega); rw [Nat.add_zero] at hr; unfold execOp
  simp only [ho, hx, hy, Instr.storeAt, Instr.sureAddr, storeVar, Sem.run_bind, Sem.run_pure, Result.andThen_ok, hs, ne_eq, not_true_eq_false, if_false, hr]
/-! what is reckoned from values alone: the run is the kernel's to see -/
theorem aE {x : Operand} {i : Nat} {u v : Value} (ho : o.op = .fieldAddr T x i) (hx : a.eval x = u) (h : (Instr.fieldAt T u i).run P w = .ok v w) : (execOp a.eval o).run P w = .ok (.value v) w := by
  unfold execOp; simp only [ho, hx, Sem.run_bind, Sem.run_pure, h, Result.andThen_ok]
theorem eK {x y : Operand} {u z v : Value} (ho : o.op = .indexAddr T x y) (hx : a.eval x = u) (hy : a.eval y = z) (h : (Instr.indexAt T u z).run P w = .ok v w) : (execOp a.eval o).run P w = .ok (.value v) w := by
  unfold execOp; simp only [ho, hx, hy, Sem.run_bind, Sem.run_pure, h, Result.andThen_ok]
theorem Dp {x : Operand} {lo hi mx : Option Operand} {u v : Value} {l h m : Option Value} (ho : o.op = .slice T x lo hi mx) (hx : a.eval x = u) (hl : lo.map a.eval = l) (hh : hi.map a.eval = h) (hm : mx.map a.eval = m) (hr : (Instr.sliceAt T u l h m).run P w = .ok v w) : (execOp a.eval o).run P w = .ok (.value v) w := by
  unfold execOp; simp only [ho, hx, hl, hh, hm, Sem.run_bind, Sem.run_pure, hr, Result.andThen_ok]
theorem tW {x : Operand} {i : Nat} {u v : Value} (ho : o.op = .extract x i) (hx : a.eval x = u) (h : (Instr.extract u i).run P w = .ok v w) : (execOp a.eval o).run P w = .ok (.value v) w := by
  unfold execOp; simp only [ho, hx, Sem.run_bind, Sem.run_pure, h, Result.andThen_ok]
theorem cG {ps : Array (Nat × Operand)} {us : Array (Nat × Value)} {v : Value} (ho : o.op = .build T ps) (hx : (ps.map fun (i, x) => (i, a.eval x)) = us) (h : (Instr.build T us).run P w = .ok v w) : (execOp a.eval o).run P w = .ok (.value v) w := by
  unfold execOp; simp only [ho, hx, Sem.run_bind, Sem.run_pure, h, Result.andThen_ok]
theorem dv {b : Obj} (ho : o.op = .alloc T) (h : (Instr.alloc T true (.tuple #[])).run P w = .ok (.pointer (some ⟨w.heap.size, 0, none⟩)) (w.alloc b)) : (execOp a.eval o).run P w = .ok (.value (.pointer (some ⟨w.heap.size, 0, none⟩))) (w.alloc b) := by
  unfold execOp; simp only [ho, Sem.run_bind, Sem.run_pure, h, Result.andThen_ok]
theorem I3 {x : Operand} {u : Value} {b : Obj} (ho : o.op = .box T x) (hx : a.eval x = u) (h : (Instr.box T u).run P w = .ok (.pointer (some ⟨w.heap.size, 0, none⟩)) (w.alloc b)) : (execOp a.eval o).run P w = .ok (.value (.pointer (some ⟨w.heap.size, 0, none⟩))) (w.alloc b) := by
  unfold execOp; simp only [ho, hx, Sem.run_bind, Sem.run_pure, h, Result.andThen_ok]
theorem eR {n : Nat} {ps : Array (Nat × Operand)} {us : Array (Nat × Value)} {b : Obj} (ho : o.op = .buildSlice T n ps) (hx : (ps.map fun (i, x) => (i, a.eval x)) = us) (h : (Instr.buildSlice T n us).run P w = .ok (.slice (some ⟨w.heap.size, 0, none⟩) n n) (w.alloc b)) : (execOp a.eval o).run P w = .ok (.value (.slice (some ⟨w.heap.size, 0, none⟩) n n)) (w.alloc b) := by
  unfold execOp; simp only [ho, hx, Sem.run_bind, Sem.run_pure, h, Result.andThen_ok]
end
end
section
open Go.RowKit
/-! results -/
section
variable {P : Program} {a : Act} {w : World}
def fh (a : Act) : ResultVar → Sem Value
  | .tmp t => pure (a.tmps.getD t undef)
  | .cell x t => do loadVar t (← asAddr (a.tmps.getD x undef))
inductive ResL (P : Program) (a : Act) (w : World) : List ResultVar → List Value → Prop
  | nil : ResL P a w [] []
  | cons {r : ResultVar} {rs : List ResultVar} {v : Value} {vs : List Value} (h : (fh a r).run P w = .ok v w) (t : ResL P a w rs vs) : ResL P a w (r :: rs) (v :: vs)
theorem Eg {t : Tmp} {v : Value} (e : a.eval (.tmp t) = v) : (fh a (.tmp t)).run P w = .ok v w := by subst e; rfl
theorem oA {t : Tmp} {T : TypeId} {g n : Nat} {ty : TypeId} {cs : Array Value} (vs : List Value) (e : a.eval (.tmp t) = .pointer (some ⟨g, 0, none⟩)) (ha : (isAgg T).run P w = .ok true w) (hs : (sizeOf T).run P w = .ok n w) (bx : Box w g ty cs) (hb : 0 + n ≤ cs.size) (hv : cs.toList.take n = vs) : (fh a (.cell t T)).run P w = .ok (.agg vs.toArray) w := by
  subst hv; have hl := fS (P := P) (off := 0) bx n 0 #[] (by omega); have e' : a.tmps.getD t undef = .pointer (some ⟨g, 0, none⟩) := e; unfold fh
  simp only [e', asAddr, loadVar, loadCells, Sem.run_bind, Sem.run_pure, Result.andThen_ok, ha, hs, if_true, hl]
  simp
theorem ResL.run {l : List ResultVar} {vs : List Value} (h : ResL P a w l vs) : (l.mapM (fh a)).run P w = .ok vs w := by
  induction h with
  | nil => rfl
  | cons h t ih => rw [List.mapM_cons, Sem.run_bind, h, Result.andThen_ok, Sem.run_bind, ih]; rfl
def Dq : List Value → Value
  | [x] => x
  | vs => .tuple vs.toArray
theorem ac {fn : Func} {l : List ResultVar} {vs : List Value} {v : Value} (h : fn.results = l.toArray) (hl : ResL P a w l vs) (hv : v = Dq vs) {R : Ending → World → Prop} (hd : a.defers = []) (hR : R (.returned v) w) : bodyPost P fn R .ret a w := by
  refine bodyPost_ret ?_ hd hR
  have hm : (l.toArray.mapM (fh a)).run P w = .ok vs.toArray w := by
    rw [List.mapM_toArray, show (List.toArray <$> l.mapM (fh a) : Sem (Array Value)) = (l.mapM (fh a)) >>= fun x => pure x.toArray from rfl, Sem.run_bind, hl.run]
    rfl
  have e : results fn a.tmps = (fn.results.mapM (fh a)) >>= fun vs => pure (if h : vs.size = 1 then vs[0] else .tuple vs) := by
    unfold results
    congr 1
  rw [e, h, Sem.run_bind, hm, Result.andThen_ok, hv]
  match vs with
  | [] => rfl
  | [x] => rfl
  | x :: y :: r => simp [Sem.run_pure, Dq]
end
