/- Small texts together: RTyped, RTyped3. -/
import Derived.Test.YtbkjdcpfkepheaaGreatDoorCBunV
import Derived.Orders
import Derived.StillTail
set_option linter.unusedVariables false
set_option linter.unusedSimpArgs false
namespace Go.Proofs.YtbkjdcpfkepheaaGreatDoor
section
open Go.RowKit
section
variable {P : Program} {ops : Array Oper}
def At (ops : Array Oper) (a : Act) (j : Nat) : Value := match (ops[j]?).bind (·.dst) with
  | some t => a.tmps.getD t undef
  | none => undef
def lR (ops : Array Oper) (t : Nat) : Bool := ops.any fun o => o.dst == some t
def tV (ops : Array Oper) (size : Nat) : Bool :=
  Region.noSelect ops && (List.range ops.size).all fun i => match ops[i]? with
    | none => true
    | some o => (match o.dst with
      | none => false
      | some t => decide (t < size) && (List.range i).all fun j => ((ops[j]?).bind (·.dst)) != some t) && o.after.all fun e => !Region.binds .any e || decide (e.on < i)
structure Beside (ops : Array Oper) (a0 a : Act) : Prop where
  defers : a.defers = a0.defers
  size : a.tmps.size = a0.tmps.size
  same : ∀ t, lR ops t = false → a.tmps.getD t undef = a0.tmps.getD t undef
theorem cI {a : Act} {t : Nat} {v : Value} (h : t < a.tmps.size) : (a.put (some t) v).tmps.getD t undef = v := by
  simp [Act.put, Array.getD, h]
theorem bi {a : Act} {t u : Nat} {v : Value} (h : t ≠ u) : (a.put (some t) v).tmps.getD u undef = a.tmps.getD u undef := by
  simp only [Act.put, Array.getD_eq_getD_getElem?, Array.getElem?_setIfInBounds_ne h]
structure InvT (ops : Array Oper) (V : Nat → Value → World → Prop) (w0 : World) (a0 : Act) (done : Array Bool) (a : Act) (w : World) : Prop where
  len : done.size = ops.size
  kept : Kept w0 w
  beside : Beside ops a0 a
  vals : ∀ j, done.getD j false = true → V j (At ops a j) w
theorem jr {size : Nat} (hB : tV ops size = true) {i : Nat} {o : Oper} (h : ops[i]? = some o) : ∃ t, o.dst = some t ∧ t < size ∧ (∀ j, j < i → (ops[j]?).bind (·.dst) ≠ some t) ∧ ∀ e ∈ o.after, Region.binds .any e = true → e.on < i := by
  simp only [tV, Bool.and_eq_true, List.all_eq_true, List.mem_range] at hB
  have hi : i < ops.size := (Array.getElem?_eq_some_iff.1 h).1; have := hB.2 i hi; rw [h] at this
  simp only at this
  cases hd : o.dst with
  | none => rw [hd] at this; simp at this
  | some t =>
    rw [hd] at this
    simp only [Bool.and_eq_true, decide_eq_true_eq, List.all_eq_true, List.mem_range, bne_iff_ne, ne_eq] at this
    obtain ⟨⟨h1, h2⟩, h3⟩ := this; refine ⟨t, rfl, h1, h2, fun e he hb => ?_⟩; have := Array.all_eq_true_iff_forall_mem.1 h3 e he; rw [hb] at this
    simpa using this
theorem sm {size : Nat} (hB : tV ops size = true) {i j : Nat} {o q : Oper} (h : ops[i]? = some o) (g : ops[j]? = some q) (ne : i ≠ j) : o.dst ≠ q.dst := by
  obtain ⟨t, ht, _, h1, _⟩ := jr hB h; obtain ⟨u, hu, _, h2, _⟩ := jr hB g; rw [ht, hu]; intro e
  cases e
  rcases Nat.lt_or_gt_of_ne ne with c | c
  · exact h2 i c (by rw [h]; exact ht)
  · exact h1 j c (by rw [g]; exact hu)
theorem InvT.put {V : Nat → Value → World → Prop} (mono : ∀ j v w w', V j v w → Kept w w' → V j v w') {w0 w w' : World} {a0 a : Act} {done : Array Bool} (hB : tV ops a0.tmps.size = true) (inv : InvT ops V w0 a0 done a w) {i : Nat} {o : Oper} (h : ops[i]? = some o) {v : Value} (hv : V i v w') (k : Kept w w') :
    InvT ops V w0 a0 (done.setIfInBounds i true) (a.put o.dst v) w' := by
  obtain ⟨t, ht, hs, _, _⟩ := jr hB h; have sz : t < a.tmps.size := by rw [inv.beside.size]; exact hs
  refine ⟨by rw [Array.size_setIfInBounds]; exact inv.len, inv.kept.trans k, ⟨?_, ?_, fun u hu => ?_⟩, fun j hj => ?_⟩
  · rw [ht]; exact inv.beside.defers
  · rw [ht]; simp only [Act.put, Array.size_setIfInBounds]; exact inv.beside.size
  · rw [ht, bi, inv.beside.same u hu]
    rintro rfl
    have : lR ops t = true := by
      unfold lR; rw [Array.any_eq_true']; exact ⟨o, Array.mem_of_getElem? h, by rw [ht]; simp⟩
    rw [this] at hu; cases hu
  · by_cases e : i = j
    · subst e
      have : At ops (a.put o.dst v) i = v := by
        unfold At; rw [h]
        simp only [Option.bind_some, ht]
        exact cI sz
      rw [this]; exact hv
    · rw [getD_set_ne false e] at hj
      have old := mono j _ _ _ (inv.vals j hj) k
      have hjl : j < ops.size := by
        rw [← inv.len]; rcases Nat.lt_or_ge j done.size with c | c
        · exact c
        · rw [Array.getD_eq_getD_getElem?, Array.getElem?_eq_none c] at hj; cases hj
      have hq : ops[j]? = some ops[j] := Array.getElem?_eq_getElem hjl
      have same : At ops (a.put o.dst v) j = At ops a j := by
        unfold At; rw [hq]
        simp only [Option.bind_some]
        obtain ⟨u, hu, _⟩ := jr hB hq; rw [hu, ht]; have ne := sm hB h hq e; rw [hu, ht] at ne; exact bi (fun x => ne (by rw [x]))
      rw [same]; exact old
end
end

section
open Go.RowKit
section
variable {P : Program} {ops : Array Oper}
def du (vs : Nat → Value) : List Oper → Nat → Act → Act
  | [], _, a => a
  | o :: l, k, a => du vs l (k + 1) (a.put o.dst (vs k))
theorem fP (vs : Nat → Value) : ∀ (l : List Oper) (k : Nat) (a : Act), (du vs l k a).defers = a.defers
  | [], _, _ => rfl
  | o :: l, k, a => by
    rw [du, fP vs l]; unfold Act.put; split <;> rfl
theorem iE (vs : Nat → Value) : ∀ (l : List Oper) (k : Nat) (a : Act), (du vs l k a).tmps.size = a.tmps.size
  | [], _, _ => rfl
  | o :: l, k, a => by
    rw [du, iE vs l]; unfold Act.put; split
    · simp
    · rfl
theorem fg (vs : Nat → Value) : ∀ (l : List Oper) (k : Nat) (a : Act) (t : Nat), (∀ o ∈ l, o.dst ≠ some t) → (du vs l k a).tmps.getD t undef = a.tmps.getD t undef
  | [], _, _, _, _ => rfl
  | o :: l, k, a, t, h => by
    rw [du, fg vs l _ _ _ (fun q hq => h q (List.mem_cons_of_mem _ hq))]; have ho := h o List.mem_cons_self
    cases hd : o.dst with
    | none => rfl
    | some u => exact bi (fun e => ho (by rw [hd, e]))
theorem lS (vs : Nat → Value) : ∀ (l : List Oper) (k : Nat) (a : Act) (i : Nat) (o : Oper) (t : Nat), l[i]? = some o → o.dst = some t → t < a.tmps.size → (∀ j q, i < j → l[j]? = some q → q.dst ≠ some t) → (du vs l k a).tmps.getD t undef = vs (k + i)
  | [], _, _, _, _, _, h, _, _, _ => by simp at h
  | o :: l, k, a, 0, q, t, h, hd, ht, hn => by
    simp at h
    subst h; rw [du, fg vs l, hd]
    · exact cI ht
    · intro q hq
      obtain ⟨j, hj, e⟩ := List.getElem_of_mem hq; exact hn (j + 1) q (by omega) (by rw [List.getElem?_cons_succ, List.getElem?_eq_getElem hj, e])
  | o :: l, k, a, i + 1, q, t, h, hd, ht, hn => by
    rw [List.getElem?_cons_succ] at h; rw [du, lS vs l (k + 1) _ i q t h hd (by unfold Act.put; split <;> simp [ht]) (fun j r hj hr => hn (j + 1) r (by omega) (by rw [List.getElem?_cons_succ]; exact hr))]
    congr 1; omega
def eO (ops : Array Oper) (n size : Nat) : Bool :=
  Region.noSelect ops && decide (n ≤ ops.size) && (List.range n).all fun i => match ops[i]? with
    | none => true
    | some o => (match o.dst with
      | none => false
      | some t => decide (t < size) && (List.range n).all fun j => i == j || ((ops[j]?).bind (·.dst)) != some t) && o.after.toList.all fun e => !Region.binds .any e || decide (e.on < i)
def fQ (ops : Array Oper) (n : Nat) : Array Bool := (List.replicate n true ++ List.replicate (ops.size - n) false).toArray
def mV (ops : Array Oper) (n : Nat) : Bool := (n == ops.size || (Region.sinkB .any ops n && Region.chainB .any ops n)) && Region.seqB .any ops (ops.size - n) n (fQ ops n)
structure InvF (ops : Array Oper) (n : Nat) (V : Nat → Value → World → Prop) (fresh : Nat → Bool) (w0 : World) (a0 : Act) (done : Array Bool) (a : Act) (w : World) : Prop where
  head : HeadInv .any ops n done
  kept : Kept w0 w
  defers : a.defers = a0.defers
  size : a.tmps.size = a0.tmps.size
  same : ∀ t, (∀ j o, j < n → ops[j]? = some o → o.dst ≠ some t) → a.tmps.getD t undef = a0.tmps.getD t undef
  vals : ∀ j, j < n → done.getD j false = true → V j (At ops a j) w
  apart : ∀ j k, j < n → k < n → j ≠ k → fresh j = true → fresh k = true → done.getD j false = true → done.getD k false = true → At ops a j ≠ At ops a k
theorem fR {n size : Nat} (hB : eO ops n size = true) {i : Nat} {o : Oper} (hi : i < n) (h : ops[i]? = some o) : ∃ t, o.dst = some t ∧ t < size ∧ (∀ j q, j < n → j ≠ i → ops[j]? = some q → q.dst ≠ some t) ∧ ∀ e ∈ o.after, Region.binds .any e = true → e.on < i := by
  simp only [eO, Bool.and_eq_true, List.all_eq_true, List.mem_range, decide_eq_true_eq] at hB
  have := hB.2 i hi; rw [h] at this
  simp only at this
  cases hd : o.dst with
  | none => rw [hd] at this; simp at this
  | some t =>
    rw [hd] at this
    simp only [Bool.and_eq_true, decide_eq_true_eq, List.all_eq_true, List.mem_range, Bool.or_eq_true, beq_iff_eq, bne_iff_ne, ne_eq] at this
    obtain ⟨⟨h1, h2⟩, h3⟩ := this; refine ⟨t, rfl, h1, fun j q hj ne hq => ?_, fun e he hb => ?_⟩
    · rcases h2 j hj with e | e
      · exact absurd e.symm ne
      · rw [hq] at e; exact e
    · have := h3 e (Array.mem_toList_iff.2 he)
      rw [hb] at this
      simpa using this
theorem InvF.put {V : Nat → Value → World → Prop} {fresh : Nat → Bool} {n : Nat} (mono : ∀ j v w w', V j v w → Kept w w' → V j v w') (fr : ∀ j v w, fresh j = true → V j v w → ∃ g, v = .pointer (some ⟨g, 0, none⟩) ∧ g < w.heap.size) {w0 w w' : World} {a0 a : Act} {done : Array Bool} (hB : eO ops n a0.tmps.size = true)
    (inv : InvF ops n V fresh w0 a0 done a w) {i : Nat} {o : Oper} (hi : i < n) (ri : i ∈ Region.ready .any ops done) (h : ops[i]? = some o) {v : Value} (hv : V i v w') (k : Kept w w') (hf : fresh i = true → ∃ g, v = .pointer (some ⟨g, 0, none⟩) ∧ w.heap.size ≤ g) :
    InvF ops n V fresh w0 a0 (done.setIfInBounds i true) (a.put o.dst v) w' := by
  obtain ⟨t, ht, hs, hd, _⟩ := fR hB hi h; have sz : t < a.tmps.size := by rw [inv.size]; exact hs
  have atI : At ops (a.put o.dst v) i = v := by
    unfold At; rw [h]
    simp only [Option.bind_some, ht]
    exact cI sz
  have atJ : ∀ j, j < n → j ≠ i → At ops (a.put o.dst v) j = At ops a j := fun j hj ne => by
    unfold At
    cases hq : ops[j]? with
    | none => rfl
    | some q =>
      simp only [Option.bind_some]
      cases hu : q.dst with
      | none => rfl
      | some u =>
        simp only
        rw [ht]; exact bi (fun e => hd j q hj ne hq (by rw [hu, e]))
  have old : ∀ j, j ≠ i → (done.setIfInBounds i true).getD j false = true → done.getD j false = true := fun j ne hj => by
    rwa [getD_set_ne false (fun e => ne e.symm)] at hj
  refine ⟨inv.head.set ri hi, inv.kept.trans k, ?_, ?_, fun u hu => ?_, fun j hj hdj => ?_, fun j q hj hq ne fj fq dj dq => ?_⟩
  · rw [ht]; exact inv.defers
  · rw [ht]; simp only [Act.put, Array.size_setIfInBounds]; exact inv.size
  · rw [ht, bi, inv.same u hu]
    rintro rfl; exact hu i o hi h ht
  · by_cases e : j = i
    · subst e; rw [atI]; exact hv
    · rw [atJ j hj e]; exact mono j _ _ _ (inv.vals j hj (old j e hdj)) k
  · by_cases ej : j = i
    · subst ej
      have eq : q ≠ j := fun e => ne e.symm; rw [atI, atJ q hq eq]; obtain ⟨g, hg, hge⟩ := hf fj; obtain ⟨g2, hg2, hlt⟩ := fr q _ _ fq (inv.vals q hq (old q eq dq)); rw [hg, hg2]; intro e
      cases e
      omega
    · by_cases eq : q = i
      · subst eq
        rw [atI, atJ j hj ej]; obtain ⟨g, hg, hge⟩ := hf fq; obtain ⟨g2, hg2, hlt⟩ := fr j _ _ fj (inv.vals j hj (old j ej dj)); rw [hg, hg2]; intro e
        cases e
        omega
      · rw [atJ j hj ej, atJ q hq eq]
        exact inv.apart j q hj hq ne fj fq (old j ej dj) (old q eq dq)
theorem InvF.frame {V : Nat → Value → World → Prop} {fresh : Nat → Bool} {n : Nat} {w0 w : World} {a0 a : Act} {done : Array Bool} (hB : eO ops n a0.tmps.size = true) (inv : InvF ops n V fresh w0 a0 done a w) : a = du (At ops a) (ops.toList.take n) 0 a0 := by
  have hn : n ≤ ops.size := by
    simp only [eO, Bool.and_eq_true, decide_eq_true_eq] at hB
    exact hB.1.2
  have key : ∀ t, t < a.tmps.size → a.tmps.getD t undef = (du (At ops a) (ops.toList.take n) 0 a0).tmps.getD t undef := by
    intro t ht
    by_cases h : ∃ j o, j < n ∧ ops[j]? = some o ∧ o.dst = some t
    · obtain ⟨j, o, hj, ho, hd⟩ := h
      obtain ⟨u, hu, hs, hoth, _⟩ := fR hB hj ho; rw [hd] at hu
      cases hu
      have hl : (ops.toList.take n)[j]? = some o := by rw [List.getElem?_take_of_lt hj, Array.getElem?_toList]; exact ho
      rw [lS _ _ 0 a0 j o t hl hd hs]
      · rw [Nat.zero_add]
        unfold At; rw [ho]
        simp only [Option.bind_some, hd]
      · intro k q hk hq
        have hkn : k < n := by
          rcases Nat.lt_or_ge k n with c | c
          · exact c
          · rw [List.getElem?_eq_none (by rw [List.length_take]; omega)] at hq; cases hq
        rw [List.getElem?_take_of_lt hkn, Array.getElem?_toList] at hq; exact hoth k q hkn (by omega) hq
    · have h2 : ∀ j o, j < n → ops[j]? = some o → o.dst ≠ some t := fun j o hj ho hd => h ⟨j, o, hj, ho, hd⟩
      rw [fg, inv.same t h2]; intro o ho; obtain ⟨j, hj, e⟩ := List.getElem_of_mem ho; have hjn : j < n := by rw [List.length_take] at hj; omega
      refine h2 j o hjn ?_; rw [← e, List.getElem_take, Array.getElem_toList]; exact Array.getElem?_eq_getElem _
  have hsz : (du (At ops a) (ops.toList.take n) 0 a0).tmps.size = a.tmps.size := by rw [iE, inv.size]
  have e1 : a.tmps = (du (At ops a) (ops.toList.take n) 0 a0).tmps := by
    refine Array.ext hsz.symm fun i h1 h2 => ?_; have := key i h1
    simpa [Array.getD, h1, h2] using this
  have e2 : a.defers = (du (At ops a) (ops.toList.take n) 0 a0).defers := by rw [fP, inv.defers]
  revert e1 e2
  generalize du (At ops a) (ops.toList.take n) 0 a0 = b; intro e1 e2
  cases a; cases b
  simp only at e1 e2
  subst e1; subst e2
  rfl
theorem vJ {n size : Nat} (hB : eO ops n size = true) {done : Array Bool} (hsz : done.size = ops.size) {j : Nat} (hj : j < n) (hd : done.getD j false = false) : ∃ i, i < n ∧ i ∈ Region.ready .any ops done := by
  have hn : n ≤ ops.size := by
    simp only [eO, Bool.and_eq_true, decide_eq_true_eq] at hB
    exact hB.1.2
  induction j using Nat.strongRecOn with
  | _ j ih =>
    have hjo : j < ops.size := by omega
    have hq : ops[j]? = some ops[j] := Array.getElem?_eq_getElem hjo; obtain ⟨_, _, _, _, h4⟩ := fR hB hj hq
    by_cases h : ∃ e ∈ ops[j].after, Region.binds .any e = true ∧ done.getD e.on false = false
    · obtain ⟨e, he, hb, hf⟩ := h
      have := h4 e he hb; exact ih e.on this (by omega) hf
    · refine ⟨j, hj, ?_⟩
      rw [mem_ready]; refine ⟨getD_in (by omega) hd, _, hq, fun e he hb => ?_⟩
      cases hf : done.getD e.on false with
      | true => rfl
      | false => exact absurd ⟨e, he, hb, hf⟩ h
theorem Bw {n : Nat} {done : Array Bool} (inv : HeadInv .any ops n done) (hn : n ≤ ops.size) (h : ∀ j, j < n → done.getD j false = true) : done = fQ ops n := by
  have hs : (fQ ops n).size = ops.size := by
    unfold fQ; rw [List.size_toArray, List.length_append, List.length_replicate, List.length_replicate]; omega
  refine Array.ext (by rw [hs]; exact inv.size) fun i h1 h2 => ?_; have hi : i < ops.size := by rw [← inv.size]; exact h1
  have e3 : (fQ ops n)[i]? = some (decide (i < n)) := by
    unfold fQ; rw [List.getElem?_toArray, List.getElem?_append, List.length_replicate]
    split
    · rename_i c
      rw [List.getElem?_replicate, if_pos c, decide_eq_true c]
    · rename_i c
      rw [List.getElem?_replicate, if_pos (by omega), decide_eq_false c]
  have e2 : (fQ ops n)[i] = decide (i < n) := by
    rw [Array.getElem?_eq_getElem h2] at e3; exact Option.some.inj e3
  rw [e2]; rcases Nat.lt_or_ge i n with c | c
  · have := h i c
    rw [decide_eq_true c]
    simpa [Array.getD, h1] using this
  · have := inv.tail i c hi
    rw [decide_eq_false (by omega)]
    simpa [Array.getD, h1] using this
end
