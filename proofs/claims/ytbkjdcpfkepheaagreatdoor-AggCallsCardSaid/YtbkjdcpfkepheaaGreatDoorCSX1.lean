/- A walk in named facts: what the operations of a region yield, in whatever order; the memory of the call's own. -/
import Derived.Test.YtbkjdcpfkepheaaGreatDoorCMixAH
import Derived.Laws.AppendOwn
namespace Go.Proofs.YtbkjdcpfkepheaaGreatDoor
section
set_option linter.unusedVariables false
set_option linter.unusedSimpArgs false
open Go.RowKit
def eP : Value → Option Nat
  | .pointer (some a) => some a.block
  | .slice (some a) _ _ => some a.block
  | .map (some b) => some b
  | _ => none
structure Yield where
  p : Value → World → Prop
  stays : ∀ v w w', p v w → Kept w w' → p v w'
  fresh : Bool
  inside : fresh = true → ∀ v w, p v w → ∃ g, eP v = some g ∧ g < w.heap.size
def Ys (l : List Yield) (j : Nat) : Value → World → Prop := match l[j]? with
  | some y => y.p
  | none => fun _ _ => True
def Fs (l : List Yield) (j : Nat) : Bool := match l[j]? with
  | some y => y.fresh
  | none => false
theorem Ys.stays {l : List Yield} {j : Nat} {v : Value} {w w' : World} (h : Ys l j v w) (k : Kept w w') : Ys l j v w' := by
  unfold Ys at h ⊢
  cases hl : l[j]? with
  | none => trivial
  | some y => rw [hl] at h; exact y.stays v w w' h k
theorem Ys.inside {l : List Yield} {j : Nat} {v : Value} {w : World} (h : Ys l j v w) (f : Fs l j = true) : ∃ g, eP v = some g ∧ g < w.heap.size := by
  unfold Ys at h; unfold Fs at f
  cases hl : l[j]? with
  | none => rw [hl] at f; cases f
  | some y => rw [hl] at h f; exact y.inside f v w h
def yV (x : Value) : Yield := ⟨fun v _ => v = x, fun _ _ _ h _ => h, false, fun h => by cases h⟩
def yNo : Yield := ⟨fun _ _ => True, fun _ _ _ h _ => h, false, fun h => by cases h⟩
def yIf (c : Prop) (y : Yield) : Yield := ⟨fun v w => (c → y.p v w) ∧ (¬ c → v = undef), fun v w w' h k => ⟨fun c => y.stays v w w' (h.1 c) k, h.2⟩, false, fun h => by cases h⟩
def I2 (base : Nat) (o : Obj) : Yield := ⟨fun v w => ∃ g, v = .pointer (some ⟨g, 0, none⟩) ∧ base ≤ g ∧ w.heap[g]? = some o, fun v w w' ⟨g, e, hb, hh⟩ k => ⟨g, e, hb, (k.block g (Array.getElem?_eq_some_iff.1 hh).1).trans hh⟩, true,
  fun _ v w ⟨g, e, _, hh⟩ => ⟨g, by rw [e]; rfl, (Array.getElem?_eq_some_iff.1 hh).1⟩⟩
def Gh (base n : Nat) (o : Obj) : Yield := ⟨fun v w => ∃ g, v = .slice (some ⟨g, 0, none⟩) n n ∧ base ≤ g ∧ w.heap[g]? = some o, fun v w w' ⟨g, e, hb, hh⟩ k => ⟨g, e, hb, (k.block g (Array.getElem?_eq_some_iff.1 hh).1).trans hh⟩, true,
  fun _ v w ⟨g, e, _, hh⟩ => ⟨g, by rw [e]; rfl, (Array.getElem?_eq_some_iff.1 hh).1⟩⟩
def Ii (base : Nat) (o : Obj) : Yield := ⟨fun v w => ∃ g, v = .map (some g) ∧ base ≤ g ∧ w.heap[g]? = some o, fun v w w' ⟨g, e, hb, hh⟩ k => ⟨g, e, hb, (k.block g (Array.getElem?_eq_some_iff.1 hh).1).trans hh⟩, true,
  fun _ v w ⟨g, e, _, hh⟩ => ⟨g, by rw [e]; rfl, (Array.getElem?_eq_some_iff.1 hh).1⟩⟩
def yP (p : Value → World → Prop) (h : ∀ v w w', p v w → Kept w w' → p v w') : Yield := ⟨p, h, false, fun h => by cases h⟩
section
variable {P : Program} {ops : Array Oper}
def cq (ops : Array Oper) (n t : Nat) : Bool := (List.range n).any fun j => ((ops[j]?).bind (·.dst)) == some t
structure BesideN (ops : Array Oper) (n : Nat) (a0 a : Act) : Prop where
  defers : a.defers = a0.defers
  size : a.tmps.size = a0.tmps.size
  same : ∀ t, cq ops n t = false → a.tmps.getD t undef = a0.tmps.getD t undef
theorem BesideN.get {n : Nat} {a0 a : Act} (b : BesideN ops n a0 a) (t : Nat) (h : cq ops n t = false) {v : Value} (e : a0.eval (.tmp t) = v) : a.eval (.tmp t) = v := (b.same t h).trans e
structure InvX (ops : Array Oper) (n : Nat) (ys : List Yield) (w0 : World) (a0 : Act) (done : Array Bool) (a : Act) (w : World) : Prop where
  len : done.size = ops.size
  kept : Kept w0 w
  beside : BesideN ops n a0 a
  vals : ∀ j, j < n → done.getD j false = true → Ys ys j (At ops a j) w
  apart : ∀ j k, j < n → k < n → j ≠ k → Fs ys j = true → Fs ys k = true → done.getD j false = true → done.getD k false = true → eP (At ops a j) ≠ eP (At ops a k)
def gp (P : Program) (ops : Array Oper) (ys : List Yield) (i : Nat) (o : Oper) (a : Act) (w : World) : Prop :=
  if Region.wanted o (yielded ops a.tmps) = true then ∀ (K : Act → World → Prop) (R : Exit → Act → World → Prop), (∀ v w', Ys ys i v w' → Kept w w' → (Fs ys i = true → ∃ g, eP v = some g ∧ w.heap.size ≤ g) → K (a.put o.dst v) w') → o.wp P a w K R else Ys ys i undef w ∧ Fs ys i = false
theorem InvX.put {ys : List Yield} {n : Nat} {w0 w w' : World} {a0 a : Act} {done : Array Bool} (hB : eO ops n a0.tmps.size = true)
    (inv : InvX ops n ys w0 a0 done a w) {i : Nat} {o : Oper} (hi : i < n) (h : ops[i]? = some o) {v : Value} (hv : Ys ys i v w') (k : Kept w w') (hf : Fs ys i = true → ∃ g, eP v = some g ∧ w.heap.size ≤ g) :
    InvX ops n ys w0 a0 (done.setIfInBounds i true) (a.put o.dst v) w' := by
  obtain ⟨t, ht, hs, hd, _⟩ := fR hB hi h; have sz : t < a.tmps.size := by rw [inv.beside.size]; exact hs
  have atI : At ops (a.put o.dst v) i = v := by
    unfold At; rw [h]
    simp only [Option.bind_some, ht]
    exact cI sz
  have atJ : ∀ j, j < n → j ≠ i → At ops (a.put o.dst v) j = At ops a j := fun j hj ne => by
    unfold At
    cases hq : ops[j]? with
    | none => rfl
    | some q =>
      simp only [Option.bind_some]
      cases hu : q.dst with
      | none => rfl
      | some u =>
        simp only
        rw [ht]; exact bi (fun e => hd j q hj ne hq (by rw [hu, e]))
  have old : ∀ j, j ≠ i → (done.setIfInBounds i true).getD j false = true → done.getD j false = true := fun j ne hj => by
    rwa [getD_set_ne false (fun e => ne e.symm)] at hj
  refine ⟨by rw [Array.size_setIfInBounds]; exact inv.len, inv.kept.trans k, ⟨?_, ?_, fun u hu => ?_⟩, fun j hj hdj => ?_, fun j q hj hq ne fj fq dj dq => ?_⟩
  · rw [ht]; exact inv.beside.defers
  · rw [ht]; simp only [Act.put, Array.size_setIfInBounds]; exact inv.beside.size
  · rw [ht, bi, inv.beside.same u hu]
    rintro rfl
    have : cq ops n t = true := by
      unfold cq; rw [List.any_eq_true]; exact ⟨i, List.mem_range.2 hi, by rw [h]; simp [ht]⟩
    rw [this] at hu; cases hu
  · by_cases e : j = i
    · subst e; rw [atI]; exact hv
    · rw [atJ j hj e]; exact (inv.vals j hj (old j e hdj)).stays k
  · by_cases ej : j = i
    · subst ej
      have eq : q ≠ j := fun e => ne e.symm; rw [atI, atJ q hq eq]; obtain ⟨g, hg, hge⟩ := hf fj; obtain ⟨g2, hg2, hlt⟩ := (inv.vals q hq (old q eq dq)).inside fq; rw [hg, hg2]; intro e
      cases e
      omega
    · by_cases eq : q = i
      · subst eq
        rw [atI, atJ j hj ej]; obtain ⟨g, hg, hge⟩ := hf fq; obtain ⟨g2, hg2, hlt⟩ := (inv.vals j hj (old j ej dj)).inside fj; rw [hg, hg2]; intro e
        cases e
        omega
      · rw [atJ j hj ej, atJ q hq eq]
        exact inv.apart j q hj hq ne fj fq (old j ej dj) (old q eq dq)
theorem BesideN.frame {n : Nat} {a0 a : Act} (hB : eO ops n a0.tmps.size = true) (b : BesideN ops n a0 a) : a = du (At ops a) (ops.toList.take n) 0 a0 := by
  have hn : n ≤ ops.size := by
    simp only [eO, Bool.and_eq_true, decide_eq_true_eq] at hB
    exact hB.1.2
  have key : ∀ t, t < a.tmps.size → a.tmps.getD t undef = (du (At ops a) (ops.toList.take n) 0 a0).tmps.getD t undef := by
    intro t ht
    by_cases h : ∃ j o, j < n ∧ ops[j]? = some o ∧ o.dst = some t
    · obtain ⟨j, o, hj, ho, hd⟩ := h
      obtain ⟨u, hu, hs, hoth, _⟩ := fR hB hj ho; rw [hd] at hu
      cases hu
      have hl : (ops.toList.take n)[j]? = some o := by rw [List.getElem?_take_of_lt hj, Array.getElem?_toList]; exact ho
      rw [lS _ _ 0 a0 j o t hl hd hs]
      · rw [Nat.zero_add]
        unfold At; rw [ho]
        simp only [Option.bind_some, hd]
      · intro k q hk hq
        have hkn : k < n := by
          rcases Nat.lt_or_ge k n with c | c
          · exact c
          · rw [List.getElem?_eq_none (by rw [List.length_take]; omega)] at hq; cases hq
        rw [List.getElem?_take_of_lt hkn, Array.getElem?_toList] at hq; exact hoth k q hkn (by omega) hq
    · have h2 : ∀ j o, j < n → ops[j]? = some o → o.dst ≠ some t := fun j o hj ho hd => h ⟨j, o, hj, ho, hd⟩
      have hw : cq ops n t = false := by
        cases hw : cq ops n t with
        | false => rfl
        | true =>
          unfold cq at hw; rw [List.any_eq_true] at hw; obtain ⟨j, hj, hd⟩ := hw; rw [List.mem_range] at hj
          cases hq : ops[j]? with
          | none => rw [hq] at hd; cases hd
          | some o => rw [hq] at hd; exact absurd (by simpa using hd) (h2 j o hj hq)
      rw [fg, b.same t hw]; intro o ho; obtain ⟨j, hj, e⟩ := List.getElem_of_mem ho; have hjn : j < n := by rw [List.length_take] at hj; omega
      refine h2 j o hjn ?_; rw [← e, List.getElem_take, Array.getElem_toList]; exact Array.getElem?_eq_getElem _
  have hsz : (du (At ops a) (ops.toList.take n) 0 a0).tmps.size = a.tmps.size := by rw [iE, b.size]
  have e1 : a.tmps = (du (At ops a) (ops.toList.take n) 0 a0).tmps := by
    refine Array.ext hsz.symm fun i h1 h2 => ?_; have := key i h1
    simpa [Array.getD, h1, h2] using this
  have e2 : a.defers = (du (At ops a) (ops.toList.take n) 0 a0).defers := by rw [fP, b.defers]
  revert e1 e2
  generalize du (At ops a) (ops.toList.take n) 0 a0 = b; intro e1 e2
  cases a; cases b
  simp only at e1 e2
  subst e1; subst e2
  rfl
abbrev xW (P : Program) (ops : Array Oper) (n : Nat) (ys : List Yield) (w0 : World) (a0 : Act) : Prop :=
  ∀ i o, ops[i]? = some o → i < n → ∀ a w, Kept w0 w → BesideN ops n a0 a → (∀ e ∈ o.after, Region.binds .any e = true → Ys ys e.on (At ops a e.on) w) → gp P ops ys i o a w
abbrev IR (P : Program) (ops : Array Oper) (n : Nat) (ys : List Yield) (w0 : World) (a0 : Act) (Q : Exit → Act → World → Prop) : Prop :=
  ∀ a w, Kept w0 w → BesideN ops n a0 a → (∀ j, j < n → Ys ys j (At ops a j) w) → (∀ j k, j < n → k < n → j ≠ k → Fs ys j = true → Fs ys k = true → eP (At ops a j) ≠ eP (At ops a k)) → wpList P ops Q (ops.toList.drop n) a w
theorem xX {ys : List Yield} {n : Nat} {Q : Exit → Act → World → Prop} {w0 : World} {a0 : Act} (hB : eO ops n a0.tmps.size = true) (hT : mV ops n = true) (step : xW P ops n ys w0 a0) (fin : IR P ops n ys w0 a0 Q) :
    ∀ (f : Nat) (done : Array Bool) (a : Act) (w : World), HeadInv .any ops n done → InvX ops n ys w0 a0 done a w → ((List.range n).filter (fun i => !done.getD i true)).length = f → wpAny P .any ops Q (f + (ops.size - n)) done a w := by
  have hn : n ≤ ops.size := by
    simp only [eO, Bool.and_eq_true, decide_eq_true_eq] at hB
    exact hB.1.2
  simp only [mV, Bool.and_eq_true, Bool.or_eq_true, beq_iff_eq] at hT
  obtain ⟨late, seq⟩ := hT; intro f
  induction f with
  | zero =>
    intro done a w hI inv hf
    have all : ∀ j, j < n → done.getD j false = true := fun j hj => by
      cases hd : done.getD j false with
      | true => rfl
      | false =>
        have hjs : j < done.size := by rw [inv.len]; omega
        have : j ∈ (List.range n).filter (fun i => !done.getD i true) := by
          rw [List.mem_filter, List.mem_range]; exact ⟨hj, by rw [getD_in hjs hd]; rfl⟩
        rw [List.eq_nil_of_length_eq_zero hf] at this; cases this
    have e := Bw hI hn all; have dl : (ops.toList.drop n).length = ops.size - n := by rw [List.length_drop, Array.length_toList]
    rw [Nat.zero_add, ← dl]; refine wpAny_of_seq (md := .any) (Q' := Q) (ops.toList.drop n) n done a w (fun j => by rw [List.getElem?_drop, Array.getElem?_toList]) (by rw [dl, e]; exact seq) ?_; exact fin a w inv.kept inv.beside (fun j hj => inv.vals j hj (all j hj)) (fun j k hj hk ne fj fk => inv.apart j k hj hk ne fj fk (all j hj) (all k hk))
  | succ f ih =>
    intro done a w hI inv hf
    have some_ : ∃ j, j < n ∧ done.getD j false = false := by
      cases hl : (List.range n).filter (fun i => !done.getD i true) with
      | nil => rw [hl] at hf; simp at hf
      | cons j r =>
        have : j ∈ (List.range n).filter (fun i => !done.getD i true) := by rw [hl]; exact List.mem_cons_self
        rw [List.mem_filter, List.mem_range] at this; exact ⟨j, this.1, getD_both (by simpa using this.2)⟩
    obtain ⟨j0, hj0, hd0⟩ := some_; obtain ⟨i0, hi0, hr0⟩ := vJ hB inv.len hj0 hd0; have e1 : f + 1 + (ops.size - n) = (f + (ops.size - n)) + 1 := by omega
    rw [e1]; refine ⟨fun none => by rw [none] at hr0; (cases hr0), fun i hi => ?_⟩; obtain ⟨un, o, ho, waits⟩ := mem_ready.1 hi; have hil : i < ops.size := (Array.getElem?_eq_some_iff.1 ho).1
    have hin : i < n := by
      rcases late with e | ⟨sink, chain⟩
      · omega
      · rcases Nat.lt_or_ge n ops.size with c | c
        · rcases Nat.lt_or_ge i n with d | d
          · exact d
          · exfalso
            exact tail_waits sink chain c hI _ j0 rfl hj0 (getD_in (by rw [inv.len]; omega) hd0) i d hi
        · omega
    have st := step i o ho hin a w inv.kept inv.beside (fun e he hb => inv.vals e.on (by obtain ⟨_, _, _, _, h4⟩ := fR hB hin ho; have := h4 e he hb; omega) (waits e he hb))
    have cnt : ((List.range n).filter (fun j => !(done.setIfInBounds i true).getD j true)).length = f := by
      have e : (List.range n).filter (fun j => !(done.setIfInBounds i true).getD j true) = ((List.range n).filter (fun j => !done.getD j true)).erase i := by
        rw [List.Nodup.erase_eq_filter (List.Nodup.sublist List.filter_sublist List.nodup_range)]; rw [List.filter_filter]; refine List.filter_congr fun j hj => ?_
        by_cases e : i = j
        · subst e
          have : i < done.size := by rw [inv.len]; exact hil
          simp [Array.getD, this]
        · rw [getD_set_ne true e]
          have : (j != i) = true := by simp; omega
          rw [this, Bool.true_and]
      rw [e, List.length_erase_of_mem (by rw [List.mem_filter, List.mem_range]; exact ⟨hin, by rw [un]; rfl⟩), hf]
      rfl
    unfold wpOp
    simp only [ho]
    unfold gp at st
    split
    · rename_i hw
      rw [if_pos hw] at st; exact Or.inl (st _ _ fun v w' hv k hfr => ih _ _ _ (hI.set hi hin) (inv.put hB hin ho hv k hfr) cnt)
    · rename_i hw
      rw [if_neg hw] at st; exact ih _ _ _ (hI.set hi hin) (inv.put hB hin ho st.1 (Kept.refl w) (fun e => by rw [st.2] at e; cases e)) cnt
theorem xY {ys : List Yield} {n : Nat} {Q : Exit → Act → World → Prop} {w0 : World} {a0 : Act} (hB : eO ops n a0.tmps.size = true) (step : xW P ops n ys w0 a0) (fin : IR P ops n ys w0 a0 Q) :
    ∀ (m k : Nat), k + m = n → ∀ (done : Array Bool) (a : Act) (w : World), InvX ops n ys w0 a0 done a w → (∀ j, j < k → done.getD j false = true) → wpList P ops Q (ops.toList.drop k) a w := by
  have hn : n ≤ ops.size := by
    simp only [eO, Bool.and_eq_true, decide_eq_true_eq] at hB
    exact hB.1.2
  intro m
  induction m with
  | zero =>
    intro k hk done a w inv all; obtain rfl : k = n := by omega
    exact fin a w inv.kept inv.beside (fun j hj => inv.vals j hj (all j hj)) (fun j q hj hq ne fj fq => inv.apart j q hj hq ne fj fq (all j hj) (all q hq))
  | succ m ih =>
    intro k hk done a w inv all; have hkn : k < n := by omega
    have hks : k < ops.size := by omega
    have ho : ops[k]? = some ops[k] := Array.getElem?_eq_getElem hks
    have dr : ops.toList.drop k = ops[k] :: ops.toList.drop (k + 1) := by
      rw [List.drop_eq_getElem_cons (by rw [Array.length_toList]; exact hks), Array.getElem_toList]
    rw [dr]
    have st := step k _ ho hkn a w inv.kept inv.beside (fun e he hb => by
      obtain ⟨_, _, _, _, h4⟩ := fR hB hkn ho; have := h4 e he hb; exact inv.vals e.on (by omega) (all e.on this))
    have all' : ∀ j, j < k + 1 → (done.setIfInBounds k true).getD j false = true := fun j hj => by
      by_cases e : k = j
      · subst e
        have : k < done.size := by rw [inv.len]; exact hks
        simp [Array.getD, this]
      · rw [getD_set_ne false e]; exact all j (by omega)
    unfold gp at st; unfold wpList
    split
    · rename_i hw
      rw [if_pos hw] at st; exact Or.inl (st _ _ fun v w' hv kk hfr => ih (k + 1) (by omega) _ _ _ (inv.put hB hkn ho hv kk hfr) all')
    · rename_i hw
      rw [if_neg hw] at st; exact ih (k + 1) (by omega) _ _ _ (inv.put hB hkn ho st.1 (Kept.refl w) (fun e => by rw [st.2] at e; cases e)) all'
theorem xZ {id : Nat} {l : List Oper} {draw : Bool} (ys : List Yield) (n N : Nat) {Q : Exit → Act → World → Prop} {w0 : World} {a0 : Act} (hm : P.follows .mixedOrders = true) (hs : a0.tmps.size = N) (hB : eO l.toArray n N = true) (hT : (!draw || mV l.toArray n) = true)
    (step : xW P l.toArray n ys w0 a0)
    (fin : ∀ a w, Kept w0 w → BesideN l.toArray n a0 a → (∀ j, j < n → Ys ys j (At l.toArray a j) w) → (∀ j k, j < n → k < n → j ≠ k → Fs ys j = true → Fs ys k = true → eP (At l.toArray a j) ≠ eP (At l.toArray a k)) → wpList P l.toArray Q (l.drop n) a w) :
    (Code.region id l.toArray draw).wp P Q a0 w0 := by
  subst hs
  have hn : n ≤ l.length := by
    simp only [eO, Bool.and_eq_true, decide_eq_true_eq] at hB
    simpa using hB.1.2
  have start : ∀ w1, Kept w0 w1 → InvX l.toArray n ys w0 a0 (Array.replicate l.toArray.size false) a0 w1 := fun w1 k => by
    refine ⟨Array.size_replicate, k, ⟨rfl, rfl, fun _ _ => rfl⟩, fun j _ hj => ?_, fun j k _ _ _ _ _ hj _ => ?_⟩
    · rw [getD_replicate_false] at hj; cases hj
    · rw [getD_replicate_false] at hj; cases hj
  cases draw with
  | false => exact wp_region_list (xY hB step fin n 0 (by omega) _ _ _ (start w0 (Kept.refl w0)) (fun j hj => by omega))
  | true =>
    refine wp_region_any hm ?_
    have cnt : ((List.range n).filter (fun i => !(Array.replicate l.toArray.size false).getD i true)).length = n := by
      rw [List.filter_eq_self.2]
      · rw [List.length_range]
      · intro i hi
        rw [List.mem_range] at hi; have hs : i < (Array.replicate l.toArray.size false).size := by rw [Array.size_replicate, List.size_toArray]; omega
        rw [getD_in hs (getD_replicate_false _ _)]; rfl
    have A := xX hB hT step fin n _ a0 _ ⟨Array.size_replicate, (fun j q _ hd => by rw [getD_replicate_false] at hd; cases hd), fun t _ ht => getD_in (by rw [Array.size_replicate]; exact ht) (getD_replicate_false _ _)⟩ (start _ (Kept.refl w0).drew) cnt
    rwa [show n + (l.toArray.size - n) = l.toArray.size by rw [List.size_toArray]; omega] at A
/-! what an operation waits for; its end -/
section
variable {ys : List Yield} {i : Nat} {o : Oper} {a : Act} {w : World}
theorem vK (hd : ∀ e ∈ o.after, Region.binds .any e = true → Ys ys e.on (At ops a e.on) w) (j : Nat) (h : (o.after.toList.any fun e => Region.binds .any e && e.on == j) = true) : Ys ys j (At ops a j) w := by
  rw [List.any_eq_true] at h; obtain ⟨e, he, hb⟩ := h; rw [Array.mem_toList_iff] at he; rw [Bool.and_eq_true, beq_iff_eq] at hb; have := hd e he hb.1
  rwa [hb.2] at this
theorem lT {j : Nat} {b : Bool} (h : At ops a j = .bool b) : yielded ops a.tmps j = some b := by
  unfold At at h; unfold yielded
  cases hd : (ops[j]?).bind (·.dst) with
  | none => rw [hd] at h; cases h
  | some t =>
    rw [hd] at h
    simp only at h
    rw [Array.getD_eq_getD_getElem?] at h
    simp only [Option.bind_some]
    cases ht : a.tmps[t]? with
    | none => rw [ht] at h; cases h
    | some v => rw [ht] at h; simp only [Option.getD_some] at h; rw [h]
theorem bor {p q : Prop} {x y : Bool} (h : x = true ↔ p) (k : y = true ↔ q) : (x || y) = true ↔ p ∨ q := by rw [Bool.or_eq_true, h, k]
theorem pE {p q : Prop} {x y : Bool} (h : x = true ↔ p) (k : y = true ↔ q) : (x && y) = true ↔ p ∧ q := by rw [Bool.and_eq_true, h, k]
theorem jc {p : Prop} {x : Bool} (h : x = true ↔ p) : (!x) = true ↔ ¬ p := by rw [← h]; cases x <;> simp
theorem aC (h : o.guard = none) : Region.wanted o (yielded ops a.tmps) = true := by unfold Region.wanted; rw [h]
theorem jP {j : Nat} {b : Bool} (h : o.guard = some (j, b)) (g : At ops a j = .bool b) : Region.wanted o (yielded ops a.tmps) = true := by
  unfold Region.wanted; rw [h]
  simp only
  rw [lT g]
  simp
theorem ou {j : Nat} {b b' : Bool} (h : o.guard = some (j, b)) (g : At ops a j = .bool b') (ne : (b == b') = false) : Region.wanted o (yielded ops a.tmps) = false := by
  unfold Region.wanted; rw [h]
  simp only
  rw [lT g]
  revert ne
  cases b <;> cases b' <;> simp
theorem Gi {j : Nat} {b : Bool} (h : o.guard = some (j, b)) (g : At ops a j = undef) : Region.wanted o (yielded ops a.tmps) = false := by
  have hy : yielded ops a.tmps j = none := by
    unfold At at g; unfold yielded
    cases hd : (ops[j]?).bind (·.dst) with
    | none => rfl
    | some t =>
      rw [hd] at g
      simp only at g
      rw [Array.getD_eq_getD_getElem?] at g
      simp only [Option.bind_some]
      cases ht : a.tmps[t]? with
      | none => rfl
      | some v => rw [ht] at g; simp only [Option.getD_some] at g; rw [g]; rfl
  unfold Region.wanted; rw [h]
  simp only
  rw [hy]
  simp
theorem iG {v : Value} {w' : World} (hw : Region.wanted o (yielded ops a.tmps) = true) (hr : (execOp a.eval o).run P w = .ok (.value v) w') (hv : Ys ys i v w') (hk : Kept w w') (hf : Fs ys i = false) : gp P ops ys i o a w := by
  unfold gp; rw [if_pos hw]; intro K R hK; unfold Oper.wp; rw [hr]; exact hK v w' hv hk (fun e => by rw [hf] at e; cases e)
theorem jQ {v : Value} (hw : Region.wanted o (yielded ops a.tmps) = true) (hr : (execOp a.eval o).run P w = .ok (.value v) w) (hv : Ys ys i v w) (hf : Fs ys i = false) : gp P ops ys i o a w := iG hw hr hv (Kept.refl w) hf
theorem lU {v : Value} {w' : World} (g : Nat) (hw : Region.wanted o (yielded ops a.tmps) = true) (hr : (execOp a.eval o).run P w = .ok (.value v) w') (hv : Ys ys i v w') (hk : Kept w w') (hb : eP v = some g) (hg : w.heap.size ≤ g) : gp P ops ys i o a w := by
  unfold gp; rw [if_pos hw]; intro K R hK; unfold Oper.wp; rw [hr]; exact hK v w' hv hk (fun _ => ⟨g, hb, hg⟩)
theorem eh {f : FuncId} {args : Array Value} (hw : Region.wanted o (yielded ops a.tmps) = true) (hr : (execOp a.eval o).run P w = .ok (.enter f args) w) (hc : Calls P f args w fun e w' => ∃ v, e = .returned v ∧ Ys ys i v w' ∧ Kept w w') (hf : Fs ys i = false) : gp P ops ys i o a w := by
  unfold gp; rw [if_pos hw]; intro K R hK; unfold Oper.wp; rw [hr]; refine hc.mono fun e w' ⟨v, he, hv, hk⟩ => ?_; subst he; exact hK v w' hv hk (fun e => by rw [hf] at e; cases e)
theorem nC (hw : Region.wanted o (yielded ops a.tmps) = false) (hv : Ys ys i undef w) (hf : Fs ys i = false) : gp P ops ys i o a w := by
  unfold gp; rw [if_neg (by rw [hw]; simp)]; exact ⟨hv, hf⟩
/-! one operation after the other -/
variable {rest : List Oper} {Q : Exit → Act → World → Prop}
theorem js {v : Value} {w' : World} (hw : Region.wanted o (yielded ops a.tmps) = true) (hr : (execOp a.eval o).run P w = .ok (.value v) w') (h : wpList P ops Q rest (a.put o.dst v) w') : wpList P ops Q (o :: rest) a w := by
  unfold wpList; rw [if_pos hw]; refine Or.inl ?_; unfold Oper.wp; rw [hr]; exact h
theorem lV {w' : World} (hw : Region.wanted o (yielded ops a.tmps) = true) (hn : o.dst = none) (hr : (execOp a.eval o).run P w = .ok .skip w') (h : wpList P ops Q rest a w') : wpList P ops Q (o :: rest) a w := by
  unfold wpList; rw [if_pos hw]; refine Or.inl ?_; unfold Oper.wp; rw [hr, Oper.upon_skip, hn]; exact h
theorem aU {f : FuncId} {args : Array Value} (hw : Region.wanted o (yielded ops a.tmps) = true) (hr : (execOp a.eval o).run P w = .ok (.enter f args) w) (hc : Calls P f args w fun e w' => ∃ v, e = .returned v ∧ wpList P ops Q rest (a.put o.dst v) w') : wpList P ops Q (o :: rest) a w := by
  unfold wpList; rw [if_pos hw]; refine Or.inl ?_; unfold Oper.wp; rw [hr]; refine hc.mono fun e w' ⟨v, he, hv⟩ => ?_; subst he; exact hv
theorem Gj {t : Nat} {v : Value} (h : t < a.tmps.size) : (a.put (some t) v).eval (.tmp t) = v := cI h
theorem Dm {t u : Nat} {v x : Value} (h : (t == u) = false) (e : a.eval (.tmp u) = x) : (a.put (some t) v).eval (.tmp u) = x := by
  refine (bi (fun c => ?_)).trans e; subst c; simp at h
theorem ah {t : Nat} {v : Value} {N : Nat} (h : a.tmps.size = N) : (a.put (some t) v).tmps.size = N := by simp only [Act.put, Array.size_setIfInBounds]; exact h
end
end
/-! the memory of the call's own -/
structure Th where
  blk : Option Nat
  p : World → Prop
  loc : ∀ w w', p w → (∀ g, blk = some g → w'.heap[g]? = w.heap[g]?) → p w'
  ins : ∀ w, p w → ∀ g, blk = some g → g < w.heap.size
def Th.obj (g : Nat) (o : Obj) : Th := ⟨some g, fun w => w.heap[g]? = some o, fun w w' h k => (k g rfl).trans h, fun w h g' e => by cases e; exact (Array.getElem?_eq_some_iff.1 h).1⟩
def Th.row (base : Nat) (e : TypeId) (size : Nat) (v : Value) (n : Nat) (xs : List Value) : Th := ⟨v.ownBlock, fun w => w.ownsRow base e size v n xs, fun w w' h k => by
    obtain ⟨h1, h2⟩ := h; refine ⟨h1, ?_⟩; rcases h2 with h2 | ⟨g, cap, cur, hv, hg, hh, r⟩
    · exact Or.inl h2
    · subst hv
      exact Or.inr ⟨g, cap, cur, rfl, hg, (k g rfl).trans hh, r⟩, fun w h g e => (World.ownsRow.lt h g e).2⟩
structure Own (w0 : World) (H : List Th) (w : World) : Prop where
  kept : Kept w0 w
  has : ∀ t ∈ H, t.p w
  old : ∀ t ∈ H, ∀ g, t.blk = some g → w0.heap.size ≤ g
  apart : H.Pairwise (fun s t => ∀ g, s.blk = some g → t.blk ≠ some g)
section
variable {w0 w w' : World} {H : List Th}
theorem Own.start (w : World) : Own w [] w := ⟨Kept.refl w, fun _ h => (by cases h), fun _ h => (by cases h), List.Pairwise.nil⟩
theorem Own.drop (h : Own w0 H w) : Own w0 [] w := ⟨h.kept, fun _ h => (by cases h), fun _ h => (by cases h), List.Pairwise.nil⟩
theorem Own.tail {t : Th} (h : Own w0 (t :: H) w) : Own w0 H w := ⟨h.kept, fun s hs => h.has s (List.mem_cons_of_mem _ hs), fun s hs => h.old s (List.mem_cons_of_mem _ hs), (List.pairwise_cons.1 h.apart).2⟩
theorem Own.less (h : Own w0 H w) (k : Nat) : Own w0 (H.eraseIdx k) w := ⟨h.kept, fun s hs => h.has s (List.mem_of_mem_eraseIdx hs), fun s hs => h.old s (List.mem_of_mem_eraseIdx hs), List.Pairwise.sublist (List.eraseIdx_sublist _ _) h.apart⟩
theorem Own.keep (h : Own w0 H w) (k : Kept w w') : Own w0 H w' :=
  ⟨h.kept.trans k, fun t ht => t.loc w w' (h.has t ht) (fun g hg => k.block g (t.ins w (h.has t ht) g hg)), h.old, h.apart⟩
theorem Own.consT (h : Own w0 H w) {t : Th} (hp : t.p w) (hg : ∀ g, t.blk = some g → w0.heap.size ≤ g) (ne : ∀ s ∈ H, ∀ g, t.blk = some g → s.blk ≠ some g) : Own w0 (t :: H) w :=
  ⟨h.kept, fun s hs => (List.mem_cons.1 hs).elim (fun e => by rw [e]; exact hp) (h.has s), fun s hs => (List.mem_cons.1 hs).elim (fun e => by rw [e]; exact hg) (h.old s), List.pairwise_cons.2 ⟨fun s hs => ne s hs, h.apart⟩⟩
theorem Own.cons (h : Own w0 H w) {g : Nat} {o : Obj} (hb : w.heap[g]? = some o) (hg : w0.heap.size ≤ g) (ne : ∀ s ∈ H, s.blk ≠ some g) : Own w0 (Th.obj g o :: H) w :=
  h.consT hb (fun g' e => by cases e; exact hg) (fun s hs g' e => by cases e; exact ne s hs)
theorem Own.nil (h : Own w0 H w) (e : TypeId) (size : Nat) : Own w0 (Th.row w0.heap.size e size (.slice none 0 0) 0 [] :: H) w :=
  h.consT (World.ownsRow_nil w _ e size) (fun g e => by cases e) (fun s hs g e => by cases e)
theorem Own.add (h : Own w0 H w) {t : Th} (hp : t.p w') (k : Kept w w') (hg : ∀ g, t.blk = some g → w.heap.size ≤ g) : Own w0 (t :: H) w' :=
  (h.keep k).consT hp (fun g e => Nat.le_trans h.kept.size (hg g e)) (fun s hs g e c => by have := s.ins w (h.has s hs) g c; have := hg g e; omega)
theorem Own.below {wr : World} (h : Own w0 H wr) {g : Nat} (hg : wr.heap.size ≤ g) : ∀ s ∈ H, s.blk ≠ some g := fun s hs e => by
  have := s.ins wr (h.has s hs) g e
  omega
theorem Own.thing (h : Own w0 H w) (k : Nat) {t : Th} (e : H[k]? = some t) : t.p w := h.has t (List.mem_of_getElem? e)
theorem Own.get (h : Own w0 H w) (k : Nat) {g : Nat} {o : Obj} (e : H[k]? = some (Th.obj g o)) : w.heap[g]? = some o := h.has _ (List.mem_of_getElem? e)
theorem Own.box (h : Own w0 H w) (k : Nat) {g : Nat} {t : TypeId} {cs : Array Value} (e : H[k]? = some (Th.obj g (.cells cs t (0, 0)))) : Box w g t cs := h.get k e
theorem Own.row (h : Own w0 H w) (k : Nat) {base : Nat} {t : TypeId} {size : Nat} {v : Value} {n : Nat} {xs : List Value} (e : H[k]? = some (Th.row base t size v n xs)) : w.ownsRow base t size v n xs := h.has _ (List.mem_of_getElem? e)
theorem Own.turn (h : Own w0 H w) (k : Nat) {t : Th} (e : H[k]? = some t) {t' : Th} (hp : t'.p w') (gr : w.grownBy w' t.blk) (hb : t'.blk = t.blk ∨ ∀ g, t'.blk = some g → w.heap.size ≤ g) : Own w0 (H.set k t') w' := by
  have hk : k < H.length := (List.getElem?_eq_some_iff.1 e).1; have ek := (List.getElem?_eq_some_iff.1 e).2; have hin := List.mem_of_getElem? e
  have ap : ∀ (j : Nat) (s : Th), H[j]? = some s → j ≠ k → ∀ g, s.blk = some g → t.blk ≠ some g := fun j s hj ne g hs c => by
    obtain ⟨hjl, ej⟩ := List.getElem?_eq_some_iff.1 hj; rcases Nat.lt_or_gt_of_ne ne with l | l
    · have := (List.pairwise_iff_getElem.1 h.apart) j k hjl hk l
      rw [ej, ek] at this; exact this g hs c
    · have := (List.pairwise_iff_getElem.1 h.apart) k j hk hjl l
      rw [ej, ek] at this; exact this g c hs
  have ap' : ∀ (j : Nat) (s : Th), H[j]? = some s → j ≠ k → ∀ g, s.blk = some g → t'.blk ≠ some g := fun j s hj ne g hs c => by
    rcases hb with hb | hb
    · exact ap j s hj ne g hs (hb ▸ c)
    · have := s.ins w (h.has s (List.mem_of_getElem? hj)) g hs
      have := hb g c
      omega
  refine ⟨⟨gr.os.trans h.kept.os, gr.tape.trans h.kept.tape, gr.output.trans h.kept.output, Nat.le_trans h.kept.size gr.size, fun i hi => ?_⟩, fun s hs => ?_, fun s hs g hg => ?_, ?_⟩
  · have : i < w.heap.size := Nat.lt_of_lt_of_le hi h.kept.size
    exact (gr.block i this (fun c => by have := h.old t hin i c.symm; omega)).trans (h.kept.block i hi)
  · obtain ⟨j, hj⟩ := List.mem_iff_getElem?.1 hs
    by_cases c : j = k
    · subst c
      rw [List.getElem?_set_self hk] at hj
      cases hj
      exact hp
    · rw [List.getElem?_set_ne (fun x => c x.symm)] at hj
      have hw := h.has s (List.mem_of_getElem? hj); exact s.loc w w' hw (fun g hg => gr.block g (s.ins w hw g hg) (fun x => ap j s hj c g hg x.symm))
  · rcases List.mem_or_eq_of_mem_set hs with hs | rfl
    · exact h.old s hs g hg
    · rcases hb with hb | hb
      · exact h.old t hin g (hb ▸ hg)
      · exact Nat.le_trans h.kept.size (hb g hg)
  · rw [List.pairwise_iff_getElem]
    intro i j hi hj hij; rw [List.length_set] at hi hj; have pw := List.pairwise_iff_getElem.1 h.apart i j hi hj hij; rw [List.getElem_set, List.getElem_set]
    split
    · rename_i c
      subst c; rw [if_neg (by omega)]; intro g hg c2; exact ap' j _ (List.getElem?_eq_getElem hj) (by omega) g c2 hg
    · split
      · rename_i c
        subst c; exact ap' i _ (List.getElem?_eq_getElem hi) (by omega)
      · exact pw
theorem Own.cell (h : Own w0 H w) (k : Nat) {g : Nat} {t : TypeId} {cs : Array Value} (e : H[k]? = some (Th.obj g (.cells cs t (0, 0)))) (i : Nat) (u : Value) : Own w0 (H.set k (Th.obj g (.cells (cs.setIfInBounds i u) t (0, 0)))) (w.setCell ⟨g, i, none⟩ u) :=
  h.turn k e (t' := Th.obj g (.cells (cs.setIfInBounds i u) t (0, 0))) (Box.at_ (h.box k e) i u) ⟨rfl, rfl, rfl, by simp [World.setCell], fun j hj ne => Below.heap_setCell w ⟨g, i, none⟩ u j (fun c => ne (by rw [c]; rfl))⟩ (Or.inl rfl)
end
/-! control -/
section
variable {P : Program} {Q : Exit → Act → World → Prop} {K : Act → World → Prop} {a : Act} {w : World} {id id' : Nat}
theorem bg (h : K a w) : Exit.then K Q .normal a w := h
theorem aM (h : Q (.exit id) a w) : Exit.then K Q (.exit id) a w := h
theorem ag (h : Q .ret a w) : Exit.then K Q .ret a w := h
theorem aB (h : Q .normal a w) : Exit.inBlock id Q .normal a w := h
theorem ao (h : Q .ret a w) : Exit.inBlock id Q .ret a w := h
theorem aD (h : Q .normal a w) : Exit.inBlock id Q (.exit id) a w := by simp only [Exit.inBlock, if_true]; exact h
theorem aP {γ : Type} {c : Code} (I : γ → Act → World → Prop) (μ : γ → Nat) (g0 : γ) (h₀ : I g0 a w)
    (round : ∀ g a w, I g a w → c.wp P (Exit.then (fun a' w' => ∃ g', I g' a' w' ∧ μ g' < μ g) Q) a w) : (Code.loop c).wp P Q a w := by
  intro b k cs
  have key : ∀ n g a w, μ g = n → I g a w →
      ∃ e a' w', Q e a' w' ∧ Arrives P (lone (b.at a (.code c :: .inLoop c :: k)) cs w) b k cs e a' w' := by
    intro n
    induction n using Nat.strongRecOn with
    | _ n ih =>
      intro g a w hn hI; obtain ⟨e, a₁, w₁, hq, harr⟩ := round g a w hI b (.inLoop c :: k) cs
      cases e with
      | normal =>
        obtain ⟨g', hI₁, hlt⟩ := hq; obtain ⟨e₂, a₂, w₂, hq₂, harr₂⟩ := ih (μ g') (hn ▸ hlt) g' a₁ w₁ rfl hI₁; exact ⟨e₂, a₂, w₂, hq₂, .of_steps (Steps.trans harr (.one step_inLoop)) harr₂⟩
      | exit id => exact ⟨_, a₁, w₁, hq, .pass (x := .inLoop c) rfl (fun _ _ => .inl (by simp)) harr⟩
      | goto l => exact ⟨_, a₁, w₁, hq, .pass (x := .inLoop c) rfl (fun _ _ => .inl (by simp)) harr⟩
      | ret => exact ⟨_, a₁, w₁, hq, .pass (x := .inLoop c) rfl (fun _ _ => .inl (by simp)) harr⟩
      | panic ch => exact ⟨_, a₁, w₁, hq, .pass (x := .inLoop c) rfl (fun _ _ => .inl (by simp)) harr⟩
      | outgrown => exact ⟨_, a₁, w₁, hq, .pass (x := .inLoop c) rfl (fun _ _ => .inl (by simp)) harr⟩
  obtain ⟨e, a', w', hq, harr⟩ := key _ g0 a w rfl h₀; exact ⟨e, a', w', hq, .of_steps (.one step_loop) harr⟩
theorem Ee {x y : Code} (M : Act → World → Prop) (h1 : x.wp P (Exit.then M Q) a w) (h2 : ∀ b u, M b u → y.wp P Q b u) : (Code.seq x y).wp P Q a w :=
  wp_seq (wp_mono h1 fun e a w q => by cases e <;> first | exact h2 _ _ q | exact q)
end
abbrev En (f : FuncId) : Prop := ∀ (args : Array Value) (w : World), (callFunc f args).run Tryz.prog w = .ok (.enter f args) w
