/- A region that draws its order: quiet operations, then a tail in one order, and a last operation that is free of all others (a range loop's counter). -/
import Derived.Test.YtipkjpcedfokhaaDoorBunV
namespace Go.Proofs.YtipkjpcedfokhaaDoor
set_option linter.unusedVariables false
set_option linter.unusedSimpArgs false
open Go.RowKit
section
variable {P : Program} {ops : Array Oper} {md : Region.Mode} {C : World → Prop}

/-- the last is done, the tail is not -/
structure Inv2 (ops : Array Oper) (n m : Nat) (done : Array Bool) : Prop where
  size : done.size = ops.size
  tail : ∀ t, n ≤ t → t < m → done.getD t true = false
  last : ∀ t, m ≤ t → done.getD t true = true
theorem Inv2.set {n m i : Nat} {done : Array Bool} (h : Inv2 ops n m done) (hi : i < n) : Inv2 ops n m (done.setIfInBounds i true) :=
  ⟨by simp [h.size], fun t h1 h2 => by rw [getD_set_ne true (by omega)]; exact h.tail t h1 h2, fun t h1 => getD_keep (h.last t h1)⟩
where
  getD_keep {i t : Nat} {done : Array Bool} (h : done.getD t true = true) : (done.setIfInBounds i true).getD t true = true := by
    by_cases e : i = t
    · subst e; simp
    · rw [getD_set_ne true e]; exact h
/-- the first of the tail waits for every one ahead, each other of the tail for the one before it -/
def lateB (md : Region.Mode) (ops : Array Oper) (n m : Nat) : Bool :=
  (List.range n).all (fun i => Region.waitsFor md ops n i) && (List.range m).all (fun t => decide (t ≤ n) || Region.waitsFor md ops t (t - 1))
theorem late2 {n m : Nat} {done : Array Bool} (hB : lateB md ops n m = true) (inv : Inv2 ops n m done) {i : Nat} (hi : i < n) (hnm : n < m) (un : done.getD i true = false) : ∀ j ∈ Region.ready md ops done, j < n := by
  intro j rj
  simp only [lateB, Bool.and_eq_true, List.all_eq_true, List.mem_range, Bool.or_eq_true, decide_eq_true_eq] at hB
  obtain ⟨uj, q, hq, waits⟩ := mem_ready.1 rj
  rcases Nat.lt_or_ge j n with h | h
  · exact h
  · exfalso
    rcases Nat.lt_or_ge j m with g | g
    · have key : ∀ k, Region.waitsFor md ops j k = true → done.getD k true = false → False := fun k hk uk => by
        obtain ⟨q2, hq2, e, he, hb, on⟩ := Region.waitsFor_spec hk
        obtain rfl : q = q2 := Option.some.inj (hq.symm.trans hq2)
        have := waits e he hb
        rw [on, getD_both uk] at this
        cases this
      rcases Nat.lt_or_ge n j with e | e
      · rcases hB.2 j g with x | x
        · omega
        · exact key _ x (inv.tail (j - 1) (by omega) (by omega))
      · obtain rfl : j = n := by omega
        exact key _ (hB.1 i hi) un
    · rw [inv.last j g] at uj; cases uj

theorem headQ_first2 {n m i : Nat} {o : Oper} {v : Value} {L : Array Bool → Act → Prop} (hi : ops[i]? = some o) (nosel : ∀ (j : Nat) (q : Oper) cs b, ops[j]? = some q → q.op ≠ .select cs b)
    (hB : lateB md ops n m = true) (hnm : n < m) (hin : i < n) (late : ∀ done a, L done a → ∀ j ∈ Region.ready md ops done, n ≤ j) (f : Nat) :
    ∀ (done : Array Bool) (a : Act), Inv2 ops n m done → (∀ j q, ops[j]? = some q → j ≠ i → done.getD j true = false → (∀ e ∈ q.after, Region.binds md e = true → e.on ≠ i) → o.apart ops q = true) →
      i ∈ Region.ready md ops done → YieldsIn P ops C o v a → headQ P md ops C n L f (done.setIfInBounds i true) (a.put o.dst v) → headQ P md ops C n L (f + 1) done a := by
  induction f with
  | zero =>
    intro done a inv apart ri y h
    have undone := (mem_ready.1 ri).1
    refine ⟨List.ne_nil_of_mem ri, fun j rj => ?_⟩
    have hj : j < n := late2 hB inv hin hnm undone j rj
    rcases Nat.decEq j i with ne | rfl
    · exact absurd (late _ _ h j (ready_mono rj ne)) (by omega)
    · exact ⟨hj, y.qOp hi h⟩
  | succ f ih =>
    intro done a inv apart ri y h
    have undone := (mem_ready.1 ri).1
    refine ⟨List.ne_nil_of_mem ri, fun j rj => ?_⟩
    have hj : j < n := late2 hB inv hin hnm undone j rj
    rcases Nat.decEq j i with ne | rfl
    · refine ⟨hj, ?_⟩
      obtain ⟨uj, q, hq, waits⟩ := mem_ready.1 rj
      have free : ∀ e ∈ q.after, Region.binds md e = true → e.on ≠ i := fun e he hb on => by
        have w1 := waits e he hb
        rw [on, getD_both undone] at w1
        cases w1
      have step := qOp_put hq (apart j q hq ne uj free) (fun cs b => nosel i o cs b hi) (fun cs b => nosel j q cs b hq) y (h.2 j (ready_mono rj ne)).2
      refine qOp_mono (fun a2 h2 => ?_) step
      refine ih (done.setIfInBounds j true) a2 (inv.set hj) (fun k r hk ki uk fk => ?_) (ready_mono ri (fun e => ne e.symm)) h2.1 ?_
      · refine apart k r hk ki ?_ fk
        rcases Nat.decEq j k with jk | rfl
        · rwa [getD_set_ne true jk] at uk
        · exact uj
      · rw [Array.setIfInBounds_comm _ _ ne]; exact h2.2
    · exact ⟨hj, y.qOp hi h⟩

theorem headQ_text2 {n m g : Nat} {L : Act → Prop} (nosel : Region.noSelect ops = true) (hB : lateB md ops n m = true) (hnm : n < m) :
    ∀ (l : List Oper) (k : Nat) (done : Array Bool) (a : Act), (∀ j, j < l.length → l[j]? = ops[k + j]?) → k + l.length = n → Inv2 ops n m done → Region.lexHead md ops g l.length k done = true →
      wpQuiet P ops C L l a → headQ P md ops C n (fun done2 a2 => Region.seqB md ops g n done2 = true ∧ L a2) l.length done a
  | [], k, done, a, _, hk, _, lex, h => by
    obtain rfl : k = n := hk
    exact ⟨lex, h⟩
  | o :: l, k, done, a, hl, hk, inv, lex, h => by
    have ho : ops[k]? = some o := (hl 0 (Nat.succ_pos _)).symm
    rw [List.length_cons] at hk
    simp only [List.length_cons, Region.lexHead, Bool.and_eq_true] at lex
    have rk : k ∈ Region.ready md ops done := by simpa using lex.1.1
    have q : qOp P ops C k (wpQuiet P ops C L l) a := by
      unfold qOp
      rw [ho]
      exact h
    obtain ⟨v, y, rest⟩ := yieldsIn_of_qOp ho q
    refine headQ_first2 ho (Region.noSelect_spec nosel) hB hnm (by omega) (fun _ _ x => seqB_ready x.1) l.length done a inv (Region.free_spec ho lex.1.2) rk y ?_
    refine headQ_text2 nosel hB hnm l (k + 1) _ _ (fun j hj => ?_) (by omega) (inv.set (by omega)) lex.2 rest
    have e := hl (j + 1) (by rw [List.length_cons]; omega)
    rw [List.getElem?_cons_succ] at e
    rw [e]; congr 1; omega

theorem any_of_seq2 {Q : Exit → Act → World → Prop} : ∀ (l : List Oper) (k : Nat) (done : Array Bool) (a : Act) (w : World), (∀ j, j < l.length → l[j]? = ops[k + j]?) →
    Region.seqB md ops l.length k done = true → wpList P ops Q l a w → wpAny P md ops Q l.length done a w
  | [], _, _, _, _, _, hB, h => ⟨by simpa [Region.seqB] using hB, h⟩
  | o :: l, k, done, a, w, hl, hB, h => by
    have h0 : ops[k]? = some o := (hl 0 (Nat.succ_pos _)).symm
    simp only [List.length_cons, Region.seqB, Bool.and_eq_true, decide_eq_true_eq] at hB
    refine ⟨fun no => (by rw [hB.1] at no; cases no), fun i hi => ?_⟩
    rw [hB.1, List.mem_singleton] at hi
    subst hi
    have now : wpOp P ops Q i (wpList P ops Q l) a w := by unfold wpOp; simp only [h0]; exact h
    refine wpOp_mono (fun a2 w2 h2 => any_of_seq2 l (i + 1) _ a2 w2 (fun j hj => ?_) hB.2 h2) now
    have e := hl (j + 1) (by rw [List.length_cons]; omega)
    rw [List.getElem?_cons_succ] at e
    rw [e]; congr 1; omega

def lastFreeB (ops : Array Oper) (n m : Nat) : Bool :=
  Region.noSelect ops && decide (n < m) && decide (ops.size = m + 1) && lateB .any ops n m && Region.free .any ops (Array.replicate ops.size false) m && (Region.ready .any ops (Array.replicate ops.size false)).contains m
    && Region.lexHead .any ops (m - n) n 0 ((Array.replicate ops.size false).setIfInBounds m true)

theorem region_free_tail {id : Nat} {Q : Exit → Act → World → Prop} {a : Act} {w : World} {l : List Oper} (n m : Nat) (o : Oper) (v : Value) (hm : P.follows .mixedOrders = true) (hB : lastFreeB l.toArray n m = true)
    (ho : l.toArray[m]? = some o) (hy : Yields P l.toArray o v a) (hQ : ∀ c a w, Q (.panic c) (a.put o.dst v) w → Q (.panic c) a w) (hC : C w.drew)
    (h : wpQuiet P l.toArray C (fun a2 => ∀ w2, C w2 → wpList P l.toArray Q ((l.take m).drop n) a2 w2) (l.take n) (a.put o.dst v)) : (Code.region id l.toArray true).wp P Q a w := by
  simp only [lastFreeB, Bool.and_eq_true, decide_eq_true_eq] at hB
  obtain ⟨⟨⟨⟨⟨⟨nosel, hnm⟩, size⟩, late⟩, free⟩, ready⟩, lex⟩ := hB
  have sz : l.toArray.size = l.length := List.size_toArray
  have tl : (l.take n).length = n := by rw [List.length_take]; omega
  have dl : ((l.take m).drop n).length = m - n := by rw [List.length_drop, List.length_take]; omega
  refine wp_region_any hm ?_
  rw [size] at free ready lex ⊢
  refine wpAny_take ho nosel free ready hQ hy ?_
  have inv : Inv2 l.toArray n m ((Array.replicate (m + 1) false).setIfInBounds m true) := by
    refine ⟨by simp [size], fun t h1 h2 => ?_, fun t h1 => ?_⟩
    · rw [getD_set_ne true (by omega)]
      exact getD_in (by rw [Array.size_replicate]; omega) (getD_replicate_false _ _)
    · rcases Nat.lt_or_ge m t with g | g
      · rw [getD_set_ne true (by omega)]; simp [show ¬ t < m + 1 by omega]
      · obtain rfl : t = m := by omega
        simp
  have H := headQ_text2 (md := .any) (g := m - n) nosel late hnm (l.take n) 0 _ (a.put o.dst v) (fun j hj => by
    rw [tl] at hj
    rw [List.getElem?_take_of_lt hj, Nat.zero_add, List.getElem?_toArray]) (by rw [Nat.zero_add, tl]) inv (by rw [tl]; exact lex) h
  have A := any_of_headQ (R := Q) (g := m - n) (fun done a2 w2 hw2 hd => by
    have s := any_of_seq2 (md := .any) (Q := Q) ((l.take m).drop n) n done a2 w2 (fun j hj => by
      rw [dl] at hj
      rw [List.getElem?_drop, List.getElem?_take_of_lt (by omega), List.getElem?_toArray]) (by rw [dl]; exact hd.1) (hd.2 w2 hw2)
    rwa [dl] at s) _ _ _ _ hC H
  rwa [tl, show n + (m - n) = m by omega] at A
end
end Go.Proofs.YtipkjpcedfokhaaDoor
