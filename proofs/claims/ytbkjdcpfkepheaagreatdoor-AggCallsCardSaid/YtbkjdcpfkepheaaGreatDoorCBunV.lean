/- BunV: the texts QTail, ATail, GVal1, GVal2, GVal3, GVal4 together. -/
import Derived.Test.YtbkjdcpfkepheaaGreatDoorCBunW
import Derived.StillTail
import Derived.Deep.QuietTactic
import Derived.Test.YtbkjdcpfkepheaaGreatDoorProg
import Derived.Lib.QuietBelow
import Derived.Test.YtbkjdcpfkepheaaGreatDoorCBunG
import Derived.Test.YtbkjdcpfkepheaaGreatDoorCBunM
set_option linter.unusedVariables false
set_option linter.unusedSimpArgs false
set_option maxHeartbeats 2000000
set_option maxRecDepth 100000
namespace Go.Proofs.YtbkjdcpfkepheaaGreatDoor
section
open Go.RowKit
section
variable {P : Program} {ops : Array Oper} {md : Region.Mode} {C : World → Prop}
def xN (P : Program) (md : Region.Mode) (ops : Array Oper) (C : World → Prop) (n : Nat) (L : Array Bool → Act → Prop) : Nat → Array Bool → Act → Prop
  | 0, done, a => L done a
  | f + 1, done, a => Region.ready md ops done ≠ [] ∧ ∀ i ∈ Region.ready md ops done, i < n ∧ qOp P ops C i (xN P md ops C n L f (done.setIfInBounds i true)) a
theorem kC {n g : Nat} {L : Array Bool → Act → Prop} {R : Exit → Act → World → Prop} (hL : ∀ done a w, C w → L done a → wpAny P md ops R g done a w) :
    ∀ (f : Nat) (done : Array Bool) (a : Act) (w : World), C w → xN P md ops C n L f done a → wpAny P md ops R (f + g) done a w
  | 0, done, a, w, hw, h => by
    have e : 0 + g = g := Nat.zero_add g; rw [e]; exact hL done a w hw h
  | f + 1, done, a, w, hw, h => by
    have e : f + 1 + g = f + g + 1 := by omega
    rw [e]; refine ⟨fun none => absurd none h.1, fun i hi => ?_⟩; exact wpOp_of_qOp hw (fun a2 w2 hw2 h2 => kC hL f _ a2 w2 hw2 h2) (h.2 i hi).2
theorem si {n i : Nat} {o : Oper} {v : Value} {L : Array Bool → Act → Prop} (hi : ops[i]? = some o) (nosel : ∀ (j : Nat) (q : Oper) cs b, ops[j]? = some q → q.op ≠ .select cs b)
    (sink : Region.sinkB md ops n = true) (chain : Region.chainB md ops n = true) (hn : n < ops.size) (hin : i < n) (late : ∀ done a, L done a → ∀ j ∈ Region.ready md ops done, n ≤ j) (f : Nat) :
    ∀ (done : Array Bool) (a : Act), HeadInv md ops n done → (∀ j q, ops[j]? = some q → j ≠ i → done.getD j true = false → (∀ e ∈ q.after, Region.binds md e = true → e.on ≠ i) → o.apart ops q = true) →
      i ∈ Region.ready md ops done → YieldsIn P ops C o v a → xN P md ops C n L f (done.setIfInBounds i true) (a.put o.dst v) → xN P md ops C n L (f + 1) done a := by
  induction f with
  | zero =>
    intro done a inv apart ri y h; have undone := (mem_ready.1 ri).1; refine ⟨List.ne_nil_of_mem ri, fun j rj => ?_⟩; have hj : j < n := Nat.lt_of_not_le fun hle => tail_waits sink chain hn inv _ i rfl hin undone j hle rj; rcases Nat.decEq j i with ne | rfl
    · exact absurd (late _ _ h j (ready_mono rj ne)) (by omega)
    · exact ⟨hj, y.qOp hi h⟩
  | succ f ih =>
    intro done a inv apart ri y h; have undone := (mem_ready.1 ri).1; refine ⟨List.ne_nil_of_mem ri, fun j rj => ?_⟩; have hj : j < n := Nat.lt_of_not_le fun hle => tail_waits sink chain hn inv _ i rfl hin undone j hle rj; rcases Nat.decEq j i with ne | rfl
    · refine ⟨hj, ?_⟩
      obtain ⟨uj, q, hq, waits⟩ := mem_ready.1 rj
      have free : ∀ e ∈ q.after, Region.binds md e = true → e.on ≠ i := fun e he hb on => by
        have w1 := waits e he hb; rw [on, getD_both undone] at w1
        cases w1
      have step := qOp_put hq (apart j q hq ne uj free) (fun cs b => nosel i o cs b hi) (fun cs b => nosel j q cs b hq) y (h.2 j (ready_mono rj ne)).2; refine qOp_mono (fun a2 h2 => ?_) step; refine ih (done.setIfInBounds j true) a2 (inv.set rj hj) (fun k r hk ki uk fk => ?_) (ready_mono ri (fun e => ne e.symm)) h2.1 ?_
      · refine apart k r hk ki ?_ fk
        rcases Nat.decEq j k with jk | rfl
        · rwa [getD_set_ne true jk] at uk
        · exact uj
      · rw [Array.setIfInBounds_comm _ _ ne]; exact h2.2
    · exact ⟨hj, y.qOp hi h⟩
theorem nx {n g : Nat} {L : Act → Prop} (nosel : Region.noSelect ops = true) (sink : Region.sinkB md ops n = true) (chain : Region.chainB md ops n = true) (hn : n < ops.size) :
    ∀ (l : List Oper) (k : Nat) (done : Array Bool) (a : Act), (∀ j, j < l.length → l[j]? = ops[k + j]?) → k + l.length = n → HeadInv md ops n done → Region.lexHead md ops g l.length k done = true →
      wpQuiet P ops C L l a → xN P md ops C n (fun done2 a2 => Region.seqB md ops g n done2 = true ∧ L a2) l.length done a
  | [], k, done, a, _, hk, _, lex, h => by
    obtain rfl : k = n := hk; exact ⟨lex, h⟩
  | o :: l, k, done, a, hl, hk, inv, lex, h => by
    have ho : ops[k]? = some o := (hl 0 (Nat.succ_pos _)).symm; rw [List.length_cons] at hk
    simp only [List.length_cons, Region.lexHead, Bool.and_eq_true] at lex
    have rk : k ∈ Region.ready md ops done := by simpa using lex.1.1
    have q : qOp P ops C k (wpQuiet P ops C L l) a := by
      unfold qOp; rw [ho]; exact h
    obtain ⟨v, y, rest⟩ := yieldsIn_of_qOp ho q; refine si ho (Region.noSelect_spec nosel) sink chain hn (by omega) (fun _ _ x => seqB_ready x.1) l.length done a inv (Region.free_spec ho lex.1.2) rk y ?_; refine nx nosel sink chain hn l (k + 1) _ _ (fun j hj => ?_) (by omega) (inv.set rk (by omega)) lex.2 rest; have e := hl (j + 1) (by rw [List.length_cons]; omega); rw [List.getElem?_cons_succ] at e; rw [e]; congr 1; omega
theorem jM {id : Nat} {Q : Exit → Act → World → Prop} {a : Act} {w : World} {l : List Oper} (n : Nat) (hm : P.follows .mixedOrders = true) (hB : Region.lexTailB .any l.toArray n = true) (hC : C w.drew)
    (h : wpQuiet P l.toArray C (fun a2 => ∀ w2, C w2 → wpList P l.toArray Q (l.drop n) a2 w2) (l.take n) a) : (Code.region id l.toArray true).wp P Q a w := by
  simp only [Region.lexTailB, Bool.and_eq_true, decide_eq_true_eq] at hB
  obtain ⟨⟨⟨⟨nosel, hn⟩, sink⟩, chain⟩, lex⟩ := hB; have sz : l.toArray.size = l.length := List.size_toArray; have tl : (l.take n).length = n := by rw [List.length_take]; omega
  have dl : (l.drop n).length = l.toArray.size - n := by rw [List.length_drop, sz]
  have inv : HeadInv .any l.toArray n (Array.replicate l.toArray.size false) :=
    ⟨Array.size_replicate, (fun j q _ hd => by rw [getD_replicate_false] at hd; cases hd), fun t _ ht => getD_in (by rw [Array.size_replicate]; exact ht) (getD_replicate_false _ _)⟩
  have H := nx (md := .any) (g := l.toArray.size - n) nosel sink chain hn (l.take n) 0 _ a (fun j hj => by
    rw [tl] at hj; rw [List.getElem?_take_of_lt hj, Nat.zero_add, List.getElem?_toArray]) (by rw [Nat.zero_add, tl]) inv (by rw [tl]; exact lex) h
  have A := kC (R := Q) (g := l.toArray.size - n) (fun done a2 w2 hw2 hd => by
    have s := wpAny_of_seq (md := .any) (Q' := Q) (l.drop n) n done a2 w2 (fun j => by rw [List.getElem?_drop, List.getElem?_toArray]) (by rw [dl]; exact hd.1) (hd.2 w2 hw2)
    rwa [dl] at s) _ _ _ _ hC H
  rw [tl, show n + (l.toArray.size - n) = l.toArray.size by omega] at A; exact wp_region_any hm A
end
end
section
open Go.RowKit
section
variable {P : Program} {ops : Array Oper} {md : Region.Mode} {w0 : World} {z : Nat → Obj} {n1 n : Nat}
def YK (P : Program) (ops : Array Oper) (w0 : World) (o : Oper) (v : Value) (a : Act) : Prop :=
  (Region.wanted o (yielded ops a.tmps) = true ∧ ∀ d os, o.quietAt P a (fun w2 => Kept (Go.Sort.grow (redrawn w0 d) os) w2) (Go.Sort.grow (redrawn w0 d) os) v) ∨
  (Region.wanted o (yielded ops a.tmps) = false ∧ v = undef)
def Mk (P : Program) (ops : Array Oper) (o : Oper) (zi : Obj) : Prop :=
  ∀ a : Act, Region.wanted o (yielded ops a.tmps) = true ∧ ∀ w, (execOp a.eval o).run P w = .ok (.value (.pointer (some ⟨w.heap.size, 0, none⟩))) (w.alloc zi)
def Made (w0 : World) (z : Nat → Obj) (gs : List (Nat × Nat)) (w : World) : Prop := Kept w0 w ∧ (∀ p ∈ gs, w.heap[p.2]? = some (z p.1) ∧ w0.heap.size ≤ p.2) ∧ (gs.map (·.2)).Nodup
theorem Made.kept {gs : List (Nat × Nat)} {w w2 : World} (h : Made w0 z gs w) (k : Kept w w2) : Made w0 z gs w2 :=
  ⟨h.1.trans k, fun p hp => ⟨(k.block p.2 (Array.getElem?_eq_some_iff.1 (h.2.1 p hp).1).1).trans (h.2.1 p hp).1, (h.2.1 p hp).2⟩, h.2.2⟩
theorem Made.more {gs : List (Nat × Nat)} {w : World} (h : Made w0 z gs w) (i : Nat) : Made w0 z ((i, w.heap.size) :: gs) (w.alloc (z i)) := by
  have k : Kept w (w.alloc (z i)) := (Kept.refl w).alloc _; refine ⟨h.1.trans k, fun p hp => ?_, ?_⟩
  · rcases List.mem_cons.1 hp with rfl | hp
    · exact ⟨Go.heap_alloc_new w _, h.1.size⟩
    · exact (h.kept k).2.1 p hp
  · rw [List.map_cons, List.nodup_cons]
    refine ⟨fun hm => ?_, h.2.2⟩; obtain ⟨p, hp, e⟩ := List.mem_map.1 hm; have := (Array.getElem?_eq_some_iff.1 (h.2.1 p hp).1).1
    omega
theorem Made.perm {gs hs : List (Nat × Nat)} {w : World} (h : Made w0 z gs w) (p : gs.Perm hs) : Made w0 z hs w :=
  ⟨h.1, fun x hx => h.2.1 x (p.mem_iff.2 hx), (p.map _).nodup_iff.1 h.2.2⟩
def stA (P : Program) (ops : Array Oper) (w0 : World) (z : Nat → Obj) (n1 i : Nat) (K : Act → List (Nat × Nat) → Prop) (a : Act) (gs : List (Nat × Nat)) : Prop :=
  ∃ o, ops[i]? = some o ∧ ((i < n1 ∧ ∃ v, YK P ops w0 o v a ∧ K (a.put o.dst v) gs) ∨ (n1 ≤ i ∧ Mk P ops o (z i) ∧ ∀ g, K (a.put o.dst (.pointer (some ⟨g, 0, none⟩))) ((i, g) :: gs)))
def ld (P : Program) (md : Region.Mode) (ops : Array Oper) (w0 : World) (z : Nat → Obj) (n1 n : Nat) (L : Array Bool → Act → List (Nat × Nat) → Prop) : Nat → Array Bool → Act → List (Nat × Nat) → Prop
  | 0, done, a, gs => L done a gs
  | f + 1, done, a, gs => Region.ready md ops done ≠ [] ∧ ∀ i ∈ Region.ready md ops done, i < n ∧ stA P ops w0 z n1 i (ld P md ops w0 z n1 n L f (done.setIfInBounds i true)) a gs
theorem sj {i : Nat} {K : Act → List (Nat × Nat) → Prop} {K2 : Act → World → Prop} {R : Exit → Act → World → Prop} {a : Act} {gs : List (Nat × Nat)} {w : World} (hG : Made w0 z gs w)
    (h : ∀ a2 gs2 w2, Made w0 z gs2 w2 → K a2 gs2 → K2 a2 w2) (hh : stA P ops w0 z n1 i K a gs) : wpOp P ops R i K2 a w := by
  obtain ⟨o, ho, ⟨_, v, y, hk⟩ | ⟨_, mk, hk⟩⟩ := hh
  · unfold wpOp
    simp only [ho]
    rcases y with ⟨hw, q⟩ | ⟨hw, rfl⟩
    · simp only [hw, if_true]
      refine Or.inl ?_; obtain ⟨p, rfl⟩ := regrown_of_below hG.1; have h3 := q p.d p.os; unfold Oper.quietAt at h3; unfold Oper.wp; generalize (execOp a.eval o).run P (Go.Sort.grow (redrawn w0 p.d) p.os) = r at *
      cases r with
      | ok x w2 =>
        cases x <;> simp only [Oper.quietUpon] at h3 <;> simp only [Oper.upon]
        case value u =>
          obtain ⟨e1, e2⟩ := h3; rw [e1, e2]; exact h _ _ _ hG hk
        case skip =>
          obtain ⟨e1, e2⟩ := h3; rw [e1, ← e2]; exact h _ _ _ hG hk
        case enter f args =>
          obtain ⟨e1, hc⟩ := h3; rw [e1]; exact hc.mono fun e w3 ⟨he, hw3⟩ => by subst he; exact h _ _ _ (hG.kept hw3) hk
      | halt x w2 => simp only [Oper.quietUpon] at h3
    · simp only [hw, Bool.false_eq_true, if_false]
      exact h _ _ _ hG hk
  · obtain ⟨hw, hr⟩ := mk a
    unfold wpOp
    simp only [ho, hw, if_true]
    refine Or.inl ?_; unfold Oper.wp; rw [hr w]; exact h _ _ _ (hG.more i) (hk _)
theorem kD {g : Nat} {L : Array Bool → Act → List (Nat × Nat) → Prop} {R : Exit → Act → World → Prop} (hL : ∀ done a gs w, Made w0 z gs w → L done a gs → wpAny P md ops R g done a w) :
    ∀ (f : Nat) (done : Array Bool) (a : Act) (gs : List (Nat × Nat)) (w : World), Made w0 z gs w → ld P md ops w0 z n1 n L f done a gs → wpAny P md ops R (f + g) done a w
  | 0, done, a, gs, w, hw, h => by
    have e : 0 + g = g := Nat.zero_add g; rw [e]; exact hL done a gs w hw h
  | f + 1, done, a, gs, w, hw, h => by
    have e : f + 1 + g = f + g + 1 := by omega
    rw [e]; exact ⟨fun none => absurd none h.1, fun i hi => sj hw (fun a2 gs2 w2 hw2 h2 => kD hL f _ a2 gs2 w2 hw2 h2) (h.2 i hi).2⟩
theorem jN {L : Array Bool → Act → List (Nat × Nat) → Prop} (hL : ∀ done a gs hs, gs.Perm hs → L done a gs → L done a hs) :
    ∀ (f : Nat) (done : Array Bool) (a : Act) (gs hs : List (Nat × Nat)), gs.Perm hs → ld P md ops w0 z n1 n L f done a gs → ld P md ops w0 z n1 n L f done a hs
  | 0, done, a, gs, hs, p, h => hL done a gs hs p h
  | f + 1, done, a, gs, hs, p, h => by
    refine ⟨h.1, fun i hi => ⟨(h.2 i hi).1, ?_⟩⟩; obtain ⟨o, ho, ⟨hi1, v, y, hk⟩ | ⟨hi1, mk, hk⟩⟩ := (h.2 i hi).2
    · exact ⟨o, ho, Or.inl ⟨hi1, v, y, jN hL f _ _ _ _ p hk⟩⟩
    · exact ⟨o, ho, Or.inr ⟨hi1, mk, fun g => jN hL f _ _ _ _ (p.cons _) (hk g)⟩⟩
theorem YK.same {o : Oper} {v : Value} {a a2 : Act} (y : YK P ops w0 o v a) (he : execOp a2.eval o = execOp a.eval o) (hw : Region.wanted o (yielded ops a2.tmps) = Region.wanted o (yielded ops a.tmps)) : YK P ops w0 o v a2 := by
  unfold YK Oper.quietAt at *; rw [he, hw]; exact y
theorem sk {i : Nat} {o : Oper} {v : Value} {L : Array Bool → Act → List (Nat × Nat) → Prop} (hi : ops[i]? = some o) (nosel : ∀ (j : Nat) (q : Oper) cs b, ops[j]? = some q → q.op ≠ .select cs b)
    (sink : Region.sinkB md ops n = true) (chain : Region.chainB md ops n = true) (hn : n < ops.size) (hin : i < n) (hi1 : i < n1) (late : ∀ done a gs, L done a gs → ∀ j ∈ Region.ready md ops done, n ≤ j) (f : Nat) :
    ∀ (done : Array Bool) (a : Act) (gs : List (Nat × Nat)), HeadInv md ops n done → (∀ j q, ops[j]? = some q → j ≠ i → done.getD j true = false → (∀ e ∈ q.after, Region.binds md e = true → e.on ≠ i) → o.apart ops q = true) →
      i ∈ Region.ready md ops done → YK P ops w0 o v a → ld P md ops w0 z n1 n L f (done.setIfInBounds i true) (a.put o.dst v) gs → ld P md ops w0 z n1 n L (f + 1) done a gs := by
  induction f with
  | zero =>
    intro done a gs inv apart ri y h; have undone := (mem_ready.1 ri).1; refine ⟨List.ne_nil_of_mem ri, fun j rj => ?_⟩; have hj : j < n := Nat.lt_of_not_le fun hle => tail_waits sink chain hn inv _ i rfl hin undone j hle rj; rcases Nat.decEq j i with ne | rfl
    · exact absurd (late _ _ _ h j (ready_mono rj ne)) (by omega)
    · exact ⟨hj, o, hi, Or.inl ⟨hi1, v, y, h⟩⟩
  | succ f ih =>
    intro done a gs inv apart ri y h; have undone := (mem_ready.1 ri).1; refine ⟨List.ne_nil_of_mem ri, fun j rj => ?_⟩; have hj : j < n := Nat.lt_of_not_le fun hle => tail_waits sink chain hn inv _ i rfl hin undone j hle rj; rcases Nat.decEq j i with ne | rfl
    · refine ⟨hj, ?_⟩
      obtain ⟨uj, q, hq, waits⟩ := mem_ready.1 rj
      have free : ∀ e ∈ q.after, Region.binds md e = true → e.on ≠ i := fun e he hb on => by
        have w1 := waits e he hb; rw [on, getD_both undone] at w1
        cases w1
      obtain ⟨x1, x2, x3⟩ := Oper.apart_spec (apart j q hq ne uj free); have IP : ∀ u, YK P ops w0 o v (a.put q.dst u) := fun u => y.same (execOp_put o (fun cs b => nosel i o cs b hi) a q.dst u x3) (wanted_put o a q.dst u x3)
      have go : ∀ u gs2, ld P md ops w0 z n1 n L f ((done.setIfInBounds i true).setIfInBounds j true) ((a.put o.dst v).put q.dst u) gs2 → ld P md ops w0 z n1 n L (f + 1) (done.setIfInBounds j true) (a.put q.dst u) gs2 := fun u gs2 h2 => by
        refine ih (done.setIfInBounds j true) (a.put q.dst u) gs2 (inv.set rj hj) (fun k r hk ki uk fk => ?_) (ready_mono ri (fun e => ne e.symm)) (IP u) ?_
        · refine apart k r hk ki ?_ fk
          rcases Nat.decEq j k with jk | rfl
          · rwa [getD_set_ne true jk] at uk
          · exact uj
        · rw [Array.setIfInBounds_comm _ _ ne, ← Act.put_comm a v u x2]; exact h2
      obtain ⟨q2, hq2, way⟩ := (h.2 j (ready_mono rj ne)).2; obtain rfl : q2 = q := Option.some.inj (hq2.symm.trans hq); refine ⟨q2, hq, ?_⟩; rcases way with ⟨j1, u, yu, hk⟩ | ⟨j1, mk, hk⟩
      · refine Or.inl ⟨j1, u, ?_, go u gs hk⟩
        exact yu.same (execOp_put q2 (fun cs b => nosel j q2 cs b hq) a o.dst v x1).symm (wanted_put q2 a o.dst v x1).symm
      · exact Or.inr ⟨j1, mk, fun g => go _ _ (hk g)⟩
    · exact ⟨hj, o, hi, Or.inl ⟨hi1, v, y, h⟩⟩
theorem Bv {i : Nat} {o : Oper} {L : Array Bool → Act → List (Nat × Nat) → Prop} (hL : ∀ done a gs hs, gs.Perm hs → L done a gs → L done a hs) (hi : ops[i]? = some o)
    (sink : Region.sinkB md ops n = true) (chain : Region.chainB md ops n = true) (hn : n < ops.size) (hin : i < n) (hi1 : n1 ≤ i) (mk : Mk P ops o (z i)) (late : ∀ done a gs, L done a gs → ∀ j ∈ Region.ready md ops done, n ≤ j) (f : Nat) :
    ∀ (done : Array Bool) (a : Act) (gs : List (Nat × Nat)), HeadInv md ops n done → (∀ j, j < n1 → done.getD j true = true) → (∀ j q, ops[j]? = some q → j ≠ i → done.getD j true = false → (∀ e ∈ q.after, Region.binds md e = true → e.on ≠ i) → o.apart ops q = true) →
      i ∈ Region.ready md ops done → (∀ g, ld P md ops w0 z n1 n L f (done.setIfInBounds i true) (a.put o.dst (.pointer (some ⟨g, 0, none⟩))) ((i, g) :: gs)) → ld P md ops w0 z n1 n L (f + 1) done a gs := by
  induction f with
  | zero =>
    intro done a gs inv early apart ri h; have undone := (mem_ready.1 ri).1; refine ⟨List.ne_nil_of_mem ri, fun j rj => ?_⟩; have hj : j < n := Nat.lt_of_not_le fun hle => tail_waits sink chain hn inv _ i rfl hin undone j hle rj; rcases Nat.decEq j i with ne | rfl
    · exact absurd (late _ _ _ (h 0) j (ready_mono rj ne)) (by omega)
    · exact ⟨hj, o, hi, Or.inr ⟨hi1, mk, h⟩⟩
  | succ f ih =>
    intro done a gs inv early apart ri h; have undone := (mem_ready.1 ri).1; refine ⟨List.ne_nil_of_mem ri, fun j rj => ?_⟩; have hj : j < n := Nat.lt_of_not_le fun hle => tail_waits sink chain hn inv _ i rfl hin undone j hle rj; rcases Nat.decEq j i with ne | rfl
    · refine ⟨hj, ?_⟩
      obtain ⟨uj, q, hq, waits⟩ := mem_ready.1 rj; have j1 : n1 ≤ j := Nat.le_of_not_lt fun hlt => by rw [early j hlt] at uj; cases uj
      have free : ∀ e ∈ q.after, Region.binds md e = true → e.on ≠ i := fun e he hb on => by
        have w1 := waits e he hb; rw [on, getD_both undone] at w1
        cases w1
      obtain ⟨x1, x2, x3⟩ := Oper.apart_spec (apart j q hq ne uj free); obtain ⟨q2, hq2, way⟩ := ((h 0).2 j (ready_mono rj ne)).2; obtain rfl : q2 = q := Option.some.inj (hq2.symm.trans hq)
      have mkj : Mk P ops q2 (z j) := by
        rcases way with ⟨jj, _⟩ | ⟨_, mkj, _⟩
        · omega
        · exact mkj
      refine ⟨q2, hq, Or.inr ⟨j1, mkj, fun g2 => ?_⟩⟩; refine ih (done.setIfInBounds j true) _ _ (inv.set rj hj) (fun k hk => ?_) (fun k r hk ki uk fk => ?_) (ready_mono ri (fun e => ne e.symm)) (fun g => ?_)
      · have e := early k hk
        rw [getD_set_ne true (by omega)]; exact e
      · refine apart k r hk ki ?_ fk
        rcases Nat.decEq j k with jk | rfl
        · rwa [getD_set_ne true jk] at uk
        · exact uj
      · obtain ⟨q3, hq3, way3⟩ := ((h g).2 j (ready_mono rj ne)).2
        obtain rfl : q3 = q2 := Option.some.inj (hq3.symm.trans hq); rcases way3 with ⟨jj, _⟩ | ⟨_, _, hk⟩
        · omega
        · rw [Array.setIfInBounds_comm _ _ ne, ← Act.put_comm a _ _ x2]
          exact jN hL f _ _ _ _ (List.Perm.swap _ _ _) (hk g2)
    · exact ⟨hj, o, hi, Or.inr ⟨hi1, mk, h⟩⟩
def ol (P : Program) (ops : Array Oper) (w0 : World) (Q : Act → Prop) : List Oper → Act → Prop
  | [], a => Q a
  | o :: rest, a => if Region.wanted o (yielded ops a.tmps) then ∃ v, (∀ d os, o.quietAt P a (fun w2 => Kept (Go.Sort.grow (redrawn w0 d) os) w2) (Go.Sort.grow (redrawn w0 d) os) v) ∧ ol P ops w0 Q rest (a.put o.dst v) else ol P ops w0 Q rest (a.put o.dst undef)
def xO (Q : Act → List (Nat × Nat) → Prop) : List Oper → Nat → Act → List (Nat × Nat) → Prop
  | [], _, a, gs => Q a gs
  | o :: rest, k, a, gs => ∀ g, xO Q rest (k + 1) (a.put o.dst (.pointer (some ⟨g, 0, none⟩))) ((k, g) :: gs)
theorem vG {Q : Act → Prop} {a : Act} {o : Oper} {rest : List Oper}
    (h : ∀ K : Act → Prop, (∀ a, ol P ops w0 Q rest a → K a) → if Region.wanted o (yielded ops a.tmps) then ∃ v, (∀ d os, o.quietAt P a (fun w2 => Kept (Go.Sort.grow (redrawn w0 d) os) w2) (Go.Sort.grow (redrawn w0 d) os) v) ∧ K (a.put o.dst v) else K (a.put o.dst undef)) : ol P ops w0 Q (o :: rest) a :=
  h _ (fun _ h => h)
theorem xP {Q : Act → Prop} {a : Act} (h : Q a) : ol P ops w0 Q [] a := h
theorem jo {g : Nat} {T : Act → List (Nat × Nat) → Prop} (hT : ∀ a gs hs, gs.Perm hs → T a gs → T a hs) (sink : Region.sinkB md ops n = true) (chain : Region.chainB md ops n = true) (hn : n < ops.size)
    (hz : ∀ i, n1 ≤ i → i < n → ∃ o, ops[i]? = some o ∧ Mk P ops o (z i)) :
    ∀ (l : List Oper) (k : Nat) (done : Array Bool) (a : Act) (gs : List (Nat × Nat)), (∀ j, j < l.length → l[j]? = ops[k + j]?) → k + l.length = n → n1 ≤ k → HeadInv md ops n done → (∀ j, j < n1 → done.getD j true = true) →
      Region.lexHead md ops g l.length k done = true → xO T l k a gs → ld P md ops w0 z n1 n (fun done2 a2 gs2 => Region.seqB md ops g n done2 = true ∧ T a2 gs2) l.length done a gs
  | [], k, done, a, gs, _, hk, _, _, _, lex, h => by
    obtain rfl : k = n := hk; exact ⟨lex, h⟩
  | o :: l, k, done, a, gs, hl, hk, k1, inv, early, lex, h => by
    have ho : ops[k]? = some o := (hl 0 (Nat.succ_pos _)).symm; rw [List.length_cons] at hk
    simp only [List.length_cons, Region.lexHead, Bool.and_eq_true] at lex
    have rk : k ∈ Region.ready md ops done := by simpa using lex.1.1
    obtain ⟨o2, ho2, mk⟩ := hz k k1 (by omega); obtain rfl : o2 = o := Option.some.inj (ho2.symm.trans ho); refine Bv (fun _ _ _ _ p x => ⟨x.1, hT _ _ _ p x.2⟩) ho sink chain hn (by omega) k1 mk (fun _ _ _ x => seqB_ready x.1) l.length done a gs inv early (Region.free_spec ho lex.1.2) rk fun b => ?_; refine jo hT sink chain hn hz l (k + 1) _ _ _ (fun j hj => ?_) (by omega) (by omega) (inv.set rk (by omega)) (fun j hj => ?_) lex.2 (h b)
    · have e := hl (j + 1) (by rw [List.length_cons]; omega)
      rw [List.getElem?_cons_succ] at e; rw [e]; congr 1; omega
    · rw [getD_set_ne true (by omega)]; exact early j hj
theorem ny {g : Nat} {T : Act → List (Nat × Nat) → Prop} (hT : ∀ a gs hs, gs.Perm hs → T a gs → T a hs) (nosel : Region.noSelect ops = true) (sink : Region.sinkB md ops n = true) (chain : Region.chainB md ops n = true) (hn : n < ops.size)
    (h1 : n1 ≤ n) (hz : ∀ i, n1 ≤ i → i < n → ∃ o, ops[i]? = some o ∧ Mk P ops o (z i)) (m : List Oper) (hm : ∀ j, j < m.length → m[j]? = ops[n1 + j]?) (hml : n1 + m.length = n) :
    ∀ (l : List Oper) (k : Nat) (done : Array Bool) (a : Act), (∀ j, j < l.length → l[j]? = ops[k + j]?) → k + l.length = n1 → HeadInv md ops n done → (∀ j, j < k → done.getD j true = true) →
      Region.lexHead md ops g (l.length + m.length) k done = true → ol P ops w0 (fun a => xO T m n1 a []) l a → ld P md ops w0 z n1 n (fun done2 a2 gs2 => Region.seqB md ops g n done2 = true ∧ T a2 gs2) (l.length + m.length) done a []
  | [], k, done, a, _, hk, inv, early, lex, h => by
    obtain rfl : k = n1 := hk; rw [List.length_nil, Nat.zero_add] at lex ⊢; exact jo hT sink chain hn hz m k done a [] hm hml (Nat.le_refl _) inv early lex h
  | o :: l, k, done, a, hl, hk, inv, early, lex, h => by
    have ho : ops[k]? = some o := (hl 0 (Nat.succ_pos _)).symm; rw [List.length_cons] at hk; have e0 : (o :: l).length + m.length = (l.length + m.length) + 1 := by rw [List.length_cons]; omega
    rw [e0] at lex ⊢
    simp only [Region.lexHead, Bool.and_eq_true] at lex
    have rk : k ∈ Region.ready md ops done := by simpa using lex.1.1
    have y : ∃ v, YK P ops w0 o v a ∧ ol P ops w0 (fun a => xO T m n1 a []) l (a.put o.dst v) := by
      unfold ol at h
      by_cases hw : Region.wanted o (yielded ops a.tmps) = true
      · rw [if_pos hw] at h
        obtain ⟨v, y, r⟩ := h; exact ⟨v, Or.inl ⟨hw, y⟩, r⟩
      · rw [if_neg hw] at h
        exact ⟨undef, Or.inr ⟨by simpa using hw, rfl⟩, h⟩
    obtain ⟨v, y, rest⟩ := y; refine sk ho (Region.noSelect_spec nosel) sink chain hn (by omega) (by omega) (fun _ _ _ x => seqB_ready x.1) (l.length + m.length) done a [] inv (Region.free_spec ho lex.1.2) rk y ?_; refine ny hT nosel sink chain hn h1 hz m hm hml l (k + 1) _ _ (fun j hj => ?_) (by omega) (inv.set rk (by omega)) (fun j hj => ?_) lex.2 rest
    · have e := hl (j + 1) (by rw [List.length_cons]; omega)
      rw [List.getElem?_cons_succ] at e; rw [e]; congr 1; omega
    · rcases Nat.decEq k j with ne | rfl
      · rw [getD_set_ne true ne]; exact early j (by omega)
      · have u := (mem_ready.1 rk).1
        rcases Nat.lt_or_ge k done.size with s | s
        · simp [s]
        · simp [Array.getElem?_eq_none s] at u
theorem jO {id : Nat} {Q : Exit → Act → World → Prop} {a : Act} {w0 : World} {l : List Oper} (n1 n : Nat) (z : Nat → Obj) (hm : P.follows .mixedOrders = true) (hB : Region.lexTailB .any l.toArray n = true) (h1 : n1 ≤ n)
    (hz : ∀ i, n1 ≤ i → i < n → ∃ o, l.toArray[i]? = some o ∧ Mk P l.toArray o (z i))
    (h : ol P l.toArray w0 (fun a => xO (fun a gs => ∀ w2, Made w0 z gs w2 → wpList P l.toArray Q (l.drop n) a w2) ((l.take n).drop n1) n1 a []) (l.take n1) a) : (Code.region id l.toArray true).wp P Q a w0 := by
  simp only [Region.lexTailB, Bool.and_eq_true, decide_eq_true_eq] at hB
  obtain ⟨⟨⟨⟨nosel, hn⟩, sink⟩, chain⟩, lex⟩ := hB; have sz : l.toArray.size = l.length := List.size_toArray; have t1 : (l.take n1).length = n1 := by rw [List.length_take]; omega
  have t2 : ((l.take n).drop n1).length = n - n1 := by rw [List.length_drop, List.length_take]; omega
  have dl : (l.drop n).length = l.toArray.size - n := by rw [List.length_drop, sz]
  have inv : HeadInv .any l.toArray n (Array.replicate l.toArray.size false) :=
    ⟨Array.size_replicate, (fun j q _ hd => by rw [getD_replicate_false] at hd; cases hd), fun t _ ht => getD_in (by rw [Array.size_replicate]; exact ht) (getD_replicate_false _ _)⟩
  have H := ny (md := .any) (w0 := w0) (z := z) (g := l.toArray.size - n) (T := fun a gs => ∀ w2, Made w0 z gs w2 → wpList P l.toArray Q (l.drop n) a w2) (fun a gs hs p x w2 m2 => x w2 (m2.perm p.symm)) nosel sink chain hn h1 hz ((l.take n).drop n1)
    (fun j hj => by rw [t2] at hj; rw [List.getElem?_drop, List.getElem?_take_of_lt (by omega), List.getElem?_toArray]) (by rw [t2]; omega) (l.take n1) 0 (Array.replicate l.toArray.size false) a
    (fun j hj => by rw [t1] at hj; rw [List.getElem?_take_of_lt hj, Nat.zero_add, List.getElem?_toArray]) (by rw [Nat.zero_add, t1]) inv (fun j hj => by omega) (by rw [t1, t2, show n1 + (n - n1) = n by omega]; exact lex) h
  have A := kD (R := Q) (g := l.toArray.size - n) (fun done a2 gs w2 hw2 hd => by
    have s := wpAny_of_seq (md := .any) (Q' := Q) (l.drop n) n done a2 w2 (fun j => by rw [List.getElem?_drop, List.getElem?_toArray]) (by rw [dl]; exact hd.1) (hd.2 w2 hw2)
    rwa [dl] at s) _ _ _ [] w0.drew ⟨(Kept.refl w0).drew, (fun p hp => by cases hp), List.nodup_nil⟩ H
  rw [t1, t2, show n1 + (n - n1) + (l.toArray.size - n) = l.toArray.size by omega] at A; exact wp_region_any hm A
end
abbrev jp : Obj := .cells #[.int .u8 0, .int .i64 0, .string ⟨#[]⟩] 25
theorem mkV {ops : Array Oper} {o : Oper} (h : o.op = .alloc 25) (hg : o.guard = none) : Mk Tryz.prog ops o jp := fun a => by
  refine ⟨by unfold Region.wanted; rw [hg], fun w => ?_⟩; unfold execOp; rw [h]
  go_simp
theorem Made.vars2 {w0 w : World} {o0 : Obj} {i0 g0 i1 g1 : Nat} (h : Made w0 (fun _ => o0) [(i1, g1), (i0, g0)] w) : Kept w0 w ∧ (w.heap[g0]? = some o0 ∧ w0.heap.size ≤ g0) ∧ (w.heap[g1]? = some o0 ∧ w0.heap.size ≤ g1) ∧ g0 ≠ g1 := by
  refine ⟨h.1, h.2.1 (i0, g0) (by simp), h.2.1 (i1, g1) (by simp), ?_⟩; have := h.2.2
  simp at this
  exact fun e => this e.symm
end
section
open Go.RowKit Lv
abbrev ae (v : Vl) : Value := .agg #[.int .u8 v.k, .int .i64 v.n, .string ⟨v.t.toArray⟩]
def cF (v : Vl) : Int := if vOk v then 0 else 2
theorem nA (t : List UInt8) : (fF t = 0 ∧ okT t = true) ∨ (fF t ≠ 0 ∧ okT t = false) := by
  unfold fF okT
  by_cases h : 256 < t.length
  · rw [if_pos h, decide_eq_false (by omega)]; exact Or.inr ⟨by omega, rfl⟩
  · rw [if_neg h, decide_eq_true (by omega)]
    cases eG t
    · exact Or.inr ⟨by simp, rfl⟩
    · exact Or.inl ⟨rfl, rfl⟩
theorem cX {v : Vl} (h : vOk v = true) : cF v = 0 := by unfold cF; rw [h]; rfl
theorem cK {v : Vl} (h : vOk v = false) : cF v = 2 := by unfold cF; rw [h]; rfl
theorem H3 (n : Int) (t : List UInt8) (w : World) (h1 : -9223372036854775808 ≤ n) (h2 : n ≤ 9223372036854775807) (ht : t.length ≤ 1000000) :
    Calls Tryz.prog 27 #[.agg #[.int .u8 0, .int .i64 n, .string ⟨t.toArray⟩]] w fun e w' => e = .returned (.int .i64 (cF ⟨0, n, t⟩)) ∧ Kept w w' := by
  by_cases c : n = 0
  · subst c
    cases t with
    | nil =>
      have E : Hid (cF ⟨0, 0, []⟩ = 0) := by
        show _ = _; exact cX (by decide)
      go_enter Tryz.func27, Tryz.ntmps27; go_wp2_with fail; go_ret; exact ⟨ak E.out.symm, kpt⟩
    | cons a r =>
      have E : Hid (cF ⟨0, 0, a :: r⟩ = 2) := by
        show _ = _; exact cK (by rw [ok0]; simp)
      go_enter Tryz.func27, Tryz.ntmps27; go_wp2_with fail; go_ret; exact ⟨ak E.out.symm, kpt⟩
  · have c0 : (n == 0) = false := by simpa using c
    have E : Hid (cF ⟨0, n, t⟩ = 2) := by
      show _ = _; exact cK (by rw [ok0]; simp [c])
    clear c; go_enter Tryz.func27, Tryz.ntmps27; go_wp2_with fail; go_ret; exact ⟨ak E.out.symm, kpt⟩
theorem H4 (n : Int) (t : List UInt8) (w : World) (h1 : -9223372036854775808 ≤ n) (h2 : n ≤ 9223372036854775807) (ht : t.length ≤ 1000000) :
    Calls Tryz.prog 27 #[.agg #[.int .u8 1, .int .i64 n, .string ⟨t.toArray⟩]] w fun e w' => e = .returned (.int .i64 (cF ⟨1, n, t⟩)) ∧ Kept w w' := by
  cases t with
  | cons a r =>
    have E : Hid (cF ⟨1, n, a :: r⟩ = 2) := by
      show _ = _; exact cK (by rw [ok1]; simp)
    by_cases c : -9223372036854775807 ≤ n
    · go_enter Tryz.func27, Tryz.ntmps27
      go_wp2_with fail; go_ret; exact ⟨ak E.out.symm, kpt⟩
    · go_enter Tryz.func27, Tryz.ntmps27
      go_wp2_with fail; go_ret; exact ⟨ak E.out.symm, kpt⟩
  | nil =>
    by_cases c : n = -9223372036854775808
    · subst c
      have E : Hid (cF ⟨1, -9223372036854775808, []⟩ = 2) := by
        show _ = _; exact cK (by rw [ok1]; simp)
      go_enter Tryz.func27, Tryz.ntmps27; go_wp2_with fail; go_ret; exact ⟨ak E.out.symm, kpt⟩
    · have c0 : (n != -9223372036854775808) = true := by simpa using c
      have c1 : -9223372036854775807 ≤ n := by omega
      have E : Hid (cF ⟨1, n, []⟩ = 0) := by
        show _ = _; exact cX (by rw [ok1]; simp [c])
      clear c; go_enter Tryz.func27, Tryz.ntmps27; go_wp2_with fail; go_ret; exact ⟨ak E.out.symm, kpt⟩
theorem H6 (n : Int) (t : List UInt8) (w : World) (h1 : -9223372036854775808 ≤ n) (h2 : n ≤ 9223372036854775807) (ht : t.length ≤ 1000000) :
    Calls Tryz.prog 27 #[.agg #[.int .u8 2, .int .i64 n, .string ⟨t.toArray⟩]] w fun e w' => e = .returned (.int .i64 (cF ⟨2, n, t⟩)) ∧ Kept w w' := by
  by_cases c : n = 0
  · subst c
    cases t with
    | nil =>
      have E : Hid (cF ⟨2, 0, []⟩ = 0) := by
        show _ = _; exact cX (by decide)
      go_enter Tryz.func27, Tryz.ntmps27; go_wp2_with fail; go_ret; exact ⟨ak E.out.symm, kpt⟩
    | cons a r =>
      have E : Hid (cF ⟨2, 0, a :: r⟩ = 2) := by
        show _ = _; exact cK (by rw [ok2]; simp)
      go_enter Tryz.func27, Tryz.ntmps27; go_wp2_with fail; go_ret; exact ⟨ak E.out.symm, kpt⟩
  by_cases d : n = 1
  · subst d
    cases t with
    | nil =>
      have E : Hid (cF ⟨2, 1, []⟩ = 0) := by
        show _ = _; exact cX (by decide)
      go_enter Tryz.func27, Tryz.ntmps27; go_wp2_with fail; go_ret; exact ⟨ak E.out.symm, kpt⟩
    | cons a r =>
      have E : Hid (cF ⟨2, 1, a :: r⟩ = 2) := by
        show _ = _; exact cK (by rw [ok2]; simp)
      go_enter Tryz.func27, Tryz.ntmps27; go_wp2_with fail; go_ret; exact ⟨ak E.out.symm, kpt⟩
  have c0 : (n == 0) = false := by simpa using c
  have c1 : (n == 1) = false := by simpa using d
  have c2 : (n / 2 == 0) = false := by rw [beq_eq_false_iff_ne]; omega
  have E : Hid (cF ⟨2, n, t⟩ = 2) := by
    show _ = _; exact cK (by rw [ok2]; simp [c, d])
  clear c d
  cases t with
  | nil =>
    go_enter Tryz.func27, Tryz.ntmps27; go_wp2_with fail; go_ret; exact ⟨ak E.out.symm, kpt⟩
  | cons a r =>
    go_enter Tryz.func27, Tryz.ntmps27; go_wp2_with fail; go_ret; exact ⟨ak E.out.symm, kpt⟩
theorem H7 (n : Int) (t : List UInt8) (w : World) (h1 : -9223372036854775808 ≤ n) (h2 : n ≤ 9223372036854775807) (ht : t.length ≤ 1000000) :
    Calls Tryz.prog 27 #[.agg #[.int .u8 3, .int .i64 n, .string ⟨t.toArray⟩]] w fun e w' => e = .returned (.int .i64 (cF ⟨3, n, t⟩)) ∧ Kept w w' := by
  by_cases c : n = 0
  · subst c
    have C := Lib.hid (fun w => xH t w ht); rcases nA t with ⟨g, o⟩ | ⟨g, o⟩
    · have E : Hid (cF ⟨3, 0, t⟩ = 0) := by
        show _ = _; exact cX (by rw [ok3, o]; rfl)
      rw [g] at C; clear g o; go_enter Tryz.func27, Tryz.ntmps27; go_wp2_with fail; refine (C.out _).mono ?_; rintro e w' ⟨rfl, k1⟩; go_wp2_with fail; go_ret; exact ⟨ak E.out.symm, kpt⟩
    · have E : Hid (cF ⟨3, 0, t⟩ = 2) := by
        show _ = _; exact cK (by rw [ok3, o]; rfl)
      have g0 : (fF t == 0) = false := by simpa using g
      generalize fF t = d at *; clear g o; go_enter Tryz.func27, Tryz.ntmps27; go_wp2_with fail; refine (C.out _).mono ?_; rintro e w' ⟨rfl, k1⟩; go_wp2_with fail; go_ret; exact ⟨ak E.out.symm, kpt⟩
  · have c0 : (n == 0) = false := by simpa using c
    have E : Hid (cF ⟨3, n, t⟩ = 2) := by
      show _ = _; exact cK (by rw [ok3]; simp [c])
    clear c; go_enter Tryz.func27, Tryz.ntmps27; go_wp2_with fail; go_ret; exact ⟨ak E.out.symm, kpt⟩
theorem H8 (n : Int) (t : List UInt8) (w : World) (h1 : -9223372036854775808 ≤ n) (h2 : n ≤ 9223372036854775807) (ht : t.length ≤ 1000000) :
    Calls Tryz.prog 27 #[.agg #[.int .u8 4, .int .i64 n, .string ⟨t.toArray⟩]] w fun e w' => e = .returned (.int .i64 (cF ⟨4, n, t⟩)) ∧ Kept w w' := by
  have E1 : Hid (cF ⟨4, n, []⟩ = if 1 ≤ n ∧ n ≤ 6 then 0 else 2) := by
    show _ = _; unfold cF; rw [ok4]; simp
  cases t with
  | cons a r =>
    have E : Hid (cF ⟨4, n, a :: r⟩ = 2) := by
      show _ = _; exact cK (by rw [ok4]; simp)
    by_cases c : 1 ≤ n
    · by_cases d : n ≤ 6
      · go_enter Tryz.func27, Tryz.ntmps27
        go_wp2_with fail; go_ret; exact ⟨ak E.out.symm, kpt⟩
      · go_enter Tryz.func27, Tryz.ntmps27
        go_wp2_with fail; go_ret; exact ⟨ak E.out.symm, kpt⟩
    · go_enter Tryz.func27, Tryz.ntmps27
      go_wp2_with fail; go_ret; exact ⟨ak E.out.symm, kpt⟩
  | nil =>
    by_cases c : 1 ≤ n
    · by_cases d : n ≤ 6
      · have E := E1.out
        rw [if_pos ⟨c, d⟩] at E; have EH := Lib.hid E; clear E; go_enter Tryz.func27, Tryz.ntmps27; go_wp2_with fail; go_ret; exact ⟨ak EH.out.symm, kpt⟩
      · have E := E1.out
        rw [if_neg (by omega)] at E; have EH := Lib.hid E; clear E; go_enter Tryz.func27, Tryz.ntmps27; go_wp2_with fail; go_ret; exact ⟨ak EH.out.symm, kpt⟩
    · have E := E1.out
      rw [if_neg (by omega)] at E; have EH := Lib.hid E; clear E; go_enter Tryz.func27, Tryz.ntmps27; go_wp2_with fail; go_ret; exact ⟨ak EH.out.symm, kpt⟩
theorem H9 (k : Nat) (n : Int) (t : List UInt8) (w : World) (h5 : 5 ≤ k) :
    Calls Tryz.prog 27 #[.agg #[.int .u8 k, .int .i64 n, .string ⟨t.toArray⟩]] w fun e w' => e = .returned (.int .i64 (cF ⟨k, n, t⟩)) ∧ Kept w w' := by
  have E : Hid (cF ⟨k, n, t⟩ = 2) := by
    show _ = _; exact cK (ok5 h5)
  have c0 : ((k : Int) == 0) = false := by rw [beq_eq_false_iff_ne]; omega
  have c1 : ((k : Int) == 1) = false := by rw [beq_eq_false_iff_ne]; omega
  have c2 : ((k : Int) == 2) = false := by rw [beq_eq_false_iff_ne]; omega
  have c3 : ((k : Int) == 3) = false := by rw [beq_eq_false_iff_ne]; omega
  have c4 : ((k : Int) == 4) = false := by rw [beq_eq_false_iff_ne]; omega
  go_enter Tryz.func27, Tryz.ntmps27; go_wp2_with fail; go_ret; exact ⟨ak E.out.symm, kpt⟩
theorem cY (v : Vl) (w : World) (hn : i64 v.n) (ht : v.t.length ≤ 1000000) :
    Calls Tryz.prog 27 #[ae v] w fun e w' => e = .returned (.int .i64 (cF v)) ∧ Kept w w' := by
  obtain ⟨k, n, t⟩ := v
  match k with
  | 0 => exact H3 n t w hn.1 hn.2 ht
  | 1 => exact H4 n t w hn.1 hn.2 ht
  | 2 => exact H6 n t w hn.1 hn.2 ht
  | 3 => exact H7 n t w hn.1 hn.2 ht
  | 4 => exact H8 n t w hn.1 hn.2 ht
  | k + 5 => exact H9 (k + 5) n t w (by omega)
theorem Ia (n : Int) (t : List UInt8) (w : World) (h1 : -9223372036854775808 ≤ n) (h2 : n ≤ 9223372036854775807) (ht : t.length ≤ 1000000) :
    Calls Tryz.prog 47 #[.agg #[.int .u8 0, .int .i64 n, .string ⟨t.toArray⟩]] w fun e w' => e = .returned (.int .i64 (cF ⟨0, n, t⟩)) ∧ Kept w w' := by
  by_cases c : n = 0
  · subst c
    cases t with
    | nil =>
      have E : Hid (cF ⟨0, 0, []⟩ = 0) := by
        show _ = _; exact cX (by decide)
      go_enter Tryz.func47, Tryz.ntmps47; go_wp2_with fail; go_ret; exact ⟨ak E.out.symm, kpt⟩
    | cons a r =>
      have E : Hid (cF ⟨0, 0, a :: r⟩ = 2) := by
        show _ = _; exact cK (by rw [ok0]; simp)
      go_enter Tryz.func47, Tryz.ntmps47; go_wp2_with fail; go_ret; exact ⟨ak E.out.symm, kpt⟩
  · have c0 : (n == 0) = false := by simpa using c
    have E : Hid (cF ⟨0, n, t⟩ = 2) := by
      show _ = _; exact cK (by rw [ok0]; simp [c])
    clear c; go_enter Tryz.func47, Tryz.ntmps47; go_wp2_with fail; go_ret; exact ⟨ak E.out.symm, kpt⟩
theorem Ib (n : Int) (t : List UInt8) (w : World) (h1 : -9223372036854775808 ≤ n) (h2 : n ≤ 9223372036854775807) (ht : t.length ≤ 1000000) :
    Calls Tryz.prog 47 #[.agg #[.int .u8 1, .int .i64 n, .string ⟨t.toArray⟩]] w fun e w' => e = .returned (.int .i64 (cF ⟨1, n, t⟩)) ∧ Kept w w' := by
  cases t with
  | cons a r =>
    have E : Hid (cF ⟨1, n, a :: r⟩ = 2) := by
      show _ = _; exact cK (by rw [ok1]; simp)
    by_cases c : -9223372036854775807 ≤ n
    · go_enter Tryz.func47, Tryz.ntmps47
      go_wp2_with fail; go_ret; exact ⟨ak E.out.symm, kpt⟩
    · go_enter Tryz.func47, Tryz.ntmps47
      go_wp2_with fail; go_ret; exact ⟨ak E.out.symm, kpt⟩
  | nil =>
    by_cases c : n = -9223372036854775808
    · subst c
      have E : Hid (cF ⟨1, -9223372036854775808, []⟩ = 2) := by
        show _ = _; exact cK (by rw [ok1]; simp)
      go_enter Tryz.func47, Tryz.ntmps47; go_wp2_with fail; go_ret; exact ⟨ak E.out.symm, kpt⟩
    · have c0 : (n != -9223372036854775808) = true := by simpa using c
      have c1 : -9223372036854775807 ≤ n := by omega
      have E : Hid (cF ⟨1, n, []⟩ = 0) := by
        show _ = _; exact cX (by rw [ok1]; simp [c])
      clear c; go_enter Tryz.func47, Tryz.ntmps47; go_wp2_with fail; go_ret; exact ⟨ak E.out.symm, kpt⟩
theorem Ic (n : Int) (t : List UInt8) (w : World) (h1 : -9223372036854775808 ≤ n) (h2 : n ≤ 9223372036854775807) (ht : t.length ≤ 1000000) :
    Calls Tryz.prog 47 #[.agg #[.int .u8 2, .int .i64 n, .string ⟨t.toArray⟩]] w fun e w' => e = .returned (.int .i64 (cF ⟨2, n, t⟩)) ∧ Kept w w' := by
  by_cases c : n = 0
  · subst c
    cases t with
    | nil =>
      have E : Hid (cF ⟨2, 0, []⟩ = 0) := by
        show _ = _; exact cX (by decide)
      go_enter Tryz.func47, Tryz.ntmps47; go_wp2_with fail; go_ret; exact ⟨ak E.out.symm, kpt⟩
    | cons a r =>
      have E : Hid (cF ⟨2, 0, a :: r⟩ = 2) := by
        show _ = _; exact cK (by rw [ok2]; simp)
      go_enter Tryz.func47, Tryz.ntmps47; go_wp2_with fail; go_ret; exact ⟨ak E.out.symm, kpt⟩
  by_cases d : n = 1
  · subst d
    cases t with
    | nil =>
      have E : Hid (cF ⟨2, 1, []⟩ = 0) := by
        show _ = _; exact cX (by decide)
      go_enter Tryz.func47, Tryz.ntmps47; go_wp2_with fail; go_ret; exact ⟨ak E.out.symm, kpt⟩
    | cons a r =>
      have E : Hid (cF ⟨2, 1, a :: r⟩ = 2) := by
        show _ = _; exact cK (by rw [ok2]; simp)
      go_enter Tryz.func47, Tryz.ntmps47; go_wp2_with fail; go_ret; exact ⟨ak E.out.symm, kpt⟩
  have c0 : (n == 0) = false := by simpa using c
  have c1 : (n == 1) = false := by simpa using d
  have c2 : (n / 2 == 0) = false := by rw [beq_eq_false_iff_ne]; omega
  have E : Hid (cF ⟨2, n, t⟩ = 2) := by
    show _ = _; exact cK (by rw [ok2]; simp [c, d])
  clear c d
  cases t with
  | nil =>
    go_enter Tryz.func47, Tryz.ntmps47; go_wp2_with fail; go_ret; exact ⟨ak E.out.symm, kpt⟩
  | cons a r =>
    go_enter Tryz.func47, Tryz.ntmps47; go_wp2_with fail; go_ret; exact ⟨ak E.out.symm, kpt⟩
theorem Ie (n : Int) (t : List UInt8) (w : World) (h1 : -9223372036854775808 ≤ n) (h2 : n ≤ 9223372036854775807) (ht : t.length ≤ 1000000) :
    Calls Tryz.prog 47 #[.agg #[.int .u8 3, .int .i64 n, .string ⟨t.toArray⟩]] w fun e w' => e = .returned (.int .i64 (cF ⟨3, n, t⟩)) ∧ Kept w w' := by
  by_cases c : n = 0
  · subst c
    have C := Lib.hid (fun w => vD t w ht); rcases nA t with ⟨g, o⟩ | ⟨g, o⟩
    · have E : Hid (cF ⟨3, 0, t⟩ = 0) := by
        show _ = _; exact cX (by rw [ok3, o]; rfl)
      rw [g] at C; clear g o; go_enter Tryz.func47, Tryz.ntmps47; go_wp2_with fail; refine (C.out _).mono ?_; rintro e w' ⟨rfl, rfl⟩; go_wp2_with fail; go_ret; exact ⟨ak E.out.symm, kpt⟩
    · have E : Hid (cF ⟨3, 0, t⟩ = 2) := by
        show _ = _; exact cK (by rw [ok3, o]; rfl)
      have g0 : (fF t == 0) = false := by simpa using g
      generalize fF t = d at *; clear g o; go_enter Tryz.func47, Tryz.ntmps47; go_wp2_with fail; refine (C.out _).mono ?_; rintro e w' ⟨rfl, rfl⟩; go_wp2_with fail; go_ret; exact ⟨ak E.out.symm, kpt⟩
  · have c0 : (n == 0) = false := by simpa using c
    have E : Hid (cF ⟨3, n, t⟩ = 2) := by
      show _ = _; exact cK (by rw [ok3]; simp [c])
    clear c; go_enter Tryz.func47, Tryz.ntmps47; go_wp2_with fail; go_ret; exact ⟨ak E.out.symm, kpt⟩
theorem Ig (n : Int) (t : List UInt8) (w : World) (h1 : -9223372036854775808 ≤ n) (h2 : n ≤ 9223372036854775807) (ht : t.length ≤ 1000000) :
    Calls Tryz.prog 47 #[.agg #[.int .u8 4, .int .i64 n, .string ⟨t.toArray⟩]] w fun e w' => e = .returned (.int .i64 (cF ⟨4, n, t⟩)) ∧ Kept w w' := by
  have E1 : Hid (cF ⟨4, n, []⟩ = if 1 ≤ n ∧ n ≤ 6 then 0 else 2) := by
    show _ = _; unfold cF; rw [ok4]; simp
  cases t with
  | cons a r =>
    have E : Hid (cF ⟨4, n, a :: r⟩ = 2) := by
      show _ = _; exact cK (by rw [ok4]; simp)
    by_cases c : 1 ≤ n
    · by_cases d : n ≤ 6
      · go_enter Tryz.func47, Tryz.ntmps47
        go_wp2_with fail; go_ret; exact ⟨ak E.out.symm, kpt⟩
      · go_enter Tryz.func47, Tryz.ntmps47
        go_wp2_with fail; go_ret; exact ⟨ak E.out.symm, kpt⟩
    · go_enter Tryz.func47, Tryz.ntmps47
      go_wp2_with fail; go_ret; exact ⟨ak E.out.symm, kpt⟩
  | nil =>
    by_cases c : 1 ≤ n
    · by_cases d : n ≤ 6
      · have E := E1.out
        rw [if_pos ⟨c, d⟩] at E; have EH := Lib.hid E; clear E; go_enter Tryz.func47, Tryz.ntmps47; go_wp2_with fail; go_ret; exact ⟨ak EH.out.symm, kpt⟩
      · have E := E1.out
        rw [if_neg (by omega)] at E; have EH := Lib.hid E; clear E; go_enter Tryz.func47, Tryz.ntmps47; go_wp2_with fail; go_ret; exact ⟨ak EH.out.symm, kpt⟩
    · have E := E1.out
      rw [if_neg (by omega)] at E; have EH := Lib.hid E; clear E; go_enter Tryz.func47, Tryz.ntmps47; go_wp2_with fail; go_ret; exact ⟨ak EH.out.symm, kpt⟩
theorem Ih (k : Nat) (n : Int) (t : List UInt8) (w : World) (h5 : 5 ≤ k) :
    Calls Tryz.prog 47 #[.agg #[.int .u8 k, .int .i64 n, .string ⟨t.toArray⟩]] w fun e w' => e = .returned (.int .i64 (cF ⟨k, n, t⟩)) ∧ Kept w w' := by
  have E : Hid (cF ⟨k, n, t⟩ = 2) := by
    show _ = _; exact cK (ok5 h5)
  have c0 : ((k : Int) == 0) = false := by rw [beq_eq_false_iff_ne]; omega
  have c1 : ((k : Int) == 1) = false := by rw [beq_eq_false_iff_ne]; omega
  have c2 : ((k : Int) == 2) = false := by rw [beq_eq_false_iff_ne]; omega
  have c3 : ((k : Int) == 3) = false := by rw [beq_eq_false_iff_ne]; omega
  have c4 : ((k : Int) == 4) = false := by rw [beq_eq_false_iff_ne]; omega
  go_enter Tryz.func47, Tryz.ntmps47; go_wp2_with fail; go_ret; exact ⟨ak E.out.symm, kpt⟩
theorem cZ (v : Vl) (w : World) (hn : i64 v.n) (ht : v.t.length ≤ 1000000) :
    Calls Tryz.prog 47 #[ae v] w fun e w' => e = .returned (.int .i64 (cF v)) ∧ Kept w w' := by
  obtain ⟨k, n, t⟩ := v
  match k with
  | 0 => exact Ia n t w hn.1 hn.2 ht
  | 1 => exact Ib n t w hn.1 hn.2 ht
  | 2 => exact Ic n t w hn.1 hn.2 ht
  | 3 => exact Ie n t w hn.1 hn.2 ht
  | 4 => exact Ig n t w hn.1 hn.2 ht
  | k + 5 => exact Ih (k + 5) n t w (by omega)
theorem cz (c : Int) (w : World) : Calls Tryz.prog 56 #[.int .i64 c] w fun e w' => e = .returned (ae (aG c)) ∧ Kept w w' := by
  by_cases h : c < 1
  · have E : Hid (aG c = ⟨4, 2, []⟩) := by
      show _ = _; unfold aG; rw [if_neg (by omega)]
    go_enter Tryz.func56, Tryz.ntmps56; go_wp2_with fail; exact bodyPost_ret (v := ae ⟨4, 2, []⟩) (by simp [results, Tryz.results56, go_sem]) rfl ⟨by rw [E.out], kpt⟩
  by_cases g : 7 < c
  · have E : Hid (aG c = ⟨4, 2, []⟩) := by
      show _ = _; unfold aG; rw [if_neg (by omega)]
    go_enter Tryz.func56, Tryz.ntmps56; go_wp2_with fail; exact bodyPost_ret (v := ae ⟨4, 2, []⟩) (by simp [results, Tryz.results56, go_sem]) rfl ⟨by rw [E.out], kpt⟩
  · have E : Hid (aG c = ⟨4, c, []⟩) := by
      show _ = _; unfold aG; rw [if_pos (by omega)]
    go_enter Tryz.func56, Tryz.ntmps56; go_wp2_with fail; exact bodyPost_ret (v := ae ⟨4, c, []⟩) (by simp [results, Tryz.results56, go_sem]) rfl ⟨by rw [E.out], kpt⟩
theorem dx (n : Int) (w : World) (h1 : -9223372036854775808 ≤ n) (h2 : n ≤ 9223372036854775807) : Calls Tryz.prog 103 #[.int .i64 n] w fun e w' => e = .returned (ae (ay n)) ∧ Kept w w' := by
  by_cases h : n = -9223372036854775808
  · subst h
    have E : Hid (ay (-9223372036854775808) = aG 3) := by
      show _ = _; unfold ay; rw [if_pos rfl]
    have F := Lib.hid (fun w => cz 3 w); generalize aG 3 = f at *; go_enter Tryz.func103, Tryz.ntmps103; go_wp2_with fail; refine (F.out _).mono ?_; rintro e w1 ⟨rfl, k1⟩; obtain ⟨k1c, k1f⟩ := bP k1; have k1z := Below.size k1
    try simp only [World.size_alloc, World.size_setCell] at k1z k1c k1f
    try have k1x : w.heap.size ≤ w1.heap.size := by omega
    try have k1y := Nat.lt_of_succ_le k1z
    try have k1x2 : w.heap.size < w1.heap.size := by omega
    try have k1w : w.heap.size + 1 < w1.heap.size := by omega
    go_wp2_with fail; exact bodyPost_ret (v := ae f) (by simp [results, Tryz.results103, go_sem, k1c]) rfl ⟨by rw [E.out], kpt⟩
  · have E : Hid (ay n = ⟨1, n, []⟩) := by
      show _ = _; unfold ay; rw [if_neg h]
    have c0 : (n == -9223372036854775808) = false := by simpa using h
    have c1 : -9223372036854775807 ≤ n := by omega
    clear h; go_enter Tryz.func103, Tryz.ntmps103; go_wp2_with fail; exact bodyPost_ret (v := ae ⟨1, n, []⟩) (by simp [results, Tryz.results103, go_sem]) rfl ⟨by rw [E.out], kpt⟩
theorem cC (c : Int) (w : World) : Calls Tryz.prog 49 #[.int .i64 c] w fun e w' => e = .returned (ae (aG c)) ∧ Kept w w' := by
  by_cases h : c < 1
  · have E : Hid (aG c = ⟨4, 2, []⟩) := by
      show _ = _; unfold aG; rw [if_neg (by omega)]
    go_enter Tryz.func49, Tryz.ntmps49; go_wp2_with fail; exact bodyPost_ret (v := ae ⟨4, 2, []⟩) (by simp [results, Tryz.results49, go_sem]) rfl ⟨by rw [E.out], kpt⟩
  by_cases g : 7 < c
  · have E : Hid (aG c = ⟨4, 2, []⟩) := by
      show _ = _; unfold aG; rw [if_neg (by omega)]
    go_enter Tryz.func49, Tryz.ntmps49; go_wp2_with fail; exact bodyPost_ret (v := ae ⟨4, 2, []⟩) (by simp [results, Tryz.results49, go_sem]) rfl ⟨by rw [E.out], kpt⟩
  · have E : Hid (aG c = ⟨4, c, []⟩) := by
      show _ = _; unfold aG; rw [if_pos (by omega)]
    go_enter Tryz.func49, Tryz.ntmps49; go_wp2_with fail; exact bodyPost_ret (v := ae ⟨4, c, []⟩) (by simp [results, Tryz.results49, go_sem]) rfl ⟨by rw [E.out], kpt⟩
theorem cm (n : Int) (w : World) (h1 : -9223372036854775808 ≤ n) (h2 : n ≤ 9223372036854775807) : Calls Tryz.prog 50 #[.int .i64 n] w fun e w' => e = .returned (ae (ay n)) ∧ Kept w w' := by
  by_cases h : n = -9223372036854775808
  · subst h
    have E : Hid (ay (-9223372036854775808) = aG 3) := by
      show _ = _; unfold ay; rw [if_pos rfl]
    have F := Lib.hid (fun w => cC 3 w); generalize aG 3 = f at *; go_enter Tryz.func50, Tryz.ntmps50; go_wp2_with fail; refine (F.out _).mono ?_; rintro e w1 ⟨rfl, k1⟩; obtain ⟨k1c, k1f⟩ := bP k1; have k1z := Below.size k1
    try simp only [World.size_alloc, World.size_setCell] at k1z k1c k1f
    try have k1x : w.heap.size ≤ w1.heap.size := by omega
    try have k1y := Nat.lt_of_succ_le k1z
    try have k1x2 : w.heap.size < w1.heap.size := by omega
    try have k1w : w.heap.size + 1 < w1.heap.size := by omega
    go_wp2_with fail; exact bodyPost_ret (v := ae f) (by simp [results, Tryz.results50, go_sem, k1c]) rfl ⟨by rw [E.out], kpt⟩
  · have E : Hid (ay n = ⟨1, n, []⟩) := by
      show _ = _; unfold ay; rw [if_neg h]
    have c0 : (n == -9223372036854775808) = false := by simpa using h
    have c1 : -9223372036854775807 ≤ n := by omega
    clear h; go_enter Tryz.func50, Tryz.ntmps50; go_wp2_with fail; exact bodyPost_ret (v := ae ⟨1, n, []⟩) (by simp [results, Tryz.results50, go_sem]) rfl ⟨by rw [E.out], kpt⟩
theorem vH (b : Bool) (w : World) : Calls Tryz.prog 48 #[.bool b] w fun e w' => e = .returned (ae (eL b)) ∧ Kept w w' := by
  cases b
  · go_enter Tryz.func48, Tryz.ntmps48
    go_wp2_with fail; exact bodyPost_ret (v := ae ⟨2, 0, []⟩) (by simp [results, Tryz.results48, go_sem]) rfl ⟨rfl, kpt⟩
  · go_enter Tryz.func48, Tryz.ntmps48
    go_wp2_with fail; exact bodyPost_ret (v := ae ⟨2, 1, []⟩) (by simp [results, Tryz.results48, go_sem]) rfl ⟨rfl, kpt⟩
end
section
open Go.RowKit Lv
theorem lN (k : Nat) (n : Int) (t : List UInt8) (j : Nat) (w : World) :
    Calls Tryz.prog 51 #[.agg #[.int .u8 k, .int .i64 n, .string ⟨t.toArray⟩], .int .u8 j] w fun e w' => e = .returned (ae (rJ ⟨k, n, t⟩ j)) ∧ Kept w w' := by
  by_cases c : k = 0
  · subst c
    show Calls _ _ #[.agg #[.int .u8 0, .int .i64 n, .string ⟨t.toArray⟩], .int .u8 j] w _; go_enter Tryz.func51, Tryz.ntmps51; go_wp2_with fail; exact bodyPost_ret (v := .agg #[.int .u8 j, .int .i64 n, .string ⟨t.toArray⟩]) (by simp [results, Tryz.results51, go_sem]) rfl ⟨rfl, kpt⟩
  · have c0 : ((k : Int) == 0) = false := by rw [beq_eq_false_iff_ne]; omega
    have E : Hid (rJ ⟨k, n, t⟩ j = ⟨k, n, t⟩) := by
      show _ = _; exact if_neg c
    go_enter Tryz.func51, Tryz.ntmps51; go_wp2_with fail; exact bodyPost_ret (v := .agg #[.int .u8 k, .int .i64 n, .string ⟨t.toArray⟩]) (by simp [results, Tryz.results51, go_sem]) rfl ⟨by rw [E.out], kpt⟩
def xQ (v o : Vl) : Vl := if v.k = 0 ∧ o.k ≠ 0 then ⟨o.k, 0, []⟩ else v
theorem nB {v o : Vl} (h : vOk v = true) : xQ v o = rJ v o.k := by
  unfold xQ rJ
  by_cases c : v.k = 0
  · rw [if_pos c]
    obtain ⟨k, n, t⟩ := v
    simp only at c
    subst c; rw [ok0, decide_eq_true_eq] at h; obtain ⟨rfl, rfl⟩ := h
    by_cases d : o.k = 0
    · rw [if_neg (by omega), d]
    · rw [if_pos ⟨rfl, d⟩]
  · rw [if_neg (by omega), if_neg c]
theorem lO (k : Nat) (n : Int) (t : List UInt8) (j : Nat) (m : Int) (u : List UInt8) (w : World) :
    Calls Tryz.prog 139 #[.agg #[.int .u8 k, .int .i64 n, .string ⟨t.toArray⟩], .agg #[.int .u8 j, .int .i64 m, .string ⟨u.toArray⟩]] w fun e w' => e = .returned (ae (xQ ⟨k, n, t⟩ ⟨j, m, u⟩)) ∧ Kept w w' := by
  by_cases c : k = 0
  · subst c
    show Calls _ _ #[.agg #[.int .u8 0, .int .i64 n, .string ⟨t.toArray⟩], .agg #[.int .u8 j, .int .i64 m, .string ⟨u.toArray⟩]] w _
    by_cases d : j = 0
    · subst d
      show Calls _ _ #[.agg #[.int .u8 0, .int .i64 n, .string ⟨t.toArray⟩], .agg #[.int .u8 0, .int .i64 m, .string ⟨u.toArray⟩]] w _; go_enter Tryz.func139, Tryz.ntmps139; go_wp2_with fail; exact bodyPost_ret (v := .agg #[.int .u8 0, .int .i64 n, .string ⟨t.toArray⟩]) (by simp [results, Tryz.results139, go_sem]) rfl ⟨rfl, kpt⟩
    · have d0 : ((j : Int) != 0) = true := by rw [bne_iff_ne]; omega
      have E : Hid (xQ ⟨0, n, t⟩ ⟨j, m, u⟩ = ⟨j, 0, []⟩) := by
        show _ = _; exact if_pos ⟨rfl, d⟩
      go_enter Tryz.func139, Tryz.ntmps139; go_wp2_with fail; exact bodyPost_ret (v := .agg #[.int .u8 j, .int .i64 0, .string ⟨#[]⟩]) (by simp [results, Tryz.results139, go_sem]) rfl ⟨by rw [E.out], kpt⟩
  · have c0 : ((k : Int) == 0) = false := by rw [beq_eq_false_iff_ne]; omega
    have E : Hid (xQ ⟨k, n, t⟩ ⟨j, m, u⟩ = ⟨k, n, t⟩) := by
      show _ = _; exact if_neg (fun h => c h.1)
    go_enter Tryz.func139, Tryz.ntmps139; go_wp2_with fail; exact bodyPost_ret (v := .agg #[.int .u8 k, .int .i64 n, .string ⟨t.toArray⟩]) (by simp [results, Tryz.results139, go_sem]) rfl ⟨by rw [E.out], kpt⟩
theorem xR (k : Nat) (w : World) : Calls Tryz.prog 53 #[.int .u8 k] w fun e w' => e = .returned (.int .i64 (mS k)) ∧ w = w' := by
  by_cases c : k = 1
  · subst c
    show Calls _ _ #[.int .u8 1] w _; go_enter Tryz.func53, Tryz.ntmps53; go_wp2_with fail; go_ret; exact ⟨rfl, rfl⟩
  have c1 : ((k : Int) == 1) = false := by rw [beq_eq_false_iff_ne]; omega
  by_cases d : k = 3
  · subst d
    show Calls _ _ #[.int .u8 3] w _; go_enter Tryz.func53, Tryz.ntmps53; go_wp2_with fail; go_ret; exact ⟨rfl, rfl⟩
  have c3 : ((k : Int) == 3) = false := by rw [beq_eq_false_iff_ne]; omega
  have E : Hid (mS k = 3) := by
    show _ = _; unfold mS; rw [if_neg c, if_neg d]
  clear c d; go_enter Tryz.func53, Tryz.ntmps53; go_wp2_with fail; go_ret; exact ⟨ak E.out.symm, rfl⟩
theorem xS (k : Nat) (w : World) : Calls Tryz.prog 142 #[.int .u8 k] w fun e w' => e = .returned (.int .i64 (mS k)) ∧ w = w' := by
  by_cases c : k = 1
  · subst c
    show Calls _ _ #[.int .u8 1] w _; go_enter Tryz.func142, Tryz.ntmps142; go_wp2_with fail; go_ret; exact ⟨rfl, rfl⟩
  have c1 : ((k : Int) == 1) = false := by rw [beq_eq_false_iff_ne]; omega
  by_cases d : k = 3
  · subst d
    show Calls _ _ #[.int .u8 3] w _; go_enter Tryz.func142, Tryz.ntmps142; go_wp2_with fail; go_ret; exact ⟨rfl, rfl⟩
  have c3 : ((k : Int) == 3) = false := by rw [beq_eq_false_iff_ne]; omega
  have E : Hid (mS k = 3) := by
    show _ = _; unfold mS; rw [if_neg c, if_neg d]
  clear c d; go_enter Tryz.func142, Tryz.ntmps142; go_wp2_with fail; go_ret; exact ⟨ak E.out.symm, rfl⟩
theorem Dj {a b : Int} (h : a < b) : sgn a b = -1 := if_pos h
theorem Dk {a b : Int} (h : b < a) : sgn a b = 1 := by unfold sgn; rw [if_neg (by omega), if_pos h]
theorem Dl {a b : Int} (h : a = b) : sgn a b = 0 := by unfold sgn; rw [if_neg (by omega), if_neg (by omega)]
theorem qh (a b : Int) (w : World) : Calls Tryz.prog 141 #[.int .i64 a, .int .i64 b] w fun e w' => e = .returned (.int .i64 (sgn a b)) ∧ w = w' := by
  by_cases c : a < b
  · have E := Lib.hid (Dj c)
    go_enter Tryz.func141, Tryz.ntmps141; go_wp2_with fail; go_ret; exact ⟨ak E.out.symm, rfl⟩
  by_cases d : b < a
  · have E := Lib.hid (Dk d)
    go_enter Tryz.func141, Tryz.ntmps141; go_wp2_with fail; go_ret; exact ⟨ak E.out.symm, rfl⟩
  · have E := Lib.hid (Dl (show a = b by omega))
    go_enter Tryz.func141, Tryz.ntmps141; go_wp2_with fail; go_ret; exact ⟨ak E.out.symm, rfl⟩
theorem Ed (x : Int) (w : World) : Calls Tryz.prog 88 #[.int .i64 x] w fun e w' => e = .returned (.bool false) ∧ w = w' := by
  go_enter Tryz.func88, Tryz.ntmps88; go_wp2_with fail; go_ret; exact ⟨rfl, rfl⟩
theorem xT (a b : Int) (w : World) : Calls Tryz.prog 55 #[.int .i64 a, .int .i64 b] w fun e w' => e = .returned (.int .i64 (sgn a b)) ∧ w = w' := by
  have N := Lib.hid Ed
  by_cases c : a < b
  · have E := Lib.hid (Dj c)
    go_enter Tryz.func55, Tryz.ntmps55; go_wp2_with fail; refine (N.out _ _).mono ?_; rintro e w' ⟨rfl, rfl⟩; go_wp2_with fail; refine (N.out _ _).mono ?_; rintro e w' ⟨rfl, rfl⟩; go_wp2_with fail; go_ret; exact ⟨ak E.out.symm, rfl⟩
  by_cases d : b < a
  · have E := Lib.hid (Dk d)
    go_enter Tryz.func55, Tryz.ntmps55; go_wp2_with fail; refine (N.out _ _).mono ?_; rintro e w' ⟨rfl, rfl⟩; go_wp2_with fail; refine (N.out _ _).mono ?_; rintro e w' ⟨rfl, rfl⟩; go_wp2_with fail; go_ret; exact ⟨ak E.out.symm, rfl⟩
  · have E := Lib.hid (Dl (show a = b by omega))
    go_enter Tryz.func55, Tryz.ntmps55; go_wp2_with fail; refine (N.out _ _).mono ?_; rintro e w' ⟨rfl, rfl⟩; go_wp2_with fail; refine (N.out _ _).mono ?_; rintro e w' ⟨rfl, rfl⟩; go_wp2_with fail; go_ret; exact ⟨ak E.out.symm, rfl⟩
theorem vI (a b : Int) (w : World) : Calls Tryz.prog 52 #[.int .i64 a, .int .i64 b] w fun e w' => e = .returned (.int .i64 (sgn a b)) ∧ w = w' :=
  (Tryz.cmp_Compare_int a b w).mono fun _ _ ⟨h1, h2⟩ => ⟨by rw [h1]; exact ak rfl, h2.symm⟩
end
section
open Go.RowKit Lv
abbrev cn (v : Vl) : Array Value := #[.int .u8 v.k, .int .i64 v.n, .string ⟨v.t.toArray⟩]
structure Two (w : World) (p q : Nat) (a b : Vl) : Prop where
  A : Box w p 25 (cn a)
  B : Box w q 25 (cn b)
theorem Two.kept {w w' : World} {p q : Nat} {a b : Vl} (h : Two w p q a b) (k : Kept w w') : Two w' p q a b := ⟨h.A.kept k, h.B.kept k⟩
theorem Two.drew {w : World} {p q : Nat} {a b : Vl} (h : Two w p q a b) : Two w.drew p q a b := ⟨h.A, h.B⟩
theorem Two.made {w : World} {a b : Vl} : Two ((w.alloc (.cells (cn a) 25)).alloc (.cells (cn b) 25)) w.heap.size (w.heap.size + 1) a b :=
  ⟨(Box.new w _ _).alloc _, Box.newAt (by simp) _ _⟩
theorem Two.facts {w : World} {p q : Nat} {a b : Vl} (h : Two w p q a b) : p < w.heap.size ∧ q < w.heap.size ∧
    w.cell? ⟨p, 0, none⟩ = some (.int .u8 a.k) ∧ w.cell? ⟨p, 1, none⟩ = some (.int .i64 a.n) ∧ w.cell? ⟨p, 2, none⟩ = some (.string ⟨a.t.toArray⟩) ∧
    w.cell? ⟨q, 0, none⟩ = some (.int .u8 b.k) ∧ w.cell? ⟨q, 1, none⟩ = some (.int .i64 b.n) ∧ w.cell? ⟨q, 2, none⟩ = some (.string ⟨b.t.toArray⟩) ∧
    (∀ o, w.frozen? ⟨p, o, none⟩ = false) ∧ (∀ o, w.frozen? ⟨q, o, none⟩ = false) :=
  ⟨h.A.inside, h.B.inside, h.A.cell 0, h.A.cell 1, h.A.cell 2, h.B.cell 0, h.B.cell 1, h.B.cell 2, fun o => h.A.loose o, fun o => h.B.loose o⟩
theorem Box.set3 {w : World} {p : Nat} {T : TypeId} {a b c a' b' c' : Value} (h : Box w p T #[a, b, c]) : Box (((w.setCell ⟨p, 0, none⟩ a').setCell ⟨p, 1, none⟩ b').setCell ⟨p, 2, none⟩ c') p T #[a', b', c'] :=
  ((h.at_ 0 a').at_ 1 b').at_ 2 c'
theorem Box.far3 {w : World} {p g : Nat} {T : TypeId} {cs : Array Value} {a' b' c' : Value} (h : Box w g T cs) (hp : g ≠ p) : Box (((w.setCell ⟨p, 0, none⟩ a').setCell ⟨p, 1, none⟩ b').setCell ⟨p, 2, none⟩ c') g T cs :=
  ((h.far (p := ⟨p, 0, none⟩) hp a').far (p := ⟨p, 1, none⟩) hp b').far (p := ⟨p, 2, none⟩) hp c'
theorem Kept.set3 {a w : World} {p : Nat} {a' b' c' : Value} (h : Kept a w) (hp : a.heap.size ≤ p) : Kept a (((w.setCell ⟨p, 0, none⟩ a').setCell ⟨p, 1, none⟩ b').setCell ⟨p, 2, none⟩ c') :=
  ((h.setCell (p := ⟨p, 0, none⟩) hp a').setCell (p := ⟨p, 1, none⟩) hp b').setCell (p := ⟨p, 2, none⟩) hp c'
theorem Two.stored {w : World} {p q : Nat} {a b x y : Vl} (h : Two w p q a b) (hpq : p ≠ q) :
    Two ((((((w.setCell ⟨p, 0, none⟩ (.int .u8 x.k)).setCell ⟨p, 1, none⟩ (.int .i64 x.n)).setCell ⟨p, 2, none⟩ (.string ⟨x.t.toArray⟩)).setCell ⟨q, 0, none⟩ (.int .u8 y.k)).setCell ⟨q, 1, none⟩ (.int .i64 y.n)).setCell ⟨q, 2, none⟩ (.string ⟨y.t.toArray⟩)) p q x y :=
  ⟨Box.far3 (Box.set3 h.A) hpq, Box.set3 (Box.far3 h.B (fun e => hpq e.symm))⟩
theorem om (v : Vl) : (cF v ≠ 0 ∧ nr v = false) ∨ (cF v = 0 ∧ v.k = 4 ∧ nr v = false) ∨ (cF v = 0 ∧ v.k ≠ 4 ∧ nr v = true) := by
  unfold nr cF
  cases vOk v
  · exact Or.inl ⟨by simp, rfl⟩
  · by_cases h : v.k = 4
    · exact Or.inr (Or.inl ⟨rfl, h, by simp [h]⟩)
    · exact Or.inr (Or.inr ⟨rfl, h, by simp [h]⟩)
theorem oq {a b : Vl} (h : nr a = false ∨ nr b = false) : lI a b = (0, 2) := by
  unfold lI; rcases h with h | h <;> rw [h] <;> simp
theorem tU {a b : Vl} (h : nr a = true) (g : nr b = true) : lI a b = (mT (rJ a b.k) (rJ b a.k), 0) := by unfold lI; rw [h, g]; rfl
theorem qi (x y : Vl) : (x.k ≠ y.k ∧ mT x y = sgn (mS x.k) (mS y.k)) ∨ (x.k = y.k ∧ x.k = 3 ∧ mT x y = vE x.t y.t) ∨ (x.k = y.k ∧ x.k ≠ 3 ∧ mT x y = sgn x.n y.n) := by
  unfold mT
  by_cases h : x.k = y.k
  · rw [if_neg (show ¬ x.k ≠ y.k by omega)]
    by_cases g : x.k = 3
    · exact Or.inr (Or.inl ⟨h, g, by rw [if_pos g]; rfl⟩)
    · exact Or.inr (Or.inr ⟨h, g, by rw [if_neg g]⟩)
  · exact Or.inl ⟨h, if_pos h⟩
theorem jq {P : Program} {f : FuncId} {args : Array Value} {w : World} {v : Value} (h : Calls P f args w fun e w' => e = .returned v ∧ w = w') : Calls P f args w fun e w' => e = .returned v ∧ Kept w w' :=
  h.mono fun _ _ ⟨he, hw⟩ => ⟨he, by subst hw; exact Kept.refl _⟩
theorem xU (k j : Nat) (n m : Int) (t u : List UInt8) (w : World) (x y : Vl) (xl : x.t.length ≤ 1000000) (yl : y.t.length ≤ 1000000)
    (CA : Hid (∀ w, Calls Tryz.prog 27 #[.agg #[.int .u8 k, .int .i64 n, .string ⟨t.toArray⟩]] w fun e w' => e = .returned (.int .i64 0) ∧ Kept w w'))
    (CB : Hid (∀ w, Calls Tryz.prog 27 #[.agg #[.int .u8 j, .int .i64 m, .string ⟨u.toArray⟩]] w fun e w' => e = .returned (.int .i64 0) ∧ Kept w w'))
    (BA : Hid (∀ w, Calls Tryz.prog 51 #[.agg #[.int .u8 k, .int .i64 n, .string ⟨t.toArray⟩], .int .u8 j] w fun e w' => e = .returned (.agg #[.int .u8 x.k, .int .i64 x.n, .string ⟨x.t.toArray⟩]) ∧ Kept w w'))
    (BB : Hid (∀ w, Calls Tryz.prog 51 #[.agg #[.int .u8 j, .int .i64 m, .string ⟨u.toArray⟩], .int .u8 k] w fun e w' => e = .returned (.agg #[.int .u8 y.k, .int .i64 y.n, .string ⟨y.t.toArray⟩]) ∧ Kept w w'))
    (k4 : ((k : Int) == 4) = false) (j4 : ((j : Int) == 4) = false) :
    Calls Tryz.prog 19 #[.agg #[.int .u8 k, .int .i64 n, .string ⟨t.toArray⟩], .agg #[.int .u8 j, .int .i64 m, .string ⟨u.toArray⟩]] w fun e w' => e = .returned (.tuple #[.int .i64 (mT x y), .int .i64 0]) ∧ Kept w w' := by
  have WY := qi x y; generalize mT x y = r at *; go_enter Tryz.func19, Tryz.ntmps19; go_wp2_with fail; refine (CA.out _).mono ?_; rintro e w1 ⟨rfl, k1⟩; have T : Two _ w.heap.size (w.heap.size + 1) ⟨k, n, t⟩ ⟨j, m, u⟩ := Two.made.kept k1; have TT := T.facts; obtain ⟨p1, q1, a0, a1, a2, b0, b1, b2, fa, fb⟩ := TT; go_wp2_with fail; refine (CB.out _).mono ?_; rintro e w2 ⟨rfl, k2⟩; have T := T.kept k2; have kk := (((Kept.refl w).alloc _).alloc _).trans (k1.trans k2); clear p1 q1 a0 a1 a2 b0 b1 b2 fa fb k1 k2; have TT := T.facts; obtain ⟨p1, q1, a0, a1, a2, b0, b1, b2, fa, fb⟩ := TT; go_wp2_with fail; have A0 := cell_regrown a0; have A1 := cell_regrown a1; have A2 := cell_regrown a2; have B0 := cell_regrown b0; have B1 := cell_regrown b1; have B2 := cell_regrown b2; refine jM (C := fun w' => ∃ p : Regrown, w' = Go.Sort.grow (redrawn w2 p.d) p.os) 8 (by kernel_rfl) (by kernel_rfl) ⟨⟨w2.drawn + 1, #[]⟩, by rw [Go.Sort.grow_empty]; rfl⟩ ?_
  simp only [List.take_succ_cons, List.take_zero, List.drop_succ_cons, List.drop_zero]
  repeat (quiet_step (first | with_reducible exact Calls.regrown_of (BA.out _) | with_reducible exact Calls.regrown_of (BB.out _)))
  refine wpQuiet_nil ?_; intro _ hw'; obtain ⟨⟨dq, osq⟩, hw''⟩ := hw'; subst hw''; have kq : Kept w2 (Go.Sort.grow (redrawn w2 dq) osq) := below_regrown w2 dq osq; generalize Go.Sort.grow (redrawn w2 dq) osq = w2q at *; have T3 := T.kept kq; have kk := kk.trans kq; clear A0 A1 A2 B0 B1 B2 p1 q1 a0 a1 a2 b0 b1 b2 fa fb T kq; have TT := T3.facts; obtain ⟨p1, q1, a0, a1, a2, b0, b1, b2, fa, fb⟩ := TT; have T4 := Two.stored (x := x) (y := y) T3 (by omega); have kk4 : Kept w ((((((w2q.setCell ⟨w.heap.size, 0, none⟩ (.int .u8 x.k)).setCell ⟨w.heap.size, 1, none⟩ (.int .i64 x.n)).setCell ⟨w.heap.size, 2, none⟩ (.string ⟨x.t.toArray⟩)).setCell ⟨w.heap.size + 1, 0, none⟩ (.int .u8 y.k)).setCell ⟨w.heap.size + 1, 1, none⟩ (.int .i64 y.n)).setCell ⟨w.heap.size + 1, 2, none⟩ (.string ⟨y.t.toArray⟩)) := (kk.set3 (Nat.le_refl _)).set3 (by omega); have sx : (⟨w.heap.size, 0, none⟩ : Addr) ≠ ⟨w.heap.size + 1, 0, none⟩ := by simp
  clear sx; rcases WY with ⟨h1, h2⟩ | ⟨h1, h2, h3⟩ | ⟨h1, h2, h3⟩
  · have E := Lib.hid h2
    have h1' : ((x.k : Int) != (y.k : Int)) = true := by rw [bne_iff_ne]; omega
    have R := Lib.hid (fun (c : Nat) w => jq (xR c w)); have CM := Lib.hid (fun a b w => jq (vI a b w)); clear h1 h2; go_wp2_with fail; generalize (((((w2q.setCell ⟨w.heap.size, 0, none⟩ (.int .u8 x.k)).setCell ⟨w.heap.size, 1, none⟩ (.int .i64 x.n)).setCell ⟨w.heap.size, 2, none⟩ (.string ⟨x.t.toArray⟩)).setCell ⟨w.heap.size + 1, 0, none⟩ (.int .u8 y.k)).setCell ⟨w.heap.size + 1, 1, none⟩ (.int .i64 y.n)).setCell ⟨w.heap.size + 1, 2, none⟩ (.string ⟨y.t.toArray⟩) = w4 at *; obtain ⟨p1, q1, a0, a1, a2, b0, b1, b2, fa, fb⟩ := T4.facts; have A0 := cell_regrown a0; have B0 := cell_regrown b0; refine wp_region_quiet_below (w := w4) (by kernel_rfl) (by kernel_rfl) ?_
    repeat (quiet_step (first | with_reducible exact Calls.regrown_of (R.out _ _) | with_reducible exact Calls.regrown_of (CM.out _ _ _)))
    refine wpQuiet_nil ?_; intro _ hw'; obtain ⟨⟨dq, osq⟩, hw''⟩ := hw'; subst hw''; have kq : Kept w4 (Go.Sort.grow (redrawn w4 dq) osq) := below_regrown w4 dq osq; generalize Go.Sort.grow (redrawn w4 dq) osq = w4q at *; have kk5 := kk4.trans kq; go_wp2_with fail; go_ret2; exact ⟨av E.out.symm rfl, kk5⟩
  · have E := Lib.hid h3
    have f1 : ((x.k : Int) != (y.k : Int)) = false := by rw [bne_eq_false_iff_eq]; omega
    have f2 : ((x.k : Int) == 3) = true := by rw [beq_iff_eq]; omega
    have G := Lib.hid (fun w => sh x.t y.t w xl yl); clear h1 h2 h3; go_wp2_with fail; refine (G.out _).mono ?_; rintro e w5 ⟨rfl, k5⟩; have kk5 := kk4.trans k5; go_wp2_with fail; go_ret2; exact ⟨av E.out.symm rfl, kk5⟩
  · have E := Lib.hid h3
    have f1 : ((x.k : Int) != (y.k : Int)) = false := by rw [bne_eq_false_iff_eq]; omega
    have f2 : ((x.k : Int) == 3) = false := by rw [beq_eq_false_iff_ne]; omega
    have G := Lib.hid (fun a b w => xT a b w); clear h1 h2 h3; go_wp2_with fail; refine (G.out _ _ _).mono ?_; rintro e w5 ⟨rfl, rfl⟩; go_wp2_with fail; go_ret2; exact ⟨av E.out.symm rfl, kk4⟩
theorem lP (a b : Vl) (w : World) (ha : i64 a.n) (hb : i64 b.n) (la : a.t.length ≤ 1000000) (lb : b.t.length ≤ 1000000) (h : nr a = false ∨ nr b = false) :
    Calls Tryz.prog 19 #[ae a, ae b] w fun e w' => e = .returned (.tuple #[.int .i64 0, .int .i64 2]) ∧ Kept w w' := by
  have CA := Lib.hid (fun w => cY a w ha la); have CB := Lib.hid (fun w => cY b w hb lb); have ka := om a; have kb := om b; obtain ⟨k, n, t⟩ := a; obtain ⟨j, m, u⟩ := b; have T0 : Hid (∀ w : World, Two ((w.alloc (.cells (cn ⟨k, n, t⟩) 25)).alloc (.cells (cn ⟨j, m, u⟩) 25)) w.heap.size (w.heap.size + 1) ⟨k, n, t⟩ ⟨j, m, u⟩) := fun w => Two.made; rcases ka with ⟨ka, oa⟩ | ⟨ka, oa, ob⟩ | ⟨ka, oa, ob⟩
  · have f : (cF ⟨k, n, t⟩ != 0) = true := by simpa using ka
    generalize cF ⟨k, n, t⟩ = ca at *; clear ka oa kb h; go_enter Tryz.func19, Tryz.ntmps19; go_wp2_with fail; refine (CA.out _).mono ?_; rintro e w' ⟨rfl, k1⟩; have kk := (((Kept.refl w).alloc _).alloc _).trans k1; go_wp2_with fail; go_ret2; exact ⟨rfl, kk⟩
  · rw [ka] at CA
    have o4 : ((k : Int) == 4) = true := by rw [beq_iff_eq]; exact congrArg Int.ofNat oa
    rcases kb with ⟨kb, obb⟩ | ⟨kb, obb⟩ | ⟨kb, obb⟩
    · have f : (cF ⟨j, m, u⟩ != 0) = true := by simpa using kb
      generalize cF ⟨j, m, u⟩ = cb at *; clear ka oa ob kb obb h o4; go_enter Tryz.func19, Tryz.ntmps19; go_wp2_with fail; refine (CA.out _).mono ?_; rintro e w1 ⟨rfl, k1⟩; have T := (T0.out w).kept k1; obtain ⟨p1, q1, a0, a1, a2, b0, b1, b2, fa, fb⟩ := T.facts; go_wp2_with fail; refine (CB.out _).mono ?_; rintro e w' ⟨rfl, k2⟩; have kk := (((Kept.refl w).alloc _).alloc _).trans (k1.trans k2); go_wp2_with fail; go_ret2; exact ⟨rfl, kk⟩
    all_goals
      rw [kb] at CB; clear ka oa ob kb obb h; go_enter Tryz.func19, Tryz.ntmps19; go_wp2_with fail; refine (CA.out _).mono ?_; rintro e w1 ⟨rfl, k1⟩; have T := (T0.out w).kept k1; have TT := T.facts; obtain ⟨p1, q1, a0, a1, a2, b0, b1, b2, fa, fb⟩ := TT; go_wp2_with fail; refine (CB.out _).mono ?_; rintro e w2 ⟨rfl, k2⟩; have T := T.kept k2; have kk := (((Kept.refl w).alloc _).alloc _).trans (k1.trans k2); clear p1 q1 a0 a1 a2 b0 b1 b2 fa fb k1 k2; obtain ⟨p1, q1, a0, a1, a2, b0, b1, b2, fa, fb⟩ := T.facts; go_wp2_with fail; go_ret2; exact ⟨rfl, kk⟩
  · rw [ka] at CA
    have o4 : ((k : Int) == 4) = false := by rw [beq_eq_false_iff_ne]; intro e; exact oa (Int.ofNat_inj.1 e)
    rcases kb with ⟨kb, obb⟩ | ⟨kb, obb, obc⟩ | ⟨kb, obb, obc⟩
    · have f : (cF ⟨j, m, u⟩ != 0) = true := by simpa using kb
      generalize cF ⟨j, m, u⟩ = cb at *; clear ka oa ob kb obb h o4; go_enter Tryz.func19, Tryz.ntmps19; go_wp2_with fail; refine (CA.out _).mono ?_; rintro e w1 ⟨rfl, k1⟩; have T := (T0.out w).kept k1; obtain ⟨p1, q1, a0, a1, a2, b0, b1, b2, fa, fb⟩ := T.facts; go_wp2_with fail; refine (CB.out _).mono ?_; rintro e w' ⟨rfl, k2⟩; have kk := (((Kept.refl w).alloc _).alloc _).trans (k1.trans k2); go_wp2_with fail; go_ret2; exact ⟨rfl, kk⟩
    · rw [kb] at CB
      have p4 : ((j : Int) == 4) = true := by rw [beq_iff_eq]; exact congrArg Int.ofNat obb
      clear ka oa ob kb obb obc h; go_enter Tryz.func19, Tryz.ntmps19; go_wp2_with fail; refine (CA.out _).mono ?_; rintro e w1 ⟨rfl, k1⟩; have T := (T0.out w).kept k1; have TT := T.facts; obtain ⟨p1, q1, a0, a1, a2, b0, b1, b2, fa, fb⟩ := TT; go_wp2_with fail; refine (CB.out _).mono ?_; rintro e w2 ⟨rfl, k2⟩; have T := T.kept k2; have kk := (((Kept.refl w).alloc _).alloc _).trans (k1.trans k2); clear p1 q1 a0 a1 a2 b0 b1 b2 fa fb k1 k2; obtain ⟨p1, q1, a0, a1, a2, b0, b1, b2, fa, fb⟩ := T.facts; go_wp2_with fail; go_ret2; exact ⟨rfl, kk⟩
    · rw [ob, obc] at h; rcases h with h | h <;> cases h
theorem ly (v : Vl) (o : Nat) : (rJ v o).t = v.t := by unfold rJ; split <;> rfl
theorem hU {v : Vl} (h : nr v = true) : vOk v = true ∧ v.k ≠ 4 := by unfold nr at h; rw [Bool.and_eq_true, decide_eq_true_eq] at h; exact h
theorem qj (a b : Vl) (w : World) (ha : i64 a.n) (hb : i64 b.n) (la : a.t.length ≤ 1000000) (lb : b.t.length ≤ 1000000) :
    Calls Tryz.prog 19 #[ae a, ae b] w fun e w' => e = .returned (.tuple #[.int .i64 (lI a b).1, .int .i64 (lI a b).2]) ∧ Kept w w' := by
  by_cases c : nr a = true
  · by_cases d : nr b = true
    · rw [tU c d]
      obtain ⟨oa, a4⟩ := hU c; obtain ⟨ob, b4⟩ := hU d; have CA := Lib.hid (fun w => cY a w ha la); have CB := Lib.hid (fun w => cY b w hb lb); rw [cX oa] at CA; rw [cX ob] at CB
      exact xU a.k b.k a.n b.n a.t b.t w (rJ a b.k) (rJ b a.k) (by rw [ly]; exact la) (by rw [ly]; exact lb) CA CB (Lib.hid (fun w => lN a.k a.n a.t b.k w)) (Lib.hid (fun w => lN b.k b.n b.t a.k w))
        (by rw [beq_eq_false_iff_ne]; intro e; exact a4 (Int.ofNat_inj.1 e)) (by rw [beq_eq_false_iff_ne]; intro e; exact b4 (Int.ofNat_inj.1 e))
    · rw [oq (Or.inr (by simpa using d))]
      exact lP a b w ha hb la lb (Or.inr (by simpa using d))
  · rw [oq (Or.inl (by simpa using c))]
    exact lP a b w ha hb la lb (Or.inl (by simpa using c))
end
section
open Go.RowKit Lv
theorem xV (k j : Nat) (n m : Int) (t u : List UInt8) (w : World) (x y : Vl) (xl : x.t.length ≤ 1000000) (yl : y.t.length ≤ 1000000)
    (CA : Hid (∀ w, Calls Tryz.prog 47 #[.agg #[.int .u8 k, .int .i64 n, .string ⟨t.toArray⟩]] w fun e w' => e = .returned (.int .i64 0) ∧ Kept w w'))
    (CB : Hid (∀ w, Calls Tryz.prog 47 #[.agg #[.int .u8 j, .int .i64 m, .string ⟨u.toArray⟩]] w fun e w' => e = .returned (.int .i64 0) ∧ Kept w w'))
    (BA : Hid (∀ w, Calls Tryz.prog 139 #[.agg #[.int .u8 k, .int .i64 n, .string ⟨t.toArray⟩], .agg #[.int .u8 j, .int .i64 m, .string ⟨u.toArray⟩]] w fun e w' => e = .returned (.agg #[.int .u8 x.k, .int .i64 x.n, .string ⟨x.t.toArray⟩]) ∧ Kept w w'))
    (BB : Hid (∀ w, Calls Tryz.prog 139 #[.agg #[.int .u8 j, .int .i64 m, .string ⟨u.toArray⟩], .agg #[.int .u8 k, .int .i64 n, .string ⟨t.toArray⟩]] w fun e w' => e = .returned (.agg #[.int .u8 y.k, .int .i64 y.n, .string ⟨y.t.toArray⟩]) ∧ Kept w w'))
    (k4 : ((k : Int) == 4) = false) (j4 : ((j : Int) == 4) = false) :
    Calls Tryz.prog 108 #[.agg #[.int .u8 k, .int .i64 n, .string ⟨t.toArray⟩], .agg #[.int .u8 j, .int .i64 m, .string ⟨u.toArray⟩]] w fun e w' => e = .returned (.tuple #[.int .i64 (mT x y), .int .i64 0]) ∧ Kept w w' := by
  have WY := qi x y; generalize mT x y = r at *; go_enter Tryz.func108, Tryz.ntmps108; go_wp2_with fail; refine (CA.out _).mono ?_; rintro e w1 ⟨rfl, k1⟩; have T : Two _ w.heap.size (w.heap.size + 1) ⟨k, n, t⟩ ⟨j, m, u⟩ := Two.made.kept k1; have TT := T.facts; obtain ⟨p1, q1, a0, a1, a2, c0, c1, c2, fa, fb⟩ := TT; go_wp2_with fail; refine (CB.out _).mono ?_; rintro e w2 ⟨rfl, k2⟩; have T := T.kept k2; have kk := (((Kept.refl w).alloc _).alloc _).trans (k1.trans k2); clear p1 q1 a0 a1 a2 c0 c1 c2 fa fb k1 k2; have TT := T.facts; obtain ⟨p1, q1, a0, a1, a2, c0, c1, c2, fa, fb⟩ := TT; go_wp2_with fail; have A0 := cell_regrown a0; have A1 := cell_regrown a1; have A2 := cell_regrown a2; have B0 := cell_regrown c0; have B1 := cell_regrown c1; have B2 := cell_regrown c2
  refine jO 6 8 (fun _ => jp) (by kernel_rfl) (by kernel_rfl) (by omega) (fun i h1 h2 => by
    obtain rfl | rfl : i = 6 ∨ i = 7 := by omega
    all_goals exact ⟨_, rfl, mkV rfl rfl⟩) ?_
  simp only [List.take_succ_cons, List.take_zero, List.drop_succ_cons, List.drop_zero]
  repeat (refine vG (fun K hK => ?_); go_simp; first | (refine hK _ ?_; clear hK K) | (apply Exists.intro; refine ⟨fun dz oz => ?_, hK _ ?_⟩; (first | with_reducible exact (BA.out _) | with_reducible exact (BB.out _)); clear hK K))
  refine xP ?_; intro g0 g1 w2q hmade; obtain ⟨kq, b0, b1, ne⟩ := Made.vars2 hmade; clear hmade; have kk0 := kk; have kk := kk.trans kq; clear A0 A1 A2 B0 B1 B2 p1 q1 a0 a1 a2 c0 c1 c2 fa fb T kq; have Z : Two w2q g0 g1 ⟨0, 0, []⟩ ⟨0, 0, []⟩ := ⟨b0.1, b1.1⟩; have ws : w.heap.size ≤ w2.heap.size := kk0.size; have T4 := Two.stored (x := x) (y := y) Z ne; have kk4 : Kept w ((((((w2q.setCell ⟨g0, 0, none⟩ (.int .u8 x.k)).setCell ⟨g0, 1, none⟩ (.int .i64 x.n)).setCell ⟨g0, 2, none⟩ (.string ⟨x.t.toArray⟩)).setCell ⟨g1, 0, none⟩ (.int .u8 y.k)).setCell ⟨g1, 1, none⟩ (.int .i64 y.n)).setCell ⟨g1, 2, none⟩ (.string ⟨y.t.toArray⟩)) := (kk.set3 (by omega)).set3 (by omega); have ZZ := Z.facts; obtain ⟨p1, q1, a0, a1, a2, c0, c1, c2, fa, fb⟩ := ZZ; have ne' : (g0 == g1) = false := by rw [beq_eq_false_iff_ne]; exact ne
  clear Z b0 b1; rcases WY with ⟨h1, h2⟩ | ⟨h1, h2, h3⟩ | ⟨h1, h2, h3⟩
  · have E := Lib.hid h2
    have h1' : ((x.k : Int) == (y.k : Int)) = false := by rw [beq_eq_false_iff_ne]; omega
    have f2 : ((x.k : Int) == 3) = false ∨ (((x.k : Int) == 3) = true ∧ ((y.k : Int) == 3) = false) := by
      by_cases g : x.k = 3
      · exact Or.inr ⟨by rw [beq_iff_eq]; omega, by rw [beq_eq_false_iff_ne]; omega⟩
      · exact Or.inl (by rw [beq_eq_false_iff_ne]; omega)
    have R := Lib.hid (fun (c : Nat) w => jq (xS c w)); have CM := Lib.hid (fun a b w => jq (qh a b w)); clear h1 h2; rcases f2 with f2 | ⟨f2, f3⟩
    all_goals
      go_wp2_with fail; generalize (((((w2q.setCell ⟨g0, 0, none⟩ (.int .u8 x.k)).setCell ⟨g0, 1, none⟩ (.int .i64 x.n)).setCell ⟨g0, 2, none⟩ (.string ⟨x.t.toArray⟩)).setCell ⟨g1, 0, none⟩ (.int .u8 y.k)).setCell ⟨g1, 1, none⟩ (.int .i64 y.n)).setCell ⟨g1, 2, none⟩ (.string ⟨y.t.toArray⟩) = w4 at *; clear p1 q1 a0 a1 a2 c0 c1 c2 fa fb; obtain ⟨p1, q1, a0, a1, a2, b0, b1, b2, fa, fb⟩ := T4.facts; have A0 := cell_regrown a0; have B0 := cell_regrown b0; refine wp_region_quiet_below (w := w4) (by kernel_rfl) (by kernel_rfl) ?_
      repeat (quiet_step (first | with_reducible exact Calls.regrown_of (R.out _ _) | with_reducible exact Calls.regrown_of (CM.out _ _ _)))
      refine wpQuiet_nil ?_; intro _ hw'; obtain ⟨⟨dq, osq⟩, hw''⟩ := hw'; subst hw''; have kq : Kept w4 (Go.Sort.grow (redrawn w4 dq) osq) := below_regrown w4 dq osq; generalize Go.Sort.grow (redrawn w4 dq) osq = w4q at *; have kk5 := kk4.trans kq; go_wp2_with fail; go_ret2; exact ⟨av E.out.symm rfl, kk5⟩
  · have E := Lib.hid h3
    have f1 : ((y.k : Int) == 3) = true := by rw [beq_iff_eq]; omega
    have f2 : ((x.k : Int) == 3) = true := by rw [beq_iff_eq]; omega
    have G := Lib.hid (fun w => qf x.t y.t w xl yl); clear h1 h2 h3; go_wp2_with fail; refine (G.out _).mono ?_; rintro e w5 ⟨rfl, k5⟩; have kk5 := kk4.trans k5; go_wp2_with fail; go_ret2; exact ⟨av E.out.symm rfl, kk5⟩
  · have E := Lib.hid h3
    have f1 : ((x.k : Int) == (y.k : Int)) = true := by rw [beq_iff_eq]; omega
    have f2 : ((x.k : Int) == 3) = false := by rw [beq_eq_false_iff_ne]; omega
    have G := Lib.hid (fun a b w => qh a b w); clear h1 h2 h3; go_wp2_with fail; refine (G.out _ _ _).mono ?_; rintro e w5 ⟨rfl, rfl⟩; go_wp2_with fail; go_ret2; exact ⟨av E.out.symm rfl, kk4⟩
theorem lQ (a b : Vl) (w : World) (ha : i64 a.n) (hb : i64 b.n) (la : a.t.length ≤ 1000000) (lb : b.t.length ≤ 1000000) (h : nr a = false ∨ nr b = false) :
    Calls Tryz.prog 108 #[ae a, ae b] w fun e w' => e = .returned (.tuple #[.int .i64 0, .int .i64 2]) ∧ Kept w w' := by
  have CA := Lib.hid (fun w => cZ a w ha la); have CB := Lib.hid (fun w => cZ b w hb lb); have ka := om a; have kb := om b; obtain ⟨k, n, t⟩ := a; obtain ⟨j, m, u⟩ := b; have T0 : Hid (∀ w : World, Two ((w.alloc (.cells (cn ⟨k, n, t⟩) 25)).alloc (.cells (cn ⟨j, m, u⟩) 25)) w.heap.size (w.heap.size + 1) ⟨k, n, t⟩ ⟨j, m, u⟩) := fun w => Two.made; rcases ka with ⟨ka, oa⟩ | ⟨ka, oa, ob⟩ | ⟨ka, oa, ob⟩
  · have f : (cF ⟨k, n, t⟩ != 0) = true := by simpa using ka
    generalize cF ⟨k, n, t⟩ = ca at *; clear ka oa kb h; go_enter Tryz.func108, Tryz.ntmps108; go_wp2_with fail; refine (CA.out _).mono ?_; rintro e w' ⟨rfl, k1⟩; have kk := (((Kept.refl w).alloc _).alloc _).trans k1; go_wp2_with fail; go_ret2; exact ⟨rfl, kk⟩
  · rw [ka] at CA
    have o4 : ((k : Int) == 4) = true := by rw [beq_iff_eq]; exact congrArg Int.ofNat oa
    rcases kb with ⟨kb, obb⟩ | ⟨kb, obb⟩ | ⟨kb, obb⟩
    · have f : (cF ⟨j, m, u⟩ != 0) = true := by simpa using kb
      generalize cF ⟨j, m, u⟩ = cb at *; clear ka oa ob kb obb h o4; go_enter Tryz.func108, Tryz.ntmps108; go_wp2_with fail; refine (CA.out _).mono ?_; rintro e w1 ⟨rfl, k1⟩; have T := (T0.out w).kept k1; obtain ⟨p1, q1, a0, a1, a2, b0, b1, b2, fa, fb⟩ := T.facts; go_wp2_with fail; refine (CB.out _).mono ?_; rintro e w' ⟨rfl, k2⟩; have kk := (((Kept.refl w).alloc _).alloc _).trans (k1.trans k2); go_wp2_with fail; go_ret2; exact ⟨rfl, kk⟩
    all_goals
      rw [kb] at CB; clear ka oa ob kb obb h; go_enter Tryz.func108, Tryz.ntmps108; go_wp2_with fail; refine (CA.out _).mono ?_; rintro e w1 ⟨rfl, k1⟩; have T := (T0.out w).kept k1; have TT := T.facts; obtain ⟨p1, q1, a0, a1, a2, c0, c1, c2, fa, fb⟩ := TT; go_wp2_with fail; refine (CB.out _).mono ?_; rintro e w2 ⟨rfl, k2⟩; have T := T.kept k2; have kk := (((Kept.refl w).alloc _).alloc _).trans (k1.trans k2); clear p1 q1 a0 a1 a2 c0 c1 c2 fa fb k1 k2; obtain ⟨p1, q1, a0, a1, a2, b0, b1, b2, fa, fb⟩ := T.facts; go_wp2_with fail; go_ret2; exact ⟨rfl, kk⟩
  · rw [ka] at CA
    have o4 : ((k : Int) == 4) = false := by rw [beq_eq_false_iff_ne]; intro e; exact oa (Int.ofNat_inj.1 e)
    rcases kb with ⟨kb, obb⟩ | ⟨kb, obb, obc⟩ | ⟨kb, obb, obc⟩
    · have f : (cF ⟨j, m, u⟩ != 0) = true := by simpa using kb
      generalize cF ⟨j, m, u⟩ = cb at *; clear ka oa ob kb obb h o4; go_enter Tryz.func108, Tryz.ntmps108; go_wp2_with fail; refine (CA.out _).mono ?_; rintro e w1 ⟨rfl, k1⟩; have T := (T0.out w).kept k1; obtain ⟨p1, q1, a0, a1, a2, b0, b1, b2, fa, fb⟩ := T.facts; go_wp2_with fail; refine (CB.out _).mono ?_; rintro e w' ⟨rfl, k2⟩; have kk := (((Kept.refl w).alloc _).alloc _).trans (k1.trans k2); go_wp2_with fail; go_ret2; exact ⟨rfl, kk⟩
    · rw [kb] at CB
      have p4 : ((j : Int) == 4) = true := by rw [beq_iff_eq]; exact congrArg Int.ofNat obb
      clear ka oa ob kb obb obc h; go_enter Tryz.func108, Tryz.ntmps108; go_wp2_with fail; refine (CA.out _).mono ?_; rintro e w1 ⟨rfl, k1⟩; have T := (T0.out w).kept k1; have TT := T.facts; obtain ⟨p1, q1, a0, a1, a2, c0, c1, c2, fa, fb⟩ := TT; go_wp2_with fail; refine (CB.out _).mono ?_; rintro e w2 ⟨rfl, k2⟩; have T := T.kept k2; have kk := (((Kept.refl w).alloc _).alloc _).trans (k1.trans k2); clear p1 q1 a0 a1 a2 c0 c1 c2 fa fb k1 k2; obtain ⟨p1, q1, a0, a1, a2, b0, b1, b2, fa, fb⟩ := T.facts; go_wp2_with fail; go_ret2; exact ⟨rfl, kk⟩
    · rw [ob, obc] at h; rcases h with h | h <;> cases h
theorem ot (a b : Vl) (w : World) (ha : i64 a.n) (hb : i64 b.n) (la : a.t.length ≤ 1000000) (lb : b.t.length ≤ 1000000) :
    Calls Tryz.prog 108 #[ae a, ae b] w fun e w' => e = .returned (.tuple #[.int .i64 (lI a b).1, .int .i64 (lI a b).2]) ∧ Kept w w' := by
  by_cases c : nr a = true
  · by_cases d : nr b = true
    · rw [tU c d]
      obtain ⟨oa, a4⟩ := hU c; obtain ⟨ob, b4⟩ := hU d; have CA := Lib.hid (fun w => cZ a w ha la); have CB := Lib.hid (fun w => cZ b w hb lb); rw [cX oa] at CA; rw [cX ob] at CB
      have BA : Hid (∀ w, Calls Tryz.prog 139 #[ae a, ae b] w fun e w' => e = .returned (ae (rJ a b.k)) ∧ Kept w w') := by
        show ∀ w, _; rw [← nB oa]; exact fun w => lO a.k a.n a.t b.k b.n b.t w
      have BB : Hid (∀ w, Calls Tryz.prog 139 #[ae b, ae a] w fun e w' => e = .returned (ae (rJ b a.k)) ∧ Kept w w') := by
        show ∀ w, _; rw [← nB ob]; exact fun w => lO b.k b.n b.t a.k a.n a.t w
      exact xV a.k b.k a.n b.n a.t b.t w (rJ a b.k) (rJ b a.k) (by rw [ly]; exact la) (by rw [ly]; exact lb) CA CB BA BB
        (by rw [beq_eq_false_iff_ne]; intro e; exact a4 (Int.ofNat_inj.1 e)) (by rw [beq_eq_false_iff_ne]; intro e; exact b4 (Int.ofNat_inj.1 e))
    · rw [oq (Or.inr (by simpa using d))]
      exact lQ a b w ha hb la lb (Or.inr (by simpa using d))
  · rw [oq (Or.inl (by simpa using c))]
    exact lQ a b w ha hb la lb (Or.inl (by simpa using c))
