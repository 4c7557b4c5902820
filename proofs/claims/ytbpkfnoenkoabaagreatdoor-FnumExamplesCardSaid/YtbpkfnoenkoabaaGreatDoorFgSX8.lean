/- A drawn region whose tail is a store and an assignment, where one operation of the head (it only reads) may come between the two. -/
import Derived.Test.YtbpkfnoenkoabaaGreatDoorFgMixAO
namespace Go.Proofs.YtbpkfnoenkoabaaGreatDoor
set_option linter.unusedVariables false
set_option linter.unusedSimpArgs false
open Go.RowKit
section
variable {P : Program} {ops : Array Oper} {Q : Exit → Act → World → Prop}
def seqL (ops : Array Oper) : List Nat → Array Bool → Bool
  | [], d => (Region.ready .any ops d).isEmpty
  | i :: r, d => Region.ready .any ops d == [i] && seqL ops r (d.setIfInBounds i true)
theorem wpAny_idx : ∀ (l : List Nat) (os : List Oper) (d : Array Bool) (a : Act) (w : World), l.map (fun i => ops[i]?) = os.map some → seqL ops l d = true → wpList P ops Q os a w → wpAny P .any ops Q l.length d a w
  | [], os, d, a, w, hl, hB, h => by
    cases os with
    | nil => exact ⟨by simpa [seqL] using hB, h⟩
    | cons o r => simp at hl
  | i :: l, os, d, a, w, hl, hB, h => by
    cases os with
    | nil => simp at hl
    | cons o r =>
      simp only [List.map_cons, List.cons.injEq] at hl
      simp only [seqL, Bool.and_eq_true, beq_iff_eq] at hB
      refine ⟨fun h1 => (by rw [hB.1] at h1; cases h1), fun j hj => ?_⟩; rw [hB.1] at hj; obtain rfl : j = i := by simpa using hj
      have hw : wpOp P ops Q j (wpList P ops Q r) a w := by unfold wpOp; simp only [hl.1]; exact h
      exact wpOp_mono (fun a' w' h' => wpAny_idx l r _ a' w' hl.2 hB.2 h') hw
def lateB (ops : Array Oper) (n m : Nat) : Bool :=
  ops.size == n + 2 && decide (m < n) && Region.seqB .any ops 2 n (headDone ops n) && seqL ops [m, n + 1] (((headDone ops n).setIfInBounds m false).setIfInBounds n true) &&
  (match ops[n]? with | some o => (List.range n).all fun j => j == m || o.after.toList.any fun e => Region.binds .any e && e.on == j | none => false) &&
  (match ops[n + 1]? with | some o => o.after.toList.any fun e => Region.binds .any e && e.on == n | none => false)
theorem headX_late {ys : List Yield} {n m : Nat} {w0 : World} {a0 : Act} (hB : headB ops n a0.tmps.size = true) (hT : lateB ops n m = true) (step : StepsX P ops n ys w0 a0) (fin : FinX P ops n ys w0 a0 Q)
    (late : ∀ a w o1 o2 o3, ops[n]? = some o1 → ops[m]? = some o2 → ops[n + 1]? = some o3 → Kept w0 w → BesideN ops n a0 a → (∀ j, j < n → j ≠ m → Ys ys j (At ops a j) w) → (∀ j k, j < n → k < n → j ≠ k → j ≠ m → k ≠ m → Fs ys j = true → Fs ys k = true → blkOf (At ops a j) ≠ blkOf (At ops a k)) → wpList P ops Q [o1, o2, o3] a w) :
    ∀ (f : Nat) (done : Array Bool) (a : Act) (w : World), HeadInv .any ops n done → InvX ops n ys w0 a0 done a w → ((List.range n).filter (fun i => !done.getD i true)).length = f → wpAny P .any ops Q (f + 2) done a w := by
  have hn : n ≤ ops.size := by
    simp only [headB, Bool.and_eq_true, decide_eq_true_eq] at hB
    exact hB.1.2
  simp only [lateB, Bool.and_eq_true, beq_iff_eq, decide_eq_true_eq] at hT
  obtain ⟨⟨⟨⟨⟨hsz, hmn⟩, seq⟩, seq2⟩, aw1⟩, aw2⟩ := hT; obtain ⟨o1, ho1⟩ : ∃ o, ops[n]? = some o := ⟨_, Array.getElem?_eq_getElem (by omega)⟩; obtain ⟨o2, ho2⟩ : ∃ o, ops[m]? = some o := ⟨_, Array.getElem?_eq_getElem (by omega)⟩; obtain ⟨o3, ho3⟩ : ∃ o, ops[n + 1]? = some o := ⟨_, Array.getElem?_eq_getElem (by omega)⟩; rw [ho1] at aw1; rw [ho3] at aw2
  simp only at aw1 aw2
  intro f
  induction f with
  | zero =>
    intro done a w hI inv hf
    have all : ∀ j, j < n → done.getD j false = true := fun j hj => by
      cases hd : done.getD j false with
      | true => rfl
      | false =>
        have hjs : j < done.size := by rw [inv.len]; omega
        have : j ∈ (List.range n).filter (fun i => !done.getD i true) := by
          rw [List.mem_filter, List.mem_range]; exact ⟨hj, by rw [getD_in hjs hd]; rfl⟩
        rw [List.eq_nil_of_length_eq_zero hf] at this; cases this
    have e := done_all hI hn all; have dl : (ops.toList.drop n).length = 2 := by rw [List.length_drop, Array.length_toList]; omega
    rw [Nat.zero_add, ← dl]; refine wpAny_of_seq (md := .any) (Q' := Q) (ops.toList.drop n) n done a w (fun j => by rw [List.getElem?_drop, Array.getElem?_toList]) (by rw [dl, e]; exact seq) ?_; exact fin a w inv.kept inv.beside (fun j hj => inv.vals j hj (all j hj)) (fun j k hj hk ne fj fk => inv.apart j k hj hk ne fj fk (all j hj) (all k hk))
  | succ f ih =>
    intro done a w hI inv hf
    have some_ : ∃ j, j < n ∧ done.getD j false = false := by
      cases hl : (List.range n).filter (fun i => !done.getD i true) with
      | nil => rw [hl] at hf; simp at hf
      | cons j r =>
        have : j ∈ (List.range n).filter (fun i => !done.getD i true) := by rw [hl]; exact List.mem_cons_self
        rw [List.mem_filter, List.mem_range] at this; exact ⟨j, this.1, getD_both (by simpa using this.2)⟩
    obtain ⟨j0, hj0, hd0⟩ := some_; obtain ⟨i0, hi0, hr0⟩ := head_ready hB inv.len hj0 hd0; have e1 : f + 1 + 2 = (f + 2) + 1 := by omega
    rw [e1]; refine ⟨fun none => by rw [none] at hr0; (cases hr0), fun i hi => ?_⟩; obtain ⟨un, o, ho, waits⟩ := mem_ready.1 hi; have hil : i < ops.size := (Array.getElem?_eq_some_iff.1 ho).1
    by_cases hin : i < n
    · have st := step i o ho hin a w inv.kept inv.beside (fun e he hb => inv.vals e.on (by obtain ⟨_, _, _, _, h4⟩ := head_dst hB hin ho; have := h4 e he hb; omega) (waits e he hb))
      have cnt : ((List.range n).filter (fun j => !(done.setIfInBounds i true).getD j true)).length = f := by
        have e : (List.range n).filter (fun j => !(done.setIfInBounds i true).getD j true) = ((List.range n).filter (fun j => !done.getD j true)).erase i := by
          rw [List.Nodup.erase_eq_filter (List.Nodup.sublist List.filter_sublist List.nodup_range)]; rw [List.filter_filter]; refine List.filter_congr fun j hj => ?_
          by_cases e : i = j
          · subst e
            have : i < done.size := by rw [inv.len]; exact hil
            simp [Array.getD, this]
          · rw [getD_set_ne true e]
            have : (j != i) = true := by simp; omega
            rw [this, Bool.true_and]
        rw [e, List.length_erase_of_mem (by rw [List.mem_filter, List.mem_range]; exact ⟨hin, by rw [un]; rfl⟩), hf]
        rfl
      unfold wpOp
      simp only [ho]
      unfold StepX at st
      split
      · rename_i hw
        rw [if_pos hw] at st; exact Or.inl (st _ _ fun v w' hv k hfr => ih _ _ _ (hI.set hi hin) (inv.put hB hin ho hv k hfr) cnt)
      · rename_i hw
        rw [if_neg hw] at st; exact ih _ _ _ (hI.set hi hin) (inv.put hB hin ho st.1 (Kept.refl w) (fun e => by rw [st.2] at e; cases e)) cnt
    · have hi_n : i = n := by
        rcases (show i = n ∨ i = n + 1 by omega) with e | e
        · exact e
        · exfalso
          subst e; rw [ho3] at ho
          cases ho
          rw [List.any_eq_true] at aw2; obtain ⟨e, he, hb⟩ := aw2
          simp only [Bool.and_eq_true, beq_iff_eq] at hb
          have := waits e (by simpa using he) hb.1; rw [hb.2] at this; have := hI.tail n (Nat.le_refl _) (by omega); have := getD_both this
          simp_all
      subst hi_n; rw [ho1] at ho
      cases ho
      have others : ∀ j, j < i → j ≠ m → done.getD j false = true := fun j hj ne => by
        have := List.all_eq_true.1 aw1 j (List.mem_range.2 hj)
        simp only [Bool.or_eq_true, beq_iff_eq, List.any_eq_true] at this
        rcases this with e | ⟨e, he, hb⟩
        · exact absurd e ne
        · simp only [Bool.and_eq_true, beq_iff_eq] at hb
          have := waits e (by simpa using he) hb.1
          rwa [hb.2] at this
      have mj : j0 = m := by
        by_cases e : j0 = m
        · exact e
        · rw [others j0 hj0 e] at hd0; cases hd0
      subst mj; have hms : j0 < done.size := by rw [inv.len]; omega
      have full : (done.setIfInBounds j0 true) = headDone ops i := by
        refine done_all (hI.set (i := j0) ?_ hmn) hn (fun j hj => ?_)
        · rw [mem_ready]
          refine ⟨getD_in hms hd0, o2, ho2, fun e he hb => ?_⟩; obtain ⟨_, _, _, _, h4⟩ := head_dst hB hmn ho2; have := h4 e he hb; exact others e.on (by omega) (by omega)
        · by_cases e : j0 = j
          · subst e; simp [Array.getD, hms]
          · rw [getD_set_ne false e]; exact others j hj (fun c => e c.symm)
      have ed : done = (headDone ops i).setIfInBounds j0 false := by
        rw [← full]; refine Array.ext (by simp) fun j h1 h2 => ?_
        by_cases e : j0 = j
        · subst e
          have : done[j0] = false := by have := hd0; simpa [Array.getD, h1] using this
          simp [this]
        · simp only [Array.setIfInBounds_setIfInBounds]
          rw [Array.getElem_setIfInBounds_ne _ e]
      have hf0 : f = 0 := by
        have e : (List.range i).filter (fun q => !done.getD q true) = [j0] := by
          have hnd : ((List.range i).filter (fun q => !done.getD q true)).Nodup := List.Nodup.sublist List.filter_sublist List.nodup_range
          have hm1 : ∀ x ∈ (List.range i).filter (fun q => !done.getD q true), x = j0 := fun x hx => by
            rw [List.mem_filter, List.mem_range] at hx
            by_cases c : x = j0
            · exact c
            · have h1 := others x hx.1 c
              have h2 : done.getD x true = false := by simpa using hx.2
              rw [getD_both h2] at h1; cases h1
          have hm2 : j0 ∈ (List.range i).filter (fun q => !done.getD q true) := by
            rw [List.mem_filter, List.mem_range]; exact ⟨hmn, by rw [getD_in hms hd0]; rfl⟩
          match hL : (List.range i).filter (fun q => !done.getD q true) with
          | [] => rw [hL] at hm2; cases hm2
          | [x] => rw [hL] at hm2; rw [List.mem_singleton.1 hm2]
          | x :: y :: r =>
            rw [hL] at hm1 hnd; have a1 := hm1 x (by simp); have a2 := hm1 y (by simp); rw [a1, a2] at hnd
            simp at hnd
        rw [e] at hf
        simp at hf
        omega
      subst hf0
      have hw : wpOp P ops Q i (wpList P ops Q [o2, o3]) a w := by
        unfold wpOp
        simp only [ho1]
        exact late a w o1 o2 o3 ho1 ho2 ho3 inv.kept inv.beside (fun j hj ne => inv.vals j hj (others j hj ne)) (fun j k hj hk ne nj nk fj fk => inv.apart j k hj hk ne fj fk (others j hj nj) (others k hk nk))
      exact wpOp_mono (fun a' w' h' => wpAny_idx [j0, i + 1] [o2, o3] _ a' w' (by simp [ho2, ho3]) (by rw [ed]; exact seq2) h') hw
theorem rgn_late {id : Nat} {l : List Oper} (ys : List Yield) (n m N : Nat) {Q : Exit → Act → World → Prop} {w0 : World} {a0 : Act} (hs : a0.tmps.size = N) (hB : headB l.toArray n N = true) (hT : lateB l.toArray n m = true)
    (arms : Arms Tryz.prog l.toArray n ys w0 a0 0 (l.take n))
    (fin : ∀ a w, Kept w0 w → BesideN l.toArray n a0 a → (∀ j, j < n → Ys ys j (At l.toArray a j) w) → (∀ j k, j < n → k < n → j ≠ k → Fs ys j = true → Fs ys k = true → blkOf (At l.toArray a j) ≠ blkOf (At l.toArray a k)) → wpList Tryz.prog l.toArray Q (l.drop n) a w)
    (late : ∀ a w, Kept w0 w → BesideN l.toArray n a0 a → (∀ j, j < n → j ≠ m → Ys ys j (At l.toArray a j) w) → (∀ j k, j < n → k < n → j ≠ k → j ≠ m → k ≠ m → Fs ys j = true → Fs ys k = true → blkOf (At l.toArray a j) ≠ blkOf (At l.toArray a k)) → wpList Tryz.prog l.toArray Q ((l.drop n).take 1 ++ ((l.drop m).take 1 ++ l.drop (n + 1))) a w) :
    (Code.region id l.toArray true).wp Tryz.prog Q a0 w0 := by
  subst hs; have hB' := hB; have hT' := hT
  simp only [lateB, Bool.and_eq_true, beq_iff_eq, decide_eq_true_eq, List.size_toArray] at hT'
  obtain ⟨⟨⟨⟨⟨hsz, hmn⟩, _⟩, _⟩, _⟩, _⟩ := hT'; refine wp_region_any follows_mixed ?_
  have cnt : ((List.range n).filter (fun i => !(Array.replicate l.toArray.size false).getD i true)).length = n := by
    rw [List.filter_eq_self.2]
    · rw [List.length_range]
    · intro i hi
      rw [List.mem_range] at hi; have hs : i < (Array.replicate l.toArray.size false).size := by rw [Array.size_replicate, List.size_toArray]; omega
      rw [getD_in hs (getD_replicate_false _ _)]; rfl
  have start : ∀ w1, Kept w0 w1 → InvX l.toArray n ys w0 a0 (Array.replicate l.toArray.size false) a0 w1 := fun w1 k => by
    refine ⟨Array.size_replicate, k, ⟨rfl, rfl, fun _ _ => rfl⟩, fun j _ hj => ?_, fun j k _ _ _ _ _ hj _ => ?_⟩
    · rw [getD_replicate_false] at hj; cases hj
    · rw [getD_replicate_false] at hj; cases hj
  have A := headX_late hB hT (fun i o ho hi a w k b d => by
    have h := arms.get (l.take n) 0 i o (by rw [List.getElem?_take_of_lt hi]; simpa using ho) a w k b d
    rwa [Nat.zero_add] at h) fin (fun a w o1 o2 o3 e1 e2 e3 k b hv ap => by
      have h := late a w k b hv ap
      have q1 : (l.drop n).take 1 = [o1] := by
        rw [List.getElem?_toArray] at e1; rw [List.drop_eq_getElem_cons (by omega), List.take_succ_cons, List.take_zero]; rw [List.getElem?_eq_getElem (by omega)] at e1; rw [Option.some.inj e1]
      have q2 : (l.drop m).take 1 = [o2] := by
        rw [List.getElem?_toArray] at e2; rw [List.drop_eq_getElem_cons (by omega), List.take_succ_cons, List.take_zero]; rw [List.getElem?_eq_getElem (by omega)] at e2; rw [Option.some.inj e2]
      have q3 : l.drop (n + 1) = [o3] := by
        rw [List.getElem?_toArray] at e3; rw [List.drop_eq_getElem_cons (by omega), List.drop_of_length_le (by omega)]; rw [List.getElem?_eq_getElem (by omega)] at e3; rw [Option.some.inj e3]
      rw [q1, q2, q3] at h; exact h) n _ a0 _ ⟨Array.size_replicate, (fun j q _ hd => by rw [getD_replicate_false] at hd; cases hd), fun t _ ht => getD_in (by rw [Array.size_replicate]; exact ht) (getD_replicate_false _ _)⟩ (start _ (Kept.refl w0).drew) cnt
  rwa [show n + 2 = l.toArray.size by rw [List.size_toArray]; omega] at A
end
section
variable {ops : Array Oper} {n m : Nat} {ys : List Yield} {a : Act} {w : World} {t : Nat} {v : Value}
theorem lgotY {y : Yield} (hv : ∀ j, j < n → j ≠ m → Ys ys j (At ops a j) w) (j : Nat) (hj : Nat.blt j n = true) (hm : Nat.beq j m = false) (hy : ys[j]? = some y) (ht : (ops[j]?).bind (·.dst) = some t) : y.p (a.eval (.tmp t)) w := by
  have := hv j (Nat.le_of_ble_eq_true hj) (Nat.ne_of_beq_eq_false hm); unfold Ys at this; rw [hy, at_slot ht] at this; exact this
theorem lgot (hv : ∀ j, j < n → j ≠ m → Ys ys j (At ops a j) w) (j : Nat) (hj : Nat.blt j n = true) (hm : Nat.beq j m = false) (hy : ys[j]? = some (yV v)) (ht : (ops[j]?).bind (·.dst) = some t) : a.eval (.tmp t) = v := lgotY hv j hj hm hy ht
theorem lgotP {b : Obj} {s : Nat} (hv : ∀ j, j < n → j ≠ m → Ys ys j (At ops a j) w) (j : Nat) (hj : Nat.blt j n = true) (hm : Nat.beq j m = false) (hy : ys[j]? = some (yNew s b)) (ht : (ops[j]?).bind (·.dst) = some t) : ∃ g, a.eval (.tmp t) = .pointer (some ⟨g, 0, none⟩) ∧ s ≤ g ∧ w.heap[g]? = some b := lgotY hv j hj hm hy ht
end
end Go.Proofs.YtbpkfnoenkoabaaGreatDoor
