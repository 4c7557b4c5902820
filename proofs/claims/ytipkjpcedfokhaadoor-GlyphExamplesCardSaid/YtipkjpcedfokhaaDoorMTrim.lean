/- How layer 4 trims a text: plain lists. -/
import Derived.Test.YtipkjpcedfokhaaDoorMGlyph
import Derived.Lib.SplitLaws
import Derived.Lib.Join
namespace Go.Proofs.YtipkjpcedfokhaaDoor.Lv
set_option linter.unusedVariables false
set_option linter.unusedSimpArgs false
open Go
theorem index_byte (q b : UInt8) (l : List UInt8) : Lib.index (b :: l) [q] = if b = q then 0 else if Lib.index l [q] = -1 then -1 else Lib.index l [q] + 1 := by
  show (if ([q] : List UInt8).isPrefixOf (b :: l) then (0 : Int) else if Lib.index l [q] == -1 then -1 else Lib.index l [q] + 1) = _
  have e : ([q] : List UInt8).isPrefixOf (b :: l) = (q == b) := by simp [List.isPrefixOf]
  rw [e]
  by_cases h : b = q
  · subst h; simp
  · have h2 : (q == b) = false := by simpa using fun e => h e.symm
    rw [h2, if_neg h]
    simp only [Bool.false_eq_true, if_false, beq_iff_eq]
/-- the pieces between blanks -/
def pcs : List UInt8 → List (List UInt8)
  | [] => [[]]
  | c :: l => if c = 32 then [] :: pcs l else match pcs l with
    | [] => [[c]]
    | p :: ps => (c :: p) :: ps
theorem pcs_ne : ∀ l, pcs l ≠ []
  | [] => by simp [pcs]
  | c :: l => by
    unfold pcs
    split
    · simp
    · split <;> simp
theorem pcs_miss : ∀ (l : List UInt8), Lib.index l [32] = -1 → pcs l = [l]
  | [], _ => rfl
  | b :: l, h => by
    rw [index_byte] at h
    by_cases c : b = 32
    · rw [if_pos c] at h; omega
    · rw [if_neg c] at h
      by_cases g : Lib.index l [32] = -1
      · unfold pcs; rw [if_neg c, pcs_miss l g]
      · rw [if_neg g] at h
        have := Lib.index_ge l [32]
        omega
theorem pcs_hit : ∀ (l : List UInt8) (i : Nat), Lib.index l [32] = i → pcs l = l.take i :: pcs (l.drop (i + 1))
  | [], i, h => by unfold Lib.index at h; simp at h
  | b :: l, i, h => by
    rw [index_byte] at h
    by_cases c : b = 32
    · rw [if_pos c] at h
      obtain rfl : i = 0 := by omega
      conv => lhs; unfold pcs
      rw [if_pos c]; rfl
    · rw [if_neg c] at h
      by_cases g : Lib.index l [32] = -1
      · rw [if_pos g] at h; omega
      · rw [if_neg g] at h
        have ge := Lib.index_ge l [32]
        obtain ⟨j, hj⟩ : ∃ j : Nat, Lib.index l [32] = j := ⟨(Lib.index l [32]).toNat, by omega⟩
        obtain rfl : i = j + 1 := by omega
        conv => lhs; unfold pcs
        rw [if_neg c, pcs_hit l j hj]
        simp
theorem splitK_pcs : ∀ (k : Nat) (l : List UInt8), Lib.count l [32] ≤ k → Lib.splitK [32] 0 k l = pcs l
  | 0, l, h => by
    by_cases g : Lib.index l [32] = -1
    · rw [pcs_miss l g]; rfl
    · have ge := Lib.index_ge l [32]
      have := Lib.count_hit (s := l) (sub := [32]) (i := (Lib.index l [32]).toNat) (by simp) (by omega)
      omega
  | k + 1, l, h => by
    by_cases g : Lib.index l [32] = -1
    · rw [pcs_miss l g]
      unfold Lib.splitK
      rw [if_pos (by simpa using g)]
    · have ge := Lib.index_ge l [32]
      obtain ⟨i, hi⟩ : ∃ i : Nat, Lib.index l [32] = i := ⟨(Lib.index l [32]).toNat, by omega⟩
      have c := Lib.count_hit (s := l) (sub := [32]) (i := i) (by simp) hi
      unfold Lib.splitK
      rw [if_neg (by simpa using g), pcs_hit l i hi, hi]
      rw [show ((i : Int)).toNat = i by omega, Nat.add_zero, show ([32] : List UInt8).length = 1 from rfl, splitK_pcs k _ (by rw [show ([32] : List UInt8).length = 1 from rfl] at c; omega)]
def words (l : List UInt8) : List (List UInt8) := (pcs l).filter (fun p => !p.isEmpty)
def trim (l : List UInt8) : List UInt8 := Lib.join (words l) [32]
/-- the last piece apart -/
theorem pcs_snoc : ∀ (l : List UInt8) (c : UInt8), ∃ ps p, pcs l = ps ++ [p] ∧ (p = [] ↔ (l = [] ∨ l.getLast? = some 32)) ∧ pcs (l ++ [c]) = if c = 32 then ps ++ [p] ++ [[]] else ps ++ [p ++ [c]]
  | [], c => by
    refine ⟨[], [], rfl, by simp, ?_⟩
    by_cases h : c = 32
    · simp [pcs, h]
    · simp [pcs, h]
  | b :: l, c => by
    obtain ⟨ps, p, h1, h2, h3⟩ := pcs_snoc l c
    have gl : (b :: l).getLast? = some 32 ↔ (l = [] ∧ b = 32) ∨ (l ≠ [] ∧ l.getLast? = some 32) := by
      cases l with
      | nil => simp
      | cons x y => rw [List.getLast?_cons_cons]; simp
    by_cases hb : b = 32
    · refine ⟨[] :: ps, p, by conv => lhs; unfold pcs
                              rw [if_pos hb, h1]; rfl, ?_, ?_⟩
      · rw [h2, gl]
        constructor
        · rintro (h | h)
          · exact Or.inr (Or.inl ⟨h, hb⟩)
          · exact Or.inr (Or.inr ⟨by intro e; subst e; simp at h, h⟩)
        · rintro (h | ⟨h, _⟩ | ⟨_, h⟩)
          · simp at h
          · exact Or.inl h
          · exact Or.inr h
      · rw [List.cons_append]
        conv => lhs; unfold pcs
        rw [if_pos hb, h3]
        split <;> rfl
    · rcases ps with _ | ⟨q, ps⟩
      · refine ⟨[], b :: p, by conv => lhs; unfold pcs
                               rw [if_neg hb, h1]; rfl, ?_, ?_⟩
        · rw [gl]
          constructor
          · intro h; simp at h
          · rintro (h | ⟨_, h⟩ | ⟨h, h'⟩)
            · simp at h
            · exact absurd h hb
            · exfalso
              have pe := h2.2 (Or.inr h')
              subst pe
              -- the only piece is empty: then there is no blank in l
              exact pcs_one_empty h1 h
        · rw [List.cons_append]
          conv => lhs; unfold pcs
          rw [if_neg hb, h3]
          by_cases h32 : c = 32 <;> simp [h32]
      · refine ⟨(b :: q) :: ps, p, by conv => lhs; unfold pcs
                                      rw [if_neg hb, h1]; rfl, ?_, ?_⟩
        · rw [h2, gl]
          constructor
          · rintro (h | h)
            · exfalso; subst h; simp [pcs] at h1
            · exact Or.inr (Or.inr ⟨by intro e; subst e; simp at h, h⟩)
          · rintro (h | ⟨_, h⟩ | ⟨_, h⟩)
            · simp at h
            · exact absurd h hb
            · exact Or.inr h
        · rw [List.cons_append]
          conv => lhs; unfold pcs
          rw [if_neg hb, h3]
          by_cases h32 : c = 32 <;> simp [h32]
where
  pcs_one_empty {l : List UInt8} (h : pcs l = [] ++ [[]]) (hne : l ≠ []) : False := by
    cases l with
    | nil => exact hne rfl
    | cons b l =>
      unfold pcs at h
      split at h
      · have := pcs_ne l
        simp at h
        exact this h
      · split at h <;> simp at h
theorem join_snoc (xs : List (List UInt8)) (y : List UInt8) : Lib.join (xs ++ [y]) [32] = if xs = [] then y else Lib.join xs [32] ++ 32 :: y := by
  cases xs with
  | nil => simp [Lib.join_one]
  | cons x r =>
    rw [if_neg (by simp), List.cons_append, Lib.join_cons, Lib.join_cons]
    unfold Lib.joinTail
    simp
theorem join_ne {xs : List (List UInt8)} (h : ∀ x ∈ xs, x ≠ []) : Lib.join xs [32] = [] ↔ xs = [] := by
  cases xs with
  | nil => simp [Lib.join_nil]
  | cons x r =>
    rw [Lib.join_cons]
    have := h x (by simp)
    simp [this]
theorem words_ne (ps : List (List UInt8)) : ∀ x ∈ ps.filter (fun p => !p.isEmpty), x ≠ [] := fun x hx => by
  have := (List.mem_filter.1 hx).2
  simpa using this
theorem trim_nil : trim [] = [] := rfl
/-- one byte more -/
theorem trim_snoc (l : List UInt8) (c : UInt8) : trim (l ++ [c]) = if c = 32 then trim l else if trim l ≠ [] ∧ l.getLast? = some 32 then trim l ++ [32, c] else trim l ++ [c] := by
  obtain ⟨ps, p, h1, h2, h3⟩ := pcs_snoc l c
  unfold trim words
  rw [h1, h3]
  by_cases hc : c = 32
  · rw [if_pos hc, if_pos hc, List.filter_append]; simp
  · rw [if_neg hc, if_neg hc, List.filter_append, List.filter_append]
    have e1 : [p ++ [c]].filter (fun p => !p.isEmpty) = [p ++ [c]] := by simp
    rw [e1, join_snoc]
    have wn := join_ne (words_ne ps)
    by_cases hp : p = []
    · have e2 : [p].filter (fun p => !p.isEmpty) = [] := by rw [hp]; rfl
      rw [e2, List.append_nil, hp, List.nil_append]
      by_cases f : ps.filter (fun p => !p.isEmpty) = []
      · rw [if_pos f, f, Lib.join_nil]; simp
      · rw [if_neg f]
        have lb : l.getLast? = some 32 := by
          rcases h2.1 hp with h | h
          · exfalso; subst h
            have : ps = [] := by
              have e := congrArg List.length h1
              simp [pcs] at e; exact e
            subst this; exact f rfl
          · exact h
        rw [if_pos ⟨fun e => f (wn.1 e), lb⟩]
    · have e2 : [p].filter (fun p => !p.isEmpty) = [p] := by
        have : p.isEmpty = false := by simpa using hp
        simp [this]
      rw [e2, join_snoc]
      have nb : ¬ (l.getLast? = some 32) := fun h => hp (h2.2 (Or.inr h))
      rw [if_neg (show ¬ (_ ∧ l.getLast? = some 32) from fun h => nb h.2)]
      split <;> simp
theorem trim_len (l : List UInt8) : (trim l).length ≤ l.length := by
  suffices h : ∀ l : List UInt8, (trim l.reverse).length ≤ l.length ∧ ((trim l.reverse) ≠ [] → l.reverse.getLast? = some 32 → (trim l.reverse).length + 1 ≤ l.length) by
    have := (h l.reverse).1; simpa using this
  intro l
  induction l with
  | nil => simp [trim_nil]
  | cons c l ih =>
    rw [List.reverse_cons, trim_snoc, List.length_cons]
    obtain ⟨i1, i2⟩ := ih
    by_cases hc : c = 32
    · rw [if_pos hc]
      exact ⟨by omega, fun _ _ => by omega⟩
    · rw [if_neg hc]
      have g : ((l.reverse ++ [c]).getLast? = some 32) → False := fun h => by simp at h; exact hc h
      by_cases k : trim l.reverse ≠ [] ∧ l.reverse.getLast? = some 32
      · rw [if_pos k]
        have := i2 k.1 k.2
        refine ⟨by simp; omega, fun _ h => (g h).elim⟩
      · rw [if_neg k]
        refine ⟨by simp; omega, fun _ h => (g h).elim⟩
end Go.Proofs.YtipkjpcedfokhaaDoor.Lv
