/- The outright laws of layer 15 on plain data. -/
import Derived.Test.YtipkjpcedfokhaaDoorMGood
namespace Go.Proofs.YtipkjpcedfokhaaDoor.Lv
set_option linter.unusedVariables false
set_option linter.unusedSimpArgs false
open Go
theorem isE_iff {v : Vl} : isE v = true ↔ v.k = 4 := by unfold isE; rw [decide_eq_true_eq]
theorem firstE_some {l : List Vl} {e : Vl} (h : firstE l = some e) : isE e = true ∧ e ∈ l := ⟨by unfold firstE at h; exact List.find?_some h, by unfold firstE at h; exact List.mem_of_find?_eq_some h⟩
theorem bool_truth (b : Bool) : vBool (vTruth b) = vTruth b := by cases b <;> rfl
theorem bools_truth (l : List Bool) : (l.map vTruth).map vBool = l.map vTruth := by
  rw [List.map_map]; congr 1; funext b; exact bool_truth b
theorem none_truth (l : List Bool) : firstE (l.map vTruth) = none := by
  unfold firstE
  rw [List.find?_eq_none]
  intro v hv
  obtain ⟨b, _, rfl⟩ := List.mem_map.1 hv
  simp [isE, vTruth]
/-- how many are true -/
def yes (l : List Bool) : Nat := (l.filter id).length
theorem yes_cons (b : Bool) (l : List Bool) : yes (b :: l) = (if b then 1 else 0) + yes l := by
  unfold yes; cases b <;> simp; omega
theorem yes_append (l m : List Bool) : yes (l ++ m) = yes l + yes m := by unfold yes; simp
theorem yes_le (l : List Bool) : yes l ≤ l.length := List.length_filter_le _ _
theorem yes_not (l : List Bool) : yes (l.map (!·)) = l.length - yes l := by
  induction l with
  | nil => rfl
  | cons b l ih =>
    have := yes_le l
    rw [List.map_cons, yes_cons, yes_cons, ih, List.length_cons]
    cases b <;> simp <;> omega
theorem trues_truth (l : List Bool) : trues (l.map vTruth) = (yes l : Int) := by
  unfold trues
  induction l with
  | nil => rfl
  | cons b l ih =>
    rw [List.map_cons, List.map_cons, List.sum_cons, ih, yes_cons]
    cases b <;> simp [vTruth]
/-- AND, OR, XOR of bools -/
theorem fold_truth (fn : Nat) (h : fn = 21 ∨ fn = 22 ∨ fn = 23) (b : Bool) (l : List Bool) :
    vLogic fn (vTruth b) (l.map vTruth) = vTruth (if fn = 21 then decide (yes (b :: l) = (b :: l).length) else if fn = 22 then decide (0 < yes (b :: l)) else decide (yes (b :: l) % 2 = 1)) := by
  unfold vLogic
  rw [if_neg (by omega), if_neg (by omega), if_pos h]
  have e : (vTruth b :: l.map vTruth) = (b :: l).map vTruth := rfl
  rw [e, bools_truth, none_truth]
  simp only
  rw [trues_truth, List.length_map]
  rcases h with rfl | rfl | rfl
  · rw [if_pos rfl, if_pos rfl]; congr 1; rw [decide_eq_decide]; omega
  · rw [if_neg (by omega), if_pos rfl, if_neg (by omega), if_pos rfl]; congr 1; rw [decide_eq_decide]; omega
  · rw [if_neg (by omega), if_neg (by omega), if_neg (by omega), if_neg (by omega)]; congr 1; rw [decide_eq_decide]; omega
theorem not_truth (b : Bool) : vLogic 24 (vTruth b) [] = vTruth (!b) := by cases b <;> rfl
/-- a row turned round -/
def turned (l : List Bool) (t : Nat) : List Bool := l.drop t ++ l.take t
theorem turned_length (l : List Bool) (t : Nat) (h : t ≤ l.length) : (turned l t).length = l.length := by unfold turned; simp; omega
theorem turned_yes (l : List Bool) (t : Nat) : yes (turned l t) = yes l := by
  unfold turned
  rw [yes_append]
  have := yes_append (l.take t) (l.drop t)
  rw [List.take_append_drop] at this
  omega
theorem turned_get (l : List Bool) (t i : Nat) (h : t ≤ l.length) (hi : i < l.length) : (turned l t)[i]? = l[(i + t) % l.length]? := by
  unfold turned
  rcases Nat.lt_or_ge i (l.length - t) with c | c
  · rw [List.getElem?_append_left (by simpa using c), List.getElem?_drop, Nat.mod_eq_of_lt (by omega), Nat.add_comm]
  · rw [List.getElem?_append_right (by simpa using c), List.length_drop, List.getElem?_take_of_lt (by omega)]
    have : (i + t) % l.length = i + t - l.length := by
      rw [Nat.mod_eq_sub_mod (by omega), Nat.mod_eq_of_lt (by omega)]
    rw [this]
    congr 1; omega
/-- what IF chooses -/
theorem if_value (c a b : Vl) (hc : isE c = false) (ha : isE a = false) (hb : isE b = false) :
    (isE (vBool c) = true ∧ vLogic 20 c [a, b] = vBool c ∧ vLogic 24 c [] = vBool c) ∨ ((vBool c) = vTruth true ∧ vLogic 20 c [a, b] = a ∧ vLogic 24 c [] = vTruth false) ∨ ((vBool c) = vTruth false ∧ vLogic 20 c [a, b] = b ∧ vLogic 24 c [] = vTruth true) := by
  have hf : firstE [a, b] = none := by rw [firstE_cons_no ha, firstE_cons_no hb]; rfl
  have e20 : vLogic 20 c [a, b] = if isE (vBool c) then vBool c else if (vBool c).n = 1 then a else b := by
    unfold vLogic
    rw [if_neg (by omega), if_neg (by omega), if_neg (by omega), if_pos rfl, hf]
    rfl
  have e24 : vLogic 24 c [] = if isE (vBool c) then vBool c else vTruth (decide ((vBool c).n = 0)) := rfl
  rw [e20, e24]
  have kk := bool_kinds c
  generalize vBool c = x at *
  by_cases e : isE x = true
  · exact Or.inl ⟨e, by rw [if_pos e], by rw [if_pos e]⟩
  · have k2 := not_error kk.2 (by simpa using e)
    rcases ok_cases kk.1 with rfl | ⟨n, hn, rfl⟩ | rfl | rfl | ⟨t, ht, rfl⟩ | ⟨c, h1, h2, rfl⟩
    · cases k2
    · cases k2
    · exact Or.inr (Or.inr ⟨rfl, rfl, rfl⟩)
    · exact Or.inr (Or.inl ⟨rfl, rfl, rfl⟩)
    · cases k2
    · cases k2
theorem if_error (c a b : Vl) (hc : isE c = true) (ok : vOk c = true) : vLogic 20 c [a, b] = c := by
  have e : vBool c = c := by unfold vBool; rw [if_neg (by rw [ok]; decide), if_neg (by have := isE_iff.1 hc; omega), if_neg (by have := isE_iff.1 hc; omega), if_neg (by have := isE_iff.1 hc; omega)]
  unfold vLogic
  rw [if_neg (by omega), if_neg (by omega), if_neg (by omega), if_pos rfl, e, if_pos hc]
theorem choose_error (c a b : Vl) (hc : isE c = true) (ok : vOk c = true) : vLogic 30 c [a, b] = c := by
  have e : vNum c = c := by unfold vNum; rw [if_neg (by rw [ok]; decide), if_neg (by have := isE_iff.1 hc; omega), if_neg (by have := isE_iff.1 hc; omega), if_neg (by have := isE_iff.1 hc; omega)]
  unfold vLogic
  rw [if_neg (by omega), if_neg (by omega), if_neg (by omega), if_neg (by omega), if_pos rfl, e, if_pos hc]
/-- IF of an error among the choices -/
theorem if_fails (c a b : Vl) (hc : isE c = false) (h : isE a = true ∨ isE b = true) : isE (vLogic 20 c [a, b]) = true := by
  unfold vLogic
  rw [if_neg (by omega), if_neg (by omega), if_neg (by omega), if_pos rfl]
  by_cases e : isE (vBool c) = true
  · rw [if_pos e]; exact e
  · rw [if_neg e]
    by_cases ha : isE a = true
    · rw [firstE_cons_yes ha]; exact ha
    · rw [firstE_cons_no (by simpa using ha), firstE_cons_yes (h.resolve_left ha)]
      exact h.resolve_left ha
/-- whatever IF and CHOOSE yield: one of the choices, an error, or FALSE -/
def Chosen (c a b v : Vl) : Prop := isE v = true ∨ v = a ∨ v = b ∨ v = c ∨ v = vTruth false
theorem chosen_if (c a b : Vl) : Chosen c a b (vLogic 20 c [a, b]) := by
  unfold vLogic
  rw [if_neg (by omega), if_neg (by omega), if_neg (by omega), if_pos rfl]
  by_cases e : isE (vBool c) = true
  · rw [if_pos e]; exact Or.inl e
  · rw [if_neg e]
    cases hf : firstE [a, b] with
    | some x => exact Or.inl (firstE_some hf).1
    | none =>
      simp only
      by_cases n1 : (vBool c).n = 1
      · rw [if_pos n1]; exact Or.inr (Or.inl rfl)
      · rw [if_neg n1]; exact Or.inr (Or.inr (Or.inl rfl))
theorem chosen_choose (c a b : Vl) : Chosen c a b (vLogic 30 c [a, b]) := by
  unfold vLogic
  rw [if_neg (by omega), if_neg (by omega), if_neg (by omega), if_neg (by omega), if_pos rfl]
  by_cases e : isE (vNum c) = true
  · rw [if_pos e]; exact Or.inl e
  · rw [if_neg e]
    cases hf : firstE [a, b] with
    | some x => exact Or.inl (firstE_some hf).1
    | none =>
      simp only
      by_cases n1 : 1 ≤ Int.tdiv (vNum c).n 10000 ∧ Int.tdiv (vNum c).n 10000 < (([c, a, b] : List Vl).length : Nat)
      · rw [if_pos n1]
        have : (Int.tdiv (vNum c).n 10000 - 1).toNat = 0 ∨ (Int.tdiv (vNum c).n 10000 - 1).toNat = 1 := by
          have := n1.2; simp only [List.length_cons, List.length_nil] at this; omega
        rcases this with h | h <;> rw [h]
        · exact Or.inr (Or.inl rfl)
        · exact Or.inr (Or.inr (Or.inl rfl))
      · rw [if_neg n1]; exact Or.inl rfl
theorem logic_iferror (c a : Vl) : vLogic 25 c [a] = if isE c then a else c := rfl
theorem logic_iserror (c : Vl) : vLogic 26 c [] = vTruth (isE c) := rfl
theorem logic_ok (fn : Nat) (a : Vl) (r : List Vl) (ha : vOk a = true) (hr : ∀ v ∈ r, vOk v = true) : vOk (vLogic fn a r) = true := by
  have hd : vOk (r.headD blankV) = true := by
    cases r with
    | nil => rfl
    | cons x r => exact hr x (by simp)
  have gd : ∀ i, vOk (r.getD i blankV) = true := fun i => by
    rw [List.getD_eq_getElem?_getD]
    cases h : r[i]? with
    | none => rfl
    | some x => exact hr x (List.mem_of_getElem? h)
  have fe : ∀ e, firstE r = some e → vOk e = true := fun e h => hr e (firstE_some h).2
  unfold vLogic
  split
  · exact truth_ok _
  · split
    · split <;> assumption
    · split
      · cases hf : firstE ((a :: r).map vBool) with
        | some e =>
          obtain ⟨x, _, rfl⟩ := List.mem_map.1 (firstE_some hf).2
          exact (bool_kinds x).1
        | none => exact truth_ok _
      · split
        · split
          · exact (bool_kinds a).1
          · cases hf : firstE r with
            | some e => exact fe e hf
            | none =>
              simp only
              split
              · exact hd
              · split
                · exact gd 1
                · exact truth_ok _
        · split
          · split
            · exact (num_kinds a).1
            · cases hf : firstE r with
              | some e => exact fe e hf
              | none =>
                simp only
                split
                · exact gd _
                · exact fail_ok _ (by omega)
          · split
            · split
              · exact (bool_kinds a).1
              · exact truth_ok _
            · split
              · exact ha
              · exact truth_ok _
/-- AND, OR, XOR: the first error, or a bool -/
theorem fold_error (fn : Nat) (h : fn = 21 ∨ fn = 22 ∨ fn = 23) (a : Vl) (r : List Vl) : (∃ e, firstE ((a :: r).map vBool) = some e ∧ vLogic fn a r = e) ∨ (firstE ((a :: r).map vBool) = none ∧ ∃ b, vLogic fn a r = vTruth b) := by
  unfold vLogic
  rw [if_neg (by omega), if_neg (by omega), if_pos h]
  cases hf : firstE ((a :: r).map vBool) with
  | some e => exact Or.inl ⟨e, rfl, rfl⟩
  | none => exact Or.inr ⟨rfl, _, rfl⟩
theorem firstE_snoc (l : List Vl) (v : Vl) : firstE (l ++ [v]) = (firstE l).or (if isE v then some v else none) := by
  unfold firstE
  rw [List.find?_append]
  congr 1
  cases h : isE v <;> simp [h]
end Go.Proofs.YtipkjpcedfokhaaDoor.Lv
