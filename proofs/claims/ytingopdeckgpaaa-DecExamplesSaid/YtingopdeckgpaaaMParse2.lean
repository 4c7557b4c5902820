/- Plain lists: the reference's way of reading a number, place by place. -/
import Derived.Test.YtingopdeckgpaaaMParse
namespace Go.Proofs.Ytingopdeckgpaaa.Lv
set_option linter.unusedVariables false
set_option linter.unusedSimpArgs false
open Go

theorem val_mono : ∀ (m l : List UInt8), val l ≤ val (l ++ m)
  | [], l => by rw [List.append_nil]; exact Nat.le_refl _
  | c :: m, l => by
    have h := val_mono m (l ++ [c])
    rw [val_snoc, List.append_assoc] at h
    have e : l ++ ([c] ++ m) = l ++ c :: m := rfl
    rw [e] at h
    omega
theorem val_take_le (l : List UInt8) (k : Nat) : val (l.take k) ≤ val l := by
  have h := val_mono (l.drop k) (l.take k)
  rw [List.take_append_drop] at h
  exact h
theorem pad_get (r : List UInt8) {j : Nat} (h : j < r.length) : (pad r)[j]? = r[j]? := by unfold pad; rw [List.getElem?_append_left h]
theorem pad_zero (r : List UInt8) {j : Nat} (h : r.length ≤ j) (g : j < r.length + 5) : (pad r)[j]? = some 48 := by
  unfold pad
  rw [List.getElem?_append_right h]
  obtain ⟨i, hi⟩ : ∃ i, i = j - r.length := ⟨_, rfl⟩
  rw [← hi]
  match i, (show i < 5 by omega) with
  | 0, _ => rfl
  | 1, _ => rfl
  | 2, _ => rfl
  | 3, _ => rfl
  | 4, _ => rfl
theorem pad_len (r : List UInt8) : (pad r).length = r.length + 5 := by unfold pad; simp
theorem places_get (r : List UInt8) {j : Nat} (h : j < 4) : (places r)[j]? = (pad r)[j]? := by unfold places; rw [List.getElem?_take_of_lt h]
theorem places_len (r : List UInt8) : (places r).length = 4 := by unfold places; rw [List.length_take, pad_len]; omega
theorem val_take_some {l : List UInt8} {k : Nat} {c : UInt8} (h : l[k]? = some c) : val (l.take (k + 1)) = 10 * val (l.take k) + (c.toNat - 48) := by
  obtain ⟨hk, e⟩ := List.getElem?_eq_some_iff.1 h
  rw [val_take hk, e]
/-- the value of what was read up to place k -/
def upto (f P : Nat) (L : List UInt8) (k : Nat) : Nat := val (L.take (if k ≤ P then k - f else k - f - 1))
section
variable {pre wh t r : List UInt8} {f P n : Nat}
theorem upto_first {L : List UInt8} (h : f ≤ P) : upto f P L f = 0 := by unfold upto; rw [if_pos h, Nat.sub_self]; rfl
theorem upto_point {L : List UInt8} (h : f ≤ P) : upto f P L (P + 1) = upto f P L P := by
  unfold upto
  rw [if_neg (by omega), if_pos (Nat.le_refl _), show P + 1 - f - 1 = P - f by omega]
theorem upto_end {L : List UInt8} (h : f ≤ P) (hl : L.length = P - f + 4) : upto f P L (P + 5) = val L := by
  unfold upto
  rw [if_neg (by omega), show P + 5 - f - 1 = L.length by omega, List.take_length]
theorem upto_le {L : List UInt8} (h : f ≤ P) (hl : L.length = P - f + 4) (k : Nat) : upto f P L k ≤ upto f P L (P + 5) := by
  rw [upto_end h hl]; exact val_take_le _ _
theorem upto_low {L : List UInt8} {k : Nat} {c : UInt8} (h : f ≤ k) (hk : k < P) (e : L[k - f]? = some c) : upto f P L (k + 1) = 10 * upto f P L k + (c.toNat - 48) := by
  unfold upto
  rw [if_pos (by omega), if_pos (by omega), show k + 1 - f = k - f + 1 by omega, val_take_some e]
theorem upto_high {L : List UInt8} {k : Nat} {c : UInt8} (h : f ≤ P) (hk : P < k) (e : L[k - f - 1]? = some c) : upto f P L (k + 1) = 10 * upto f P L k + (c.toNat - 48) := by
  unfold upto
  rw [if_neg (by omega), if_neg (by omega), show k + 1 - f - 1 = k - f - 1 + 1 by omega, val_take_some e]
theorem digit_step (hw : ∀ c ∈ wh, isD c = true) (hr : ∀ c ∈ r, isD c = true) (ht : t = [] ∧ r = [] ∨ t = 46 :: r) (hf : pre.length = f) (hP : P = f + wh.length)
    (k : Nat) (h : k < (pre ++ (wh ++ t)).length) (h1 : f ≤ k) (h2 : k ≠ P) (h3 : k < P + 5) :
    48 ≤ ((pre ++ (wh ++ t))[k]).toNat ∧ ((pre ++ (wh ++ t))[k]).toNat ≤ 57 ∧ upto f P (wh ++ places r) (k + 1) = 10 * upto f P (wh ++ places r) k + (((pre ++ (wh ++ t))[k]).toNat - 48) := by
  obtain ⟨c, hc⟩ : ∃ c, c = (pre ++ (wh ++ t))[k] := ⟨_, rfl⟩
  rw [← hc]
  have e : (pre ++ (wh ++ t))[k]? = some c := by rw [hc, List.getElem?_eq_getElem]
  rw [List.getElem?_append_right (by omega), hf] at e
  by_cases lt : k < P
  · rw [List.getElem?_append_left (by omega)] at e
    have d := isD_iff.1 (hw c (List.mem_of_getElem? e))
    refine ⟨d.1, d.2, upto_low h1 lt ?_⟩
    rw [List.getElem?_append_left (by omega)]; exact e
  · rw [List.getElem?_append_right (by omega)] at e
    rcases ht with ⟨rfl, rfl⟩ | rfl
    · simp at e
    · rw [show k - f - wh.length = (k - f - 1 - wh.length) + 1 by omega, List.getElem?_cons_succ] at e
      have d := isD_iff.1 (hr c (List.mem_of_getElem? e))
      refine ⟨d.1, d.2, upto_high (by omega) (by omega) ?_⟩
      have hlt : k - f - 1 - wh.length < r.length := by
        obtain ⟨h, _⟩ := List.getElem?_eq_some_iff.1 e; exact h
      rw [List.getElem?_append_right (by omega), places_get _ (by omega), pad_get _ hlt]
      exact e
theorem zero_step (ht : t = [] ∧ r = [] ∨ t = 46 :: r) (hf : pre.length = f) (hP : P = f + wh.length)
    (k : Nat) (h : (pre ++ (wh ++ t)).length ≤ k) (h2 : k ≠ P) (h3 : k < P + 5) : upto f P (wh ++ places r) (k + 1) = 10 * upto f P (wh ++ places r) k := by
  rw [List.length_append, List.length_append] at h
  have e : (wh ++ places r)[k - f - 1]? = some 48 := by
    rw [List.getElem?_append_right (by omega), places_get _ (by omega), pad_zero]
    · rcases ht with ⟨rfl, rfl⟩ | rfl
      · simp
      · simp at h; omega
    · omega
  rw [upto_high (by omega) (by omega) e]
  rfl
end
theorem fifth_far (r : List UInt8) (h : r.length ≤ 4) : fifth r = 48 := by unfold fifth; rw [List.getD_eq_getElem?_getD, pad_zero r h (by omega)]; rfl
theorem fifth_near (r : List UInt8) (h : 4 < r.length) : r[4]? = some (fifth r) := by
  unfold fifth
  rw [List.getD_eq_getElem?_getD, pad_get r h, List.getElem?_eq_getElem h]; rfl
end Go.Proofs.Ytingopdeckgpaaa.Lv
