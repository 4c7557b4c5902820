/- How layer 4 writes a text literal: plain lists. -/
import Derived.Test.YtipkjpcedfokhaaDoorMGlyph
import Derived.Lib.Replace
import Derived.Lib.CountLaws
namespace Go.Proofs.YtipkjpcedfokhaaDoor.Lv
set_option linter.unusedVariables false
set_option linter.unusedSimpArgs false
open Go
/-- each quote twice -/
def qq (l : List UInt8) : List UInt8 := l.flatMap (fun c => if c = 34 then [34, 34] else [c])
theorem qq_cons (c : UInt8) (l : List UInt8) : qq (c :: l) = (if c = 34 then [34, 34] else [c]) ++ qq l := by unfold qq; rw [List.flatMap_cons]
theorem index_one (b : UInt8) (l : List UInt8) : Lib.index (b :: l) [34] = if b = 34 then 0 else if Lib.index l [34] = -1 then -1 else Lib.index l [34] + 1 := by
  show (if ([34] : List UInt8).isPrefixOf (b :: l) then (0 : Int) else if Lib.index l [34] == -1 then -1 else Lib.index l [34] + 1) = _
  have e : ([34] : List UInt8).isPrefixOf (b :: l) = (34 == b) := by simp [List.isPrefixOf]
  rw [e]
  by_cases h : b = 34
  · subst h; simp
  · have h2 : ((34 : UInt8) == b) = false := by simpa using fun e => h e.symm
    rw [h2, if_neg h]
    simp only [Bool.false_eq_true, if_false, beq_iff_eq]
theorem qq_miss : ∀ (l : List UInt8), Lib.index l [34] = -1 → qq l = l
  | [], _ => rfl
  | b :: l, h => by
    rw [index_one] at h
    by_cases c : b = 34
    · rw [if_pos c] at h; omega
    · rw [if_neg c] at h
      by_cases g : Lib.index l [34] = -1
      · rw [qq_cons, if_neg c, qq_miss l g]; rfl
      · rw [if_neg g] at h
        have := Lib.index_ge l [34]
        omega
theorem qq_hit : ∀ (l : List UInt8) (i : Nat), Lib.index l [34] = i → qq l = l.take i ++ [34, 34] ++ qq (l.drop (i + 1))
  | [], i, h => by unfold Lib.index at h; simp at h
  | b :: l, i, h => by
    rw [index_one] at h
    by_cases c : b = 34
    · rw [if_pos c] at h
      obtain rfl : i = 0 := by omega
      rw [qq_cons, if_pos c]; rfl
    · rw [if_neg c] at h
      by_cases g : Lib.index l [34] = -1
      · rw [if_pos g] at h; omega
      · rw [if_neg g] at h
        have ge := Lib.index_ge l [34]
        obtain ⟨j, hj⟩ : ∃ j : Nat, Lib.index l [34] = j := ⟨(Lib.index l [34]).toNat, by omega⟩
        obtain rfl : i = j + 1 := by omega
        rw [qq_cons, if_neg c, qq_hit l j hj]
        simp
theorem replaceK_qq : ∀ (k : Nat) (l : List UInt8), Lib.count l [34] ≤ k → Lib.replaceK [34] [34, 34] k l = qq l
  | 0, l, h => by
    by_cases g : Lib.index l [34] = -1
    · rw [qq_miss l g]; rfl
    · have ge := Lib.index_ge l [34]
      have := Lib.count_hit (s := l) (sub := [34]) (i := (Lib.index l [34]).toNat) (by simp) (by omega)
      omega
  | k + 1, l, h => by
    by_cases g : Lib.index l [34] = -1
    · rw [qq_miss l g]
      unfold Lib.replaceK
      rw [if_pos (by simpa using g)]
    · have ge := Lib.index_ge l [34]
      obtain ⟨i, hi⟩ : ∃ i : Nat, Lib.index l [34] = i := ⟨(Lib.index l [34]).toNat, by omega⟩
      have c := Lib.count_hit (s := l) (sub := [34]) (i := i) (by simp) hi
      rw [Lib.replaceK_hit _ _ _ _ i hi, qq_hit l i hi]
      rw [replaceK_qq k _ (by omega)]
      rfl
theorem replaceAll_qq (l : List UInt8) : Lib.replaceAll l [34] [34, 34] = qq l := by
  unfold Lib.replaceAll Lib.replace Lib.replaceNum
  rw [if_neg (by decide), if_pos (Or.inl (by omega))]
  exact replaceK_qq _ l (Nat.le_refl _)
theorem qq_len (l : List UInt8) : (qq l).length ≤ 2 * l.length := by
  induction l with
  | nil => simp [qq]
  | cons c l ih => rw [qq_cons, List.length_append, List.length_cons]; split <;> simp <;> omega
end Go.Proofs.YtipkjpcedfokhaaDoor.Lv
