/- Laws of trimming: plain lists. -/
import Derived.Test.YtipkjpcedfokhaaDoorMTrim
namespace Go.Proofs.YtipkjpcedfokhaaDoor.Lv
set_option linter.unusedVariables false
set_option linter.unusedSimpArgs false
open Go
theorem snoc_ind8 {P : List UInt8 → Prop} (h0 : P []) (h1 : ∀ l c, P l → P (l ++ [c])) : ∀ l, P l := by
  have h : ∀ l : List UInt8, P l.reverse := by
    intro l
    induction l with
    | nil => exact h0
    | cons a l ih => rw [List.reverse_cons]; exact h1 _ _ ih
  intro l
  have := h l.reverse
  rwa [List.reverse_reverse] at this
def keep (l : List UInt8) : List UInt8 := l.filter (fun c => decide (c ≠ 32))
theorem keep_append (l m : List UInt8) : keep (l ++ m) = keep l ++ keep m := List.filter_append ..
theorem keep_trim : ∀ l : List UInt8, keep (trim l) = keep l := by
  refine snoc_ind8 rfl ?_
  intro l c ih
  rw [trim_snoc, keep_append]
  by_cases h : c = 32
  · subst h
    rw [if_pos rfl, ih, show keep [32] = [] from rfl, List.append_nil]
  · rw [if_neg h]
    have k1 : keep [c] = [c] := by unfold keep; simp [h]
    split
    · rw [keep_append, ih, show [32, c] = [32] ++ [c] from rfl, keep_append, show keep [32] = [] from rfl, List.nil_append]
    · rw [keep_append, ih]
theorem upB_blank (c : UInt8) : upB c = 32 ↔ c = 32 := by
  constructor
  · intro h
    apply UInt8.toNat_inj.1
    have e := congrArg UInt8.toNat h
    rw [upB_toNat] at e
    unfold up8 at e
    have e32 : (32 : UInt8).toNat = 32 := rfl
    rw [e32] at e ⊢
    split at e
    · omega
    · exact e
  · rintro rfl; rfl
theorem last_upper (l : List UInt8) : (upper l).getLast? = some 32 ↔ l.getLast? = some 32 := by
  unfold upper
  rw [List.getLast?_map]
  cases l.getLast? with
  | none => simp
  | some c => simp [upB_blank]
theorem upper_trim : ∀ l : List UInt8, upper (trim l) = trim (upper l) := by
  refine snoc_ind8 rfl ?_
  intro l c ih
  have e : upper (l ++ [c]) = upper l ++ [upB c] := by unfold upper; simp
  rw [e, trim_snoc, trim_snoc, ← ih]
  by_cases h : c = 32
  · rw [if_pos h, if_pos ((upB_blank c).2 h)]
  · rw [if_neg h, if_neg (fun x => h ((upB_blank c).1 x))]
    have en : upper (trim l) ≠ [] ↔ trim l ≠ [] := by unfold upper; simp
    by_cases k : trim l ≠ [] ∧ l.getLast? = some 32
    · rw [if_pos k, if_pos ⟨en.2 k.1, (last_upper l).2 k.2⟩]; unfold upper; simp; rfl
    · rw [if_neg k, if_neg (fun x => k ⟨en.1 x.1, (last_upper l).1 x.2⟩)]; unfold upper; simp
theorem trim_front : ∀ l : List UInt8, trim (32 :: l) = trim l := by
  refine snoc_ind8 rfl ?_
  intro l c ih
  have e : 32 :: (l ++ [c]) = (32 :: l) ++ [c] := rfl
  rw [e, trim_snoc, trim_snoc, ih]
  by_cases h : c = 32
  · rw [if_pos h, if_pos h]
  · rw [if_neg h, if_neg h]
    by_cases n : l = []
    · subst n; rw [if_neg (fun x => x.1 rfl), if_neg (fun x => x.1 rfl)]
    · have g : (32 :: l).getLast? = l.getLast? := by
        cases l with
        | nil => exact absurd rfl n
        | cons a b => rw [List.getLast?_cons_cons]
      rw [g]
theorem trim_around (l : List UInt8) : trim (32 :: (l ++ [32, 32])) = trim l := by
  rw [trim_front, show l ++ [32, 32] = (l ++ [32]) ++ [32] by simp, trim_snoc, if_pos rfl, trim_snoc, if_pos rfl]
/-- what is trimmed at a place goes on from what was trimmed before -/
theorem trim_prefix (l : List UInt8) : ∀ m : List UInt8, ∃ r, trim (l ++ m) = trim l ++ r := by
  refine snoc_ind8 ⟨[], by simp⟩ ?_
  intro m c ih
  obtain ⟨r, hr⟩ := ih
  rw [← List.append_assoc, trim_snoc, hr]
  split
  · exact ⟨r, rfl⟩
  · split
    · exact ⟨r ++ [32, c], by simp⟩
    · exact ⟨r ++ [c], by simp⟩
/-- no blank at an end, no two in a row -/
def Neat (t : List UInt8) : Prop := ∀ i, t[i]? = some 32 → 0 < i ∧ i + 1 < t.length ∧ t[i - 1]? ≠ some 32
theorem neat_nil : Neat [] := fun i h => by simp at h
theorem neat_snoc {t : List UInt8} {c : UInt8} (h : Neat t) (hc : c ≠ 32) : Neat (t ++ [c]) := fun i hi => by
  rcases Nat.lt_or_ge i t.length with g | g
  · rw [List.getElem?_append_left g] at hi
    obtain ⟨a, b, d⟩ := h i hi
    refine ⟨a, by rw [List.length_append, List.length_singleton]; omega, ?_⟩
    rw [List.getElem?_append_left (by omega)]; exact d
  · rw [List.getElem?_append_right g] at hi
    obtain ⟨j, hj⟩ : ∃ j, j = i - t.length := ⟨_, rfl⟩
    rw [← hj] at hi
    match j, hi with
    | 0, hi => simp at hi; exact absurd hi hc
    | j + 1, hi => simp at hi
theorem neat_last {t : List UInt8} (h : Neat t) (hn : t ≠ []) : t[t.length - 1]? ≠ some 32 := fun e => by
  have := h _ e
  have hp := List.length_pos_iff.2 hn
  omega
theorem neat_gap {t : List UInt8} {c : UInt8} (h : Neat t) (hn : t ≠ []) (hc : c ≠ 32) : Neat (t ++ [32, c]) := fun i hi => by
  have hp := List.length_pos_iff.2 hn
  rcases Nat.lt_or_ge i t.length with g | g
  · rw [List.getElem?_append_left g] at hi
    obtain ⟨a, b, d⟩ := h i hi
    refine ⟨a, by rw [List.length_append]; omega, ?_⟩
    rw [List.getElem?_append_left (by omega)]; exact d
  · rw [List.getElem?_append_right g] at hi
    obtain ⟨j, hj⟩ : ∃ j, j = i - t.length := ⟨_, rfl⟩
    rw [← hj] at hi
    match j, hi, hj with
    | 0, hi, hj =>
      refine ⟨by omega, by rw [List.length_append]; simp; omega, ?_⟩
      rw [List.getElem?_append_left (by omega), show i - 1 = t.length - 1 by omega]
      exact neat_last h hn
    | 1, hi, _ => simp at hi; exact absurd hi hc
    | j + 2, hi, _ => simp at hi
theorem trim_neat : ∀ l : List UInt8, Neat (trim l) := by
  refine snoc_ind8 neat_nil ?_
  intro l c ih
  rw [trim_snoc]
  by_cases h : c = 32
  · rw [if_pos h]; exact ih
  · rw [if_neg h]
    split
    · rename_i k; exact neat_gap ih k.1 h
    · exact neat_snoc ih h
/-- what is neat stays: a part up to a place that is no blank -/
theorem neat_take {t : List UInt8} (h : Neat t) : ∀ k, k ≤ t.length → (k = 0 ∨ t[k - 1]? ≠ some 32 → trim (t.take k) = t.take k) ∧ (k ≠ 0 → t[k - 1]? = some 32 → trim (t.take k) = t.take (k - 1))
  | 0, _ => ⟨fun _ => rfl, fun h => absurd rfl h⟩
  | k + 1, hk => by
    have ih := neat_take h k (by omega)
    have e : t.take (k + 1) = t.take k ++ [t[k]'(by omega)] := List.take_succ_eq_append_getElem (by omega)
    have ek : t[k]? = some (t[k]'(by omega)) := List.getElem?_eq_getElem (by omega)
    rw [show k + 1 - 1 = k by omega, e, trim_snoc]
    by_cases c : t[k]'(by omega) = 32
    · refine ⟨fun x => ?_, fun _ _ => ?_⟩
      · rcases x with x | x
        · omega
        · rw [ek, c] at x; exact absurd rfl x
      · rw [if_pos c]
        obtain ⟨a, _, d⟩ := h k (by rw [ek, c])
        exact ih.1 (Or.inr d)
    · refine ⟨fun _ => ?_, fun _ x => by rw [ek] at x; exact absurd (Option.some.inj x) c⟩
      rw [if_neg c]
      by_cases z : k = 0
      · subst z
        rw [if_neg (fun x => x.1 rfl)]; rfl
      · by_cases b : t[k - 1]? = some 32
        · have lb : (t.take k).getLast? = some 32 := by
            rw [List.getLast?_eq_getElem?, List.length_take, List.getElem?_take, Nat.min_eq_left (by omega), if_pos (by omega)]; exact b
          obtain ⟨a, _, _⟩ := h (k - 1) b
          rw [ih.2 z b]
          have ne : t.take (k - 1) ≠ [] := by
            intro x; have := congrArg List.length x; rw [List.length_take, List.length_nil, Nat.min_eq_left (by omega)] at this; omega
          rw [if_pos ⟨ne, lb⟩]
          have e2 : t.take k = t.take (k - 1) ++ [32] := by
            have hk1 : k - 1 < t.length := by omega
            have e3 := List.take_succ_eq_append_getElem hk1
            rw [show k - 1 + 1 = k by omega] at e3
            rw [e3]
            rw [List.getElem?_eq_getElem hk1] at b
            rw [Option.some.inj b]
          rw [e2]; simp
        · have lb : ¬ ((t.take k).getLast? = some 32) := by
            rw [List.getLast?_eq_getElem?, List.length_take, List.getElem?_take, Nat.min_eq_left (by omega), if_pos (by omega)]; exact b
          rw [ih.1 (Or.inr b), if_neg (fun x => lb x.2)]
theorem trim_trim (l : List UInt8) : trim (trim l) = trim l := by
  have h := trim_neat l
  have a := (neat_take h (trim l).length (Nat.le_refl _)).1 (by
    by_cases z : (trim l).length = 0
    · exact Or.inl z
    · exact Or.inr (neat_last h (by intro e; rw [e] at z; exact z rfl)))
  rwa [List.take_length] at a
end Go.Proofs.YtipkjpcedfokhaaDoor.Lv
