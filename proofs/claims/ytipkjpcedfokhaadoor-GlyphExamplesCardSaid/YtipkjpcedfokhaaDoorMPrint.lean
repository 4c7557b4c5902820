/- Layer 4: a text is printable just where no place is turned into 0: plain lists. -/
import Derived.Test.YtipkjpcedfokhaaDoorMGlyph
import Derived.Laws.RangeString
import Derived.Shelf.GgClosure.StringsIndexFunc
namespace Go.Proofs.YtipkjpcedfokhaaDoor.Lv
set_option linter.unusedVariables false
set_option linter.unusedSimpArgs false
open Go
def prB (c : UInt8) : UInt8 := if okB c then 32 else 0
theorem prB_toNat (c : UInt8) : (prB c).toNat = pr8 c.toNat := by
  unfold prB pr8 okB
  by_cases h : c.toNat < 32 ∨ 126 < c.toNat
  · rw [if_pos h, if_neg (by simp; omega)]; rfl
  · rw [if_neg h, if_pos (by simp; omega)]; rfl
theorem prB_lt (c : UInt8) : (prB c).toNat < 128 := by rw [prB_toNat]; unfold pr8; split <;> omega
theorem idx_print (m : List UInt8) (hm : ∀ c ∈ m, c.toNat < 128) : ∀ (f pos : Nat), m.length ≤ pos + f →
    ((m.drop pos).all (fun c => decide (c.toNat ≠ 0)) = true → Lib.idxFuncFrom (fun n => decide (n = 0)) true ⟨m.toArray⟩ f pos = -1) ∧
    ((m.drop pos).all (fun c => decide (c.toNat ≠ 0)) = false → 0 ≤ Lib.idxFuncFrom (fun n => decide (n = 0)) true ⟨m.toArray⟩ f pos)
  | 0, pos, h => by
    rw [List.drop_eq_nil_of_le (by omega)]
    exact ⟨fun _ => rfl, fun h => by simp at h⟩
  | f + 1, pos, h => by
    by_cases hp : pos < m.length
    · have hs : pos < (ByteArray.mk m.toArray).size := hp
      have hb : ((ByteArray.mk m.toArray)[pos]'hs) = m[pos] := rfl
      have hd := decide_dec (m := m) hp hm
      have ih := idx_print m hm f (pos + 1) (by omega)
      rw [List.drop_eq_getElem_cons hp, List.all_cons]
      unfold Lib.idxFuncFrom
      rw [if_pos hs, hd]
      by_cases z : m[pos].toNat = 0
      · simp only [z, decide_true, if_true]
        refine ⟨fun h => by simp at h, fun _ => by omega⟩
      · simp only [z, decide_false, Bool.false_eq_true, if_false, ne_eq, not_false_eq_true, decide_true, Bool.true_and]
        exact ih
    · rw [List.drop_eq_nil_of_le (by omega)]
      refine ⟨fun _ => ?_, fun h => by simp at h⟩
      exact Lib.idxFuncFrom_end _ _ _ _ _ (by show ¬ pos < m.length; omega)
where
  decide_dec {m : List UInt8} {pos : Nat} (hp : pos < m.length) (hm : ∀ c ∈ m, c.toNat < 128) : Utf8.decode ⟨m.toArray⟩ pos = (m[pos].toNat, 1) :=
    decode_ascii ⟨m.toArray⟩ pos hp (hm _ (List.getElem_mem hp))
theorem all_print (l : List UInt8) : (l.map prB).all (fun c => decide (c.toNat ≠ 0)) = plain l := by
  unfold plain
  rw [List.all_map]
  congr 1
  funext c
  show decide ((prB c).toNat ≠ 0) = okB c
  unfold prB
  cases okB c <;> rfl
theorem idx_plain (l : List UInt8) : decide (Lib.idxFunc (fun n => decide (n = 0)) true ⟨(l.map prB).toArray⟩ < 0) = plain l := by
  have h := idx_print (l.map prB) (fun c hc => by obtain ⟨x, _, rfl⟩ := List.mem_map.1 hc; exact prB_lt x) (l.map prB).length 0 (by omega)
  rw [List.drop_zero, all_print] at h
  unfold Lib.idxFunc
  show decide (Lib.idxFuncFrom _ _ _ (l.map prB).length 0 < 0) = _
  cases hp : plain l
  · have := h.2 hp
    exact decide_eq_false (by omega)
  · rw [h.1 hp]; rfl
end Go.Proofs.YtipkjpcedfokhaaDoor.Lv
