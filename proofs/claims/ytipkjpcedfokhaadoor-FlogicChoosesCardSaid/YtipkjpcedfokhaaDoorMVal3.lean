/- Layer 5: what is converted stays small: plain data. -/
import Derived.Test.YtipkjpcedfokhaaDoorBunM
namespace Go.Proofs.YtipkjpcedfokhaaDoor.Lv
set_option linter.unusedVariables false
set_option linter.unusedSimpArgs false
open Go
def Small (v : Vl) : Prop := i64 v.n ∧ v.t.length ≤ 2000
theorem small_fail (c : Int) : Small (vFail c) := by
  unfold Small vFail i64
  refine ⟨⟨?_, ?_⟩, by simp⟩ <;> simp only <;> split <;> omega
theorem small_make {n : Int} (h : i64 n) : Small (vMake n) := by
  unfold vMake
  split
  · exact small_fail 3
  · exact ⟨h, by simp⟩
theorem small_truth (b : Bool) : Small (vTruth b) := by
  unfold Small vTruth i64
  cases b <;> exact ⟨⟨by simp, by simp⟩, by simp⟩
theorem small_read (t : List UInt8) : Small (vRead t) := by
  unfold vRead
  split
  · rename_i h
    obtain ⟨n, h1, h2, h3, _⟩ := parse_ok h
    rw [h3]
    exact small_make ⟨by simp only; omega, by simp only; omega⟩
  · split <;> exact small_fail _
theorem small_named (t : List UInt8) : Small (vNamed t) := by
  unfold vNamed
  split
  · exact small_truth _
  · split
    · exact small_truth _
    · exact small_fail _
theorem small_num {v : Vl} (h : Small v) : Small (vNum v) := by
  by_cases o : vOk v = true
  · rcases ok_cases o with e | ⟨n, hn, e⟩ | e | e | ⟨t, ho, e⟩ | ⟨c, c1, c2, e⟩
    · subst e; exact small_make (n := 0) ⟨by omega, by omega⟩
    · subst e; unfold vNum; rw [o]; exact h
    · subst e; exact small_make (n := 0 * 10000) ⟨by omega, by omega⟩
    · subst e; exact small_make (n := 1 * 10000) ⟨by omega, by omega⟩
    · subst e; unfold vNum; rw [o]; exact small_read t
    · subst e; unfold vNum; rw [o]; exact h
  · unfold vNum; rw [if_pos (by simpa using o)]; exact small_fail 2
theorem small_txt {v : Vl} (h : Small v) : Small (vTxt v) := by
  by_cases o : vOk v = true
  · rcases ok_cases o with e | ⟨n, hn, e⟩ | e | e | ⟨t, ho, e⟩ | ⟨c, c1, c2, e⟩
    · subst e; exact ⟨⟨by decide, by decide⟩, by decide⟩
    · subst e; unfold vTxt; rw [o]
      have hi := h.1
      have := fmt_short (a := n) (by have := hi.1; have := hi.2; simp only at *; omega)
      exact ⟨⟨by show (-9223372036854775808 : Int) ≤ 0; omega, by show (0 : Int) ≤ 9223372036854775807; omega⟩, by show (fmt n).length ≤ 2000; omega⟩
    · subst e; exact ⟨⟨by decide, by decide⟩, by decide⟩
    · subst e; exact ⟨⟨by decide, by decide⟩, by decide⟩
    · subst e; unfold vTxt; rw [o]; exact h
    · subst e; unfold vTxt; rw [o]; exact h
  · unfold vTxt; rw [if_pos (by simpa using o)]; exact small_fail 2
theorem small_bool {v : Vl} (h : Small v) : Small (vBool v) := by
  by_cases o : vOk v = true
  · rcases ok_cases o with e | ⟨n, hn, e⟩ | e | e | ⟨t, ho, e⟩ | ⟨c, c1, c2, e⟩
    · subst e; exact small_truth _
    · subst e; unfold vBool; rw [o]; exact small_truth _
    · subst e; exact h
    · subst e; exact h
    · subst e; unfold vBool; rw [o]; exact small_named t
    · subst e; unfold vBool; rw [o]; exact h
  · unfold vBool; rw [if_pos (by simpa using o)]; exact small_fail 2
end Go.Proofs.YtipkjpcedfokhaaDoor.Lv
