/- Layer 5: what is converted stays small: plain data. -/
import Derived.Test.YtbpkfnoenkoabaaGreatDoorFhBunM
namespace Go.Proofs.YtbpkfnoenkoabaaGreatDoor.Lv
set_option linter.unusedVariables false
set_option linter.unusedSimpArgs false
open Go
def Small (v : Vl) : Prop := i64 v.n ∧ v.t.length ≤ 2000
theorem small_fail (c : Int) : Small (vFail c) := by
  unfold Small vFail i64; refine ⟨⟨?_, ?_⟩, by simp⟩ <;> simp only <;> split <;> omega
theorem small_make {n : Int} (h : i64 n) : Small (vMake n) := by
  unfold vMake
  split
  · exact small_fail 3
  · exact ⟨h, by simp⟩
theorem small_read (t : List UInt8) : Small (vRead t) := by
  unfold vRead
  split
  · rename_i h
    obtain ⟨n, h1, h2, h3, _⟩ := parse_ok h; rw [h3]; exact small_make ⟨by simp only; omega, by simp only; omega⟩
  · split <;> exact small_fail _
end Go.Proofs.YtbpkfnoenkoabaaGreatDoor.Lv
