/- Values made valid, and rows cut: on plain data. -/
import Derived.Test.YtipkjpcedfokhaaDoorMLogic2
namespace Go.Proofs.YtipkjpcedfokhaaDoor.Lv
set_option linter.unusedVariables false
set_option linter.unusedSimpArgs false
open Go
def cut300 (v : Vl) : Vl := { v with t := v.t.take 300 }
/-- at most 20 values, with texts of at most 300 bytes -/
def few (l : List Vl) : List Vl := (l.take 20).map cut300
theorem few_length (l : List Vl) : (few l).length = min 20 l.length := by unfold few; simp
theorem few_few (l : List Vl) : few (few l) = few l := by
  unfold few
  rw [← List.map_take, List.take_take, Nat.min_self, List.map_map]
  congr 1
  funext v
  simp [cut300, List.take_take]
/-- v, or another value of its kind, if it is no value of a cell -/
def vGood (v : Vl) : Vl :=
  if vOk (cut300 v) = true then cut300 v
  else if v.k % 5 = 2 then vTruth (decide (Int.tmod v.n 2 ≠ 0))
  else if v.k % 5 = 3 then ⟨3, 0, [120]⟩
  else if v.k % 5 = 4 then vFail (1 + Int.tmod (Int.tmod v.n 5 + 5) 5)
  else if v.k % 5 = 0 then ⟨0, 0, []⟩
  else vMake (max v.n (-9223372036854775807))
theorem good_ok (v : Vl) : vOk (vGood v) = true := by
  unfold vGood
  split
  · assumption
  · split
    · exact truth_ok _
    · split
      · decide
      · split
        · refine fail_ok _ ?_
          have h1 := Int.tmod_lt_of_pos (Int.tmod v.n 5 + 5) (b := 5) (by omega)
          omega
        · split
          · rfl
          · exact make_ok _
theorem ok_short {v : Vl} (h : vOk v = true) : v.t.length ≤ 256 := by
  rcases ok_cases h with rfl | ⟨n, hn, rfl⟩ | rfl | rfl | ⟨t, ht, rfl⟩ | ⟨c, h1, h2, rfl⟩
  · simp
  · simp
  · simp [vTruth]
  · simp [vTruth]
  · unfold okT at ht; simp at ht; exact ht.1
  · simp
theorem ok_kind {v : Vl} (h : vOk v = true) : v.k ≤ 4 := by
  rcases ok_cases h with rfl | ⟨n, hn, rfl⟩ | rfl | rfl | ⟨t, ht, rfl⟩ | ⟨c, h1, h2, rfl⟩ <;> simp [vTruth]
end Go.Proofs.YtipkjpcedfokhaaDoor.Lv
