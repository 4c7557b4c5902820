/- Layer 15: conditions, on plain data. -/
import Derived.Test.YtipkjpcedfokhaaDoorBunM
namespace Go.Proofs.YtipkjpcedfokhaaDoor.Lv
set_option linter.unusedVariables false
set_option linter.unusedSimpArgs false
open Go
def isE (v : Vl) : Bool := decide (v.k = 4)
/-- the first of a row that is an error -/
def firstE (l : List Vl) : Option Vl := l.find? isE
def lo15 (fn : Nat) : Nat := if fn = 20 ∨ fn = 25 ∨ fn = 30 then 2 else 1
def hi15 (fn : Nat) : Nat := if fn = 20 then 3 else if fn = 21 ∨ fn = 22 ∨ fn = 23 ∨ fn = 30 then 16 else if fn = 25 then 2 else 1
def blankV : Vl := ⟨0, 0, []⟩
/-- how many of a row of bools are true, as the program counts: the sum of the numbers -/
def trues (l : List Vl) : Int := (l.map (fun v => v.n)).sum
theorem trues_count {l : List Vl} (h : ∀ v ∈ l, vOk v = true ∧ v.k = 2) : trues l = ((l.filter (fun v => decide (v.k = 2 ∧ v.n = 1))).length : Int) := by
  unfold trues
  induction l with
  | nil => rfl
  | cons a l ih =>
    have ha := h a (by simp)
    have ih := ih (fun v hv => h v (by simp [hv]))
    rw [List.map_cons, List.sum_cons, ih, List.filter_cons]
    rcases ok_cases ha.1 with rfl | ⟨n, hn, rfl⟩ | rfl | rfl | ⟨t, ht, rfl⟩ | ⟨c, h1, h2, rfl⟩
    · exact absurd ha.2 (by decide)
    · exact absurd ha.2 (by simp)
    · rw [if_neg (by decide), show (vTruth false).n = 0 from rfl]; omega
    · rw [if_pos (by decide), show (vTruth true).n = 1 from rfl]; simp only [List.length_cons]; omega
    · exact absurd ha.2 (by simp)
    · exact absurd ha.2 (by simp)
/-- a row converted to bools: its first error, or the bools -/
theorem bools_or_error (l : List Vl) : (∃ e, firstE (l.map vBool) = some e ∧ e.k = 4) ∨ (firstE (l.map vBool) = none ∧ ∀ v ∈ l.map vBool, vOk v = true ∧ v.k = 2) := by
  cases h : firstE (l.map vBool) with
  | some e =>
    have := List.find?_some h
    exact Or.inl ⟨e, rfl, by simpa [isE] using this⟩
  | none =>
    refine Or.inr ⟨rfl, fun v hv => ?_⟩
    unfold firstE at h
    rw [List.find?_eq_none] at h
    have n4 := h v hv
    obtain ⟨a, _, rfl⟩ := List.mem_map.1 hv
    have b := bool_kinds a
    refine ⟨b.1, ?_⟩
    rcases b.2 with h2 | h4
    · exact h2
    · exact absurd (by simp [isE, h4]) n4

/-- the value of a function of conditions, of a row of right length and of good values, as the program finds it (20 IF, 21 AND, 22 OR, 23 XOR, 24 NOT, 25 IFERROR, 26 ISERROR, 27 ISBLANK, 28 ISNUMBER, 29 ISTEXT, 30 CHOOSE) -/
def vLogic (fn : Nat) (a : Vl) (r : List Vl) : Vl :=
  if fn = 26 then vTruth (isE a)
  else if fn = 25 then (if isE a then r.headD blankV else a)
  else if fn = 21 ∨ fn = 22 ∨ fn = 23 then
    match firstE ((a :: r).map vBool) with
    | some e => e
    | none => vTruth (if fn = 21 then decide (trues ((a :: r).map vBool) = ((a :: r).length : Nat)) else if fn = 22 then decide (0 < trues ((a :: r).map vBool)) else decide (trues ((a :: r).map vBool) % 2 = 1))
  else if fn = 20 then
    if isE (vBool a) then vBool a else
      match firstE r with
      | some e => e
      | none => if (vBool a).n = 1 then r.headD blankV else if r.length = 2 then r.getD 1 blankV else vTruth false
  else if fn = 30 then
    if isE (vNum a) then vNum a else
      match firstE r with
      | some e => e
      | none => if 1 ≤ Int.tdiv (vNum a).n 10000 ∧ Int.tdiv (vNum a).n 10000 < ((a :: r).length : Nat) then r.getD (Int.tdiv (vNum a).n 10000 - 1).toNat blankV else vFail 2
  else if fn = 24 then (if isE (vBool a) then vBool a else vTruth (decide ((vBool a).n = 0)))
  else if isE a then a else vTruth (decide (a.k = (if fn = 27 then 0 else if fn = 28 then 1 else 3)))
/-- Call: the value, and the error -/
def vCall (fn : Nat) (l : List Vl) : Vl × Int :=
  if fn < 20 ∨ 30 < fn then (blankV, 10)
  else if l.length < lo15 fn ∨ hi15 fn < l.length then (blankV, 11)
  else if l.any (fun v => !vOk v) then (blankV, 2)
  else match l with
    | [] => (blankV, 11)
    | a :: r => (vLogic fn a r, 0)
end Go.Proofs.YtipkjpcedfokhaaDoor.Lv
