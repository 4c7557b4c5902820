/- How layer 1 reads a number: plain lists of bytes. -/
import Derived.Test.YtingopdeckgpaaaMText
namespace Go.Proofs.Ytingopdeckgpaaa.Lv
set_option linter.unusedVariables false
set_option linter.unusedSimpArgs false
open Go
def isD (c : UInt8) : Bool := decide (48 ≤ c.toNat ∧ c.toNat ≤ 57)
/-- how many digits a text begins with -/
def nd : List UInt8 → Nat
  | [] => 0
  | c :: l => if isD c then nd l + 1 else 0
theorem nd_le : ∀ l : List UInt8, nd l ≤ l.length
  | [] => Nat.le_refl _
  | c :: l => by have := nd_le l; unfold nd; split <;> simp <;> omega
theorem nd_step {l : List UInt8} {k : Nat} (h : k < l.length) (d : isD l[k] = true) : nd (l.drop k) = 1 + nd (l.drop (k + 1)) := by
  rw [List.drop_eq_getElem_cons h]
  show (if isD l[k] = true then nd (l.drop (k + 1)) + 1 else 0) = _
  rw [if_pos d]; omega
theorem nd_stop {l : List UInt8} {k : Nat} (h : k < l.length) (d : isD l[k] = false) : nd (l.drop k) = 0 := by
  rw [List.drop_eq_getElem_cons h]
  show (if isD l[k] = true then nd (l.drop (k + 1)) + 1 else 0) = _
  rw [if_neg (by simp [d])]
theorem nd_end {l : List UInt8} {k : Nat} (h : l.length ≤ k) : nd (l.drop k) = 0 := by rw [List.drop_eq_nil_of_le h]; rfl
/-- what stands behind the whole digits: the places -/
def frac : List UInt8 → Option (List UInt8)
  | [] => some []
  | c :: r => if c = 46 ∧ r ≠ [] ∧ nd r = r.length then some r else none
/-- the value of digits -/
def val (l : List UInt8) : Nat := l.foldl (fun v c => 10 * v + (c.toNat - 48)) 0
theorem val_snoc (l : List UInt8) (c : UInt8) : val (l ++ [c]) = 10 * val l + (c.toNat - 48) := by unfold val; rw [List.foldl_append]; rfl
def pad (r : List UInt8) : List UInt8 := r ++ [48, 48, 48, 48, 48]
def places (r : List UInt8) : List UInt8 := (pad r).take 4
def fifth (r : List UInt8) : UInt8 := (pad r).getD 4 48
def read (ng : Bool) (m : List UInt8) : Int × Int :=
  if nd m = 0 then (0, 4)
  else match frac (m.drop (nd m)) with
    | none => (0, 4)
    | some r =>
      let v : Int := val (m.take (nd m) ++ places r) + (if 53 ≤ (fifth r).toNat then 1 else 0)
      if v ≤ 9223372036854775807 then (sg ng v, 0) else (0, 3)
def dParse (l : List UInt8) : Int × Int := if l.head? = some 45 then read true l.tail else read false l
theorem val_take {l : List UInt8} {k : Nat} (h : k < l.length) : val (l.take (k + 1)) = 10 * val (l.take k) + (l[k].toNat - 48) := by
  rw [List.take_succ_eq_append_getElem h, val_snoc]
theorem nd_all : ∀ {l : List UInt8}, nd l = l.length → ∀ c ∈ l, isD c = true
  | [], _, c, hc => by cases hc
  | a :: l, h, c, hc => by
    by_cases d : isD a = true
    · have e : nd (a :: l) = nd l + 1 := if_pos d
      rw [e] at h
      rcases List.mem_cons.1 hc with rfl | hc
      · exact d
      · exact nd_all (by simpa using h) c hc
    · have e : nd (a :: l) = 0 := if_neg d
      rw [e] at h; simp at h
theorem isD_iff {c : UInt8} : isD c = true ↔ 48 ≤ c.toNat ∧ c.toNat ≤ 57 := by unfold isD; simp
end Go.Proofs.Ytingopdeckgpaaa.Lv
