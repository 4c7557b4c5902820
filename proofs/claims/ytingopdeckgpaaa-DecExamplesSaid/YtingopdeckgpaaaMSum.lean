/- Sums of lists of numbers: what is positive, and what is negative. -/
import Derived.Test.YtingopdeckgpaaaMRef
namespace Go.Proofs.Ytingopdeckgpaaa.Lv
set_option linter.unusedVariables false
set_option linter.unusedSimpArgs false
open Go
def up : List Int → Int
  | [] => 0
  | a :: l => (if a < 0 then 0 else a) + up l
def down : List Int → Int
  | [] => 0
  | a :: l => (if a < 0 then -a else 0) + down l
def total : List Int → Int
  | [] => 0
  | a :: l => a + total l
def All64 (l : List Int) : Prop := ∀ a ∈ l, i64 a
theorem up_append (l m : List Int) : up (l ++ m) = up l + up m := by
  induction l with
  | nil => simp [up]
  | cons a l ih => simp only [List.cons_append, up, ih]; omega
theorem down_append (l m : List Int) : down (l ++ m) = down l + down m := by
  induction l with
  | nil => simp [down]
  | cons a l ih => simp only [List.cons_append, down, ih]; omega
theorem total_append (l m : List Int) : total (l ++ m) = total l + total m := by
  induction l with
  | nil => simp [total]
  | cons a l ih => simp only [List.cons_append, total, ih]; omega
theorem up_down (l : List Int) : up l - down l = total l := by
  induction l with
  | nil => simp [up, down, total]
  | cons a l ih => simp only [up, down, total]; split <;> omega
theorem up_bounds (l : List Int) (h : All64 l) : 0 ≤ up l ∧ up l ≤ 9223372036854775808 * l.length ∧ 0 ≤ down l ∧ down l ≤ 9223372036854775808 * l.length := by
  induction l with
  | nil => simp [up, down]
  | cons a l ih =>
    have ih := ih (fun b hb => h b (List.mem_cons_of_mem _ hb))
    have ha := h a (List.mem_cons_self ..)
    obtain ⟨h1, h2⟩ := ha
    simp only [up, down, List.length_cons]
    split <;> omega
theorem All64.take {l : List Int} (h : All64 l) (k : Nat) : All64 (l.take k) := fun a ha => h a (List.mem_of_mem_take ha)
theorem take_snoc (l : List Int) (k : Nat) (h : k < l.length) : l.take (k + 1) = l.take k ++ [l.getD k 0] := by
  rw [List.take_succ_eq_append_getElem h]; simp [h]
theorem All64.get {l : List Int} (h : All64 l) {k : Nat} (hk : k < l.length) : i64 (l.getD k 0) := by
  have : l.getD k 0 = l[k] := by simp [hk]
  rw [this]; exact h _ (List.getElem_mem hk)
/-- one number more -/
theorem hi_add {u s : Int} (u0 : 0 ≤ u) (u1 : u < 170141183460469231731687303715884105728) (s0 : 0 ≤ s) (s1 : s ≤ 18446744073709551615) : hi64 u + (lo64 u + s) / 18446744073709551616 = hi64 (u + s) := by unfold hi64 lo64; omega
theorem lo_add (u s : Int) : (lo64 u + s) % 18446744073709551616 = lo64 (u + s) := by unfold lo64; omega
theorem hi_small {u : Int} (u0 : 0 ≤ u) (u1 : u < 170141183460469231731687303715884105728) : hi64 u < 18446744073709551615 := by unfold hi64; omega
theorem up_snoc (l : List Int) (a : Int) : up (l ++ [a]) = up l + (if a < 0 then 0 else a) := by rw [up_append]; simp [up]
theorem down_snoc (l : List Int) (a : Int) : down (l ++ [a]) = down l + (if a < 0 then -a else 0) := by rw [down_append]; simp [down]
theorem abs_sub_lt {u d : Int} (u0 : 0 ≤ u) (u1 : u < 170141183460469231731687303715884105728) (d0 : 0 ≤ d) (d1 : d < 170141183460469231731687303715884105728) : 0 ≤ abs (u - d) ∧ abs (u - d) < 170141183460469231731687303715884105728 := by
  unfold abs; split <;> omega
/-- the sum as dec returns it, and the mean -/
def dSum (l : List Int) : Int × Bool := fit (total l)
def dMean (l : List Int) : Int × Bool := if l = [] then (0, false) else fit (sg (neg (total l)) (rnd (abs (total l)) l.length))
end Go.Proofs.Ytingopdeckgpaaa.Lv
