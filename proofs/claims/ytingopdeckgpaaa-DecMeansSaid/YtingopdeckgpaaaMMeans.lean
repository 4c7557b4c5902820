/- Sums and means of lists: plain arithmetic. -/
import Derived.Test.YtingopdeckgpaaaMSum
namespace Go.Proofs.Ytingopdeckgpaaa.Lv
set_option linter.unusedVariables false
set_option linter.unusedSimpArgs false
open Go

theorem total_reverse (l : List Int) : total l.reverse = total l := by
  induction l with
  | nil => rfl
  | cons a l ih => rw [List.reverse_cons, total_append, ih]; simp only [total]; omega
theorem total_within {L G : Int} : ∀ (l : List Int), (∀ x ∈ l, L ≤ x ∧ x ≤ G) → L * (l.length : Int) ≤ total l ∧ total l ≤ G * (l.length : Int)
  | [], _ => by simp [total]
  | a :: l, h => by
    have ih := total_within l (fun x hx => h x (List.mem_cons_of_mem _ hx))
    have ha := h a (List.mem_cons_self ..)
    rw [List.length_cons, Int.natCast_add, Int.mul_add, Int.mul_add]
    simp only [total]
    omega
theorem rnd_up {X d B : Int} (d0 : 0 < d) (h : X ≤ B * d) : rnd X d ≤ B := by
  have q : X / d ≤ B := Int.ediv_le_of_le_mul d0 h
  have e := Int.mul_ediv_add_emod X d
  have r0 := Int.emod_nonneg X (b := d) (by omega)
  unfold rnd
  by_cases c : X / d = B
  · have r1 : X % d = 0 := by
      rw [c, Int.mul_comm] at e
      omega
    rw [if_neg (by omega)]; omega
  · split <;> omega
theorem rnd_low {X d B : Int} (d0 : 0 < d) (h : B * d ≤ X) : B ≤ rnd X d := by
  have q : B ≤ X / d := Int.le_ediv_of_mul_le d0 h
  have := (rnd_bounds X d).1
  omega
theorem mean_within {L G : Int} {l : List Int} (h0 : l ≠ []) (h : ∀ x ∈ l, L ≤ x ∧ x ≤ G) :
    L ≤ sg (neg (total l)) (rnd (abs (total l)) l.length) ∧ sg (neg (total l)) (rnd (abs (total l)) l.length) ≤ G := by
  have t := total_within l h
  have n0 : (0 : Int) < (l.length : Int) := by have := List.length_pos_iff.2 h0; omega
  by_cases c : total l < 0
  · have e1 : neg (total l) = true := decide_eq_true c
    have e2 : abs (total l) = -total l := if_pos c
    rw [e1, e2]
    have a := rnd_up (X := -total l) (B := -L) n0 (by rw [Int.neg_mul]; omega)
    have b := rnd_low (X := -total l) (B := -G) n0 (by rw [Int.neg_mul]; omega)
    simp only [sg, if_true]
    omega
  · have e1 : neg (total l) = false := decide_eq_false c
    have e2 : abs (total l) = total l := if_neg c
    rw [e1, e2]
    have a := rnd_up (X := total l) (B := G) n0 t.2
    have b := rnd_low (X := total l) (B := L) n0 t.1
    simp only [sg, Bool.false_eq_true, if_false]
    omega
theorem dMean_cases {L G : Int} {l : List Int} (h0 : l ≠ []) (h : ∀ x ∈ l, L ≤ x ∧ x ≤ G) (hG : G ≤ 9223372036854775807) :
    ((dMean l).2 = true ∧ L ≤ (dMean l).1 ∧ (dMean l).1 ≤ G) ∨ ((dMean l).2 = false ∧ L < -9223372036854775807) := by
  have m := mean_within h0 h
  unfold dMean
  rw [if_neg h0]
  generalize sg (neg (total l)) (rnd (abs (total l)) l.length) = x at *
  by_cases c : -9223372036854775807 ≤ x
  · left; rw [fit_in c (by omega)]; exact ⟨rfl, m.1, m.2⟩
  · right; rw [fit_out (by omega)]; exact ⟨rfl, by omega⟩
theorem dMean_reverse (l : List Int) : dMean l.reverse = dMean l := by
  unfold dMean
  rw [total_reverse, List.length_reverse]
  by_cases c : l = []
  · subst c; rfl
  · rw [if_neg c, if_neg (by simpa using c)]
theorem dSum_reverse (l : List Int) : dSum l.reverse = dSum l := by unfold dSum; rw [total_reverse]
theorem fit_true {n : Int} (h : (fit n).2 = true) : fit n = (n, true) := by
  unfold fit at *
  split
  · rfl
  · rename_i c; rw [if_neg c] at h; cases h
theorem dSum_join {l m : List Int} (h : (dSum l).2 = true) (k : (dSum m).2 = true) : dSum [(dSum l).1, (dSum m).1] = dSum (l ++ m) := by
  unfold dSum at *
  rw [fit_true h, fit_true k, total_append]
  simp only [total, Int.add_zero]
theorem total_replicate (c : Nat) (v : Int) : total (List.replicate c v) = v * c := by
  induction c with
  | zero => simp [total]
  | succ c ih => rw [List.replicate_succ]; simp only [total]; rw [ih, Int.natCast_add, Int.mul_add]; omega
theorem dMean_same {c : Nat} (v : Int) (h : 0 < c) : dMean (List.replicate c v) = fit v := by
  have h0 : List.replicate c v ≠ [] := by intro e; have := congrArg List.length e; simp at this; omega
  have m := mean_within (L := v) (G := v) h0 (fun x hx => by have := List.eq_of_mem_replicate hx; subst this; omega)
  unfold dMean
  rw [if_neg h0]
  congr 1
  omega
end Go.Proofs.Ytingopdeckgpaaa.Lv
