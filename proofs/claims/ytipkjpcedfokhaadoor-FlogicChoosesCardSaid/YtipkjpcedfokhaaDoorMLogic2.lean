/- Layer 15: the reference's way through the arguments gives the same as the program's. -/
import Derived.Test.YtipkjpcedfokhaaDoorMLogic
namespace Go.Proofs.YtipkjpcedfokhaaDoor.Lv
set_option linter.unusedVariables false
set_option linter.unusedSimpArgs false
open Go
/-- argument i, converted as the reference converts it -/
def rConv (fn i : Nat) (v : Vl) : Vl := if fn = 21 ∨ fn = 22 ∨ fn = 23 ∨ fn = 24 then vBool v else if fn = 20 ∧ i = 0 then vBool v else if fn = 30 ∧ i = 0 then vNum v else v
/-- the arguments converted, from place i on -/
def rConvs (fn : Nat) : Nat → List Vl → List Vl
  | _, [] => []
  | i, v :: l => rConv fn i v :: rConvs fn (i + 1) l
/-- how many are true -/
def rTrues (l : List Vl) : Nat := (l.filter (fun v => decide (v.k = 2 ∧ v.n = 1))).length
/-- the value of a function whose arguments are no errors -/
def rVal (fn : Nat) (l : List Vl) : Vl :=
  if fn = 20 then (if (l.getD 0 blankV).n = 1 then l.getD 1 blankV else if l.length = 3 then l.getD 2 blankV else vTruth false)
  else if fn = 21 then vTruth (decide (rTrues l = l.length))
  else if fn = 22 then vTruth (decide (0 < rTrues l))
  else if fn = 23 then vTruth (decide (rTrues l % 2 = 1))
  else if fn = 24 then vTruth (decide (rTrues l = 0))
  else if fn = 27 then vTruth (decide ((l.getD 0 blankV).k = 0))
  else if fn = 28 then vTruth (decide ((l.getD 0 blankV).k = 1))
  else if fn = 29 then vTruth (decide ((l.getD 0 blankV).k = 3))
  else if 1 ≤ Int.tdiv (l.getD 0 blankV).n 10000 ∧ Int.tdiv (l.getD 0 blankV).n 10000 < (l.length : Nat) then l.getD (Int.tdiv (l.getD 0 blankV).n 10000).toNat blankV else vFail 2
theorem rConvs_length (fn : Nat) : ∀ (l : List Vl) (i : Nat), (rConvs fn i l).length = l.length
  | [], _ => rfl
  | v :: l, i => by simp [rConvs, rConvs_length fn l (i + 1)]
theorem rConvs_bool {fn : Nat} (h : fn = 21 ∨ fn = 22 ∨ fn = 23 ∨ fn = 24) : ∀ (l : List Vl) (i : Nat), rConvs fn i l = l.map vBool
  | [], _ => rfl
  | v :: l, i => by rw [rConvs, rConvs_bool h l (i + 1), List.map_cons]; unfold rConv; rw [if_pos h]
theorem rConvs_same {fn : Nat} (h : ¬ (fn = 21 ∨ fn = 22 ∨ fn = 23 ∨ fn = 24)) : ∀ (l : List Vl) (i : Nat), (i ≠ 0 ∨ (fn ≠ 20 ∧ fn ≠ 30)) → rConvs fn i l = l
  | [], _, _ => rfl
  | v :: l, i, hi => by
    rw [rConvs, rConvs_same h l (i + 1) (Or.inl (by omega))]
    unfold rConv
    rw [if_neg h, if_neg (by omega), if_neg (by omega)]
theorem rTrues_trues {l : List Vl} (h : ∀ v ∈ l, vOk v = true ∧ v.k = 2) : trues l = (rTrues l : Int) := trues_count h
theorem firstE_cons_yes {a : Vl} {l : List Vl} (h : isE a = true) : firstE (a :: l) = some a := by unfold firstE; rw [List.find?_cons_of_pos (p := isE) h]
theorem firstE_cons_no {a : Vl} {l : List Vl} (h : isE a = false) : firstE (a :: l) = firstE l := by unfold firstE; rw [List.find?_cons_of_neg (by rw [h]; exact Bool.false_ne_true)]
theorem not_error {v : Vl} (h : v.k = 2 ∨ v.k = 4) (n : isE v = false) : v.k = 2 := by
  rcases h with h | h
  · exact h
  · unfold isE at n; rw [h] at n; cases n
/-- what the reference answers for any function but IFERROR and ISERROR -/
def rLogic (fn : Nat) (l : List Vl) : Vl := match firstE (rConvs fn 0 l) with
  | some e => e
  | none => rVal fn (rConvs fn 0 l)
theorem logic_same (fn : Nat) (a : Vl) (r : List Vl) (h1 : 20 ≤ fn) (h2 : fn ≤ 30) (n25 : fn ≠ 25) (n26 : fn ≠ 26) (hl : (a :: r).length ≤ hi15 fn) : vLogic fn a r = rLogic fn (a :: r) := by
  unfold vLogic rLogic
  rw [if_neg n26, if_neg n25]
  by_cases hb : fn = 21 ∨ fn = 22 ∨ fn = 23
  · rw [if_pos hb, rConvs_bool (by omega)]
    rcases bools_or_error (a :: r) with ⟨e, he, _⟩ | ⟨he, hk⟩
    · rw [he]
    · rw [he]
      have t := rTrues_trues hk
      simp only
      rw [t]
      have ll : ((a :: r).map vBool).length = (a :: r).length := List.length_map _
      unfold rVal
      rcases hb with rfl | rfl | rfl
      · rw [if_pos rfl, if_neg (by omega), if_pos rfl, ll]; congr 1; rw [decide_eq_decide]; omega
      · rw [if_neg (by omega), if_pos rfl, if_neg (by omega), if_neg (by omega), if_pos rfl]; congr 1; rw [decide_eq_decide]; omega
      · rw [if_neg (by omega), if_neg (by omega), if_neg (by omega), if_neg (by omega), if_neg (by omega), if_pos rfl]; congr 1; rw [decide_eq_decide]; omega
  rw [if_neg hb]
  by_cases h20 : fn = 20
  · subst h20
    rw [if_pos rfl, rConvs, rConvs_same (by omega) r 1 (Or.inl (by omega))]
    rw [show rConv 20 0 a = vBool a from rfl]
    have kk := (bool_kinds a).2
    cases he : isE (vBool a) with
    | true => rw [if_pos rfl, firstE_cons_yes he]
    | false =>
      rw [if_neg Bool.false_ne_true, firstE_cons_no he]
      cases hf : firstE r with
      | some e => rfl
      | none =>
        simp only
        unfold rVal
        rw [if_pos rfl]
        cases r with
        | nil => rfl
        | cons x r =>
          cases r with
          | nil => rfl
          | cons y r =>
            have : r = [] := by
              have h3 : hi15 20 = 3 := rfl
              rw [h3] at hl
              cases r with
              | nil => rfl
              | cons z r => simp only [List.length_cons] at hl; omega
            subst this
            rfl
  rw [if_neg h20]
  by_cases h30 : fn = 30
  · subst h30
    rw [if_pos rfl, rConvs, rConvs_same (by omega) r 1 (Or.inl (by omega))]
    rw [show rConv 30 0 a = vNum a from rfl]
    cases he : isE (vNum a) with
    | true => rw [if_pos rfl, firstE_cons_yes he]
    | false =>
      rw [if_neg Bool.false_ne_true, firstE_cons_no he]
      cases hf : firstE r with
      | some e => rfl
      | none =>
        simp only
        show _ = (if 1 ≤ Int.tdiv (vNum a).n 10000 ∧ Int.tdiv (vNum a).n 10000 < ((a :: r).length : Nat) then (vNum a :: r).getD (Int.tdiv (vNum a).n 10000).toNat blankV else vFail 2)
        by_cases c : 1 ≤ Int.tdiv (vNum a).n 10000 ∧ Int.tdiv (vNum a).n 10000 < ((a :: r).length : Nat)
        · rw [if_pos c, if_pos c]
          obtain ⟨m, hm⟩ : ∃ m : Nat, (Int.tdiv (vNum a).n 10000).toNat = m + 1 := ⟨(Int.tdiv (vNum a).n 10000).toNat - 1, by omega⟩
          rw [hm, show (Int.tdiv (vNum a).n 10000 - 1).toNat = m by omega]
          rfl
        · rw [if_neg c, if_neg c]
  rw [if_neg h30]
  have r0 : r = [] := by
    unfold hi15 at hl
    rw [if_neg h20, if_neg (by omega), if_neg n25] at hl
    cases r with
    | nil => rfl
    | cons x r => simp only [List.length_cons] at hl; omega
  subst r0
  by_cases h24 : fn = 24
  · subst h24
    rw [if_pos rfl, rConvs_bool (by omega)]
    have kk := (bool_kinds a).2
    rw [show ([a] : List Vl).map vBool = [vBool a] from rfl]
    cases he : isE (vBool a) with
    | true => rw [if_pos rfl, firstE_cons_yes he]
    | false =>
      have k2 := not_error kk he
      have ok := (bool_kinds a).1
      rw [if_neg Bool.false_ne_true, firstE_cons_no he]
      show _ = rVal 24 [vBool a]
      unfold rVal
      rw [if_neg (by omega), if_neg (by omega), if_neg (by omega), if_neg (by omega), if_pos rfl]
      have t := rTrues_trues (l := [vBool a]) (fun v hv => by rw [List.mem_singleton] at hv; subst hv; exact ⟨ok, k2⟩)
      have t1 : trues [vBool a] = (vBool a).n := by unfold trues; simp
      rw [t1] at t
      congr 1; rw [decide_eq_decide]; omega
  rw [if_neg h24, rConvs_same (by omega) _ 0 (Or.inr ⟨h20, h30⟩)]
  cases he : isE a with
  | true => rw [if_pos rfl, firstE_cons_yes he]
  | false =>
    rw [if_neg Bool.false_ne_true, firstE_cons_no he]
    show _ = rVal fn [a]
    rcases (show fn = 27 ∨ fn = 28 ∨ fn = 29 by omega) with rfl | rfl | rfl <;> rfl
end Go.Proofs.YtipkjpcedfokhaaDoor.Lv
