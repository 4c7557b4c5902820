/- Small texts together: MLogic2, MGood, MFlogic, MNumLaw. -/
import Derived.Test.YtbpkfnoenkoabaaGreatDoorFdMixAM
import Derived.Test.YtbpkfnoenkoabaaGreatDoorFdMixAO
namespace Go.Proofs.YtbpkfnoenkoabaaGreatDoor.Lv
set_option linter.unusedVariables false
set_option linter.unusedSimpArgs false
open Go
end Go.Proofs.YtbpkfnoenkoabaaGreatDoor.Lv

namespace Go.Proofs.YtbpkfnoenkoabaaGreatDoor.Lv
set_option linter.unusedVariables false
set_option linter.unusedSimpArgs false
open Go
def cut300 (v : Vl) : Vl := { v with t := v.t.take 300 }
def few (l : List Vl) : List Vl := (l.take 20).map cut300
def vGood (v : Vl) : Vl :=
  if vOk (cut300 v) = true then cut300 v
  else if v.k % 5 = 2 then vTruth (decide (Int.tmod v.n 2 ≠ 0))
  else if v.k % 5 = 3 then ⟨3, 0, [120]⟩
  else if v.k % 5 = 4 then vFail (1 + Int.tmod (Int.tmod v.n 5 + 5) 5)
  else if v.k % 5 = 0 then ⟨0, 0, []⟩
  else vMake (max v.n (-9223372036854775807))
theorem good_ok (v : Vl) : vOk (vGood v) = true := by
  unfold vGood
  split
  · assumption
  · split
    · exact truth_ok _
    · split
      · decide
      · split
        · refine fail_ok _ ?_
          have h1 := Int.tmod_lt_of_pos (Int.tmod v.n 5 + 5) (b := 5) (by omega)
          omega
        · split
          · rfl
          · exact make_ok _
theorem ok_short {v : Vl} (h : vOk v = true) : v.t.length ≤ 256 := by
  rcases ok_cases h with rfl | ⟨n, hn, rfl⟩ | rfl | rfl | ⟨t, ht, rfl⟩ | ⟨c, h1, h2, rfl⟩
  · simp
  · simp
  · simp [vTruth]
  · simp [vTruth]
  · unfold okT at ht; simp at ht; exact ht.1
  · simp
end Go.Proofs.YtbpkfnoenkoabaaGreatDoor.Lv

namespace Go.Proofs.YtbpkfnoenkoabaaGreatDoor.Lv
set_option linter.unusedVariables false
set_option linter.unusedSimpArgs false
open Go
end Go.Proofs.YtbpkfnoenkoabaaGreatDoor.Lv

namespace Go.Proofs.YtbpkfnoenkoabaaGreatDoor.Lv
set_option linter.unusedVariables false
set_option linter.unusedSimpArgs false
open Go
abbrev Nm (n : Int) : Vl := ⟨1, n, []⟩
theorem nm_ok {n : Int} (h : -9223372036854775807 ≤ n ∧ n ≤ 9223372036854775807) : vOk (Nm n) = true := by rw [ok1, decide_eq_true_eq]; exact ⟨rfl, by omega⟩
theorem nm_num {n : Int} (h : -9223372036854775807 ≤ n ∧ n ≤ 9223372036854775807) : vNum (Nm n) = Nm n := num_stay (nm_ok h) (Or.inl rfl)
theorem call_2 {fn : Nat} {x y : Int} (hf : fn = 5 ∨ fn = 6 ∨ fn = 7) (hx : -9223372036854775807 ≤ x ∧ x ≤ 9223372036854775807) (hy : -9223372036854775807 ≤ y ∧ y ≤ 9223372036854775807) : vCall13 fn [Nm x, Nm y] = (val13 fn x y, 0) := by
  have h2 : two13 fn = true := by unfold two13; simpa using hf
  rw [v13_val (by omega) (by rw [h2]; rfl) (by simp [nm_ok hx, nm_ok hy]) (by simp only [List.map_cons, List.map_nil, nm_num hx, nm_num hy]; rfl), h2]
  show (val13 fn (vNum (Nm x)).n (vNum (Nm y)).n, (0 : Int)) = _
  rw [nm_num hx, nm_num hy]
def mres (x y : Int) : Vl := if y = 0 then vFail 1 else vMake (mod13 x y)
theorem call_mod {x y : Int} (hx : -9223372036854775807 ≤ x ∧ x ≤ 9223372036854775807) (hy : -9223372036854775807 ≤ y ∧ y ≤ 9223372036854775807) : vCall13 6 [Nm x, Nm y] = (mres x y, 0) := by rw [call_2 (by omega) hx hy]; rfl
theorem mres_0 {x y : Int} (h : y = 0) : mres x y = ⟨4, 1, []⟩ := by unfold mres; rw [if_pos h]; rfl
theorem tmod_lt_abs {n m : Int} (h : m ≠ 0) : (Int.tmod n m).natAbs < m.natAbs := by rw [Int.natAbs_tmod]; exact Nat.mod_lt _ (by omega)
theorem tmod_small {n m : Int} (h : n.natAbs < m.natAbs) : Int.tmod n m = n := by
  have e := Int.tmod_add_mul_tdiv n m
  have d : Int.tdiv n m = 0 := by
    have := Int.natAbs_tdiv n m
    rw [show n.natAbs.div m.natAbs = n.natAbs / m.natAbs from rfl, Nat.div_eq_of_lt h] at this
    omega
  rw [d, Int.mul_zero, Int.add_zero] at e
  exact e
theorem mod13_abs {x y : Int} (h : y ≠ 0) : (mod13 x y).natAbs < y.natAbs := by
  have l := tmod_lt_abs (n := x) h
  unfold mod13
  split
  · rename_i c
    obtain ⟨c0, c⟩ := c
    by_cases a : x.tmod y < 0 <;> by_cases b : y < 0 <;> simp [a, b] at c <;> omega
  · exact l
theorem mod13_sign {x y : Int} (h : y ≠ 0) : mod13 x y = 0 ∨ (mod13 x y < 0 ↔ y < 0) := by
  have l := tmod_lt_abs (n := x) h
  unfold mod13
  split
  · rename_i c
    obtain ⟨c0, c⟩ := c
    by_cases a : x.tmod y < 0 <;> by_cases b : y < 0 <;> simp [a, b] at c <;> omega
  · rename_i c
    by_cases c0 : x.tmod y = 0
    · exact Or.inl c0
    · right
      by_cases a : x.tmod y < 0 <;> by_cases b : y < 0 <;> simp [c0, a, b] at c <;> omega
theorem mres_n {x y : Int} (h : y ≠ 0) (hy : -9223372036854775807 ≤ y ∧ y ≤ 9223372036854775807) : mres x y = Nm (mod13 x y) := by
  have l := mod13_abs (x := x) h
  unfold mres
  rw [if_neg h]
  unfold vMake
  rw [if_neg (by omega)]
theorem mods_no {x y : Int} (h : y ≠ 0) : ¬ (((mod13 x y ≠ 0 ∧ ((decide (mod13 x y < 0)) != (decide (y < 0))) = true) ∨ (0 < y ∧ y ≤ mod13 x y)) ∨ (y < 0 ∧ mod13 x y ≤ y)) := by
  have l := mod13_abs (x := x) h
  have s := mod13_sign (x := x) h
  rintro ((⟨a, b⟩ | ⟨a, b⟩) | ⟨a, b⟩)
  · rcases s with s | s
    · exact a s
    · have e : decide (mod13 x y < 0) = decide (y < 0) := decide_eq_decide.2 s
      rw [e] at b; simp at b
  · omega
  · omega
theorem mods_mult {x y : Int} (h : y ≠ 0) : Int.tmod (Int.tmod x y - Int.tmod (mod13 x y) y) y = 0 := by
  rw [tmod_small (mod13_abs (x := x) h)]
  unfold mod13
  split
  · rw [show x.tmod y - (x.tmod y + y) = -y by omega, Int.neg_tmod, Int.tmod_self]; rfl
  · rw [Int.sub_self]; exact Int.zero_tmod _
theorem mods_diff {x y : Int} (h : y ≠ 0) : Int.tmod x y - Int.tmod (mod13 x y) y = 0 ∨ Int.tmod x y - Int.tmod (mod13 x y) y = -y := by
  rw [tmod_small (mod13_abs (x := x) h)]
  unfold mod13
  split
  · exact Or.inr (by omega)
  · exact Or.inl (by omega)
/-! operands in another order -/
theorem total_swap (x y : Int) : total [x, y] = total [y, x] := by simp only [total]; omega
theorem dSum_swap (x y : Int) : dSum [x, y] = dSum [y, x] := by unfold dSum; rw [total_swap]
theorem dMul_swap (x y : Int) : dMul x y = dMul y x := by unfold dMul; rw [Int.mul_comm (abs x)]; cases neg x <;> cases neg y <;> rfl
theorem good_small {v : Vl} (h : i64 v.n) : Small (vGood v) := by
  refine ⟨?_, Nat.le_trans (ok_short (good_ok v)) (by decide)⟩
  have ok := good_ok v
  unfold vGood
  split
  · exact h
  · split
    · unfold vTruth; split <;> exact ⟨by decide, by decide⟩
    · split
      · exact ⟨by decide, by decide⟩
      · split
        · unfold vFail; split
          · rename_i c; exact ⟨by show -9223372036854775808 ≤ (1 + Int.tmod (Int.tmod v.n 5 + 5) 5 : Int); omega, by show (1 + Int.tmod (Int.tmod v.n 5 + 5) 5 : Int) ≤ 9223372036854775807; omega⟩
          · exact ⟨by decide, by decide⟩
        · split
          · exact ⟨by decide, by decide⟩
          · unfold vMake
            split
            · exact ⟨by decide, by decide⟩
            · obtain ⟨h1, h2⟩ := h
              exact ⟨by show -9223372036854775808 ≤ max v.n _; omega, by show max v.n _ ≤ (9223372036854775807 : Int); omega⟩
theorem bin_go {op : Int} {a b : Vl} (h1 : 1 ≤ op) (h2 : op ≤ 5) (ha : vOk a = true) (hb : vOk b = true) (ka : a.k = 1) (kb : b.k = 1) : vBin13 op a b = (arith13 op a.n b.n, 0) := by
  have ea : vNum a = a := num_stay ha (Or.inl ka)
  have eb : vNum b = b := num_stay hb (Or.inl kb)
  have e : firstE [vNum a, vNum b] = none := by
    rw [ea, eb, first_miss (by unfold isE; rw [ka]; rfl), first_miss (by unfold isE; rw [kb]; rfl)]; rfl
  unfold vBin13
  rw [if_neg (by simp only [List.any_cons, ha, hb]; simp; omega), if_neg (by omega), if_neg (by omega), e, ea, eb]
theorem bin_add {a b : Vl} (ha : vOk a = true) (hb : vOk b = true) (ka : a.k = 1) (kb : b.k = 1) : vBin13 1 a b = vBin13 1 b a := by
  rw [bin_go (by decide) (by decide) ha hb ka kb, bin_go (by decide) (by decide) hb ha kb ka]
  show (vRes (dSum [a.n, b.n]), (0 : Int)) = (vRes (dSum [b.n, a.n]), 0)
  rw [dSum_swap]
theorem bin_mul {a b : Vl} (ha : vOk a = true) (hb : vOk b = true) (ka : a.k = 1) (kb : b.k = 1) : vBin13 3 a b = vBin13 3 b a := by
  rw [bin_go (by decide) (by decide) ha hb ka kb, bin_go (by decide) (by decide) hb ha kb ka]
  show (vRes (dMul a.n b.n), (0 : Int)) = (vRes (dMul b.n a.n), 0)
  rw [dMul_swap]
theorem res_fit (n : Int) : vRes (fit n) = if -9223372036854775807 ≤ n ∧ n ≤ 9223372036854775807 then Nm n else vFail 3 := by
  unfold vRes fit
  split
  · show vMake n = _
    unfold vMake
    rw [if_neg (by omega)]
  · rfl
theorem bin_sub {a b : Vl} (ha : vOk a = true) (hb : vOk b = true) (ka : a.k = 1) (kb : b.k = 1) : (vBin13 2 a b).1 = vNeg13 (vBin13 2 b a).1 := by
  rw [bin_go (by decide) (by decide) ha hb ka kb, bin_go (by decide) (by decide) hb ha kb ka]
  show vRes (fit (a.n - b.n)) = vNeg13 (vRes (fit (b.n - a.n)))
  rw [res_fit, res_fit]
  by_cases c : -9223372036854775807 ≤ b.n - a.n ∧ b.n - a.n ≤ 9223372036854775807
  · rw [if_pos c, if_pos (by omega)]
    unfold vNeg13
    rw [nm_num c, if_neg (by show ¬ (decide ((1 : Nat) = 4)) = true; decide)]
    show _ = vRes (fit (-(b.n - a.n)))
    rw [res_fit, if_pos (by omega)]
    congr 1; omega
  · rw [if_neg c, if_neg (by omega)]
    rfl
theorem bin_small (op : Int) (a b : Vl) (ha : vOk a = true) (hb : vOk b = true) (ka : a.k = 1) (kb : b.k = 1) (h : op = 2) : Small (vBin13 op a b).1 := by
  subst h
  rw [bin_go (by decide) (by decide) ha hb ka kb]
  show Small (vRes (fit _))
  rw [res_fit]
  split
  · exact ⟨⟨by show -9223372036854775808 ≤ a.n - b.n; omega, by show a.n - b.n ≤ 9223372036854775807; omega⟩, by show ([] : List UInt8).length ≤ 2000; decide⟩
  · exact ⟨⟨by decide, by decide⟩, by decide⟩
/-! comparisons -/
theorem bin_cmp {op : Int} {a b : Vl} (h : 7 ≤ op) (h2 : op ≤ 12) (ha : vOk a = true) (hb : vOk b = true) (ka : a.k ≠ 4) (kb : b.k ≠ 4) : (vBin13 op a b).1 = vTruth (decide (if op = 7 then (vCmp a b).1 = 0 else if op = 8 then (vCmp a b).1 ≠ 0 else if op = 9 then (vCmp a b).1 < 0 else if op = 10 then (vCmp a b).1 ≤ 0 else if op = 11 then 0 < (vCmp a b).1 else 0 ≤ (vCmp a b).1)) := by
  unfold vBin13
  rw [if_neg (by simp only [List.any_cons, ha, hb]; simp; omega), if_neg (by omega), if_pos (by omega)]
  show cmp13 op a b = _
  unfold cmp13
  rw [if_neg (by unfold isE; simpa using ka), if_neg (by unfold isE; simpa using kb)]
section
variable {a b : Vl} (ha : vOk a = true) (hb : vOk b = true) (ka : a.k ≠ 4) (kb : b.k ≠ 4)
include ha hb ka kb
theorem b7 : (vBin13 7 a b).1 = vTruth (decide ((vCmp a b).1 = 0)) := by rw [bin_cmp (by decide) (by decide) ha hb ka kb]; simp
theorem b8 : (vBin13 8 a b).1 = vTruth (decide ((vCmp a b).1 ≠ 0)) := by rw [bin_cmp (by decide) (by decide) ha hb ka kb]; simp
theorem b9 : (vBin13 9 a b).1 = vTruth (decide ((vCmp a b).1 < 0)) := by rw [bin_cmp (by decide) (by decide) ha hb ka kb]; simp
theorem b10 : (vBin13 10 a b).1 = vTruth (decide ((vCmp a b).1 ≤ 0)) := by rw [bin_cmp (by decide) (by decide) ha hb ka kb]; simp
theorem b11 : (vBin13 11 a b).1 = vTruth (decide (0 < (vCmp a b).1)) := by rw [bin_cmp (by decide) (by decide) ha hb ka kb]; simp
theorem b12 : (vBin13 12 a b).1 = vTruth (decide (0 ≤ (vCmp a b).1)) := by rw [bin_cmp (by decide) (by decide) ha hb ka kb]; simp
theorem b9r : (vBin13 9 b a).1 = vTruth (decide (0 < (vCmp a b).1)) := by
  rw [b9 hb ha kb ka, cmp_swap a b]
  show vTruth (decide (-(vCmp a b).1 < 0)) = _
  congr 1
  exact decide_eq_decide.2 (by omega)
end
theorem tn (b : Bool) : (vTruth b).n = if b then 1 else 0 := by cases b <;> rfl
end Go.Proofs.YtbpkfnoenkoabaaGreatDoor.Lv
