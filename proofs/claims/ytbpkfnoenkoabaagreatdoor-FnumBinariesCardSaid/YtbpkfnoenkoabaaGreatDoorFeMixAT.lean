/- Small texts together: MLogic2, MGood, MFlogic, MNumLaw, MNumLaw2, MPlaces, MNumLaw3, SX8. -/
import Derived.Test.YtbpkfnoenkoabaaGreatDoorFeMixAM
import Derived.Test.YtbpkfnoenkoabaaGreatDoorFeMixAO
set_option linter.unusedVariables false
set_option linter.unusedSimpArgs false
namespace Go.Proofs.YtbpkfnoenkoabaaGreatDoor.Lv
open Go
end Go.Proofs.YtbpkfnoenkoabaaGreatDoor.Lv

namespace Go.Proofs.YtbpkfnoenkoabaaGreatDoor.Lv
open Go
def cut300 (v : Vl) : Vl := { v with t := v.t.take 300 }
def few (l : List Vl) : List Vl := (l.take 20).map cut300
theorem ok_short {v : Vl} (h : vOk v = true) : v.t.length ≤ 256 := by
  rcases ok_cases h with rfl | ⟨n, hn, rfl⟩ | rfl | rfl | ⟨t, ht, rfl⟩ | ⟨c, h1, h2, rfl⟩
  · simp
  · simp
  · simp [vTruth]
  · simp [vTruth]
  · unfold okT at ht; simp at ht; exact ht.1
  · simp
end Go.Proofs.YtbpkfnoenkoabaaGreatDoor.Lv

namespace Go.Proofs.YtbpkfnoenkoabaaGreatDoor.Lv
open Go
end Go.Proofs.YtbpkfnoenkoabaaGreatDoor.Lv

namespace Go.Proofs.YtbpkfnoenkoabaaGreatDoor.Lv
open Go
abbrev Nm (n : Int) : Vl := ⟨1, n, []⟩
theorem nm_ok {n : Int} (h : -9223372036854775807 ≤ n ∧ n ≤ 9223372036854775807) : vOk (Nm n) = true := by rw [ok1, decide_eq_true_eq]; exact ⟨rfl, by omega⟩
theorem nm_num {n : Int} (h : -9223372036854775807 ≤ n ∧ n ≤ 9223372036854775807) : vNum (Nm n) = Nm n := num_stay (nm_ok h) (Or.inl rfl)
theorem call_2 {fn : Nat} {x y : Int} (hf : fn = 5 ∨ fn = 6 ∨ fn = 7) (hx : -9223372036854775807 ≤ x ∧ x ≤ 9223372036854775807) (hy : -9223372036854775807 ≤ y ∧ y ≤ 9223372036854775807) : vCall13 fn [Nm x, Nm y] = (val13 fn x y, 0) := by
  have h2 : two13 fn = true := by unfold two13; simpa using hf
  rw [v13_val (by omega) (by rw [h2]; rfl) (by simp [nm_ok hx, nm_ok hy]) (by simp only [List.map_cons, List.map_nil, nm_num hx, nm_num hy]; rfl), h2]; show (val13 fn (vNum (Nm x)).n (vNum (Nm y)).n, (0 : Int)) = _; rw [nm_num hx, nm_num hy]
theorem call_1 {fn : Nat} {x : Int} (hf : fn = 1 ∨ fn = 2 ∨ fn = 3 ∨ fn = 4 ∨ fn = 8) (hx : -9223372036854775807 ≤ x ∧ x ≤ 9223372036854775807) : vCall13 fn [Nm x] = (val13 fn x 0, 0) := by
  have h2 : two13 fn = false := by unfold two13; simp; omega
  rw [v13_val (by omega) (by rw [h2]; rfl) (by simp [nm_ok hx]) (by simp only [List.map_cons, List.map_nil, nm_num hx]; rfl), h2]; show (val13 fn (vNum (Nm x)).n 0, (0 : Int)) = _; rw [nm_num hx]
/-! MOD -/
theorem bin_go {op : Int} {a b : Vl} (h1 : 1 ≤ op) (h2 : op ≤ 5) (ha : vOk a = true) (hb : vOk b = true) (ka : a.k = 1) (kb : b.k = 1) : vBin13 op a b = (arith13 op a.n b.n, 0) := by
  have ea : vNum a = a := num_stay ha (Or.inl ka); have eb : vNum b = b := num_stay hb (Or.inl kb)
  have e : firstE [vNum a, vNum b] = none := by
    rw [ea, eb, first_miss (by unfold isE; rw [ka]; rfl), first_miss (by unfold isE; rw [kb]; rfl)]; rfl
  unfold vBin13; rw [if_neg (by simp only [List.any_cons, ha, hb]; simp; omega), if_neg (by omega), if_neg (by omega), e, ea, eb]
theorem res_fit (n : Int) : vRes (fit n) = if -9223372036854775807 ≤ n ∧ n ≤ 9223372036854775807 then Nm n else vFail 3 := by
  unfold vRes fit
  split
  · show vMake n = _
    unfold vMake; rw [if_neg (by omega)]
  · rfl
section
variable {a b : Vl} (ha : vOk a = true) (hb : vOk b = true) (ka : a.k ≠ 4) (kb : b.k ≠ 4)
include ha hb ka kb
end
end Go.Proofs.YtbpkfnoenkoabaaGreatDoor.Lv

namespace Go.Proofs.YtbpkfnoenkoabaaGreatDoor.Lv
open Go
/-! what comes out is valid -/
theorem res_ok (p : Int × Bool) : vOk (vRes p) = true := by
  unfold vRes
  split
  · exact make_ok _
  · rfl
theorem small_ok {v : Vl} (h : vOk v = true) (hn : i64 v.n) : Small v := ⟨hn, Nat.le_trans (ok_short h) (by decide)⟩
theorem make_in {n : Int} (h : i64 n) : i64 (vMake n).n := by
  unfold vMake
  split
  · exact ⟨by decide, by decide⟩
  · exact h
theorem res_in {p : Int × Bool} (h : i64 p.1) : i64 (vRes p).n := by
  unfold vRes
  split
  · exact make_in h
  · exact ⟨by decide, by decide⟩
theorem tmod_rng (z m : Int) (h : 0 < m) : -m < Int.tmod z m ∧ Int.tmod z m < m ∧ (0 ≤ z → 0 ≤ Int.tmod z m) := ⟨by have := Int.lt_tmod_of_pos z h; omega, Int.tmod_lt_of_pos z h, fun h => Int.tmod_nonneg _ h⟩
end Go.Proofs.YtbpkfnoenkoabaaGreatDoor.Lv

namespace Go.Proofs.YtbpkfnoenkoabaaGreatDoor
open Lv
theorem rnd_mult {q d : Int} (d0 : 0 < d) : rnd (q * d) d = q := by
  unfold rnd; rw [Int.mul_ediv_cancel q (by omega), Int.mul_emod_left, if_neg (by omega)]; omega
theorem dRound_eq {a p : Int} (p0 : -15 ≤ p) (p1 : p ≤ 4) : dRound a p = fit (sg (decide (a < 0)) (rnd (Lv.abs a) (unitOf p) * unitOf p)) := by
  unfold dRound
  by_cases c : 4 ≤ p
  · obtain rfl : p = 4 := by omega
    rw [if_pos c]; have : unitOf 4 = 1 := rfl; rw [this, Int.mul_one]; have : rnd (Lv.abs a) 1 = Lv.abs a := by unfold rnd; rw [if_neg (by omega)]; omega
    rw [this]; exact congrArg fit (sg_neg_abs a).symm
  · rw [if_neg c, if_neg (by omega)]; rfl
theorem sg_abs {b : Bool} {n : Int} (h : 0 ≤ n) : Lv.abs (sg b n) = n := by unfold sg Lv.abs; cases b <;> simp <;> omega
theorem unit_pos (p : Int) : 0 < unitOf p := by unfold unitOf; exact Int.pow_pos (by omega)
theorem rnd_nn {X d : Int} (x0 : 0 ≤ X) (d0 : 0 < d) : 0 ≤ rnd X d := by
  have q0 : 0 ≤ X / d := Int.ediv_nonneg x0 (by omega); unfold rnd; split <;> omega
theorem trunc_laws (a : Int) : (dTrunc a).tmod 10000 = 0 ∧ dTrunc a % 10000 = 0 ∧ dTrunc (dTrunc a) = dTrunc a ∧ Lv.abs (a - dTrunc a) < 10000 ∧ (0 ≤ a → dTrunc a ≤ a) ∧ (a ≤ 0 → a ≤ dTrunc a) ∧ (0 ≤ a → 0 ≤ dTrunc a) := by
  have tb := tmod_bounds a
  have e : dTrunc a % 10000 = 0 := by
    unfold dTrunc
    by_cases c : 0 ≤ a
    · rw [tmod_nonneg c]; omega
    · rw [tmod_neg (by omega)]; omega
  have e2 : (dTrunc a).tmod 10000 = 0 := by
    by_cases c : 0 ≤ dTrunc a
    · rw [tmod_nonneg c]; exact e
    · rw [tmod_neg (by omega)]; omega
  refine ⟨e2, e, ?_, ?_, ?_, ?_, ?_⟩
  · show dTrunc a - (dTrunc a).tmod 10000 = _
    rw [e2]; omega
  all_goals (unfold dTrunc; try unfold Lv.abs)
  · split <;> omega
  all_goals omega
theorem trunc_mult {f : Int} (h : f % 10000 = 0) : f.tmod 10000 = 0 ∧ dTrunc f = f := by
  have e2 : f.tmod 10000 = 0 := by
    by_cases c : 0 ≤ f
    · rw [tmod_nonneg c]; exact h
    · rw [tmod_neg (by omega)]; omega
  exact ⟨e2, by show f - f.tmod 10000 = f; rw [e2]; omega⟩
theorem floor_laws {a : Int} (h : i64 a) : (∃ f, dFloor a = (f, true) ∧ dFloor f = (f, true) ∧ i64 f ∧ f.tmod 10000 = 0 ∧ f % 10000 = 0 ∧ f ≤ a ∧ Lv.abs (a - f) < 10000) ∨
    (dFloor a = (0, false) ∧ a < -9223372036854765807) := by
  obtain ⟨t1, t2, t3, t4, t5, t6, t7⟩ := trunc_laws a; obtain ⟨h1, h2⟩ := h; have tb := tmod_bounds a; have nb : dTrunc a - a < 10000 ∧ a - dTrunc a < 10000 := by unfold dTrunc; omega
  clear tb
  by_cases c : a < dTrunc a
  · have e : dFloor a = fit (dTrunc a - 10000) := if_pos c
    rw [e]
    by_cases d : -9223372036854775807 ≤ dTrunc a - 10000
    · obtain ⟨m1, m2⟩ := trunc_mult (f := dTrunc a - 10000) (by omega)
      refine Or.inl ⟨dTrunc a - 10000, fit_in d (by omega), ?_, ⟨by omega, by omega⟩, m1, by omega, by omega, ?_⟩
      · unfold dFloor; rw [m2, if_neg (by omega)]
      · unfold Lv.abs; split <;> omega
    · exact Or.inr ⟨fit_out (Or.inl (by omega)), by omega⟩
  · have e : dFloor a = (dTrunc a, true) := if_neg c
    refine Or.inl ⟨dTrunc a, e, ?_, ⟨by omega, by omega⟩, t1, t2, by omega, t4⟩; unfold dFloor; rw [t3, if_neg (by omega)]
end Go.Proofs.YtbpkfnoenkoabaaGreatDoor

namespace Go.Proofs.YtbpkfnoenkoabaaGreatDoor.Lv
open Go
theorem res_true {r : Int} (h : -9223372036854775807 ≤ r ∧ r ≤ 9223372036854775807) : vRes (r, true) = Nm r := by
  show vMake r = _; unfold vMake; rw [if_neg (by omega)]
theorem round_four {x : Int} (h : -9223372036854775807 ≤ x ∧ x ≤ 9223372036854775807) : vRes (dRound x 4) = Nm x := by
  unfold dRound; rw [if_pos (by decide), fit_in h.1 h.2, res_true h]
theorem round_twice (x q : Int) (hq : q ≤ 4) : (∃ r, (-9223372036854775807 ≤ r ∧ r ≤ 9223372036854775807) ∧ dRound x q = (r, true) ∧ dRound r q = (r, true)) ∨ dRound x q = (0, false) := by
  by_cases c : q < -15
  · have e : ∀ a, dRound a q = (0, true) := fun a => by unfold dRound; rw [if_neg (by omega), if_pos c]
    exact Or.inl ⟨0, by omega, e x, e 0⟩
  · have u0 := unit_pos q
    rw [dRound_eq (a := x) (by omega) hq]; have q0 := rnd_nn (abs_nonneg x) u0; obtain ⟨n, hn⟩ : ∃ n, n = rnd (Lv.abs x) (unitOf q) := ⟨_, rfl⟩; rw [← hn] at q0 ⊢; clear hn; have m0 : 0 ≤ n * unitOf q := Int.mul_nonneg q0 (by omega)
    by_cases d : -9223372036854775807 ≤ sg (decide (x < 0)) (n * unitOf q) ∧ sg (decide (x < 0)) (n * unitOf q) ≤ 9223372036854775807
    · refine Or.inl ⟨sg (decide (x < 0)) (n * unitOf q), d, if_pos d, ?_⟩
      rw [dRound_eq (by omega) hq, sg_abs m0, rnd_mult u0]
      have e : sg (decide (sg (decide (x < 0)) (n * unitOf q) < 0)) (n * unitOf q) = sg (decide (x < 0)) (n * unitOf q) := by
        have h := sg_neg_abs (sg (decide (x < 0)) (n * unitOf q)); rw [sg_abs m0] at h; exact h
      rw [e]; exact if_pos d
    · exact Or.inr (if_neg d)
def plq (t : Int) : Int := min (max t (-20)) 4
theorem plq_le (t : Int) : plq t ≤ 4 := by unfold plq; omega
theorem plq_of (t : Int) : min (max (Int.tdiv (t * 10000) 10000) (-20)) 4 = plq t := by rw [Int.mul_tdiv_cancel t (by decide)]; rfl
theorem call_same {x : Int} (hx : -9223372036854775807 ≤ x ∧ x ≤ 9223372036854775807) : vCall13 5 [Nm x, Nm 40000] = (Nm x, 0) := by
  rw [call_2 (by omega) hx (by omega)]; show (vRes (dRound x (min (max (Int.tdiv 40000 10000) (-20)) 4)), (0 : Int)) = _; rw [show min (max (Int.tdiv 40000 10000) (-20)) 4 = (4 : Int) by decide, round_four hx]
theorem call_once {x t : Int} (hx : -9223372036854775807 ≤ x ∧ x ≤ 9223372036854775807) (ht : -30 < t ∧ t < 30) : vCall13 5 [Nm x, Nm (t * 10000)] = (vRes (dRound x (plq t)), 0) := by
  rw [call_2 (by omega) hx (by omega)]; show (vRes (dRound x (min (max (Int.tdiv (t * 10000) 10000) (-20)) 4)), (0 : Int)) = _; rw [plq_of]
theorem once_kinds (x t : Int) : (∃ r, (-9223372036854775807 ≤ r ∧ r ≤ 9223372036854775807) ∧ vRes (dRound x (plq t)) = Nm r ∧ vRes (dRound r (plq t)) = Nm r) ∨ vRes (dRound x (plq t)) = ⟨4, 3, []⟩ := by
  rcases round_twice x (plq t) (plq_le t) with ⟨r, hr, e1, e2⟩ | e
  · exact Or.inl ⟨r, hr, by rw [e1, res_true hr], by rw [e2, res_true hr]⟩
  · right; rw [e]; rfl
theorem call_twice {x t : Int} (ht : -30 < t ∧ t < 30) (h : ((vRes (dRound x (plq t))).k : Int) = 1) : vCall13 5 [vRes (dRound x (plq t)), Nm (t * 10000)] = (vRes (dRound x (plq t)), 0) := by
  rcases once_kinds x t with ⟨r, hr, e1, e2⟩ | e
  · rw [e1, call_once hr ht, e2]
  · rw [e] at h; simp at h
theorem once_bad {x t : Int} (h : ¬ ((vRes (dRound x (plq t))).k : Int) = 1) : vRes (dRound x (plq t)) = ⟨4, 3, []⟩ := by
  rcases once_kinds x t with ⟨r, hr, e1, e2⟩ | e
  · rw [e1] at h; simp at h
  · exact e
theorem once_small (x t : Int) : Small (vRes (dRound x (plq t))) := small_ok (res_ok _) (res_in dRound_i64)
theorem call_int {x : Int} (hx : -9223372036854775807 ≤ x ∧ x ≤ 9223372036854775807) : vCall13 3 [Nm x] = (vRes (dFloor x), 0) := by rw [call_1 (by omega) hx]; rfl
theorem int_kinds {x : Int} (hx : -9223372036854775807 ≤ x ∧ x ≤ 9223372036854775807) : (∃ f, (-9223372036854775808 ≤ f ∧ f ≤ x ∧ x - f < 10000 ∧ Int.tmod f 10000 = 0) ∧ vRes (dFloor x) = Nm f) ∨ vRes (dFloor x) = ⟨4, 3, []⟩ := by
  rcases floor_laws (a := x) ⟨by omega, by omega⟩ with ⟨f, e, _, i, m, _, le, ab⟩ | ⟨e, _⟩
  · unfold Lv.abs at ab
    by_cases c : f = -9223372036854775808
    · exfalso; subst c; revert m; decide
    · refine Or.inl ⟨f, ⟨i.1, le, by split at ab <;> omega, m⟩, ?_⟩
      rw [e]; show vMake f = _; unfold vMake; rw [if_neg c]
  · right; rw [e]; rfl
section
end
theorem int_ok {x : Int} (hx : -9223372036854775807 ≤ x ∧ x ≤ 9223372036854775807) (h : vRes (dFloor x) ≠ ⟨4, 3, []⟩) : (vRes (dFloor x)).k = 1 ∧ -9223372036854775808 ≤ (vRes (dFloor x)).n ∧ (vRes (dFloor x)).n ≤ x ∧ x - (vRes (dFloor x)).n < 10000 ∧ Int.tmod (vRes (dFloor x)).n 10000 = 0 := by
  rcases int_kinds hx with ⟨f, hf, e⟩ | e
  · rw [e]; exact ⟨rfl, hf⟩
  · exact absurd e h
theorem call_trunc {x : Int} (hx : -9223372036854775807 ≤ x ∧ x ≤ 9223372036854775807) : vCall13 4 [Nm x] = (Nm (dTrunc x), 0) := by
  rw [call_1 (by omega) hx]; show (vMake (dTrunc x), (0 : Int)) = _; have := trunc_near x; unfold vMake; rw [if_neg]
  by_cases c : 0 ≤ x
  · have := this.2.2.1 c; omega
  · have := this.2.2.2 (by omega); omega
def rootV (x : Int) : Vl := if x < 0 then vFail 3 else vRes (dSqrt x)
theorem call_root {x : Int} (hx : -9223372036854775807 ≤ x ∧ x ≤ 9223372036854775807) : vCall13 8 [Nm x] = (rootV x, 0) := by rw [call_1 (by omega) hx]; rfl
theorem root_neg {x : Int} (h : x < 0) : rootV x = ⟨4, 3, []⟩ := by unfold rootV; rw [if_pos h]; rfl
theorem root_nm {x : Int} (hx : x ≤ 9223372036854775807) (h : ¬ x < 0) : rootV x = Nm (root x) := by
  unfold rootV dSqrt; rw [if_neg h, if_neg h]; have := root_le (a := x) ⟨by omega, hx⟩ (by omega); exact res_true ⟨by omega, by omega⟩
theorem root_small (x : Int) (hx : -9223372036854775807 ≤ x ∧ x ≤ 9223372036854775807) : Small (rootV x) := by
  by_cases c : x < 0
  · rw [root_neg c]; exact ⟨⟨by decide, by decide⟩, by decide⟩
  · rw [root_nm hx.2 c]
    have := root_le (a := x) ⟨by omega, hx.2⟩ (by omega); exact ⟨⟨by show -9223372036854775808 ≤ (root x : Int); omega, by show (root x : Int) ≤ 9223372036854775807; omega⟩, by show ([] : List UInt8).length ≤ 2000; decide⟩
theorem square_le {x : Int} (hx : x ≤ 9223372036854775807) (h : ¬ x < 0) (k : (((vBin13 3 (rootV x) (rootV x)).1).k : Int) = 1) : ((vBin13 3 (rootV x) (rootV x)).1).n ≤ x := by
  have rl := root_le (a := x) ⟨by omega, hx⟩ (by omega); have rs := (root_spec (a := x) (by omega)).1; rw [root_nm hx h] at *; have e := bin_go (op := 3) (a := Nm (root x)) (b := Nm (root x)) (by decide) (by decide) (nm_ok ⟨by omega, by omega⟩) (nm_ok ⟨by omega, by omega⟩) rfl rfl; rw [e] at *; show (vRes (dMul (root x) (root x))).n ≤ x
  have d : dMul (root x) (root x) = fit (rnd ((root x : Int) * root x) 10000) := by
    unfold dMul; have n0 : neg (root x) = false := by unfold neg; exact decide_eq_false (by omega)
    have a0 : abs (root x) = root x := by unfold abs; rw [if_neg (by omega)]
    rw [n0, a0]; rfl
  have hr : rnd ((root x : Int) * root x) 10000 ≤ x := by
    generalize hm : (root x : Int) * root x = m at rs; have m0 : 0 ≤ m := by rw [← hm]; exact Int.mul_nonneg (by omega) (by omega)
    unfold rnd
    split <;> omega
  rw [d, res_fit]
  split
  · exact hr
  · show (3 : Int) ≤ x
    exfalso
    rename_i c
    have h0 : 0 ≤ rnd ((root x : Int) * root x) 10000 := rnd_nn (Int.mul_nonneg (by omega) (by omega)) (by decide); exact c ⟨by omega, by omega⟩
end Go.Proofs.YtbpkfnoenkoabaaGreatDoor.Lv

namespace Go.Proofs.YtbpkfnoenkoabaaGreatDoor
open Go.RowKit
section
variable {P : Program} {ops : Array Oper} {Q : Exit → Act → World → Prop}
def seqL (ops : Array Oper) : List Nat → Array Bool → Bool
  | [], d => (Region.ready .any ops d).isEmpty
  | i :: r, d => Region.ready .any ops d == [i] && seqL ops r (d.setIfInBounds i true)
theorem wpAny_idx : ∀ (l : List Nat) (os : List Oper) (d : Array Bool) (a : Act) (w : World), l.map (fun i => ops[i]?) = os.map some → seqL ops l d = true → wpList P ops Q os a w → wpAny P .any ops Q l.length d a w
  | [], os, d, a, w, hl, hB, h => by
    cases os with
    | nil => exact ⟨by simpa [seqL] using hB, h⟩
    | cons o r => simp at hl
  | i :: l, os, d, a, w, hl, hB, h => by
    cases os with
    | nil => simp at hl
    | cons o r =>
      simp only [List.map_cons, List.cons.injEq] at hl
      simp only [seqL, Bool.and_eq_true, beq_iff_eq] at hB
      refine ⟨fun h1 => (by rw [hB.1] at h1; cases h1), fun j hj => ?_⟩; rw [hB.1] at hj; obtain rfl : j = i := by simpa using hj
      have hw : wpOp P ops Q j (wpList P ops Q r) a w := by unfold wpOp; simp only [hl.1]; exact h
      exact wpOp_mono (fun a' w' h' => wpAny_idx l r _ a' w' hl.2 hB.2 h') hw
def lateB (ops : Array Oper) (n m : Nat) : Bool :=
  ops.size == n + 2 && decide (m < n) && Region.seqB .any ops 2 n (headDone ops n) && seqL ops [m, n + 1] (((headDone ops n).setIfInBounds m false).setIfInBounds n true) &&
  (match ops[n]? with | some o => (List.range n).all fun j => j == m || o.after.toList.any fun e => Region.binds .any e && e.on == j | none => false) &&
  (match ops[n + 1]? with | some o => o.after.toList.any fun e => Region.binds .any e && e.on == n | none => false)
theorem headX_late {ys : List Yield} {n m : Nat} {w0 : World} {a0 : Act} (hB : headB ops n a0.tmps.size = true) (hT : lateB ops n m = true) (step : StepsX P ops n ys w0 a0) (fin : FinX P ops n ys w0 a0 Q)
    (late : ∀ a w o1 o2 o3, ops[n]? = some o1 → ops[m]? = some o2 → ops[n + 1]? = some o3 → Kept w0 w → BesideN ops n a0 a → (∀ j, j < n → j ≠ m → Ys ys j (At ops a j) w) → (∀ j k, j < n → k < n → j ≠ k → j ≠ m → k ≠ m → Fs ys j = true → Fs ys k = true → blkOf (At ops a j) ≠ blkOf (At ops a k)) → wpList P ops Q [o1, o2, o3] a w) :
    ∀ (f : Nat) (done : Array Bool) (a : Act) (w : World), HeadInv .any ops n done → InvX ops n ys w0 a0 done a w → ((List.range n).filter (fun i => !done.getD i true)).length = f → wpAny P .any ops Q (f + 2) done a w := by
  have hn : n ≤ ops.size := by
    simp only [headB, Bool.and_eq_true, decide_eq_true_eq] at hB
    exact hB.1.2
  simp only [lateB, Bool.and_eq_true, beq_iff_eq, decide_eq_true_eq] at hT
  obtain ⟨⟨⟨⟨⟨hsz, hmn⟩, seq⟩, seq2⟩, aw1⟩, aw2⟩ := hT; obtain ⟨o1, ho1⟩ : ∃ o, ops[n]? = some o := ⟨_, Array.getElem?_eq_getElem (by omega)⟩; obtain ⟨o2, ho2⟩ : ∃ o, ops[m]? = some o := ⟨_, Array.getElem?_eq_getElem (by omega)⟩; obtain ⟨o3, ho3⟩ : ∃ o, ops[n + 1]? = some o := ⟨_, Array.getElem?_eq_getElem (by omega)⟩; rw [ho1] at aw1; rw [ho3] at aw2
  simp only at aw1 aw2
  intro f
  induction f with
  | zero =>
    intro done a w hI inv hf
    have all : ∀ j, j < n → done.getD j false = true := fun j hj => by
      cases hd : done.getD j false with
      | true => rfl
      | false =>
        have hjs : j < done.size := by rw [inv.len]; omega
        have : j ∈ (List.range n).filter (fun i => !done.getD i true) := by
          rw [List.mem_filter, List.mem_range]; exact ⟨hj, by rw [getD_in hjs hd]; rfl⟩
        rw [List.eq_nil_of_length_eq_zero hf] at this; cases this
    have e := done_all hI hn all; have dl : (ops.toList.drop n).length = 2 := by rw [List.length_drop, Array.length_toList]; omega
    rw [Nat.zero_add, ← dl]; refine wpAny_of_seq (md := .any) (Q' := Q) (ops.toList.drop n) n done a w (fun j => by rw [List.getElem?_drop, Array.getElem?_toList]) (by rw [dl, e]; exact seq) ?_; exact fin a w inv.kept inv.beside (fun j hj => inv.vals j hj (all j hj)) (fun j k hj hk ne fj fk => inv.apart j k hj hk ne fj fk (all j hj) (all k hk))
  | succ f ih =>
    intro done a w hI inv hf
    have some_ : ∃ j, j < n ∧ done.getD j false = false := by
      cases hl : (List.range n).filter (fun i => !done.getD i true) with
      | nil => rw [hl] at hf; simp at hf
      | cons j r =>
        have : j ∈ (List.range n).filter (fun i => !done.getD i true) := by rw [hl]; exact List.mem_cons_self
        rw [List.mem_filter, List.mem_range] at this; exact ⟨j, this.1, getD_both (by simpa using this.2)⟩
    obtain ⟨j0, hj0, hd0⟩ := some_; obtain ⟨i0, hi0, hr0⟩ := head_ready hB inv.len hj0 hd0; have e1 : f + 1 + 2 = (f + 2) + 1 := by omega
    rw [e1]; refine ⟨fun none => by rw [none] at hr0; (cases hr0), fun i hi => ?_⟩; obtain ⟨un, o, ho, waits⟩ := mem_ready.1 hi; have hil : i < ops.size := (Array.getElem?_eq_some_iff.1 ho).1
    by_cases hin : i < n
    · have st := step i o ho hin a w inv.kept inv.beside (fun e he hb => inv.vals e.on (by obtain ⟨_, _, _, _, h4⟩ := head_dst hB hin ho; have := h4 e he hb; omega) (waits e he hb))
      have cnt : ((List.range n).filter (fun j => !(done.setIfInBounds i true).getD j true)).length = f := by
        have e : (List.range n).filter (fun j => !(done.setIfInBounds i true).getD j true) = ((List.range n).filter (fun j => !done.getD j true)).erase i := by
          rw [List.Nodup.erase_eq_filter (List.Nodup.sublist List.filter_sublist List.nodup_range)]; rw [List.filter_filter]; refine List.filter_congr fun j hj => ?_
          by_cases e : i = j
          · subst e
            have : i < done.size := by rw [inv.len]; exact hil
            simp [Array.getD, this]
          · rw [getD_set_ne true e]
            have : (j != i) = true := by simp; omega
            rw [this, Bool.true_and]
        rw [e, List.length_erase_of_mem (by rw [List.mem_filter, List.mem_range]; exact ⟨hin, by rw [un]; rfl⟩), hf]
        rfl
      unfold wpOp
      simp only [ho]
      unfold StepX at st
      split
      · rename_i hw
        rw [if_pos hw] at st; exact Or.inl (st _ _ fun v w' hv k hfr => ih _ _ _ (hI.set hi hin) (inv.put hB hin ho hv k hfr) cnt)
      · rename_i hw
        rw [if_neg hw] at st; exact ih _ _ _ (hI.set hi hin) (inv.put hB hin ho st.1 (Kept.refl w) (fun e => by rw [st.2] at e; cases e)) cnt
    · have hi_n : i = n := by
        rcases (show i = n ∨ i = n + 1 by omega) with e | e
        · exact e
        · exfalso
          subst e; rw [ho3] at ho
          cases ho
          rw [List.any_eq_true] at aw2; obtain ⟨e, he, hb⟩ := aw2
          simp only [Bool.and_eq_true, beq_iff_eq] at hb
          have := waits e (by simpa using he) hb.1; rw [hb.2] at this; have := hI.tail n (Nat.le_refl _) (by omega); have := getD_both this
          simp_all
      subst hi_n; rw [ho1] at ho
      cases ho
      have others : ∀ j, j < i → j ≠ m → done.getD j false = true := fun j hj ne => by
        have := List.all_eq_true.1 aw1 j (List.mem_range.2 hj)
        simp only [Bool.or_eq_true, beq_iff_eq, List.any_eq_true] at this
        rcases this with e | ⟨e, he, hb⟩
        · exact absurd e ne
        · simp only [Bool.and_eq_true, beq_iff_eq] at hb
          have := waits e (by simpa using he) hb.1
          rwa [hb.2] at this
      have mj : j0 = m := by
        by_cases e : j0 = m
        · exact e
        · rw [others j0 hj0 e] at hd0; cases hd0
      subst mj; have hms : j0 < done.size := by rw [inv.len]; omega
      have full : (done.setIfInBounds j0 true) = headDone ops i := by
        refine done_all (hI.set (i := j0) ?_ hmn) hn (fun j hj => ?_)
        · rw [mem_ready]
          refine ⟨getD_in hms hd0, o2, ho2, fun e he hb => ?_⟩; obtain ⟨_, _, _, _, h4⟩ := head_dst hB hmn ho2; have := h4 e he hb; exact others e.on (by omega) (by omega)
        · by_cases e : j0 = j
          · subst e; simp [Array.getD, hms]
          · rw [getD_set_ne false e]; exact others j hj (fun c => e c.symm)
      have ed : done = (headDone ops i).setIfInBounds j0 false := by
        rw [← full]; refine Array.ext (by simp) fun j h1 h2 => ?_
        by_cases e : j0 = j
        · subst e
          have : done[j0] = false := by have := hd0; simpa [Array.getD, h1] using this
          simp [this]
        · simp only [Array.setIfInBounds_setIfInBounds]
          rw [Array.getElem_setIfInBounds_ne _ e]
      have hf0 : f = 0 := by
        have e : (List.range i).filter (fun q => !done.getD q true) = [j0] := by
          have hnd : ((List.range i).filter (fun q => !done.getD q true)).Nodup := List.Nodup.sublist List.filter_sublist List.nodup_range
          have hm1 : ∀ x ∈ (List.range i).filter (fun q => !done.getD q true), x = j0 := fun x hx => by
            rw [List.mem_filter, List.mem_range] at hx
            by_cases c : x = j0
            · exact c
            · have h1 := others x hx.1 c
              have h2 : done.getD x true = false := by simpa using hx.2
              rw [getD_both h2] at h1; cases h1
          have hm2 : j0 ∈ (List.range i).filter (fun q => !done.getD q true) := by
            rw [List.mem_filter, List.mem_range]; exact ⟨hmn, by rw [getD_in hms hd0]; rfl⟩
          match hL : (List.range i).filter (fun q => !done.getD q true) with
          | [] => rw [hL] at hm2; cases hm2
          | [x] => rw [hL] at hm2; rw [List.mem_singleton.1 hm2]
          | x :: y :: r =>
            rw [hL] at hm1 hnd; have a1 := hm1 x (by simp); have a2 := hm1 y (by simp); rw [a1, a2] at hnd
            simp at hnd
        rw [e] at hf
        simp at hf
        omega
      subst hf0
      have hw : wpOp P ops Q i (wpList P ops Q [o2, o3]) a w := by
        unfold wpOp
        simp only [ho1]
        exact late a w o1 o2 o3 ho1 ho2 ho3 inv.kept inv.beside (fun j hj ne => inv.vals j hj (others j hj ne)) (fun j k hj hk ne nj nk fj fk => inv.apart j k hj hk ne fj fk (others j hj nj) (others k hk nk))
      exact wpOp_mono (fun a' w' h' => wpAny_idx [j0, i + 1] [o2, o3] _ a' w' (by simp [ho2, ho3]) (by rw [ed]; exact seq2) h') hw
theorem rgn_late {id : Nat} {l : List Oper} (ys : List Yield) (n m N : Nat) {Q : Exit → Act → World → Prop} {w0 : World} {a0 : Act} (hs : a0.tmps.size = N) (hB : headB l.toArray n N = true) (hT : lateB l.toArray n m = true)
    (arms : Arms Tryz.prog l.toArray n ys w0 a0 0 (l.take n))
    (fin : ∀ a w, Kept w0 w → BesideN l.toArray n a0 a → (∀ j, j < n → Ys ys j (At l.toArray a j) w) → (∀ j k, j < n → k < n → j ≠ k → Fs ys j = true → Fs ys k = true → blkOf (At l.toArray a j) ≠ blkOf (At l.toArray a k)) → wpList Tryz.prog l.toArray Q (l.drop n) a w)
    (late : ∀ a w, Kept w0 w → BesideN l.toArray n a0 a → (∀ j, j < n → j ≠ m → Ys ys j (At l.toArray a j) w) → (∀ j k, j < n → k < n → j ≠ k → j ≠ m → k ≠ m → Fs ys j = true → Fs ys k = true → blkOf (At l.toArray a j) ≠ blkOf (At l.toArray a k)) → wpList Tryz.prog l.toArray Q ((l.drop n).take 1 ++ ((l.drop m).take 1 ++ l.drop (n + 1))) a w) :
    (Code.region id l.toArray true).wp Tryz.prog Q a0 w0 := by
  subst hs; have hB' := hB; have hT' := hT
  simp only [lateB, Bool.and_eq_true, beq_iff_eq, decide_eq_true_eq, List.size_toArray] at hT'
  obtain ⟨⟨⟨⟨⟨hsz, hmn⟩, _⟩, _⟩, _⟩, _⟩ := hT'; refine wp_region_any follows_mixed ?_
  have cnt : ((List.range n).filter (fun i => !(Array.replicate l.toArray.size false).getD i true)).length = n := by
    rw [List.filter_eq_self.2]
    · rw [List.length_range]
    · intro i hi
      rw [List.mem_range] at hi; have hs : i < (Array.replicate l.toArray.size false).size := by rw [Array.size_replicate, List.size_toArray]; omega
      rw [getD_in hs (getD_replicate_false _ _)]; rfl
  have start : ∀ w1, Kept w0 w1 → InvX l.toArray n ys w0 a0 (Array.replicate l.toArray.size false) a0 w1 := fun w1 k => by
    refine ⟨Array.size_replicate, k, ⟨rfl, rfl, fun _ _ => rfl⟩, fun j _ hj => ?_, fun j k _ _ _ _ _ hj _ => ?_⟩
    · rw [getD_replicate_false] at hj; cases hj
    · rw [getD_replicate_false] at hj; cases hj
  have A := headX_late hB hT (fun i o ho hi a w k b d => by
    have h := arms.get (l.take n) 0 i o (by rw [List.getElem?_take_of_lt hi]; simpa using ho) a w k b d
    rwa [Nat.zero_add] at h) fin (fun a w o1 o2 o3 e1 e2 e3 k b hv ap => by
      have h := late a w k b hv ap
      have q1 : (l.drop n).take 1 = [o1] := by
        rw [List.getElem?_toArray] at e1; rw [List.drop_eq_getElem_cons (by omega), List.take_succ_cons, List.take_zero]; rw [List.getElem?_eq_getElem (by omega)] at e1; rw [Option.some.inj e1]
      have q2 : (l.drop m).take 1 = [o2] := by
        rw [List.getElem?_toArray] at e2; rw [List.drop_eq_getElem_cons (by omega), List.take_succ_cons, List.take_zero]; rw [List.getElem?_eq_getElem (by omega)] at e2; rw [Option.some.inj e2]
      have q3 : l.drop (n + 1) = [o3] := by
        rw [List.getElem?_toArray] at e3; rw [List.drop_eq_getElem_cons (by omega), List.drop_of_length_le (by omega)]; rw [List.getElem?_eq_getElem (by omega)] at e3; rw [Option.some.inj e3]
      rw [q1, q2, q3] at h; exact h) n _ a0 _ ⟨Array.size_replicate, (fun j q _ hd => by rw [getD_replicate_false] at hd; cases hd), fun t _ ht => getD_in (by rw [Array.size_replicate]; exact ht) (getD_replicate_false _ _)⟩ (start _ (Kept.refl w0).drew) cnt
  rwa [show n + 2 = l.toArray.size by rw [List.size_toArray]; omega] at A
end
section
variable {ops : Array Oper} {n m : Nat} {ys : List Yield} {a : Act} {w : World} {t : Nat} {v : Value}
theorem lgotY {y : Yield} (hv : ∀ j, j < n → j ≠ m → Ys ys j (At ops a j) w) (j : Nat) (hj : Nat.blt j n = true) (hm : Nat.beq j m = false) (hy : ys[j]? = some y) (ht : (ops[j]?).bind (·.dst) = some t) : y.p (a.eval (.tmp t)) w := by
  have := hv j (Nat.le_of_ble_eq_true hj) (Nat.ne_of_beq_eq_false hm); unfold Ys at this; rw [hy, at_slot ht] at this; exact this
theorem lgot (hv : ∀ j, j < n → j ≠ m → Ys ys j (At ops a j) w) (j : Nat) (hj : Nat.blt j n = true) (hm : Nat.beq j m = false) (hy : ys[j]? = some (yV v)) (ht : (ops[j]?).bind (·.dst) = some t) : a.eval (.tmp t) = v := lgotY hv j hj hm hy ht
theorem lgotP {b : Obj} {s : Nat} (hv : ∀ j, j < n → j ≠ m → Ys ys j (At ops a j) w) (j : Nat) (hj : Nat.blt j n = true) (hm : Nat.beq j m = false) (hy : ys[j]? = some (yNew s b)) (ht : (ops[j]?).bind (·.dst) = some t) : ∃ g, a.eval (.tmp t) = .pointer (some ⟨g, 0, none⟩) ∧ s ≤ g ∧ w.heap[g]? = some b := lgotY hv j hj hm hy ht
end
end Go.Proofs.YtbpkfnoenkoabaaGreatDoor
