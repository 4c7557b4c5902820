/- Small texts together: SX7, MText14, MSum, MRoot, MVal3, MNum13, WDiv, WDec1, WSqrt, WRef1, MDivide, WDivide, WRef2, WSum1, WSum2. -/
import Derived.Test.YtbpkfnoenkoabaaGreatDoorFfSX6
import Derived.LoopN
import Derived.Test.YtbpkfnoenkoabaaGreatDoorFfMixAL
import Derived.Lib.IndexMore
import Derived.Test.YtbpkfnoenkoabaaGreatDoorFfBunM
import Derived.Test.YtbpkfnoenkoabaaGreatDoorProg
import Derived.Test.YtbpkfnoenkoabaaGreatDoorFfShelf
import Derived.Test.YtbpkfnoenkoabaaGreatDoorFfBunW
import Derived.WalkKit
import Derived.ProofKit
import Derived.Outline
import Derived.Lib.Hide
import Derived.Lib.ItoaNum
import Derived.Deep.QuietTactic
import Derived.BigQuiet
import Derived.Deep.DeepCutAuto
import Derived.Deep.CutBlock
import Derived.Laws.Externs
set_option linter.unusedVariables false
set_option linter.unusedSimpArgs false
namespace Go.Proofs.YtbpkfnoenkoabaaGreatDoor
open Go.RowKit
section
variable {a : Act} {w : World} {o : Oper}
theorem xneg {T : TypeId} (hT : T = 3 ∨ T = 2) {x : Operand} (ho : o.op = .unOp .neg T x) {n : Int} (hx : a.eval x = .int .i64 n) (h1 : -9223372036854775807 ≤ n) (h2 : n ≤ 9223372036854775808) : (execOp a.eval o).run Tryz.prog w = .ok (.value (.int .i64 (-n))) w := by
  have e : IntKind.i64.wrap (-n) = -n := IntWalk.i64_in _ (by omega); unfold execOp; rw [ho]
  simp only [hx]
  rcases hT with rfl | rfl <;> (go_simp; try exact e)
theorem xremZ {T T2 : TypeId} (hT : T = 3 ∨ T = 2) {x y : Operand} (ho : o.op = .binOp .rem T x y T2) {n m : Int} (hx : a.eval x = .int .i64 n) (hy : a.eval y = .int .i64 m) (h0 : m ≠ 0) (h1 : -9223372036854775808 ≤ n) (h2 : n ≤ 9223372036854775807) : (execOp a.eval o).run Tryz.prog w = .ok (.value (.int .i64 (Int.tmod n m))) w := by
  have e : (m == 0) = false := by rw [beq_eq_false_iff_ne]; exact h0
  have e2 : IntKind.i64.wrap (Int.tmod n m) = Int.tmod n m := IntWalk.i64_in _ (by
    have := tmod_within n m
    omega)
  unfold execOp; rw [ho]
  simp only [hx, hy]
  rcases hT with rfl | rfl <;> (go_simp; try exact e2)
theorem xneB {T2 : TypeId} {x y : Operand} (ho : o.op = .binOp .neq 4 x y T2) {b d : Bool} (hx : a.eval x = .bool b) (hy : a.eval y = .bool d) : (execOp a.eval o).run Tryz.prog w = .ok (.value (.bool (b != d))) w := by
  unfold execOp; rw [ho]
  simp only [hx, hy]
  cases b <;> cases d <;> go_simp
theorem xeqB {T2 : TypeId} {x y : Operand} (ho : o.op = .binOp .eql 4 x y T2) {b d : Bool} (hx : a.eval x = .bool b) (hy : a.eval y = .bool d) : (execOp a.eval o).run Tryz.prog w = .ok (.value (.bool (b == d))) w := by
  unfold execOp; rw [ho]
  simp only [hx, hy]
  cases b <;> cases d <;> go_simp
theorem xnilC {x : Operand} (ho : o.op = .nilCheck x) {p : Addr} (hx : a.eval x = .pointer (some p)) : (execOp a.eval o).run Tryz.prog w = .ok (.value (.pointer (some p))) w := by
  unfold execOp; rw [ho]
  simp only [hx]
  go_simp
end
theorem rnd1 {P : Program} {c : Code} {Q : Exit → Act → World → Prop} {n : Nat} {a : Act} {w : World} (h : c.wp P (Exit.then (Code.rounds P c Q n) Q) a w) : Code.rounds P c Q (n + 1) a w := h
theorem Own.perm {w0 w : World} {H H' : List Th} (p : H.Perm H') (h : Own w0 H w) : Own w0 H' w :=
  ⟨h.kept, fun t ht => h.has t (p.mem_iff.2 ht), fun t ht => h.old t (p.mem_iff.2 ht), h.apart.perm p (fun {s t} x g e c => x g c e)⟩
theorem Own.past2 {w0 w : World} {a b c d : Th} {T : List Th} (h : Own w0 (a :: b :: c :: d :: T) w) : Own w0 (a :: c :: d :: b :: T) w := h.perm (List.Perm.cons _ (List.perm_middle (l₁ := [c, d])).symm)
end Go.Proofs.YtbpkfnoenkoabaaGreatDoor

namespace Go.Proofs.YtbpkfnoenkoabaaGreatDoor.Lv
open Go
def vText (t : List UInt8) : Vl := if 256 < t.length then vFail 2 else ⟨3, 0, t⟩
theorem txt_short {v : Vl} (h : vOk v = true) (hn : i64 v.n) : (vTxt v).t.length ≤ 256 := by
  rcases ok_cases h with rfl | ⟨n, hn0, rfl⟩ | rfl | rfl | ⟨t, ht, rfl⟩ | ⟨c, c1, c2, rfl⟩
  · decide
  · unfold vTxt; rw [h]
    show (fmt n).length ≤ 256; exact Nat.le_trans (fmt_short (by obtain ⟨h1, h2⟩ := hn; simp only at h1 h2; omega)) (by decide)
  · decide
  · decide
  · unfold vTxt; rw [h]
    show t.length ≤ 256; unfold okT at ht; rw [Bool.and_eq_true, decide_eq_true_eq] at ht; exact ht.1
  · unfold vTxt; rw [h]; show ([] : List UInt8).length ≤ 256; decide
end Go.Proofs.YtbpkfnoenkoabaaGreatDoor.Lv

namespace Go.Proofs.YtbpkfnoenkoabaaGreatDoor.Lv
open Go
def up : List Int → Int
  | [] => 0
  | a :: l => (if a < 0 then 0 else a) + up l
def down : List Int → Int
  | [] => 0
  | a :: l => (if a < 0 then -a else 0) + down l
def total : List Int → Int
  | [] => 0
  | a :: l => a + total l
def All64 (l : List Int) : Prop := ∀ a ∈ l, i64 a
theorem up_append (l m : List Int) : up (l ++ m) = up l + up m := by
  induction l with
  | nil => simp [up]
  | cons a l ih => simp only [List.cons_append, up, ih]; omega
theorem down_append (l m : List Int) : down (l ++ m) = down l + down m := by
  induction l with
  | nil => simp [down]
  | cons a l ih => simp only [List.cons_append, down, ih]; omega
theorem up_down (l : List Int) : up l - down l = total l := by
  induction l with
  | nil => simp [up, down, total]
  | cons a l ih => simp only [up, down, total]; split <;> omega
theorem up_bounds (l : List Int) (h : All64 l) : 0 ≤ up l ∧ up l ≤ 9223372036854775808 * l.length ∧ 0 ≤ down l ∧ down l ≤ 9223372036854775808 * l.length := by
  induction l with
  | nil => simp [up, down]
  | cons a l ih =>
    have ih := ih (fun b hb => h b (List.mem_cons_of_mem _ hb)); have ha := h a (List.mem_cons_self ..); obtain ⟨h1, h2⟩ := ha
    simp only [up, down, List.length_cons]
    split <;> omega
theorem All64.take {l : List Int} (h : All64 l) (k : Nat) : All64 (l.take k) := fun a ha => h a (List.mem_of_mem_take ha)
theorem take_snoc (l : List Int) (k : Nat) (h : k < l.length) : l.take (k + 1) = l.take k ++ [l.getD k 0] := by
  rw [List.take_succ_eq_append_getElem h]; simp [h]
theorem All64.get {l : List Int} (h : All64 l) {k : Nat} (hk : k < l.length) : i64 (l.getD k 0) := by
  have : l.getD k 0 = l[k] := by simp [hk]
  rw [this]; exact h _ (List.getElem_mem hk)
theorem hi_add {u s : Int} (u0 : 0 ≤ u) (u1 : u < 170141183460469231731687303715884105728) (s0 : 0 ≤ s) (s1 : s ≤ 18446744073709551615) : hi64 u + (lo64 u + s) / 18446744073709551616 = hi64 (u + s) := by unfold hi64 lo64; omega
theorem lo_add (u s : Int) : (lo64 u + s) % 18446744073709551616 = lo64 (u + s) := by unfold lo64; omega
theorem hi_small {u : Int} (u0 : 0 ≤ u) (u1 : u < 170141183460469231731687303715884105728) : hi64 u < 18446744073709551615 := by unfold hi64; omega
theorem up_snoc (l : List Int) (a : Int) : up (l ++ [a]) = up l + (if a < 0 then 0 else a) := by rw [up_append]; simp [up]
theorem down_snoc (l : List Int) (a : Int) : down (l ++ [a]) = down l + (if a < 0 then -a else 0) := by rw [down_append]; simp [down]
theorem abs_sub_lt {u d : Int} (u0 : 0 ≤ u) (u1 : u < 170141183460469231731687303715884105728) (d0 : 0 ≤ d) (d1 : d < 170141183460469231731687303715884105728) : 0 ≤ abs (u - d) ∧ abs (u - d) < 170141183460469231731687303715884105728 := by
  unfold abs; split <;> omega
def dSum (l : List Int) : Int × Bool := fit (total l)
end Go.Proofs.YtbpkfnoenkoabaaGreatDoor.Lv

namespace Go.Proofs.YtbpkfnoenkoabaaGreatDoor.Lv
open Go
def isq : Nat → Nat → Nat
  | 0, _ => 0
  | n + 1, X => if (isq n X + 1) * (isq n X + 1) ≤ X then isq n X + 1 else isq n X
theorem isq_spec : ∀ (n X : Nat), isq n X * isq n X ≤ X ∧ isq n X ≤ n ∧ (isq n X < n → X < (isq n X + 1) * (isq n X + 1))
  | 0, X => by simp [isq]
  | n + 1, X => by
    obtain ⟨h1, h2, h3⟩ := isq_spec n X; unfold isq
    split
    · rename_i c
      refine ⟨c, by omega, fun h => ?_⟩; have : isq n X < n := by omega
      have := h3 this
      omega
    · rename_i c
      exact ⟨h1, by omega, fun _ => by omega⟩
def root (a : Int) : Nat := isq (a * 10000).toNat (a * 10000).toNat
theorem root_spec {a : Int} (h : 0 ≤ a) : (root a : Int) * root a ≤ a * 10000 ∧ a * 10000 < ((root a : Int) + 1) * (root a + 1) := by
  obtain ⟨h1, h2, h3⟩ := isq_spec (a * 10000).toNat (a * 10000).toNat; unfold root; generalize isq (a * 10000).toNat (a * 10000).toNat = r at *; have e : ((a * 10000).toNat : Int) = a * 10000 := Int.toNat_of_nonneg (by omega); generalize (a * 10000).toNat = X at *; rw [← e]; refine ⟨by rw [← Int.natCast_mul]; exact Int.ofNat_le.2 h1, ?_⟩
  have h4 : X < (r + 1) * (r + 1) := by
    rcases Nat.lt_or_ge r X with h | h
    · exact h3 h
    · have : r = X := by omega
      subst this; have := Nat.mul_le_mul (show r ≤ r + 1 by omega) (show 1 ≤ r + 1 by omega); have := Nat.mul_le_mul (show r + 1 ≤ r + 1 by omega) (show 1 ≤ r + 1 by omega)
      omega
  have := Int.ofNat_lt.2 h4
  simpa using this
theorem sq_lt {x y : Int} (hx : 0 ≤ x) (hy : 0 ≤ y) (h : x * x < y * y) : x < y := by
  by_cases c : x < y
  · exact c
  · have := Int.mul_le_mul (show y ≤ x by omega) (show y ≤ x by omega) hy hx
    omega
theorem root_unique {a r : Int} (h : 0 ≤ a) (r0 : 0 ≤ r) (r1 : r * r ≤ a * 10000) (r2 : a * 10000 < (r + 1) * (r + 1)) : r = root a := by
  obtain ⟨h1, h2⟩ := root_spec h; have a1 : r < (root a : Int) + 1 := sq_lt r0 (by omega) (by omega); have a2 : (root a : Int) < r + 1 := sq_lt (by omega) (by omega) (by omega)
  omega
def dSqrt (a : Int) : Int × Bool := if a < 0 then (0, false) else (root a, true)
theorem root_le {a : Int} (h : i64 a) (h0 : 0 ≤ a) : (root a : Int) ≤ 303700049998 := by
  obtain ⟨h1, _⟩ := root_spec h0; have h2 := h.2
  have h3 : (root a : Int) < 303700049999 := by
    refine sq_lt (by omega) (by omega) ?_
    omega
  omega
def pw (a : Int) : Nat → Int × Bool
  | 0 => (10000, true)
  | n + 1 => if (pw a n).2 = true then dMul (pw a n).1 a else (0, false)
def dPow (a n : Int) : Int × Bool :=
  if n < -1000 ∨ 1000 < n then (0, false)
  else if n < 0 then (if (pw a (-n).toNat).2 = true then dQuo 10000 (pw a (-n).toNat).1 else (0, false))
  else pw a n.toNat
theorem fit_i64 (n : Int) : i64 (fit n).1 := by unfold fit i64; split <;> simp; omega
theorem dMul_i64 (a b : Int) : i64 (dMul a b).1 := fit_i64 _
theorem dQuo_i64 (a b : Int) : i64 (dQuo a b).1 := by unfold dQuo; split; exact ⟨by decide, by decide⟩; exact fit_i64 _
theorem fit_false {n : Int} (h : (fit n).2 = false) : (fit n).1 = 0 := by
  by_cases c : -9223372036854775807 ≤ n ∧ n ≤ 9223372036854775807
  · rw [fit_in c.1 c.2] at h; cases h
  · rw [fit_out (by omega)]
theorem dMul_false {a b : Int} (h : (dMul a b).2 = false) : dMul a b = (0, false) := Prod.ext (fit_false h) h
theorem pw_i64 (a : Int) : ∀ n, i64 (pw a n).1
  | 0 => by show i64 10000; exact ⟨by decide, by decide⟩
  | n + 1 => by unfold pw; split; exact dMul_i64 _ _; exact ⟨by decide, by decide⟩
theorem pw_false {a : Int} : ∀ {n : Nat}, (pw a n).2 = false → pw a n = (0, false)
  | 0, h => by cases h
  | n + 1, h => by
    unfold pw at *
    split at h
    · rename_i c; rw [if_pos c]; exact dMul_false h
    · rename_i c; rw [if_neg c]
theorem pw_stays {a : Int} {n : Nat} (h : (pw a n).2 = false) : ∀ k, pw a (n + k) = (0, false)
  | 0 => pw_false h
  | k + 1 => by
    show pw a ((n + k) + 1) = _; unfold pw; rw [pw_stays h k]
    rfl
def unitOf (places : Int) : Int := 10 ^ (4 - places).toNat
def dRound (a places : Int) : Int × Bool :=
  if 4 ≤ places then fit a
  else if places < -15 then (0, true)
  else fit (sg (neg a) (rnd (abs a) (unitOf places) * unitOf places))
def dTrunc (a : Int) : Int := a - a.tmod 10000
theorem tmod_nonneg {a : Int} (h : 0 ≤ a) : a.tmod 10000 = a % 10000 := Int.tmod_eq_emod_of_nonneg h
theorem tmod_neg {a : Int} (h : a < 0) : a.tmod 10000 = -((-a) % 10000) := by
  have e := Int.neg_tmod (-a) 10000; rw [Int.neg_neg, tmod_nonneg (a := -a) (by omega)] at e; exact e
theorem tmod_bounds (a : Int) : -9999 ≤ a.tmod 10000 ∧ a.tmod 10000 ≤ 9999 ∧ (0 ≤ a → 0 ≤ a.tmod 10000 ∧ a.tmod 10000 ≤ a) ∧ (a ≤ 0 → a.tmod 10000 ≤ 0 ∧ a ≤ a.tmod 10000) := by
  by_cases c : 0 ≤ a
  · rw [tmod_nonneg c]; omega
  · rw [tmod_neg (by omega)]; omega
def dFloor (a : Int) : Int × Bool := if a < dTrunc a then fit (dTrunc a - 10000) else (dTrunc a, true)
theorem pow10_bounds {k : Nat} (h : k ≤ 19) : 1 ≤ (10 : Int) ^ k ∧ (10 : Int) ^ k ≤ 10000000000000000000 := by
  have h1 := Nat.pow_le_pow_right (n := 10) (by omega) h; have h2 := Nat.pow_pos (n := k) (show 0 < 10 by omega); have e : ((10 ^ k : Nat) : Int) = 10 ^ k := by simp
  rw [← e]
  omega
end Go.Proofs.YtbpkfnoenkoabaaGreatDoor.Lv

namespace Go.Proofs.YtbpkfnoenkoabaaGreatDoor.Lv
open Go
def Small (v : Vl) : Prop := i64 v.n ∧ v.t.length ≤ 2000
theorem small_fail (c : Int) : Small (vFail c) := by
  unfold Small vFail i64; refine ⟨⟨?_, ?_⟩, by simp⟩ <;> simp only <;> split <;> omega
theorem small_make {n : Int} (h : i64 n) : Small (vMake n) := by
  unfold vMake
  split
  · exact small_fail 3
  · exact ⟨h, by simp⟩
theorem small_read (t : List UInt8) : Small (vRead t) := by
  unfold vRead
  split
  · rename_i h
    obtain ⟨n, h1, h2, h3, _⟩ := parse_ok h; rw [h3]; exact small_make ⟨by simp only; omega, by simp only; omega⟩
  · split <;> exact small_fail _
end Go.Proofs.YtbpkfnoenkoabaaGreatDoor.Lv

namespace Go.Proofs.YtbpkfnoenkoabaaGreatDoor.Lv
open Go
def vRes (p : Int × Bool) : Vl := if p.2 then vMake p.1 else vFail 3
def sgn13 (x : Int) : Int := if x < 0 then -1 else if 0 < x then 1 else 0
def mod13 (x y : Int) : Int := if x.tmod y ≠ 0 ∧ (decide (x.tmod y < 0) ≠ decide (y < 0)) then x.tmod y + y else x.tmod y
def pow13 (x n : Int) : Vl := if n.tmod 10000 ≠ 0 then vFail 3 else if x = 0 ∧ n < 0 then vFail 1 else vRes (dPow x (n.tdiv 10000))
def two13 (fn : Nat) : Bool := decide (fn = 5 ∨ fn = 6 ∨ fn = 7)
def val13 (fn : Nat) (x y : Int) : Vl :=
  if fn = 1 then vMake (max x (-x))
  else if fn = 2 then vMake (sgn13 x * 10000)
  else if fn = 3 then vRes (dFloor x)
  else if fn = 4 then vMake (dTrunc x)
  else if fn = 5 then vRes (dRound x (min (max (y.tdiv 10000) (-20)) 4))
  else if fn = 6 then (if y = 0 then vFail 1 else vMake (mod13 x y))
  else if fn = 7 then pow13 x y
  else if x < 0 then vFail 3 else vRes (dSqrt x)
def vCall13 (fn : Nat) (l : List Vl) : Vl × Int :=
  if fn < 1 ∨ 8 < fn then (blankV, 10)
  else if l.length ≠ (if two13 fn then 2 else 1) then (blankV, 11)
  else if l.any (fun v => !vOk v) then (blankV, 2)
  else match firstE (l.map vNum) with
    | some e => (e, 0)
    | none => (val13 fn (vNum (l.getD 0 blankV)).n (if two13 fn then (vNum (l.getD 1 blankV)).n else 0), 0)
def arith13 (op : Int) (x y : Int) : Vl :=
  if op = 1 then vRes (dSum [x, y]) else if op = 2 then vRes (fit (x - y)) else if op = 3 then vRes (dMul x y)
  else if op = 4 then (if y = 0 then vFail 1 else vRes (dQuo x y)) else pow13 x y
def cat13 (a b : Vl) : Vl := if isE (vTxt a) then vTxt a else if isE (vTxt b) then vTxt b else vText ((vTxt a).t ++ (vTxt b).t)
def cmp13 (op : Int) (a b : Vl) : Vl :=
  if isE a then a else if isE b then b
  else vTruth (decide (if op = 7 then (vCmp a b).1 = 0 else if op = 8 then (vCmp a b).1 ≠ 0 else if op = 9 then (vCmp a b).1 < 0 else if op = 10 then (vCmp a b).1 ≤ 0 else if op = 11 then 0 < (vCmp a b).1 else 0 ≤ (vCmp a b).1))
def vBin13 (op : Int) (a b : Vl) : Vl × Int :=
  if op < 1 ∨ 12 < op ∨ ([a, b].any fun v => !vOk v) then (blankV, 2)
  else if op = 6 then (cat13 a b, 0)
  else if 6 < op then (cmp13 op a b, 0)
  else match firstE [vNum a, vNum b] with
    | some e => (e, 0)
    | none => (arith13 op (vNum a).n (vNum b).n, 0)
def vNeg13 (a : Vl) : Vl := if isE (vNum a) then vNum a else vRes (dNeg (vNum a).n)
def vPct13 (a : Vl) : Vl := if isE (vNum a) then vNum a else vRes (dQuo (vNum a).n 1000000)
/-! laws of a call -/
theorem v13_name {fn : Nat} {l : List Vl} (h : fn < 1 ∨ 8 < fn) : vCall13 fn l = (blankV, 10) := by unfold vCall13; rw [if_pos h]
theorem v13_count {fn : Nat} {l : List Vl} (h1 : ¬ (fn < 1 ∨ 8 < fn)) (h : l.length ≠ (if two13 fn then 2 else 1)) : vCall13 fn l = (blankV, 11) := by unfold vCall13; rw [if_neg h1, if_pos h]
theorem any_not {l : List Vl} (h : l.all vOk = false) : (l.any fun v => !vOk v) = true := by
  rw [List.all_eq_false] at h; obtain ⟨x, hx, hn⟩ := h; rw [List.any_eq_true]; exact ⟨x, hx, by simpa using hn⟩
theorem any_none {l : List Vl} (h : l.all vOk = true) : (l.any fun v => !vOk v) = false := by
  rw [List.any_eq_false]; intro x hx; have := List.all_eq_true.1 h x hx
  simp [this]
theorem v13_arg {fn : Nat} {l : List Vl} (h1 : ¬ (fn < 1 ∨ 8 < fn)) (h : l.length = (if two13 fn then 2 else 1)) (hv : l.all vOk = false) : vCall13 fn l = (blankV, 2) := by
  unfold vCall13; rw [if_neg h1, if_neg (by simpa using h), if_pos (any_not hv)]
theorem v13_err {fn : Nat} {l : List Vl} {x : Vl} (h1 : ¬ (fn < 1 ∨ 8 < fn)) (h : l.length = (if two13 fn then 2 else 1)) (hv : l.all vOk = true) (he : firstE (l.map vNum) = some x) : vCall13 fn l = (x, 0) := by
  unfold vCall13; rw [if_neg h1, if_neg (by simpa using h), if_neg (by rw [any_none hv]; decide), he]
theorem v13_val {fn : Nat} {l : List Vl} (h1 : ¬ (fn < 1 ∨ 8 < fn)) (h : l.length = (if two13 fn then 2 else 1)) (hv : l.all vOk = true) (he : firstE (l.map vNum) = none) : vCall13 fn l = (val13 fn (vNum (l.getD 0 blankV)).n (if two13 fn then (vNum (l.getD 1 blankV)).n else 0), 0) := by
  unfold vCall13; rw [if_neg h1, if_neg (by simpa using h), if_neg (by rw [any_none hv]; decide), he]
theorem len_one {l : List Vl} (h : l.length = 1) : ∃ v, l = [v] := List.length_eq_one_iff.1 h
theorem len_two {l : List Vl} (h : l.length = 2) : ∃ v u, l = [v, u] := by
  match l, h with
  | [v, u], _ => exact ⟨v, u, rfl⟩
theorem first_hit {a : Vl} {l : List Vl} (h : isE a = true) : firstE (a :: l) = some a := by unfold firstE; rw [List.find?_cons_of_pos h]
theorem first_miss {a : Vl} {l : List Vl} (h : isE a = false) : firstE (a :: l) = firstE l := by unfold firstE; rw [List.find?_cons_of_neg (by rw [h]; decide)]
theorem first_nil : firstE [] = none := rfl
theorem num_range {v : Vl} (h : isE (vNum v) = false) (hn : i64 v.n) : -9223372036854775807 ≤ (vNum v).n ∧ (vNum v).n ≤ 9223372036854775807 := by
  obtain ⟨h1, h2⟩ := num_kinds v
  have h3 : (vNum v).k = 1 := by
    rcases h2 with e | e
    · exact e
    · unfold isE at h; rw [e] at h; cases h
  have h4 : i64 (vNum v).n := by
    by_cases ok : vOk v = true
    · rcases ok_cases ok with rfl | ⟨n, hn, rfl⟩ | rfl | rfl | ⟨t, ht, rfl⟩ | ⟨c, c1, c2, rfl⟩
      · exact ⟨by decide, by decide⟩
      · unfold vNum; rw [ok]; exact hn
      · exact ⟨by decide, by decide⟩
      · exact ⟨by decide, by decide⟩
      · unfold vNum; rw [ok]; exact (small_read t).1
      · unfold vNum; rw [ok]; exact hn
    · unfold vNum; rw [if_pos (by simpa using ok)]; exact ⟨by decide, by decide⟩
  generalize vNum v = u at *; obtain ⟨k, n, t⟩ := u
  simp only at h3
  subst h3; rw [ok1, decide_eq_true_eq] at h1; obtain ⟨a, b⟩ := h4; have := h1.2
  simp only at a b ⊢
  omega
theorem isE_yes {v : Vl} (h : (v.k : Int) = (4 : Int)) : isE v = true := by unfold isE; rw [decide_eq_true_eq]; omega
theorem isE_no {v : Vl} (h : ¬ ((v.k : Int) = (4 : Int))) : isE v = false := by unfold isE; rw [decide_eq_false_iff_not]; omega
theorem dPow_i64 (a n : Int) : i64 (dPow a n).1 := by
  unfold dPow
  split
  · exact ⟨by decide, by decide⟩
  · split
    · split
      · exact dQuo_i64 _ _
      · exact ⟨by decide, by decide⟩
    · exact pw_i64 _ _
theorem dRound_i64 {a p : Int} : i64 (dRound a p).1 := by
  unfold dRound
  split
  · exact fit_i64 _
  · split
    · exact ⟨by decide, by decide⟩
    · exact fit_i64 _
theorem trunc_near (a : Int) : -10000 < a - dTrunc a ∧ a - dTrunc a < 10000 ∧ (0 ≤ a → 0 ≤ dTrunc a ∧ dTrunc a ≤ a) ∧ (a ≤ 0 → a ≤ dTrunc a ∧ dTrunc a ≤ 0) := by
  unfold dTrunc; obtain ⟨h1, h2, h3, h4⟩ := tmod_bounds a; refine ⟨by omega, by omega, fun h => ?_, fun h => ?_⟩
  · have := h3 h; omega
  · have := h4 h; omega
theorem dTrunc_in {a : Int} (h : i64 a) : i64 (dTrunc a) := by
  obtain ⟨h1, h2⟩ := h; obtain ⟨_, _, h3, h4⟩ := trunc_near a; unfold i64
  by_cases c : 0 ≤ a
  · have := h3 c; omega
  · have := h4 (by omega); omega
theorem dFloor_i64 {a : Int} (h : i64 a) : i64 (dFloor a).1 := by
  unfold dFloor
  split
  · exact fit_i64 _
  · exact dTrunc_in h
theorem tdiv_in {y : Int} (h : i64 y) : i64 (y.tdiv 10000) := by
  obtain ⟨h1, h2⟩ := h; have e := Int.tmod_add_mul_tdiv y 10000; obtain ⟨a, b, _⟩ := tmod_bounds y; exact ⟨by omega, by omega⟩
theorem tdiv_trunc' (y : Int) : Int.tdiv (dTrunc y) 10000 = Int.tdiv y 10000 := by
  have h := Int.tmod_add_mul_tdiv y 10000; have e : dTrunc y = 10000 * Int.tdiv y 10000 := by unfold dTrunc; omega
  rw [e]; exact Int.mul_tdiv_cancel_left _ (by decide)
theorem sgn13_in (x : Int) : -1 ≤ sgn13 x ∧ sgn13 x ≤ 1 := by unfold sgn13; (repeat' split) <;> omega
theorem tmod_abs (x y : Int) : -(x.natAbs : Int) ≤ x.tmod y ∧ x.tmod y ≤ x.natAbs := by
  have e := Int.natAbs_tmod x y; have l := Nat.mod_le x.natAbs y.natAbs
  omega
theorem mod13_in {x y : Int} (hx : -9223372036854775807 ≤ x ∧ x ≤ 9223372036854775807) (hy : -9223372036854775807 ≤ y ∧ y ≤ 9223372036854775807) : i64 (mod13 x y) := by
  have := tmod_abs x y; unfold mod13 i64
  split
  · rename_i c
    obtain ⟨_, c⟩ := c
    by_cases a : x.tmod y < 0 <;> by_cases b : y < 0 <;> simp [a, b] at c <;> omega
  · omega
theorem mod13_pos {x y : Int} (h : x.tmod y ≠ 0 ∧ ((decide (x.tmod y < 0)) != (decide (y < 0))) = true) : x.tmod y + y = mod13 x y := by
  unfold mod13; rw [if_pos ⟨h.1, by simpa using h.2⟩]
theorem mod13_neg {x y : Int} (h : ¬ (x.tmod y ≠ 0 ∧ ((decide (x.tmod y < 0)) != (decide (y < 0))) = true)) : x.tmod y = mod13 x y := by
  unfold mod13; rw [if_neg (fun c => h ⟨c.1, by simpa using c.2⟩)]
theorem mod13_sum {x y : Int} (hx : -9223372036854775807 ≤ x ∧ x ≤ 9223372036854775807) (hy : -9223372036854775807 ≤ y ∧ y ≤ 9223372036854775807) (h : x.tmod y ≠ 0 ∧ ((decide (x.tmod y < 0)) != (decide (y < 0))) = true) : -9223372036854775808 ≤ x.tmod y + y ∧ x.tmod y + y ≤ 9223372036854775807 := by
  have := mod13_in hx hy; rw [← mod13_pos h] at this; exact this
end Go.Proofs.YtbpkfnoenkoabaaGreatDoor.Lv

namespace Go.Proofs.YtbpkfnoenkoabaaGreatDoor
open Go.RowKit Lv
def LzSome (y : Int) (w : World) (e : Ending) (w' : World) : Prop := ∃ k : Nat, k ≤ 63 ∧ y * 2 ^ k ≤ 18446744073709551615 ∧ 9223372036854775808 ≤ y * 2 ^ k ∧ e = .returned (.int .i64 k) ∧ w = w'
theorem lz_any (y : Int) (w : World) (h1 : 0 < y) (h2 : y ≤ 18446744073709551615) : Calls Tryz.prog 304 #[.int .u64 y] w (LzSome y w) := by
  obtain ⟨y, rfl⟩ := Int.eq_ofNat_of_zero_le (show 0 ≤ y by omega); refine (Tryz.bits_LeadingZeros64 y w (by omega) (by omega)).mono ?_; rintro e w' ⟨rfl, rfl⟩; obtain ⟨hb1, s3, s1⟩ := Lib.bitLenAux_bounds 64 y (by omega) (by omega); have hb : Lib.bitLen y ≤ 64 := Lib.bitLen_le y 64 (by omega) (by omega)
  change 1 ≤ Lib.bitLen y at hb1
  change 2 ^ (Lib.bitLen y - 1) ≤ y at s3
  change y < 2 ^ Lib.bitLen y at s1
  have e1 : (2 : Nat) ^ Lib.bitLen y * 2 ^ (64 - Lib.bitLen y) = 18446744073709551616 := by rw [← Nat.pow_add, show Lib.bitLen y + (64 - Lib.bitLen y) = 64 from by omega]
  have e2 : (2 : Nat) ^ (Lib.bitLen y - 1) * 2 ^ (64 - Lib.bitLen y) = 9223372036854775808 := by rw [← Nat.pow_add, show Lib.bitLen y - 1 + (64 - Lib.bitLen y) = 63 from by omega]
  have f1 := (Nat.mul_lt_mul_right (Nat.two_pow_pos (64 - Lib.bitLen y))).2 s1; have f2 := Nat.mul_le_mul_right (2 ^ (64 - Lib.bitLen y)) s3; have e3 : ((y * 2 ^ (64 - Lib.bitLen y) : Nat) : Int) = (y : Int) * 2 ^ (64 - Lib.bitLen y) := by simp
  refine ⟨64 - Lib.bitLen y, by omega, by rw [← e3]; omega, by rw [← e3]; omega, ?_, rfl⟩
  simp only [Ending.returned.injEq, Value.int.injEq, true_and]
  rw [Int.toNat_natCast]
  omega
structure Prep (hi lo y v a b hs ls u t u1 u0 q : Int) (k : Nat) : Prop where
  v_ : y * 2 ^ k = v
  a_ : v / 4294967296 = a
  b_ : bits .and .u64 v 4294967295 = b
  hs_ : IntKind.u64.wrap (hi * 2 ^ k) = hs
  ls_ : lo / 2 ^ (64 - k) = ls
  u_ : bits .or .u64 hs ls = u
  t_ : IntKind.u64.wrap (lo * 2 ^ k) = t
  u1_ : t / 4294967296 = u1
  u0_ : bits .and .u64 t 4294967295 = u0
  q_ : u / a = q
  d : Digit u u1 a b v
  t0 : 0 ≤ t
  t1 : t ≤ 18446744073709551615
  w0 : 0 ≤ u0
  w1 : u0 < 4294967296
  tt : t = u1 * 4294967296 + u0
  whole : (hi * 18446744073709551616 + lo) * 2 ^ k = u * 18446744073709551616 + t
theorem prep (hi lo y : Int) (k : Nat) (h0 : 0 < hi) (h1 : hi < y) (h3 : 0 ≤ lo) (h4 : lo ≤ 18446744073709551615) (k1 : k ≤ 63) (k2 : y * 2 ^ k ≤ 18446744073709551615) (k3 : 9223372036854775808 ≤ y * 2 ^ k) :
    ∃ v a b hs ls u t u1 u0 q : Int, Prep hi lo y v a b hs ls u t u1 u0 q k := by
  obtain ⟨hi, rfl⟩ := Int.eq_ofNat_of_zero_le (show 0 ≤ hi by omega); obtain ⟨lo, rfl⟩ := Int.eq_ofNat_of_zero_le (show 0 ≤ lo by omega); obtain ⟨y, rfl⟩ := Int.eq_ofNat_of_zero_le (show 0 ≤ y by omega)
  have g1 : hi * 2 ^ k + 2 ^ k ≤ y * 2 ^ k := by
    have := Nat.mul_le_mul_right (2 ^ k) (show hi + 1 ≤ y by omega); rw [Nat.add_mul] at this; omega
  have g2 : lo / 2 ^ (64 - k) < 2 ^ k := shr_lt lo k (by omega) (by omega); have g3 := shift_split hi lo k (by omega); have p1 : ((2 ^ k : Nat) : Int) = 2 ^ k := by simp
  have p2 : ((2 ^ (64 - k) : Nat) : Int) = 2 ^ (64 - k) := by simp
  rw [← p1] at k2 k3; have g4 := fun h => or_add hi k (lo / 2 ^ (64 - k)) g2 h; refine ⟨_, _, _, _, _, _, _, _, _, _, ⟨rfl, rfl, rfl, rfl, rfl, rfl, rfl, rfl, rfl, rfl, ?_, ?_, ?_, ?_, ?_, ?_, ?_⟩⟩
  all_goals simp only [← p1, ← p2]
  all_goals clear p1 p2 k1
  all_goals generalize 2 ^ k = p at *
  all_goals generalize 2 ^ (64 - k) = p' at *
  all_goals have e1 : (y : Int) * (p : Int) = ((y * p : Nat) : Int) := by simp
  all_goals have e2 : (hi : Int) * (p : Int) = ((hi * p : Nat) : Int) := by simp
  all_goals have e3 : (lo : Int) * (p : Int) = ((lo * p : Nat) : Int) := by simp
  all_goals have e4 : (lo : Int) / (p' : Int) = ((lo / p' : Nat) : Int) := by simp
  all_goals have e5 : ((hi : Int) * 18446744073709551616 + lo) * p = (((hi * 18446744073709551616 + lo) * p : Nat) : Int) := by simp
  all_goals rw [e1] at k2 k3
  all_goals have g5 := g4 (by omega)
  all_goals have hs : IntKind.u64.wrap ((hi * p : Nat) : Int) = ((hi * p : Nat) : Int) := wrap_in _ (by omega) (by omega)
  all_goals have ht : IntKind.u64.wrap ((lo * p : Nat) : Int) = ((lo * p % 18446744073709551616 : Nat) : Int) := by rw [wrap_def]; simp
  all_goals have t1 : lo * p % 18446744073709551616 < 18446744073709551616 := Nat.mod_lt _ (by omega)
  all_goals have a1 := and_lo ((y * p : Nat) : Int) (by omega) (by omega)
  all_goals have a2 := and_lo ((lo * p % 18446744073709551616 : Nat) : Int) (by omega) (by omega)
  all_goals clear g4
  all_goals simp only [e1, e2, e3, e4, e5, hs, ht, g5, a1, a2, g3]
  all_goals clear e1 e2 e3 e4 e5 hs ht g5 a1 a2 g3
  all_goals generalize lo * p % 18446744073709551616 = t at *
  all_goals generalize y * p = v at *
  all_goals generalize lo / p' = l at *
  all_goals generalize hi * p = h at *
  · exact ⟨by omega, by omega, by omega, by omega, by omega, by omega, by omega, by omega, by omega⟩
  all_goals omega
theorem Lv.Digit.second {u u1 a b v u0 : Int} (d : Digit u u1 a b v) (w0 : 0 ≤ u0) (w1 : u0 < 4294967296) : Digit ((u * 4294967296 + u1) % v) u0 a b v := by
  have h2 := Int.emod_lt_of_pos (u * 4294967296 + u1) (b := v) (by have := d.uv; have := d.u0; omega); have h3 := Int.emod_nonneg (u * 4294967296 + u1) (b := v) (by have := d.uv; have := d.u0; omega); exact ⟨h3, h2, w0, w1, d.a0, d.a1, d.b0, d.b1, d.hv⟩
theorem Lv.Digit.ge {u u1 a b v : Int} (d : Digit u u1 a b v) : 0 ≤ (u * 4294967296 + u1) / v := Int.ediv_nonneg (by have := d.u0; have := d.l0; omega) (by have := d.uv; have := d.u0; omega)
theorem Prep.final {hi lo y v a b hs ls u t u1 u0 q : Int} {k : Nat} (P : Prep hi lo y v a b hs ls u t u1 u0 q k) (d : Digit u u1 a b v) (d2 : Digit ((u * 4294967296 + u1) % v) u0 a b v) :
    (hi * 18446744073709551616 + lo) / y = (u * 4294967296 + u1) / v * 4294967296 + ((u * 4294967296 + u1) % v * 4294967296 + u0) / v ∧
    (hi * 18446744073709551616 + lo) % y = ((u * 4294967296 + u1) % v * 4294967296 + u0) % v / 2 ^ k ∧
    0 ≤ ((u * 4294967296 + u1) % v * 4294967296 + u0) % v := by
  have h1 := Int.mul_ediv_add_emod (u * 4294967296 + u1) v; have h2 := Int.mul_ediv_add_emod ((u * 4294967296 + u1) % v * 4294967296 + u0) v; have vpos : 0 < v := by have := d.uv; have := d.u0; omega
  have h3 := Int.emod_lt_of_pos ((u * 4294967296 + u1) % v * 4294967296 + u0) (b := v) vpos; have h4 := Int.emod_nonneg ((u * 4294967296 + u1) % v * 4294967296 + u0) (b := v) (by omega); generalize (u * 4294967296 + u1) / v = q1 at *; generalize (u * 4294967296 + u1) % v = r1 at *; generalize (r1 * 4294967296 + u0) / v = q2 at *; generalize (r1 * 4294967296 + u0) % v = r2 at *; have hw := P.whole; have htt := P.tt; have hv := P.v_; have pp : (0 : Int) < 2 ^ k := Int.pow_pos (by omega); generalize (2 : Int) ^ k = p at *; generalize hi * 18446744073709551616 + lo = n at *
  have e1 : n * p = (q1 * 4294967296 + q2) * v + r2 := by
    rw [hw, htt]; grind
  have ypos : 0 < y := by
    by_cases c : 0 < y
    · exact c
    · have := Int.mul_le_mul_of_nonneg_right (show y ≤ 0 by omega) (show 0 ≤ p by omega)
      omega
  subst hv; have e2 : n * p / (y * p) = n / y := Int.mul_ediv_mul_of_pos_left n y pp
  have e3 : n * p / (y * p) = q1 * 4294967296 + q2 := by
    rw [e1, Int.add_comm, Int.add_mul_ediv_right _ _ (by omega), Int.ediv_eq_zero_of_lt h4 h3]; omega
  have e4 : n * p % (y * p) = n % y * p := by rw [Int.mul_comm n, Int.mul_comm y, Int.mul_emod_mul_of_pos n y pp, Int.mul_comm]
  have e5 : n * p % (y * p) = r2 := by
    rw [e1, Int.add_comm, Int.add_mul_emod_self_right, Int.emod_eq_of_lt h4 h3]
  refine ⟨by omega, ?_, h4⟩; rw [← e5, e4, Int.mul_ediv_cancel _ (by omega)]
set_option maxHeartbeats 1000000 in
theorem div_big (hi lo y : Int) (w : World) (h0 : 0 < hi) (h1 : hi < y) (h2 : y ≤ 18446744073709551615) (h3 : 0 ≤ lo) (h4 : lo ≤ 18446744073709551615) :
    Calls Tryz.prog 283 #[.int .u64 hi, .int .u64 lo, .int .u64 y] w fun e w' => e = .returned (.tuple #[.int .u64 ((hi * 18446744073709551616 + lo) / y), .int .u64 ((hi * 18446744073709551616 + lo) % y)]) ∧ w = w' := by
  go_enter Tryz.func283, Tryz.ntmps283; go_wp2_with fail; refine (lz_any _ _ (by omega) (by omega)).mono ?_; rintro e w' ⟨k, hk1, hk2, hk3, rfl, rfl⟩; obtain ⟨v, a, b, hs, ls, u, t, u1, u0, q, P⟩ := prep hi lo y k h0 h1 h3 h4 hk1 hk2 hk3; have v_ := P.v_; have a_ := P.a_; have b_ := P.b_; have hs_ := P.hs_; have ls_ := P.ls_; have u_ := P.u_; have t_ := P.t_; have u1_ := P.u1_; have u0_ := P.u0_; have q_ := P.q_; have d := P.d; have dq := d.qa; have g0 := d.start; rw [q_] at dq g0; obtain ⟨dq1, dq2, dq3, dq4, dq5, dq6⟩ := dq; have du0 := d.u0; have duv := d.uv; have dl0 := d.l0; have dl1 := d.l1; have da0 := d.a0; have da1 := d.a1; have db0 := d.b0; have db1 := d.b1; have dv1 : v ≤ 18446744073709551615 := by rw [← v_]; omega
  have dv0 : 9223372036854775808 ≤ v := by rw [← v_]; omega
  have t0 := P.t0; have t1 := P.t1; have w0 := P.w0; have w1 := P.w1; have hwhole := Lib.hid P.whole; have htt := Lib.hid P.tt; have hv_ := Lib.hid v_
  go_upto_block 0 with fail
  clear v_ a_ b_ hs_ ls_ u_ t_ u1_ u0_ q_
  go_cut [15] (fun x wx => x = .int .u64 ((u * 4294967296 + u1) / v) ∧ w = wx)
  case first =>
    go_wp2_with fail
    go_loop [15, 16] (fun x z => ∃ Q R : Int, Guess u u1 a v Q R ∧ R < 4294967296 ∧ x = .int .u64 Q ∧ z = .int .u64 R) (fun x _ => (intOf x).toNat)
    case atStart => exact ⟨u / a, u - u / a * a, d.start, by have := d.qa; omega, rfl, by rw [P.q_]⟩
    case round =>
      obtain ⟨Q, R, g, hR, rfl, rfl⟩ := hrel; have gb := g.bounds d; obtain ⟨gb1, gb2⟩ := gb; have gs := g; obtain ⟨gs1, gs2, gs3, gs4, gs5⟩ := gs; clear gs4 g0 P
      by_cases c : 4294967296 ≤ Q ∨ 4294967296 * R + u1 < Q * b
      · have gl := g.less d c
        obtain ⟨gl1, gl2⟩ := gl; have Hgl2 := Lib.hid gl2; clear gl2 g
        by_cases c1 : 4294967296 ≤ Q
        · by_cases c2 : 4294967296 ≤ R + a
          · go_wp2_with fail
            go_meet
            exact ⟨by rw [Hgl2.out.past d (by omega) c2], rfl⟩
          · go_wp2_with fail
            go_round
            case rel => exact ⟨Q - 1, R + a, Hgl2.out, by omega, rfl, rfl⟩
            case measure => simp [intOf]; omega
        · by_cases c2 : 4294967296 ≤ R + a
          · go_wp2_with fail
            go_meet
            exact ⟨by rw [Hgl2.out.past d (by omega) c2], rfl⟩
          · go_wp2_with fail
            go_round
            case rel => exact ⟨Q - 1, R + a, Hgl2.out, by omega, rfl, rfl⟩
            case measure => simp [intOf]; omega
      · have Hg := Lib.hid g
        clear g; go_wp2_with fail
        go_meet
        exact ⟨by rw [Hg.out.done d (by omega)], rfl⟩
  case rest =>
    obtain ⟨rfl, rfl⟩ := hcut; have d2 := d.second P.w0 P.w1; have hfin := P.final d d2; have hr := Lib.hid (d.rest dv1); have hr2 := Lib.hid (d2.rest dv1); have dlt := d.lt; have dge := d.ge; have dlt2 := d2.lt; have dge2 := d2.ge; clear P g0 d; generalize (u * 4294967296 + u1) / v = q1 at *; generalize (u * 4294967296 + u1) % v = r1 at *; have d2q := d2.qa; have d2s := d2.start; obtain ⟨e1, e2, e3, e4, e5, e6⟩ := d2q; have hr' := hr.out; have z0 := d2.u0; have z1 := d2.uv
    go_upto_block 2 with fail
    clear hr'
    go_cut [18] (fun x wx => x = .int .u64 ((r1 * 4294967296 + u0) / v) ∧ w = wx)
    case first =>
      go_wp2_with fail
      go_loop [18, 16] (fun x z => ∃ Q R : Int, Guess r1 u0 a v Q R ∧ R < 4294967296 ∧ x = .int .u64 Q ∧ z = .int .u64 R) (fun x _ => (intOf x).toNat)
      case atStart => exact ⟨r1 / a, r1 - r1 / a * a, d2.start, by have := d2.qa; omega, rfl, rfl⟩
      case round =>
        obtain ⟨Q, R, g, hR, rfl, rfl⟩ := hrel; have gb := g.bounds d2; obtain ⟨gb1, gb2⟩ := gb; have gs := g; obtain ⟨gs1, gs2, gs3, gs4, gs5⟩ := gs; clear gs4 d2s
        by_cases c : 4294967296 ≤ Q ∨ 4294967296 * R + u0 < Q * b
        · have gl := g.less d2 c
          obtain ⟨gl1, gl2⟩ := gl; have Hgl2 := Lib.hid gl2; clear gl2 g
          by_cases c1 : 4294967296 ≤ Q
          · by_cases c2 : 4294967296 ≤ R + a
            · go_wp2_with fail
              go_meet
              exact ⟨by rw [Hgl2.out.past d2 (by omega) c2], rfl⟩
            · go_wp2_with fail
              go_round
              case rel => exact ⟨Q - 1, R + a, Hgl2.out, by omega, rfl, rfl⟩
              case measure => simp [intOf]; omega
          · by_cases c2 : 4294967296 ≤ R + a
            · go_wp2_with fail
              go_meet
              exact ⟨by rw [Hgl2.out.past d2 (by omega) c2], rfl⟩
            · go_wp2_with fail
              go_round
              case rel => exact ⟨Q - 1, R + a, Hgl2.out, by omega, rfl, rfl⟩
              case measure => simp [intOf]; omega
        · have Hg := Lib.hid g
          clear g; go_wp2_with fail
          go_meet
          exact ⟨by rw [Hg.out.done d2 (by omega)], rfl⟩
    case rest =>
      obtain ⟨rfl, rfl⟩ := hcut; generalize (r1 * 4294967296 + u0) / v = q2 at *; generalize (r1 * 4294967296 + u0) % v = r2 at *; have hr2' := hr2.out; obtain ⟨hf1, hf2, hf3⟩ := hfin; have Hf1 := Lib.hid hf1; have Hf2 := Lib.hid hf2; clear hf1 hf2; go_wp2_with fail; go_ret2; exact ⟨ret_ii Hf1.out.symm Hf2.out.symm, rfl⟩
end Go.Proofs.YtbpkfnoenkoabaaGreatDoor

namespace Go.Proofs.YtbpkfnoenkoabaaGreatDoor
open Go.RowKit Lv
theorem div_small (lo y : Int) (w : World) (h1 : 0 < y) (h2 : y ≤ 18446744073709551615) (h3 : 0 ≤ lo) (h4 : lo ≤ 18446744073709551615) :
    Calls Tryz.prog 283 #[.int .u64 0, .int .u64 lo, .int .u64 y] w fun e w' => e = .returned (.tuple #[.int .u64 (lo / y), .int .u64 (lo % y)]) ∧ ∃ n, w' = w.drewN n := by
  have b1 : 0 ≤ lo / y := Int.ediv_nonneg h3 (by omega); have b2 : lo / y ≤ lo := Int.ediv_le_self y h3; have b3 := Int.emod_nonneg lo (b := y) (by omega); have b4 := Int.emod_lt_of_pos lo h1; have c : (y == 0) = false := beq_eq_false_iff_ne.2 (by omega); go_enter Tryz.func283, Tryz.ntmps283; go_wp2_with fail
  go_quiet (fail)
  go_wp2; go_ret2; exact ⟨rfl, _, rfl⟩
theorem div_any (hi lo y : Int) (w : World) (h : u64 hi) (h1 : hi < y) (h2 : y ≤ 18446744073709551615) (h' : u64 lo) :
    Calls Tryz.prog 283 #[.int .u64 hi, .int .u64 lo, .int .u64 y] w fun e w' => e = .returned (.tuple #[.int .u64 ((hi * 18446744073709551616 + lo) / y), .int .u64 ((hi * 18446744073709551616 + lo) % y)]) ∧ ∃ n, w' = w.drewN n := by
  obtain ⟨h3, h4⟩ := h'
  by_cases c : hi = 0
  · subst c
    rw [show 0 * 18446744073709551616 + lo = lo by omega]; exact div_small lo y w (by omega) h2 h3 h4
  · refine (div_big hi lo y w (by have := h.1; omega) h1 h2 h3 h4).mono ?_
    rintro e w' ⟨he, rfl⟩; exact ⟨he, 0, rfl⟩
theorem nearest_any (hi lo d : Int) (w : World) (h : u64 hi) (h' : u64 lo) (hd : u64 d) :
    Calls Tryz.prog 230 #[.int .u64 hi, .int .u64 lo, .int .u64 d] w fun e w' => e = .returned (.tuple #[.int .u64 (near (hi * 18446744073709551616 + lo) d).1, .bool (near (hi * 18446744073709551616 + lo) d).2]) ∧ ∃ n, w' = w.drewN n := by
  obtain ⟨d1, d2⟩ := hd
  by_cases c : d = 0
  · subst c
    rw [show near (hi * 18446744073709551616 + lo) 0 = (0, false) from if_neg (by simp)]; go_enter Tryz.func230, Tryz.ntmps230; go_wp2; go_ret2; exact ⟨rfl, 0, rfl⟩
  · obtain ⟨h1, h2⟩ := h
    have c' : (d == 0) = false := beq_eq_false_iff_ne.2 c
    by_cases c2 : d ≤ hi
    · have e1 : near (hi * 18446744073709551616 + lo) d = (0, false) := by
        refine if_neg ?_; have := h'.1
        have h5 : 18446744073709551616 ≤ (hi * 18446744073709551616 + lo) / d := by
          rw [Int.le_ediv_iff_mul_le (by omega)]; omega
        omega
      have E := Lib.hid e1; clear e1; go_enter Tryz.func230, Tryz.ntmps230; go_wp2; go_ret2; exact ⟨ret_p E.out, 0, rfl⟩
    · have hx0 : 0 ≤ hi * 18446744073709551616 + lo := by have := h'.1; omega
      have b1 : 0 ≤ (hi * 18446744073709551616 + lo) / d := Int.ediv_nonneg hx0 (by omega)
      have b2 : (hi * 18446744073709551616 + lo) / d ≤ 18446744073709551615 := by
        have : (hi * 18446744073709551616 + lo) / d < 18446744073709551616 := Int.ediv_lt_of_lt_mul (by omega) (by have := h'.2; omega)
        omega
      have b3 := Int.emod_nonneg (hi * 18446744073709551616 + lo) (b := d) (by omega); have b4 := Int.emod_lt_of_pos (hi * 18446744073709551616 + lo) (b := d) (by omega); have E := Lib.hid (show near (hi * 18446744073709551616 + lo) d = if d ≠ 0 ∧ (hi * 18446744073709551616 + lo) / d ≤ 9223372036854775807 then (rnd (hi * 18446744073709551616 + lo) d, true) else (0, false) from rfl); have R := Lib.hid (show rnd (hi * 18446744073709551616 + lo) d = (hi * 18446744073709551616 + lo) / d + if d ≤ 2 * ((hi * 18446744073709551616 + lo) % d) then 1 else 0 from rfl); have D := Lib.hid (div_any hi lo d w ⟨h1, h2⟩ (by omega) d2 h'); generalize near (hi * 18446744073709551616 + lo) d = N at *; generalize rnd (hi * 18446744073709551616 + lo) d = N2 at *; clear h'; generalize (hi * 18446744073709551616 + lo) / d = q at *; generalize (hi * 18446744073709551616 + lo) % d = r at *
      by_cases c3 : 9223372036854775807 < q
      · go_enter Tryz.func230, Tryz.ntmps230
        go_wp2_with (go_at_call 283; refine D.out.mono ?_; rintro e w' ⟨rfl, n, rfl⟩); go_ret2; exact ⟨ret_p (by rw [E.out, if_neg (by omega)]), _, rfl⟩
      · by_cases c4 : d - r ≤ r
        · go_enter Tryz.func230, Tryz.ntmps230
          go_wp2_with (go_at_call 283; refine D.out.mono ?_; rintro e w' ⟨rfl, n, rfl⟩); go_ret2; exact ⟨ret_p (by rw [E.out, R.out, if_pos (by omega), if_pos (by omega)]), _, rfl⟩
        · go_enter Tryz.func230, Tryz.ntmps230
          go_wp2_with (go_at_call 283; refine D.out.mono ?_; rintro e w' ⟨rfl, n, rfl⟩); go_ret2; exact ⟨ret_p (by rw [E.out, R.out, if_pos (by omega), if_neg (by omega)]; simp), _, rfl⟩
theorem scaled_any (a b d : Int) (ng : Bool) (w : World) (h : u64 a) (h' : u64 b) (hd : u64 d) :
    Calls Tryz.prog 187 #[.int .u64 a, .int .u64 b, .int .u64 d, .bool ng] w fun e w' => e = .returned (.tuple #[.int .i64 (scaled a b d ng).1, .bool (scaled a b d ng).2]) ∧ ∃ n, w' = w.drewN n := by
  obtain ⟨a, rfl⟩ := Int.eq_ofNat_of_zero_le h.1; obtain ⟨b, rfl⟩ := Int.eq_ofNat_of_zero_le h'.1; have ha := h.2; have hb := h'.2; have M := Lib.hid (Tryz.bits_Mul64 a b (by omega) (by omega) w)
  have hlt : a * b / 18446744073709551616 < 18446744073709551616 := by
    rw [Nat.div_lt_iff_lt_mul (by omega)]; exact Nat.mul_lt_mul_of_le_of_lt (show a ≤ 18446744073709551616 by omega) (by omega) (by omega)
  have hlo : a * b % 18446744073709551616 < 18446744073709551616 := Nat.mod_lt _ (by omega)
  have hsplit : ((a * b / 18446744073709551616 : Nat) : Int) * 18446744073709551616 + ((a * b % 18446744073709551616 : Nat) : Int) = (a : Int) * (b : Int) := by
    rw [← Int.natCast_mul]; omega
  have S := Lib.hid (show scaled a b d ng = if d = 0 then (0, false) else fit (sg ng (rnd ((a : Int) * b) d)) from rfl); generalize scaled a b d ng = Z at *; rw [← hsplit] at S; clear hsplit; generalize a * b / 18446744073709551616 = hi at *; generalize a * b % 18446744073709551616 = lo at *; have NE := fun w => nearest_any hi lo d w ⟨by omega, by omega⟩ ⟨by omega, by omega⟩ hd; generalize hx : (hi : Int) * 18446744073709551616 + (lo : Int) = x at *; have hx0 : 0 ≤ x := by omega
  clear hx; have d1 := hd.1; have hd2 := hd.2
  by_cases c : d ≠ 0 ∧ x / d ≤ 9223372036854775807
  · have e1 : near x d = (rnd x d, true) := if_pos c
    have q0 : 0 ≤ x / d := Int.ediv_nonneg hx0 d1; have rb := rnd_bounds x d; have SG := fun w => signed_any 0 (rnd x d) ng w ⟨by omega, by omega⟩ ⟨by omega, by omega⟩; have HN := Lib.hid NE; have HS := Lib.hid SG; have E := Lib.hid e1; clear NE SG e1 rb q0; rw [if_neg c.1] at S; clear c h h' hd; rw [E.out] at HN; go_enter Tryz.func187, Tryz.ntmps187; go_wp2_with fail; refine M.out.mono ?_; rintro e w' ⟨rfl, rfl⟩; go_wp2_with fail; refine (HN.out _).mono ?_; rintro e w' ⟨rfl, n, rfl⟩; go_wp2_with fail; refine (HS.out _).mono ?_; rintro e w' ⟨rfl, rfl⟩; go_wp2_with fail; go_ret2; exact ⟨ret_p (by rw [S.out]), _, rfl⟩
  · have e1 : near x d = (0, false) := if_neg c
    have HN := Lib.hid NE; have E := Lib.hid e1
    have e2 : (if d = 0 then (0, false) else fit (sg ng (rnd x d))) = ((0 : Int), false) := by
      by_cases c2 : d = 0
      · rw [if_pos c2]
      · rw [if_neg c2]
        have rb := rnd_bounds x d; refine fit_out ?_
        cases ng <;> simp only [sg] <;> simp <;> omega
    rw [e2] at S; clear NE e1 e2 c h h' hd; rw [E.out] at HN; go_enter Tryz.func187, Tryz.ntmps187; go_wp2_with fail; refine M.out.mono ?_; rintro e w' ⟨rfl, rfl⟩; go_wp2_with fail; refine (HN.out _).mono ?_; rintro e w' ⟨rfl, n, rfl⟩; go_wp2_with fail; go_ret2; exact ⟨ret_p S.out, _, rfl⟩
theorem neg_any (a : Int) (w : World) (h : i64 a) : Calls Tryz.prog 90 #[.int .i64 a] w fun e w' => e = .returned (.tuple #[.int .i64 (dNeg a).1, .bool (dNeg a).2]) ∧ ∃ n, w' = w.drewN n := by
  have hs : fit (sg (decide (0 < a)) (0 * 18446744073709551616 + Lv.abs a)) = dNeg a := by
    unfold dNeg
    congr 1
    unfold sg Lv.abs
    by_cases c : 0 < a
    · simp [c]; omega
    · simp [c]; omega
  have S := Lib.hid (signed_any 0 (Lv.abs a) (decide (0 < a)) w ⟨by omega, by omega⟩ (abs_u64 h)); rw [hs] at S; have Z := Lib.hid (size_any a w h); obtain ⟨h1, h2⟩ := h; go_enter Tryz.func90, Tryz.ntmps90; go_wp2_with fail; refine Z.out.mono ?_; rintro e w' ⟨rfl, rfl⟩; go_wp2_with fail; refine S.out.mono ?_; rintro e w' ⟨rfl, rfl⟩; go_wp2_with fail; go_ret2; exact ⟨rfl, 0, rfl⟩
theorem mul_any (a b : Int) (w : World) (h : i64 a) (h' : i64 b) : Calls Tryz.prog 172 #[.int .i64 a, .int .i64 b] w fun e w' => e = .returned (.tuple #[.int .i64 (dMul a b).1, .bool (dMul a b).2]) ∧ ∃ n, w' = w.drewN n := by
  have hs : scaled (Lv.abs a) (Lv.abs b) 10000 (decide (a < 0) != decide (b < 0)) = dMul a b := by
    unfold dMul scaled; rw [if_neg (by omega)]; rfl
  have S := fun w => scaled_any (Lv.abs a) (Lv.abs b) 10000 (decide (a < 0) != decide (b < 0)) w (abs_u64 h) (abs_u64 h') ⟨by omega, by omega⟩; rw [hs] at S; have HS := Lib.hid S; have Z := Lib.hid (fun w => size_any a w h); have Z2 := Lib.hid (fun w => size_any b w h'); clear S hs; obtain ⟨h1, h2⟩ := h; go_enter Tryz.func172, Tryz.ntmps172; go_wp2_with fail; refine (Z.out _).mono ?_; rintro e w' ⟨rfl, rfl⟩; go_wp2_with fail; refine (Z2.out _).mono ?_; rintro e w' ⟨rfl, rfl⟩; go_wp2_with fail; refine (HS.out _).mono ?_; rintro e w' ⟨rfl, n, rfl⟩; go_wp2_with fail; go_ret2; exact ⟨rfl, _, rfl⟩
theorem quo_any (a b : Int) (w : World) (h : i64 a) (h' : i64 b) : Calls Tryz.prog 93 #[.int .i64 a, .int .i64 b] w fun e w' => e = .returned (.tuple #[.int .i64 (dQuo a b).1, .bool (dQuo a b).2]) ∧ ∃ n, w' = w.drewN n := by
  have hs : scaled (Lv.abs a) 10000 (Lv.abs b) (decide (a < 0) != decide (b < 0)) = dQuo a b := by
    unfold dQuo scaled
    by_cases c : b = 0
    · rw [if_pos c, if_pos ((abs_zero b).2 c)]
    · rw [if_neg c, if_neg (fun x => c ((abs_zero b).1 x))]; rfl
  have S := fun w => scaled_any (Lv.abs a) 10000 (Lv.abs b) (decide (a < 0) != decide (b < 0)) w (abs_u64 h) ⟨by omega, by omega⟩ (abs_u64 h'); rw [hs] at S; have HS := Lib.hid S; have Z := Lib.hid (fun w => size_any a w h); have Z2 := Lib.hid (fun w => size_any b w h'); clear S hs; obtain ⟨h1, h2⟩ := h; go_enter Tryz.func93, Tryz.ntmps93; go_wp2_with fail; refine (Z.out _).mono ?_; rintro e w' ⟨rfl, rfl⟩; go_wp2_with fail; refine (Z2.out _).mono ?_; rintro e w' ⟨rfl, rfl⟩; go_wp2_with fail; refine (HS.out _).mono ?_; rintro e w' ⟨rfl, n, rfl⟩; go_wp2_with fail; go_ret2; exact ⟨rfl, _, rfl⟩
end Go.Proofs.YtbpkfnoenkoabaaGreatDoor

namespace Go.Proofs.YtbpkfnoenkoabaaGreatDoor
open Go.RowKit Lv
set_option maxHeartbeats 800000 in
theorem sqrt_nat (n : Nat) (w : World) (hn : n ≤ 9223372036854775807) : Calls Tryz.prog 159 #[.int .i64 n] w fun e w' => e = .returned (.tuple #[.int .i64 (root n), .bool true]) ∧ w = w' := by
  have M := Lib.hid (Tryz.bits_Mul64 n 10000 (by omega) (by omega) w); have X1 : n * 10000 / 18446744073709551616 * 18446744073709551616 + n * 10000 % 18446744073709551616 = n * 10000 := by omega
  have X2 : n * 10000 < 1208925819614629174706176 := by omega
  have X3 : n * 10000 / 18446744073709551616 ≤ 65536 := by omega
  have X4 : n * 10000 % 18446744073709551616 < 18446744073709551616 := by omega
  have HX := Lib.hid X1; clear X1; generalize n * 10000 / 18446744073709551616 = hi at *; generalize n * 10000 % 18446744073709551616 = lo at *; go_enter Tryz.func159, Tryz.ntmps159; go_wp2_with fail; refine (M.out).mono ?_; rintro e w' ⟨rfl, rfl⟩; go_wp2_with fail
  go_loop [6, 19] (fun x i => ∃ k q r : Nat, k ≤ 40 ∧ r = q * 2 ^ (40 - k) ∧ i = .int .i64 k ∧ x = .int .u64 (r : Int) ∧ r * r ≤ n * 10000 ∧ n * 10000 < (r + 2 ^ (40 - k)) * (r + 2 ^ (40 - k))) (fun _ i => 40 - (intOf i).toNat)
  case atStart => exact ⟨0, 0, 0, by omega, by simp, rfl, rfl, by omega, by simp; omega⟩
  case round =>
    obtain ⟨k, q, r, hk, hr, rfl, rfl, h1, h2⟩ := hrel
    have r40 : r < 1099511627776 := by
      have : (r : Int) < 1099511627776 := sq_lt (by omega) (by omega) (by have := Int.ofNat_le.2 h1; simp at this; omega)
      omega
    by_cases c : k < 40
    · obtain ⟨m, hm⟩ : ∃ m : Nat, m = 2 ^ (39 - k) := ⟨_, rfl⟩
      have hp : (2 : Nat) ^ (40 - k) = 2 * m := by rw [hm, show 40 - k = (39 - k) + 1 by omega, Nat.pow_succ]; omega
      have m0 : 0 < m := by rw [hm]; exact Nat.two_pow_pos _
      have m1 : m ≤ 549755813888 := by rw [hm]; exact Nat.pow_le_pow_right (n := 2) (by omega) (show 39 - k ≤ 39 by omega)
      obtain ⟨s, hs⟩ : ∃ s : Nat, s = r + m := ⟨_, rfl⟩
      have e3 : bits .or .u64 (r : Int) (IntKind.u64.wrap (2 ^ (39 - k))) = (s : Int) := by
        have e : IntKind.u64.wrap (2 ^ (39 - k)) = (m : Int) := by
          have e4 : ((2 ^ (39 - k) : Nat) : Int) = 2 ^ (39 - k) := by simp
          rw [← e4, ← hm]; exact wrap_in _ (by omega) (by omega)
        rw [e, hs, hr]; exact or_add q (40 - k) m (by omega) (by omega)
      have hs0 : s < 18446744073709551616 := by omega
      have MM := Lib.hid (Tryz.bits_Mul64 s s hs0 hs0); have ss : s * s / 18446744073709551616 * 18446744073709551616 + s * s % 18446744073709551616 = s * s := by omega
      have sl : s * s % 18446744073709551616 < 18446744073709551616 := Nat.mod_lt _ (by omega); have hx := HX.out; have HS := Lib.hid hs; have HM := Lib.hid hm; have HR := Lib.hid hr; have HP := Lib.hid hp; have H1 := Lib.hid h1; have H2 := Lib.hid h2; have A1 : Hid (r + 2 ^ (40 - k) = s + 2 ^ (40 - (k + 1))) := by rw [hp, show 40 - (k + 1) = 39 - k by omega, ← hm, hs]; show _ = _; omega
      have A2 : Hid (s = (2 * q + 1) * 2 ^ (40 - (k + 1))) := by rw [show 40 - (k + 1) = 39 - k by omega, ← hm, hs, hr, hp, Nat.add_mul]; show _ = _; rw [show 2 * q * m = q * (2 * m) by rw [Nat.mul_comm 2 q, Nat.mul_assoc]]; omega
      have A3 : Hid (r = (2 * q) * 2 ^ (40 - (k + 1))) := by rw [show 40 - (k + 1) = 39 - k by omega, ← hm, hr, hp]; show _ = _; rw [Nat.mul_comm 2 q, Nat.mul_assoc]
      have A4 : Hid (r + 2 ^ (40 - (k + 1)) = s) := by rw [show 40 - (k + 1) = 39 - k by omega, ← hm, hs]; rfl
      clear hs hm hr hp h1 h2; generalize s * s / 18446744073709551616 = hh at *; generalize s * s % 18446744073709551616 = ll at *
      by_cases T : s * s ≤ n * 10000
      · have R : Hid (s * s ≤ n * 10000) := T
        by_cases g : hh < hi
        · clear hx ss T
          go_wp2_with fail; refine (MM.out _).mono ?_; rintro e w' ⟨rfl, rfl⟩; go_wp2_with fail
          go_round
          case rel => exact ⟨k + 1, 2 * q + 1, s, by omega, A2.out, by go_num, rfl, R.out, by rw [← A1.out]; exact H2.out⟩
          case measure => simp [intOf]; omega
        · have g1 : ((hh : Int) == (hi : Int)) = true := by rw [beq_iff_eq]; omega
          have g2 : ll ≤ lo := by omega
          clear hx ss T; go_wp2_with fail; refine (MM.out _).mono ?_; rintro e w' ⟨rfl, rfl⟩; go_wp2_with fail
          go_round
          case rel => exact ⟨k + 1, 2 * q + 1, s, by omega, A2.out, by go_num, rfl, R.out, by rw [← A1.out]; exact H2.out⟩
          case measure => simp [intOf]; omega
      · have R : Hid (n * 10000 < s * s) := by show _ < _; omega
        have g : ¬ hh < hi := by omega
        by_cases g0 : hh = hi
        · have g1 : ((hh : Int) == (hi : Int)) = true := by rw [beq_iff_eq]; omega
          have g2 : ¬ ll ≤ lo := by omega
          clear hx ss T g0; go_wp2_with fail; refine (MM.out _).mono ?_; rintro e w' ⟨rfl, rfl⟩; go_wp2_with fail
          go_round
          case rel => exact ⟨k + 1, 2 * q, r, by omega, A3.out, by go_num, rfl, H1.out, by rw [A4.out]; exact R.out⟩
          case measure => simp [intOf]; omega
        · have g1 : ((hh : Int) == (hi : Int)) = false := by rw [beq_eq_false_iff_ne]; omega
          clear hx ss T g0; go_wp2_with fail; refine (MM.out _).mono ?_; rintro e w' ⟨rfl, rfl⟩; go_wp2_with fail
          go_round
          case rel => exact ⟨k + 1, 2 * q, r, by omega, A3.out, by go_num, rfl, H1.out, by rw [A4.out]; exact R.out⟩
          case measure => simp [intOf]; omega
    · obtain rfl : k = 40 := by omega
      have E : Hid ((r : Int) = root n) := by
        refine root_unique (by omega) (by omega) ?_ ?_
        · have := Int.ofNat_le.2 h1; simpa using this
        · have := Int.ofNat_lt.2 h2; simpa using this
      clear h1 h2 hr; go_wp2_with fail; go_ret2; exact ⟨ret_ib E.out rfl, rfl⟩
theorem sqrt_any (a : Int) (w : World) (h : i64 a) : Calls Tryz.prog 159 #[.int .i64 a] w fun e w' => e = .returned (.tuple #[.int .i64 (dSqrt a).1, .bool (dSqrt a).2]) ∧ w = w' := by
  by_cases c : a < 0
  · have E : Hid (dSqrt a = (0, false)) := if_pos c
    go_enter Tryz.func159, Tryz.ntmps159; go_wp2_with fail; go_ret2; exact ⟨ret_p E.out, rfl⟩
  · have E : dSqrt a = ((root a : Int), true) := if_neg c
    rw [E]; obtain ⟨n, rfl⟩ := Int.eq_ofNat_of_zero_le (show 0 ≤ a by omega); exact sqrt_nat n w (by have := h.2; omega)
end Go.Proofs.YtbpkfnoenkoabaaGreatDoor

namespace Go.Proofs.YtbpkfnoenkoabaaGreatDoor
open Go.RowKit Lv
end Go.Proofs.YtbpkfnoenkoabaaGreatDoor

namespace Go.Proofs.YtbpkfnoenkoabaaGreatDoor.Lv
open Go
structure Bits (X T Y : Int) (k : Nat) : Prop where
  le : k ≤ 128
  e : X * 2 ^ k = T * 340282366920938463463374607431768211456 + Y
  t0 : 0 ≤ T
  y0 : 0 ≤ Y
  y1 : Y < 340282366920938463463374607431768211456
theorem Bits.start {X : Int} (h : 0 ≤ X) (g : X < 340282366920938463463374607431768211456) : Bits X 0 X 0 := ⟨by omega, by simp, by omega, h, g⟩
theorem Bits.done {X T Y : Int} (b : Bits X T Y 128) : T = X := by
  obtain ⟨h1, h2, h3, h4, h5⟩ := b; have h8 : (2 : Int) ^ 128 = 340282366920938463463374607431768211456 := by decide
  rw [h8] at h2
  omega
end Go.Proofs.YtbpkfnoenkoabaaGreatDoor.Lv

namespace Go.Proofs.YtbpkfnoenkoabaaGreatDoor
open Go.RowKit Lv
end Go.Proofs.YtbpkfnoenkoabaaGreatDoor

namespace Go.Proofs.YtbpkfnoenkoabaaGreatDoor
open Go.RowKit Lv
end Go.Proofs.YtbpkfnoenkoabaaGreatDoor

namespace Go.Proofs.YtbpkfnoenkoabaaGreatDoor
open Go.RowKit Lv
def subEntry : Array Value → Sem Value := fun args => do
  let (x, y, b) ← Extern.MathBitsCarry.three "Sub64" args
  pure (Extern.MathBitsCarry.pair ((x + Extern.MathBitsCarry.m64 - y - b) % Extern.MathBitsCarry.m64) (if x < y + b then 1 else 0))
theorem run_sub_nat (x y b : Nat) (hb : b ≤ 1) (w : World) :
    (subEntry #[.int .u64 x, .int .u64 y, .int .u64 b]).run Tryz.prog w =
      .ok (.tuple #[.int .u64 (((x + 18446744073709551616 - y - b) % 18446744073709551616 : Nat) : Int), .int .u64 ((if x < y + b then 1 else 0 : Nat) : Int)]) w := by
  have : b = 0 ∨ b = 1 := by omega
  rcases this with rfl | rfl <;> rfl
theorem run_add (x y c : Int) (h : u64 x) (h' : u64 y) (c0 : 0 ≤ c) (c1 : c ≤ 1) (w : World) :
    (callFunc 284 #[.int .u64 x, .int .u64 y, .int .u64 c]).run Tryz.prog w = .ok (.value (.tuple #[.int .u64 ((x + y + c) % 18446744073709551616), .int .u64 ((x + y + c) / 18446744073709551616)])) w := by
  rw [run_callFunc_extern Tryz.func284 (by kernel_rfl) (by kernel_rfl) (by kernel_rfl) (e := add64Entry) (by kernel_rfl), run_add64 x y c h.1 h'.1 c0 c1]
  rfl
theorem run_sub (x y b : Int) (h : u64 x) (h' : u64 y) (b0 : 0 ≤ b) (b1 : b ≤ 1) (w : World) :
    (callFunc 285 #[.int .u64 x, .int .u64 y, .int .u64 b]).run Tryz.prog w = .ok (.value (.tuple #[.int .u64 ((x - y - b) % 18446744073709551616), .int .u64 (if x < y + b then 1 else 0)])) w := by
  obtain ⟨x, rfl⟩ := Int.eq_ofNat_of_zero_le h.1; obtain ⟨y, rfl⟩ := Int.eq_ofNat_of_zero_le h'.1; obtain ⟨b, rfl⟩ := Int.eq_ofNat_of_zero_le b0; rw [run_callFunc_extern Tryz.func285 (by kernel_rfl) (by kernel_rfl) (by kernel_rfl) (e := subEntry) (by kernel_rfl), run_sub_nat x y b (by omega)]; have h2 := h'.2; have e1 : (((x + 18446744073709551616 - y - b) % 18446744073709551616 : Nat) : Int) = ((x : Int) - y - b) % 18446744073709551616 := by omega
  have e2 : ((if x < y + b then 1 else 0 : Nat) : Int) = if (x : Int) < y + b then 1 else 0 := by
    by_cases c : x < y + b
    · rw [if_pos c, if_pos (by omega)]; rfl
    · rw [if_neg c, if_neg (by omega)]; rfl
  rw [e1, e2]
  rfl
set_option maxHeartbeats 400000 in
theorem add_ff (h0 h1 l0 l1 a : Int) (g : Nat) (w : World) (ha : i64 a) (hb : Box w g 249 #[.int .u64 h0, .int .u64 h1, .int .u64 l0, .int .u64 l1]) (uh : u64 h0) (ul : u64 l0) (c : 0 ≤ a) (hc : h0 < 18446744073709551615) :
    Calls Tryz.prog 235 #[.pointer (some ⟨g, 0, none⟩), .int .i64 a, .bool false] w fun e w' => e = .returned (.tuple #[]) ∧ Only g w w' ∧
      Box w' g 249 #[.int .u64 (h0 + (l0 + Lv.abs a) / 18446744073709551616), .int .u64 h1, .int .u64 ((l0 + Lv.abs a) % 18446744073709551616), .int .u64 l1] := by
  have hA := run_add l0 (Lv.abs a) 0 ul (abs_u64 ha) (by omega) (by omega); rw [show l0 + Lv.abs a + 0 = l0 + Lv.abs a by omega] at hA; have hs := fun w => size_any a w ha; have b0 : w.cell? ⟨g, 0, none⟩ = some (.int .u64 h0) := hb.cell 0; have b1 : w.cell? ⟨g, 1, none⟩ = some (.int .u64 h1) := hb.cell 1; have b2 : w.cell? ⟨g, 2, none⟩ = some (.int .u64 l0) := hb.cell 2; have b3 : w.cell? ⟨g, 3, none⟩ = some (.int .u64 l1) := hb.cell 3; have f0 := hb.loose 0; have f1 := hb.loose 1; have f2 := hb.loose 2; have f3 := hb.loose 3; have HB := Lib.hid hb; clear hb; go_enter Tryz.func235, Tryz.ntmps235; go_wp2_with fail
  go_quiet ((go_at_call 185; first | exact quiet_same (hs _) | exact quiet_same_drewN (hs _)))
  have au := abs_u64 ha; obtain ⟨au1, au2⟩ := au; obtain ⟨uh1, uh2⟩ := uh; obtain ⟨ul1, ul2⟩ := ul; have k0 : 0 ≤ (l0 + Lv.abs a) / 18446744073709551616 := by omega
  have k1 : (l0 + Lv.abs a) / 18446744073709551616 ≤ 1 := by omega
  go_wp2_with fail
  go_region
  go_end0
  have hb := HB.out; exact ⟨rfl, by repeat (first | with_reducible exact Only.refl _ _ | with_reducible apply Only.drew | with_reducible apply Only.drewN | with_reducible apply Only.setCell), bxd⟩
set_option maxHeartbeats 400000 in
theorem add_ft (h0 h1 l0 l1 a : Int) (g : Nat) (w : World) (ha : i64 a) (hb : Box w g 249 #[.int .u64 h0, .int .u64 h1, .int .u64 l0, .int .u64 l1]) (uh : u64 h1) (ul : u64 l1) (c : a < 0) (hc : h1 < 18446744073709551615) :
    Calls Tryz.prog 235 #[.pointer (some ⟨g, 0, none⟩), .int .i64 a, .bool false] w fun e w' => e = .returned (.tuple #[]) ∧ Only g w w' ∧
      Box w' g 249 #[.int .u64 h0, .int .u64 (h1 + (l1 + Lv.abs a) / 18446744073709551616), .int .u64 l0, .int .u64 ((l1 + Lv.abs a) % 18446744073709551616)] := by
  have hA := run_add l1 (Lv.abs a) 0 ul (abs_u64 ha) (by omega) (by omega); rw [show l1 + Lv.abs a + 0 = l1 + Lv.abs a by omega] at hA; have hs := fun w => size_any a w ha; have b0 : w.cell? ⟨g, 0, none⟩ = some (.int .u64 h0) := hb.cell 0; have b1 : w.cell? ⟨g, 1, none⟩ = some (.int .u64 h1) := hb.cell 1; have b2 : w.cell? ⟨g, 2, none⟩ = some (.int .u64 l0) := hb.cell 2; have b3 : w.cell? ⟨g, 3, none⟩ = some (.int .u64 l1) := hb.cell 3; have f0 := hb.loose 0; have f1 := hb.loose 1; have f2 := hb.loose 2; have f3 := hb.loose 3; have HB := Lib.hid hb; clear hb; go_enter Tryz.func235, Tryz.ntmps235; go_wp2_with fail
  go_quiet ((go_at_call 185; first | exact quiet_same (hs _) | exact quiet_same_drewN (hs _)))
  have au := abs_u64 ha; obtain ⟨au1, au2⟩ := au; obtain ⟨uh1, uh2⟩ := uh; obtain ⟨ul1, ul2⟩ := ul; have k0 : 0 ≤ (l1 + Lv.abs a) / 18446744073709551616 := by omega
  have k1 : (l1 + Lv.abs a) / 18446744073709551616 ≤ 1 := by omega
  go_wp2_with fail
  go_region
  go_end0
  have hb := HB.out; exact ⟨rfl, by repeat (first | with_reducible exact Only.refl _ _ | with_reducible apply Only.drew | with_reducible apply Only.drewN | with_reducible apply Only.setCell), bxd⟩
set_option maxHeartbeats 400000 in
theorem add_tf (h0 h1 l0 l1 a : Int) (g : Nat) (w : World) (ha : i64 a) (hb : Box w g 249 #[.int .u64 h0, .int .u64 h1, .int .u64 l0, .int .u64 l1]) (uh : u64 h1) (ul : u64 l1) (c : 0 ≤ a) (hc : h1 < 18446744073709551615) :
    Calls Tryz.prog 235 #[.pointer (some ⟨g, 0, none⟩), .int .i64 a, .bool true] w fun e w' => e = .returned (.tuple #[]) ∧ Only g w w' ∧
      Box w' g 249 #[.int .u64 h0, .int .u64 (h1 + (l1 + Lv.abs a) / 18446744073709551616), .int .u64 l0, .int .u64 ((l1 + Lv.abs a) % 18446744073709551616)] := by
  have hA := run_add l1 (Lv.abs a) 0 ul (abs_u64 ha) (by omega) (by omega); rw [show l1 + Lv.abs a + 0 = l1 + Lv.abs a by omega] at hA; have hs := fun w => size_any a w ha; have b0 : w.cell? ⟨g, 0, none⟩ = some (.int .u64 h0) := hb.cell 0; have b1 : w.cell? ⟨g, 1, none⟩ = some (.int .u64 h1) := hb.cell 1; have b2 : w.cell? ⟨g, 2, none⟩ = some (.int .u64 l0) := hb.cell 2; have b3 : w.cell? ⟨g, 3, none⟩ = some (.int .u64 l1) := hb.cell 3; have f0 := hb.loose 0; have f1 := hb.loose 1; have f2 := hb.loose 2; have f3 := hb.loose 3; have c' : decide (a < 0) = false := decide_eq_false (by omega); have HB := Lib.hid hb; clear hb; go_enter Tryz.func235, Tryz.ntmps235; go_wp2_with fail
  go_quiet ((go_at_call 185; first | exact quiet_same (hs _) | exact quiet_same_drewN (hs _)))
  have au := abs_u64 ha; obtain ⟨au1, au2⟩ := au; obtain ⟨uh1, uh2⟩ := uh; obtain ⟨ul1, ul2⟩ := ul; have k0 : 0 ≤ (l1 + Lv.abs a) / 18446744073709551616 := by omega
  have k1 : (l1 + Lv.abs a) / 18446744073709551616 ≤ 1 := by omega
  go_wp2_with fail
  go_region
  go_end0
  have hb := HB.out; exact ⟨rfl, by repeat (first | with_reducible exact Only.refl _ _ | with_reducible apply Only.drew | with_reducible apply Only.drewN | with_reducible apply Only.setCell), bxd⟩
set_option maxHeartbeats 400000 in
theorem add_tt (h0 h1 l0 l1 a : Int) (g : Nat) (w : World) (ha : i64 a) (hb : Box w g 249 #[.int .u64 h0, .int .u64 h1, .int .u64 l0, .int .u64 l1]) (uh : u64 h0) (ul : u64 l0) (c : a < 0) (hc : h0 < 18446744073709551615) :
    Calls Tryz.prog 235 #[.pointer (some ⟨g, 0, none⟩), .int .i64 a, .bool true] w fun e w' => e = .returned (.tuple #[]) ∧ Only g w w' ∧
      Box w' g 249 #[.int .u64 (h0 + (l0 + Lv.abs a) / 18446744073709551616), .int .u64 h1, .int .u64 ((l0 + Lv.abs a) % 18446744073709551616), .int .u64 l1] := by
  have hA := run_add l0 (Lv.abs a) 0 ul (abs_u64 ha) (by omega) (by omega); rw [show l0 + Lv.abs a + 0 = l0 + Lv.abs a by omega] at hA; have hs := fun w => size_any a w ha; have b0 : w.cell? ⟨g, 0, none⟩ = some (.int .u64 h0) := hb.cell 0; have b1 : w.cell? ⟨g, 1, none⟩ = some (.int .u64 h1) := hb.cell 1; have b2 : w.cell? ⟨g, 2, none⟩ = some (.int .u64 l0) := hb.cell 2; have b3 : w.cell? ⟨g, 3, none⟩ = some (.int .u64 l1) := hb.cell 3; have f0 := hb.loose 0; have f1 := hb.loose 1; have f2 := hb.loose 2; have f3 := hb.loose 3; have HB := Lib.hid hb; clear hb; go_enter Tryz.func235, Tryz.ntmps235; go_wp2_with fail
  go_quiet ((go_at_call 185; first | exact quiet_same (hs _) | exact quiet_same_drewN (hs _)))
  have au := abs_u64 ha; obtain ⟨au1, au2⟩ := au; obtain ⟨uh1, uh2⟩ := uh; obtain ⟨ul1, ul2⟩ := ul; have k0 : 0 ≤ (l0 + Lv.abs a) / 18446744073709551616 := by omega
  have k1 : (l0 + Lv.abs a) / 18446744073709551616 ≤ 1 := by omega
  go_wp2_with fail
  go_region
  go_end0
  have hb := HB.out; exact ⟨rfl, by repeat (first | with_reducible exact Only.refl _ _ | with_reducible apply Only.drew | with_reducible apply Only.drewN | with_reducible apply Only.setCell), bxd⟩
end Go.Proofs.YtbpkfnoenkoabaaGreatDoor

namespace Go.Proofs.YtbpkfnoenkoabaaGreatDoor
open Go.RowKit Lv
theorem run_sub_is (x y b d k : Int) (h : u64 x) (h' : u64 y) (b0 : 0 ≤ b) (b1 : b ≤ 1) (hd : u64 d) (k0 : 0 ≤ k) (k1 : k ≤ 1) (he : d = x - y - b + k * 18446744073709551616) (w : World) :
    (callFunc 285 #[.int .u64 x, .int .u64 y, .int .u64 b]).run Tryz.prog w = .ok (.value (.tuple #[.int .u64 d, .int .u64 k])) w := by
  rw [run_sub x y b h h' b0 b1]; obtain ⟨h1, h2⟩ := h; obtain ⟨h3, h4⟩ := h'; obtain ⟨h5, h6⟩ := hd; have e1 : (x - y - b) % 18446744073709551616 = d := by omega
  have e2 : (if x < y + b then (1 : Int) else 0) = k := by split <;> omega
  rw [e1, e2]
theorem ret_iib' {a b c d : Int} {x y : Bool} (h : a = b) (g : c = d) (i : x = y) : Ending.returned (.tuple #[.int .u64 a, .int .u64 c, .bool x]) = .returned (.tuple #[.int .u64 b, .int .u64 d, .bool y]) := by rw [h, g, i]
set_option maxHeartbeats 1000000 in
theorem all_A (h0 h1 l0 l1 : Int) (g : Nat) (w : World) (hb : Box w g 249 #[.int .u64 h0, .int .u64 h1, .int .u64 l0, .int .u64 l1]) (u0 : u64 h0) (u1 : u64 h1) (v0 : u64 l0) (v1 : u64 l1) (c1 : l1 ≤ l0) (c2 : h1 ≤ h0) :
    Calls Tryz.prog 236 #[.pointer (some ⟨g, 0, none⟩)] w fun e w' => e = .returned (.tuple #[.int .u64 (hi64 (Lv.abs (wd h0 l0 - wd h1 l1))), .int .u64 (lo64 (Lv.abs (wd h0 l0 - wd h1 l1))), .bool (Lv.neg (wd h0 l0 - wd h1 l1))]) ∧ ∃ n, w' = w.drewN n := by
  have b0 : w.cell? ⟨g, 0, none⟩ = some (.int .u64 h0) := hb.cell 0; have b1 : w.cell? ⟨g, 1, none⟩ = some (.int .u64 h1) := hb.cell 1; have b2 : w.cell? ⟨g, 2, none⟩ = some (.int .u64 l0) := hb.cell 2; have b3 : w.cell? ⟨g, 3, none⟩ = some (.int .u64 l1) := hb.cell 3; clear hb; have U0 := u0; have U1 := u1; have V0 := v0; have V1 := v1; obtain ⟨U0, U0'⟩ := U0; obtain ⟨U1, U1'⟩ := U1; obtain ⟨V0, V0'⟩ := V0; obtain ⟨V1, V1'⟩ := V1; obtain ⟨lo, hlo⟩ : ∃ lo, lo = l0 - l1 := ⟨_, rfl⟩; obtain ⟨hi, hhi⟩ : ∃ hi, hi = h0 - h1 := ⟨_, rfl⟩; have s1 := run_sub_is l0 l1 0 lo 0 v0 v1 (by omega) (by omega) ⟨by omega, by omega⟩ (by omega) (by omega) (by omega); have s2 := run_sub_is h0 h1 0 hi 0 u0 u1 (by omega) (by omega) ⟨by omega, by omega⟩ (by omega) (by omega) (by omega); have e : 0 ≤ wd h0 l0 - wd h1 l1 := by unfold wd; omega
  have E1 : hi = hi64 (Lv.abs (wd h0 l0 - wd h1 l1)) := by unfold Lv.abs hi64 wd at *; rw [if_neg (by omega)]; omega
  have E2 : lo = lo64 (Lv.abs (wd h0 l0 - wd h1 l1)) := by unfold Lv.abs lo64 wd at *; rw [if_neg (by omega)]; omega
  have E3 : false = Lv.neg (wd h0 l0 - wd h1 l1) := (decide_eq_false (by omega)).symm; have HE1 := Lib.hid E1; have HE2 := Lib.hid E2; have HE3 := Lib.hid E3; clear c1 c2 E1 E2 E3 e u0 u1 v0 v1 hlo hhi; go_enter Tryz.func236, Tryz.ntmps236; go_wp2_with fail
  go_quiet (fail)
  go_wp2_with fail
  go_quiet (fail)
  go_wp2_with fail
  go_ret3
  exact ⟨ret_iib' HE1.out HE2.out HE3.out, _, rfl⟩
set_option maxHeartbeats 1000000 in
theorem all_B0 (h0 h1 l0 l1 : Int) (g : Nat) (w : World) (hb : Box w g 249 #[.int .u64 h0, .int .u64 h1, .int .u64 l0, .int .u64 l1]) (u0 : u64 h0) (u1 : u64 h1) (v0 : u64 l0) (v1 : u64 l1) (c1 : l1 = l0) (c2 : h0 < h1) :
    Calls Tryz.prog 236 #[.pointer (some ⟨g, 0, none⟩)] w fun e w' => e = .returned (.tuple #[.int .u64 (hi64 (Lv.abs (wd h0 l0 - wd h1 l1))), .int .u64 (lo64 (Lv.abs (wd h0 l0 - wd h1 l1))), .bool (Lv.neg (wd h0 l0 - wd h1 l1))]) ∧ ∃ n, w' = w.drewN n := by
  have b0 : w.cell? ⟨g, 0, none⟩ = some (.int .u64 h0) := hb.cell 0; have b1 : w.cell? ⟨g, 1, none⟩ = some (.int .u64 h1) := hb.cell 1; have b2 : w.cell? ⟨g, 2, none⟩ = some (.int .u64 l0) := hb.cell 2; have b3 : w.cell? ⟨g, 3, none⟩ = some (.int .u64 l1) := hb.cell 3; clear hb; have U0 := u0; have U1 := u1; have V0 := v0; have V1 := v1; obtain ⟨U0, U0'⟩ := U0; obtain ⟨U1, U1'⟩ := U1; obtain ⟨V0, V0'⟩ := V0; obtain ⟨V1, V1'⟩ := V1; obtain ⟨lo, hlo⟩ : ∃ lo, lo = l0 - l1 := ⟨_, rfl⟩; obtain ⟨hi, hhi⟩ : ∃ hi, hi = h0 - h1 + 18446744073709551616 := ⟨_, rfl⟩; have s1 := run_sub_is l0 l1 0 lo 0 v0 v1 (by omega) (by omega) ⟨by omega, by omega⟩ (by omega) (by omega) (by omega); have s2 := run_sub_is h0 h1 0 hi 1 u0 u1 (by omega) (by omega) ⟨by omega, by omega⟩ (by omega) (by omega) (by omega); obtain ⟨lo2, hlo2⟩ : ∃ lo2, lo2 = 0 := ⟨_, rfl⟩; obtain ⟨hi2, hhi2⟩ : ∃ hi2, hi2 = h1 - h0 := ⟨_, rfl⟩; have s3 := run_sub_is 0 lo 0 lo2 0 ⟨by omega, by omega⟩ ⟨by omega, by omega⟩ (by omega) (by omega) ⟨by omega, by omega⟩ (by omega) (by omega) (by omega); have s4 := run_sub_is 0 hi 0 hi2 1 ⟨by omega, by omega⟩ ⟨by omega, by omega⟩ (by omega) (by omega) ⟨by omega, by omega⟩ (by omega) (by omega) (by omega); have e : wd h0 l0 - wd h1 l1 < 0 := by unfold wd; omega
  have E1 : hi2 = hi64 (Lv.abs (wd h0 l0 - wd h1 l1)) := by unfold Lv.abs hi64 wd at *; rw [if_pos (by omega)]; omega
  have E2 : lo2 = lo64 (Lv.abs (wd h0 l0 - wd h1 l1)) := by unfold Lv.abs lo64 wd at *; rw [if_pos (by omega)]; omega
  have E3 : true = Lv.neg (wd h0 l0 - wd h1 l1) := (decide_eq_true (by omega)).symm; have HE1 := Lib.hid E1; have HE2 := Lib.hid E2; have HE3 := Lib.hid E3; clear c1 c2 E1 E2 E3 e u0 u1 v0 v1 hlo hhi hlo2 hhi2; go_enter Tryz.func236, Tryz.ntmps236; go_wp2_with fail
  go_quiet (fail)
  go_wp2_with fail
  go_quiet (fail)
  go_wp2_with fail
  go_ret3
  exact ⟨ret_iib' HE1.out HE2.out HE3.out, _, rfl⟩
set_option maxHeartbeats 1000000 in
theorem all_B1 (h0 h1 l0 l1 : Int) (g : Nat) (w : World) (hb : Box w g 249 #[.int .u64 h0, .int .u64 h1, .int .u64 l0, .int .u64 l1]) (u0 : u64 h0) (u1 : u64 h1) (v0 : u64 l0) (v1 : u64 l1) (c1 : l1 < l0) (c2 : h0 < h1) :
    Calls Tryz.prog 236 #[.pointer (some ⟨g, 0, none⟩)] w fun e w' => e = .returned (.tuple #[.int .u64 (hi64 (Lv.abs (wd h0 l0 - wd h1 l1))), .int .u64 (lo64 (Lv.abs (wd h0 l0 - wd h1 l1))), .bool (Lv.neg (wd h0 l0 - wd h1 l1))]) ∧ ∃ n, w' = w.drewN n := by
  have b0 : w.cell? ⟨g, 0, none⟩ = some (.int .u64 h0) := hb.cell 0; have b1 : w.cell? ⟨g, 1, none⟩ = some (.int .u64 h1) := hb.cell 1; have b2 : w.cell? ⟨g, 2, none⟩ = some (.int .u64 l0) := hb.cell 2; have b3 : w.cell? ⟨g, 3, none⟩ = some (.int .u64 l1) := hb.cell 3; clear hb; have U0 := u0; have U1 := u1; have V0 := v0; have V1 := v1; obtain ⟨U0, U0'⟩ := U0; obtain ⟨U1, U1'⟩ := U1; obtain ⟨V0, V0'⟩ := V0; obtain ⟨V1, V1'⟩ := V1; obtain ⟨lo, hlo⟩ : ∃ lo, lo = l0 - l1 := ⟨_, rfl⟩; obtain ⟨hi, hhi⟩ : ∃ hi, hi = h0 - h1 + 18446744073709551616 := ⟨_, rfl⟩; have s1 := run_sub_is l0 l1 0 lo 0 v0 v1 (by omega) (by omega) ⟨by omega, by omega⟩ (by omega) (by omega) (by omega); have s2 := run_sub_is h0 h1 0 hi 1 u0 u1 (by omega) (by omega) ⟨by omega, by omega⟩ (by omega) (by omega) (by omega); obtain ⟨lo2, hlo2⟩ : ∃ lo2, lo2 = l1 - l0 + 18446744073709551616 := ⟨_, rfl⟩; obtain ⟨hi2, hhi2⟩ : ∃ hi2, hi2 = h1 - h0 - 1 := ⟨_, rfl⟩; have s3 := run_sub_is 0 lo 0 lo2 1 ⟨by omega, by omega⟩ ⟨by omega, by omega⟩ (by omega) (by omega) ⟨by omega, by omega⟩ (by omega) (by omega) (by omega); have s4 := run_sub_is 0 hi 1 hi2 1 ⟨by omega, by omega⟩ ⟨by omega, by omega⟩ (by omega) (by omega) ⟨by omega, by omega⟩ (by omega) (by omega) (by omega); have e : wd h0 l0 - wd h1 l1 < 0 := by unfold wd; omega
  have E1 : hi2 = hi64 (Lv.abs (wd h0 l0 - wd h1 l1)) := by unfold Lv.abs hi64 wd at *; rw [if_pos (by omega)]; omega
  have E2 : lo2 = lo64 (Lv.abs (wd h0 l0 - wd h1 l1)) := by unfold Lv.abs lo64 wd at *; rw [if_pos (by omega)]; omega
  have E3 : true = Lv.neg (wd h0 l0 - wd h1 l1) := (decide_eq_true (by omega)).symm; have HE1 := Lib.hid E1; have HE2 := Lib.hid E2; have HE3 := Lib.hid E3; clear c1 c2 E1 E2 E3 e u0 u1 v0 v1 hlo hhi hlo2 hhi2; go_enter Tryz.func236, Tryz.ntmps236; go_wp2_with fail
  go_quiet (fail)
  go_wp2_with fail
  go_quiet (fail)
  go_wp2_with fail
  go_ret3
  exact ⟨ret_iib' HE1.out HE2.out HE3.out, _, rfl⟩
set_option maxHeartbeats 1000000 in
theorem all_C (h0 h1 l0 l1 : Int) (g : Nat) (w : World) (hb : Box w g 249 #[.int .u64 h0, .int .u64 h1, .int .u64 l0, .int .u64 l1]) (u0 : u64 h0) (u1 : u64 h1) (v0 : u64 l0) (v1 : u64 l1) (c1 : l0 < l1) (c2 : h1 < h0) :
    Calls Tryz.prog 236 #[.pointer (some ⟨g, 0, none⟩)] w fun e w' => e = .returned (.tuple #[.int .u64 (hi64 (Lv.abs (wd h0 l0 - wd h1 l1))), .int .u64 (lo64 (Lv.abs (wd h0 l0 - wd h1 l1))), .bool (Lv.neg (wd h0 l0 - wd h1 l1))]) ∧ ∃ n, w' = w.drewN n := by
  have b0 : w.cell? ⟨g, 0, none⟩ = some (.int .u64 h0) := hb.cell 0; have b1 : w.cell? ⟨g, 1, none⟩ = some (.int .u64 h1) := hb.cell 1; have b2 : w.cell? ⟨g, 2, none⟩ = some (.int .u64 l0) := hb.cell 2; have b3 : w.cell? ⟨g, 3, none⟩ = some (.int .u64 l1) := hb.cell 3; clear hb; have U0 := u0; have U1 := u1; have V0 := v0; have V1 := v1; obtain ⟨U0, U0'⟩ := U0; obtain ⟨U1, U1'⟩ := U1; obtain ⟨V0, V0'⟩ := V0; obtain ⟨V1, V1'⟩ := V1; obtain ⟨lo, hlo⟩ : ∃ lo, lo = l0 - l1 + 18446744073709551616 := ⟨_, rfl⟩; obtain ⟨hi, hhi⟩ : ∃ hi, hi = h0 - h1 - 1 := ⟨_, rfl⟩; have s1 := run_sub_is l0 l1 0 lo 1 v0 v1 (by omega) (by omega) ⟨by omega, by omega⟩ (by omega) (by omega) (by omega); have s2 := run_sub_is h0 h1 1 hi 0 u0 u1 (by omega) (by omega) ⟨by omega, by omega⟩ (by omega) (by omega) (by omega); have e : 0 ≤ wd h0 l0 - wd h1 l1 := by unfold wd; omega
  have E1 : hi = hi64 (Lv.abs (wd h0 l0 - wd h1 l1)) := by unfold Lv.abs hi64 wd at *; rw [if_neg (by omega)]; omega
  have E2 : lo = lo64 (Lv.abs (wd h0 l0 - wd h1 l1)) := by unfold Lv.abs lo64 wd at *; rw [if_neg (by omega)]; omega
  have E3 : false = Lv.neg (wd h0 l0 - wd h1 l1) := (decide_eq_false (by omega)).symm; have HE1 := Lib.hid E1; have HE2 := Lib.hid E2; have HE3 := Lib.hid E3; clear c1 c2 E1 E2 E3 e u0 u1 v0 v1 hlo hhi; go_enter Tryz.func236, Tryz.ntmps236; go_wp2_with fail
  go_quiet (fail)
  go_wp2_with fail
  go_quiet (fail)
  go_wp2_with fail
  go_ret3
  exact ⟨ret_iib' HE1.out HE2.out HE3.out, _, rfl⟩
set_option maxHeartbeats 1000000 in
theorem all_D (h0 h1 l0 l1 : Int) (g : Nat) (w : World) (hb : Box w g 249 #[.int .u64 h0, .int .u64 h1, .int .u64 l0, .int .u64 l1]) (u0 : u64 h0) (u1 : u64 h1) (v0 : u64 l0) (v1 : u64 l1) (c1 : l0 < l1) (c2 : h0 ≤ h1) :
    Calls Tryz.prog 236 #[.pointer (some ⟨g, 0, none⟩)] w fun e w' => e = .returned (.tuple #[.int .u64 (hi64 (Lv.abs (wd h0 l0 - wd h1 l1))), .int .u64 (lo64 (Lv.abs (wd h0 l0 - wd h1 l1))), .bool (Lv.neg (wd h0 l0 - wd h1 l1))]) ∧ ∃ n, w' = w.drewN n := by
  have b0 : w.cell? ⟨g, 0, none⟩ = some (.int .u64 h0) := hb.cell 0; have b1 : w.cell? ⟨g, 1, none⟩ = some (.int .u64 h1) := hb.cell 1; have b2 : w.cell? ⟨g, 2, none⟩ = some (.int .u64 l0) := hb.cell 2; have b3 : w.cell? ⟨g, 3, none⟩ = some (.int .u64 l1) := hb.cell 3; clear hb; have U0 := u0; have U1 := u1; have V0 := v0; have V1 := v1; obtain ⟨U0, U0'⟩ := U0; obtain ⟨U1, U1'⟩ := U1; obtain ⟨V0, V0'⟩ := V0; obtain ⟨V1, V1'⟩ := V1; obtain ⟨lo, hlo⟩ : ∃ lo, lo = l0 - l1 + 18446744073709551616 := ⟨_, rfl⟩; obtain ⟨hi, hhi⟩ : ∃ hi, hi = h0 - h1 - 1 + 18446744073709551616 := ⟨_, rfl⟩; have s1 := run_sub_is l0 l1 0 lo 1 v0 v1 (by omega) (by omega) ⟨by omega, by omega⟩ (by omega) (by omega) (by omega); have s2 := run_sub_is h0 h1 1 hi 1 u0 u1 (by omega) (by omega) ⟨by omega, by omega⟩ (by omega) (by omega) (by omega); obtain ⟨lo2, hlo2⟩ : ∃ lo2, lo2 = l1 - l0 := ⟨_, rfl⟩; obtain ⟨hi2, hhi2⟩ : ∃ hi2, hi2 = h1 - h0 := ⟨_, rfl⟩; have s3 := run_sub_is 0 lo 0 lo2 1 ⟨by omega, by omega⟩ ⟨by omega, by omega⟩ (by omega) (by omega) ⟨by omega, by omega⟩ (by omega) (by omega) (by omega); have s4 := run_sub_is 0 hi 1 hi2 1 ⟨by omega, by omega⟩ ⟨by omega, by omega⟩ (by omega) (by omega) ⟨by omega, by omega⟩ (by omega) (by omega) (by omega); have e : wd h0 l0 - wd h1 l1 < 0 := by unfold wd; omega
  have E1 : hi2 = hi64 (Lv.abs (wd h0 l0 - wd h1 l1)) := by unfold Lv.abs hi64 wd at *; rw [if_pos (by omega)]; omega
  have E2 : lo2 = lo64 (Lv.abs (wd h0 l0 - wd h1 l1)) := by unfold Lv.abs lo64 wd at *; rw [if_pos (by omega)]; omega
  have E3 : true = Lv.neg (wd h0 l0 - wd h1 l1) := (decide_eq_true (by omega)).symm; have HE1 := Lib.hid E1; have HE2 := Lib.hid E2; have HE3 := Lib.hid E3; clear c1 c2 E1 E2 E3 e u0 u1 v0 v1 hlo hhi hlo2 hhi2; go_enter Tryz.func236, Tryz.ntmps236; go_wp2_with fail
  go_quiet (fail)
  go_wp2_with fail
  go_quiet (fail)
  go_wp2_with fail
  go_ret3
  exact ⟨ret_iib' HE1.out HE2.out HE3.out, _, rfl⟩
theorem all_any (h0 h1 l0 l1 : Int) (g : Nat) (w : World) (hb : Box w g 249 #[.int .u64 h0, .int .u64 h1, .int .u64 l0, .int .u64 l1]) (u0 : u64 h0) (u1 : u64 h1) (v0 : u64 l0) (v1 : u64 l1) :
    Calls Tryz.prog 236 #[.pointer (some ⟨g, 0, none⟩)] w fun e w' => e = .returned (.tuple #[.int .u64 (hi64 (Lv.abs (wd h0 l0 - wd h1 l1))), .int .u64 (lo64 (Lv.abs (wd h0 l0 - wd h1 l1))), .bool (Lv.neg (wd h0 l0 - wd h1 l1))]) ∧ ∃ n, w' = w.drewN n := by
  by_cases c1 : l0 < l1
  · by_cases c2 : h1 < h0
    · exact all_C h0 h1 l0 l1 g w hb u0 u1 v0 v1 c1 c2
    · exact all_D h0 h1 l0 l1 g w hb u0 u1 v0 v1 c1 (by omega)
  · by_cases c2 : h1 ≤ h0
    · exact all_A h0 h1 l0 l1 g w hb u0 u1 v0 v1 (by omega) c2
    · by_cases c3 : l1 = l0
      · exact all_B0 h0 h1 l0 l1 g w hb u0 u1 v0 v1 c3 (by omega)
      · exact all_B1 h0 h1 l0 l1 g w hb u0 u1 v0 v1 (by omega) (by omega)
end Go.Proofs.YtbpkfnoenkoabaaGreatDoor
