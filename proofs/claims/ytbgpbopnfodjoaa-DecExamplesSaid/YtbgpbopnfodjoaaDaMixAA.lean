/- Small texts together: MDec, Base, WDec0, MText, Base2, Base3, WText1, Bytes, MParse, WDigits, BaLib, WParse, WParse2. -/
import Derived.WalkKit
import Derived.Lib.Hide
import Derived.Test.YtbgpbopnfodjoaaProg
import Derived.ProofKit
import Derived.Outline
import Derived.Lib.ItoaNum
import Derived.Deep.QuietTactic
import Derived.BigQuiet
import Derived.Deep.DeepCutAuto
import Derived.Deep.CutBlock
import Derived.Laws.Rows
import Derived.Handy
import Derived.Laws.BytesArg
import Derived.Lib.AppendStr
import Derived.Laws.AppendOwn
import Derived.Laws.OwnMore
import Derived.OwnWalk
import Derived.Lib.ConvBytes
set_option linter.unusedVariables false
set_option linter.unusedSimpArgs false
namespace Go.Proofs.Ytbgpbopnfodjoaa.Lv
open Go
def sg (ng : Bool) (n : Int) : Int := if ng then -n else n
def fit (n : Int) : Int × Bool := if -9223372036854775807 ≤ n ∧ n ≤ 9223372036854775807 then (n, true) else (0, false)
def rnd (x d : Int) : Int := x / d + if d ≤ 2 * (x % d) then 1 else 0
def near (x d : Int) : Int × Bool := if d ≠ 0 ∧ x / d ≤ 9223372036854775807 then (rnd x d, true) else (0, false)
def abs (a : Int) : Int := if a < 0 then -a else a
def neg (a : Int) : Bool := decide (a < 0)
def scaled (a b d : Int) (ng : Bool) : Int × Bool := if d = 0 then (0, false) else fit (sg ng (rnd (a * b) d))
def dMul (a b : Int) : Int × Bool := fit (sg (neg a != neg b) (rnd (abs a * abs b) 10000))
def dQuo (a b : Int) : Int × Bool := if b = 0 then (0, false) else fit (sg (neg a != neg b) (rnd (abs a * 10000) (abs b)))
def dNeg (a : Int) : Int × Bool := fit (-a)
def i64 (a : Int) : Prop := -9223372036854775808 ≤ a ∧ a ≤ 9223372036854775807
def u64 (a : Int) : Prop := 0 ≤ a ∧ a ≤ 18446744073709551615
theorem fit_in {n : Int} (h : -9223372036854775807 ≤ n) (g : n ≤ 9223372036854775807) : fit n = (n, true) := if_pos ⟨h, g⟩
theorem fit_out {n : Int} (h : n < -9223372036854775807 ∨ 9223372036854775807 < n) : fit n = (0, false) := if_neg (by omega)
theorem abs_nonneg (a : Int) : 0 ≤ abs a := by unfold abs; split <;> omega
theorem abs_le {a : Int} (h : i64 a) : abs a ≤ 9223372036854775808 := by unfold abs; obtain ⟨h1, h2⟩ := h; split <;> omega
theorem rnd_bounds (x d : Int) : x / d ≤ rnd x d ∧ rnd x d ≤ x / d + 1 := by unfold rnd; split <;> omega
theorem abs_zero (b : Int) : abs b = 0 ↔ b = 0 := by unfold abs; split <;> omega
theorem sg_neg_abs (a : Int) : sg (neg a) (abs a) = a := by unfold sg neg abs; by_cases h : a < 0 <;> simp [h]
end Go.Proofs.Ytbgpbopnfodjoaa.Lv

namespace Go.Proofs.Ytbgpbopnfodjoaa
open Go.RowKit
theorem ret_int {k : IntKind} {a b : Int} (h : a = b) : Ending.returned (.int k a) = .returned (.int k b) := by rw [h]
theorem ret_ii {k l : IntKind} {a b c d : Int} (h : a = b) (g : c = d) : Ending.returned (.tuple #[.int k a, .int l c]) = .returned (.tuple #[.int k b, .int l d]) := by rw [h, g]
theorem ret_ib {k : IntKind} {a b : Int} {c d : Bool} (h : a = b) (g : c = d) : Ending.returned (.tuple #[.int k a, .bool c]) = .returned (.tuple #[.int k b, .bool d]) := by rw [h, g]
theorem ret_p {k : IntKind} {a : Int} {c : Bool} {p : Int × Bool} (h : p = (a, c)) : Ending.returned (.tuple #[.int k a, .bool c]) = .returned (.tuple #[.int k p.1, .bool p.2]) := by rw [h]
abbrev Kept (w w' : World) : Prop := Below w.heap.size w w'
theorem Kept.refl (w : World) : Kept w w := Below.refl _ _
theorem Kept.trans {a b c : World} (h : Kept a b) (k : Kept b c) : Kept a c := Below.trans h (k.mono h.size)
end Go.Proofs.Ytbgpbopnfodjoaa

namespace Go.Proofs.Ytbgpbopnfodjoaa
open Go.RowKit Lv
theorem size_any (a : Int) (w : World) (h : i64 a) : Calls Try.prog 23 #[.int .i64 a] w fun e w' => e = .returned (.int .u64 (Lv.abs a)) ∧ w = w' := by
  obtain ⟨h1, h2⟩ := h
  by_cases c : a < 0
  · have e1 : Lv.abs a = -(a + 1) + 1 := by unfold Lv.abs; rw [if_pos c]; omega
    have E := Lib.hid e1; clear e1; go_enter Try.func23, Try.ntmps23; go_wp2; go_ret; exact ⟨ret_int E.out.symm, rfl⟩
  · have e1 : Lv.abs a = a := by unfold Lv.abs; rw [if_neg c]
    have E := Lib.hid e1; clear e1; go_enter Try.func23, Try.ntmps23; go_wp2; go_ret; exact ⟨ret_int E.out.symm, rfl⟩
theorem signed_any (hi lo : Int) (ng : Bool) (w : World) (h : u64 hi) (h' : u64 lo) :
    Calls Try.prog 21 #[.int .u64 hi, .int .u64 lo, .bool ng] w fun e w' => e = .returned (.tuple #[.int .i64 (fit (sg ng (hi * 18446744073709551616 + lo))).1, .bool (fit (sg ng (hi * 18446744073709551616 + lo))).2]) ∧ w = w' := by
  obtain ⟨h1, h2⟩ := h; obtain ⟨h3, h4⟩ := h'
  by_cases c : hi = 0
  · subst c
    by_cases c2 : lo ≤ 9223372036854775807
    · have e1 : fit (sg ng (0 * 18446744073709551616 + lo)) = (sg ng lo, true) := by
        rw [show 0 * 18446744073709551616 + lo = lo by omega]
        cases ng
        · exact fit_in (by simp [sg]; omega) (by simp [sg]; omega)
        · exact fit_in (by simp [sg]; omega) (by simp [sg]; omega)
      rw [e1]
      cases ng
      · go_enter Try.func21, Try.ntmps21
        go_wp2; go_ret2; exact ⟨rfl, rfl⟩
      · go_enter Try.func21, Try.ntmps21
        go_wp2; go_ret2; exact ⟨rfl, rfl⟩
    · have e1 : fit (sg ng (0 * 18446744073709551616 + lo)) = (0, false) := by
        refine fit_out ?_; cases ng <;> simp only [sg] <;> simp <;> omega
      rw [e1]; go_enter Try.func21, Try.ntmps21; go_wp2; go_ret2; exact ⟨rfl, rfl⟩
  · have e1 : fit (sg ng (hi * 18446744073709551616 + lo)) = (0, false) := by
      refine fit_out ?_; cases ng <;> simp only [sg] <;> simp <;> omega
    rw [e1]; have c' : (hi != 0) = true := by rw [bne_iff_ne]; exact c
    go_enter Try.func21, Try.ntmps21; go_wp2; go_ret2; exact ⟨rfl, rfl⟩
theorem abs_u64 {a : Int} (h : i64 a) : u64 (Lv.abs a) := ⟨abs_nonneg a, by have := abs_le h; omega⟩
end Go.Proofs.Ytbgpbopnfodjoaa

namespace Go.Proofs.Ytbgpbopnfodjoaa.Lv
open Go
def dg : Nat → Nat → List UInt8
  | 0, _ => []
  | f + 1, n => if n < 10 then [UInt8.ofNat (48 + n)] else dg f (n / 10) ++ [UInt8.ofNat (48 + n % 10)]
theorem dg_fuel : ∀ (f n : Nat), n < 10 ^ f → 0 < f → dg f n = dg (f + 1) n
  | 0, _, _, h => absurd h (by omega)
  | 1, n, h, _ => by
    have : n < 10 := by simpa using h
    simp [dg, this]
  | f + 2, n, h, _ => by
    unfold dg
    by_cases c : n < 10
    · simp [c]
    · rw [if_neg c, if_neg c, dg_fuel (f + 1) (n / 10) (by rw [Nat.div_lt_iff_lt_mul (by omega)]; rw [Nat.pow_succ] at h; exact h) (by omega)]
def digs (n : Nat) : List UInt8 := dg 20 n
theorem digs_lt {n : Nat} (h : n < 10) : digs n = [UInt8.ofNat (48 + n)] := by unfold digs dg; rw [if_pos h]
theorem digs_ge {n : Nat} (h : 10 ≤ n) (g : n < 100000000000000000000) : digs n = digs (n / 10) ++ [UInt8.ofNat (48 + n % 10)] := by
  have e : dg 19 (n / 10) = dg 20 (n / 10) := dg_fuel 19 (n / 10) (by omega) (by omega); show dg 20 n = dg 20 (n / 10) ++ _; rw [← e]
  conv => lhs; unfold dg
  rw [if_neg (by omega)]
theorem digs_len {n : Nat} : ∀ (k : Nat), n < 10 ^ k → 0 < k → k ≤ 20 → (digs n).length ≤ k := by
  intro k
  induction k generalizing n with
  | zero => intro _ h; omega
  | succ k ih =>
    intro h _ hk; have h20 : (10 : Nat) ^ (k + 1) ≤ 10 ^ 20 := Nat.pow_le_pow_right (by omega) hk
    by_cases c : n < 10
    · rw [digs_lt c]; simp
    · rw [digs_ge (by omega) (by omega)]
      have hk0 : 0 < k := by
        rcases Nat.eq_zero_or_pos k with h0 | h0
        · subst h0; simp at h; omega
        · exact h0
      have := ih (n := n / 10) (by rw [Nat.div_lt_iff_lt_mul (by omega)]; rw [Nat.pow_succ] at h; exact h) hk0 (by omega)
      simp; omega
def cells20 (S : List UInt8) : Array Value := (List.replicate (20 - S.length) (Value.int .u8 0) ++ S.map (fun b => Value.int .u8 b.toNat)).toArray
theorem cells20_nil : cells20 [] = #[.int .u8 0, .int .u8 0, .int .u8 0, .int .u8 0, .int .u8 0, .int .u8 0, .int .u8 0, .int .u8 0, .int .u8 0, .int .u8 0, .int .u8 0, .int .u8 0, .int .u8 0, .int .u8 0, .int .u8 0, .int .u8 0, .int .u8 0, .int .u8 0, .int .u8 0, .int .u8 0] := rfl
theorem cells20_cons {S : List UInt8} {c : UInt8} (h : S.length < 20) : (cells20 S).setIfInBounds (19 - S.length) (.int .u8 c.toNat) = cells20 (c :: S) := by
  unfold cells20; apply Array.ext'
  simp only [List.setIfInBounds_toArray, List.length_cons, List.map_cons]
  rw [List.set_append_left _ _ (by simp; omega)]; have e : 20 - S.length = (20 - (S.length + 1)) + 1 := by omega
  have e2 : 19 - S.length = 20 - (S.length + 1) := by omega
  rw [e, e2, List.replicate_succ', List.set_append_right _ _ (by simp)]
  simp
theorem cells20_get {S : List UInt8} (h : S.length ≤ 20) {i : Nat} (hi : i < S.length) : (cells20 S)[20 - S.length + i]? = some (.int .u8 ((S.map (fun b => (b.toNat : Int))).getD i 0)) := by
  unfold cells20
  simp only [List.getElem?_toArray]
  rw [List.getElem?_append_right (by simp)]
  simp [hi]
theorem cells20_some {S : List UInt8} (h : S.length ≤ 20) {i : Nat} (hi : i < 20) : ∃ v, (cells20 S)[i]? = some v := by
  have : i < (cells20 S).size := by unfold cells20; simp; omega
  exact ⟨_, Array.getElem?_eq_getElem this⟩
def strip (l : List UInt8) : List UInt8 := (l.reverse.dropWhile (· == 48)).reverse
theorem strip_zero (l : List UInt8) : strip (l ++ [48]) = strip l := by unfold strip; simp
theorem strip_other (l : List UInt8) {c : UInt8} (h : c ≠ 48) : strip (l ++ [c]) = l ++ [c] := by
  unfold strip; rw [List.reverse_append]
  simp only [List.reverse_cons, List.reverse_nil, List.nil_append, List.singleton_append]
  rw [List.dropWhile_cons_of_neg (by simpa using h)]
  simp
def fmt (a : Int) : List UInt8 :=
  (if a < 0 then [45] else []) ++ digs (a.natAbs / 10000) ++ (if a.natAbs % 10000 = 0 then [] else 46 :: strip ((digs (10000 + a.natAbs % 10000)).drop 1))
def four (p : Nat) : List UInt8 := [UInt8.ofNat (48 + p / 1000), UInt8.ofNat (48 + p / 100 % 10), UInt8.ofNat (48 + p / 10 % 10), UInt8.ofNat (48 + p % 10)]
theorem digs_four {p : Nat} (h : p < 10000) : digs (10000 + p) = 49 :: four p := by
  rw [digs_ge (by omega) (by omega), show (10000 + p) / 10 = 1000 + p / 10 by omega, digs_ge (by omega) (by omega), show (1000 + p / 10) / 10 = 100 + p / 100 by omega,
    digs_ge (by omega) (by omega), show (100 + p / 100) / 10 = 10 + p / 1000 by omega, digs_ge (by omega) (by omega), show (10 + p / 1000) / 10 = 1 by omega, digs_lt (by omega)]
  rw [show (10000 + p) % 10 = p % 10 by omega, show (1000 + p / 10) % 10 = p / 10 % 10 by omega, show (100 + p / 100) % 10 = p / 100 % 10 by omega, show (10 + p / 1000) % 10 = p / 1000 by omega]
  rfl
theorem digit_zero {d : Nat} (h : d < 10) : UInt8.ofNat (48 + d) = 48 ↔ d = 0 := by
  constructor
  · intro e
    have := congrArg UInt8.toNat e
    simp at this
    omega
  · rintro rfl; rfl
theorem four_some {p : Nat} (h : p < 10000) (h0 : p ≠ 0) : ∃ x ∈ four p, x ≠ 48 := by
  by_cases c0 : p % 10 = 0
  · by_cases c1 : p / 10 % 10 = 0
    · by_cases c2 : p / 100 % 10 = 0
      · exact ⟨UInt8.ofNat (48 + p / 1000), by simp [four], fun e => by rw [digit_zero (by omega)] at e; omega⟩
      · exact ⟨UInt8.ofNat (48 + p / 100 % 10), by simp [four], fun e => by rw [digit_zero (by omega)] at e; omega⟩
    · exact ⟨UInt8.ofNat (48 + p / 10 % 10), by simp [four], fun e => by rw [digit_zero (by omega)] at e; omega⟩
  · exact ⟨UInt8.ofNat (48 + p % 10), by simp [four], fun e => by rw [digit_zero (by omega)] at e; omega⟩
theorem last_apart {l : List UInt8} (h : 0 < l.length) : ∃ (m : List UInt8) (c : UInt8), l = m ++ [c] := by
  rcases List.eq_nil_or_concat l with h0 | ⟨m, c, h0⟩
  · subst h0; simp at h
  · exact ⟨m, c, by rw [h0, List.concat_eq_append]⟩
end Go.Proofs.Ytbgpbopnfodjoaa.Lv

namespace Go.Proofs.Ytbgpbopnfodjoaa
open Go.RowKit
theorem Kept.alloc {a w : World} (h : Kept a w) (o : Obj) : Kept a (w.alloc o) := Below.alloc h h.size o
theorem Kept.drew {a w : World} (h : Kept a w) : Kept a w.drew := Below.drew h
theorem Kept.drewN {a w : World} (h : Kept a w) (n : Nat) : Kept a (w.drewN n) := by
  induction n with
  | zero => exact h
  | succ n ih => exact Below.drew ih
theorem Kept.setCell {a w : World} (h : Kept a w) {p : Addr} (hp : a.heap.size ≤ p.block) (u : Value) : Kept a (w.setCell p u) := Below.setCell h hp u
theorem Kept.setCellX {a w : World} {p : Addr} (hp : a.heap.size ≤ p.block) (h : Kept a w) (u : Value) : Kept a (w.setCell p u) := Below.setCell h hp u
theorem Kept.of_drewN {w : World} (n : Nat) : Kept w (w.drewN n) := (Kept.refl w).drewN n
theorem kpt {a w : World} (h : Kept a w := by repeat (first | with_reducible exact Kept.refl _ | with_reducible apply Kept.drew | with_reducible apply Kept.drewN | with_reducible apply Kept.alloc | (with_reducible refine Kept.setCellX ?_ ?_ _; focus (first | (simp; done) | (simp; omega))) | (with_reducible refine Kept.trans ?_ (by assumption)))) : Kept a w := h
end Go.Proofs.Ytbgpbopnfodjoaa

namespace Go.Proofs.Ytbgpbopnfodjoaa
open Go.RowKit
def Box (w : World) (g : Nat) (t : TypeId) (cs : Array Value) : Prop := w.heap[g]? = some (.cells cs t (0, 0))
section
variable {w w' : World} {g : Nat} {t : TypeId} {cs : Array Value}
theorem Box.inside (h : Box w g t cs) : g < w.heap.size := (Array.getElem?_eq_some_iff.1 h).1
theorem Box.cell (h : Box w g t cs) (i : Nat) : w.cell? ⟨g, i, none⟩ = cs[i]? := cell_of_row w g i cs t (0, 0) h
theorem Box.loose (h : Box w g t cs) (i : Nat) : w.frozen? ⟨g, i, none⟩ = false := by simp only [World.frozen?, show w.heap[g]? = _ from h]; simp
theorem Box.new (w : World) (t : TypeId) (cs : Array Value) : Box (w.alloc (.cells cs t)) w.heap.size t cs := Go.heap_alloc_new w _
theorem Box.newAt {w : World} {g : Nat} (h : w.heap.size = g) (t : TypeId) (cs : Array Value) : Box (w.alloc (.cells cs t)) g t cs := by subst h; exact Box.new w t cs
theorem Box.drew (h : Box w g t cs) : Box w.drew g t cs := h
theorem Box.drewN (h : Box w g t cs) (n : Nat) : Box (w.drewN n) g t cs := by
  induction n with
  | zero => exact h
  | succ n ih => exact ih
theorem Box.alloc (h : Box w g t cs) (o : Obj) : Box (w.alloc o) g t cs := (Below.heap_alloc w o g h.inside).trans h
theorem Box.at_ (h : Box w g t cs) (i : Nat) (u : Value) : Box (w.setCell ⟨g, i, none⟩ u) g t (cs.setIfInBounds i u) := by
  show ((w.setCell ⟨g, i, none⟩ u).heap)[g]? = _
  simp only [World.setCell, Array.getElem?_modify, show w.heap[g]? = _ from h]
  simp
theorem Box.far (h : Box w g t cs) {p : Addr} (hp : g ≠ p.block) (u : Value) : Box (w.setCell p u) g t cs := (Below.heap_setCell w p u g hp).trans h
theorem Box.farX {p : Addr} (hp : g ≠ p.block) (h : Box w g t cs) (u : Value) : Box (w.setCell p u) g t cs := h.far hp u
theorem Box.kept (k : Kept w w') (h : Box w g t cs) : Box w' g t cs := (k.block g h.inside).trans h
end
section
variable {w : World} {g : Nat} {t : TypeId} {a b c d u : Value}
theorem Box.s1 (h : Box w g t #[a]) (u : Value) : Box (w.setCell ⟨g, 0, none⟩ u) g t #[u] := h.at_ 0 u
theorem Box.s20 (h : Box w g t #[a, b]) (u : Value) : Box (w.setCell ⟨g, 0, none⟩ u) g t #[u, b] := h.at_ 0 u
theorem Box.s21 (h : Box w g t #[a, b]) (u : Value) : Box (w.setCell ⟨g, 1, none⟩ u) g t #[a, u] := h.at_ 1 u
theorem Box.s40 (h : Box w g t #[a, b, c, d]) (u : Value) : Box (w.setCell ⟨g, 0, none⟩ u) g t #[u, b, c, d] := h.at_ 0 u
theorem Box.s41 (h : Box w g t #[a, b, c, d]) (u : Value) : Box (w.setCell ⟨g, 1, none⟩ u) g t #[a, u, c, d] := h.at_ 1 u
theorem Box.s42 (h : Box w g t #[a, b, c, d]) (u : Value) : Box (w.setCell ⟨g, 2, none⟩ u) g t #[a, b, u, d] := h.at_ 2 u
theorem Box.s43 (h : Box w g t #[a, b, c, d]) (u : Value) : Box (w.setCell ⟨g, 3, none⟩ u) g t #[a, b, c, u] := h.at_ 3 u
end
theorem quiet_same {P : Program} {f : FuncId} {args : Array Value} {w : World} {v : Value} (h : Calls P f args w fun e w' => e = .returned v ∧ w = w') :
    Calls P f args w fun e w' => e = .returned v ∧ ∃ n, w' = w.drewN n := h.mono fun _ _ ⟨he, hw⟩ => ⟨he, 0, hw.symm⟩
theorem quiet_same_drewN {P : Program} {f : FuncId} {args : Array Value} {w : World} {n : Nat} {v : Value} (h : Calls P f args (w.drewN n) fun e w' => e = .returned v ∧ w.drewN n = w') :
    Calls P f args (w.drewN n) fun e w' => e = .returned v ∧ ∃ m, w' = w.drewN m := h.mono fun _ _ ⟨he, hw⟩ => ⟨he, n, hw.symm⟩
structure Only (g : Nat) (w w' : World) : Prop where
  os : w'.os = w.os
  tape : w'.tape = w.tape
  output : w'.output = w.output
  size : w.heap.size ≤ w'.heap.size
  block : ∀ k, k < w.heap.size → k ≠ g → w'.heap[k]? = w.heap[k]?
theorem Only.refl (g : Nat) (w : World) : Only g w w := ⟨rfl, rfl, rfl, Nat.le_refl _, fun _ _ _ => rfl⟩
theorem Only.trans {g : Nat} {a b c : World} (h : Only g a b) (k : Only g b c) : Only g a c :=
  ⟨k.os.trans h.os, k.tape.trans h.tape, k.output.trans h.output, Nat.le_trans h.size k.size, fun i hi hn => (k.block i (Nat.lt_of_lt_of_le hi h.size) hn).trans (h.block i hi hn)⟩
theorem Only.of_kept {g : Nat} {w w' : World} (h : Kept w w') : Only g w w' := ⟨h.os, h.tape, h.output, h.size, fun k hk _ => h.block k hk⟩
theorem Only.drew {g : Nat} {a w : World} (h : Only g a w) : Only g a w.drew := ⟨h.os, h.tape, h.output, h.size, h.block⟩
theorem Only.drewN {g : Nat} {a w : World} (h : Only g a w) (n : Nat) : Only g a (w.drewN n) := by
  induction n with
  | zero => exact h
  | succ n ih => exact ih.drew
theorem Only.alloc {g : Nat} {a w : World} (h : Only g a w) (o : Obj) : Only g a (w.alloc o) := h.trans (.of_kept ((Kept.refl w).alloc o))
theorem Only.setCell {g : Nat} {a w : World} (h : Only g a w) (i : Nat) (u : Value) : Only g a (w.setCell ⟨g, i, none⟩ u) :=
  h.trans ⟨rfl, rfl, rfl, by simp [World.setCell], fun k _ hn => Below.heap_setCell w ⟨g, i, none⟩ u k hn⟩
theorem Only.kept {g : Nat} {a w w' : World} (h : Only g w w') (k : Kept a w) (hg : a.heap.size ≤ g) : Kept a w' :=
  ⟨h.os.trans k.os, h.tape.trans k.tape, h.output.trans k.output, Nat.le_trans k.size h.size, fun i hi => (h.block i (Nat.lt_of_lt_of_le hi k.size) (by omega)).trans (k.block i hi)⟩
theorem Only.box {g g' : Nat} {w w' : World} {t : TypeId} {cs : Array Value} (h : Only g w w') (b : Box w g' t cs) (hg : g' ≠ g) : Box w' g' t cs := (h.block g' b.inside hg).trans b
theorem Only.cell {g : Nat} {w w' : World} (h : Only g w w') {p : Addr} (hp : p.block < w.heap.size) (hg : p.block ≠ g) : w'.cell? p = w.cell? p := World.cell?_of_block (w := w) (h.block p.block hp hg)
theorem bxd {w : World} {g : Nat} {t : TypeId} {cs : Array Value} (h : Box w g t cs := by repeat (first | with_reducible assumption | (with_reducible refine Box.newAt ?_ _ _; (simp; done)) | with_reducible apply Box.drew | with_reducible apply Box.drewN | (with_reducible refine Box.alloc ?_ _) | (with_reducible apply Box.s20) | (with_reducible apply Box.s21) | (with_reducible apply Box.s1) | (with_reducible apply Box.s40) | (with_reducible apply Box.s41) | (with_reducible apply Box.s42) | (with_reducible apply Box.s43) | (with_reducible refine Box.farX ?_ ?_ _; focus (first | (simp; done) | (simp; omega))))) : Box w g t cs := h
end Go.Proofs.Ytbgpbopnfodjoaa

namespace Go.Proofs.Ytbgpbopnfodjoaa
open Go.RowKit Lv
theorem strOfNums_map (S : List UInt8) : strOfNums (S.map (fun b => (b.toNat : Int))) = ⟨S.toArray⟩ := by
  unfold strOfNums
  congr 1
  congr 1
  rw [List.map_map]
  conv => rhs; rw [← List.map_id S]
  refine List.map_congr_left fun b _ => ?_
  simp
theorem len20 : Try.prog.arrayLen 59 = 20 := by kernel_rfl
theorem elem20 : Try.prog.elem 59 = 5 := by kernel_rfl
theorem und20 : Try.prog.underlying 59 = some (.array 20 5) := Try.underlying59
theorem slice20 (g j : Nat) (hj : j < 20) (w : World) : (Instr.sliceAt 59 (.pointer (some ⟨g, 0, none⟩)) (some (.int .i64 (j : Int))) none none).run Try.prog w = .ok (.slice (some ⟨g, j, none⟩) (20 - j) (20 - j)) w := by
  have h := run_sliceAt_array_l (P := Try.prog) w 59 ⟨g, 0, none⟩ (by rw [len20, elem20]; exact und20) .i64 (j : Int) (by omega) (by rw [len20]; omega); rw [h, len20, elem20]; have hs : (sizeOf 5).run Try.prog w = .ok 1 w := by kernel_rfl
  rw [hs]
  simp only [Result.andThen, slicedAt, Int.toNat_natCast, Nat.mul_one]
  rw [if_neg (by omega)]
  simp only [Addr.add]
  split
  · rename_i h0; subst h0; rfl
  · simp
set_option maxHeartbeats 800000 in
theorem decimal_any (n : Nat) (w : World) (h : n ≤ 18446744073709551615) :
    Calls Try.prog 28 #[.int .u64 n] w fun e w' => e = .returned (.string ⟨(digs n).toArray⟩) ∧ Kept w w' := by
  go_enter Try.func28, Try.ntmps28; go_wp2_with fail
  go_loopw [0, 4] (fun x i wr => ∃ (m : Nat) (S : List UInt8), S.length ≤ 20 ∧ x = .int .u64 m ∧ i = .int .i64 (20 - S.length) ∧ Kept w wr ∧ Box wr w.heap.size 59 (cells20 S) ∧ m < 10 ^ (20 - S.length) ∧ (S = [] ∨ 0 < m) ∧ digs n = digs m ++ S) (fun _ i _ => (intOf i).toNat)
  case atStart =>
    exact ⟨n, [], by simp, rfl, rfl, kpt, by rw [cells20_nil]; exact bxd, by simp; omega, Or.inl rfl, by simp⟩
  case round =>
    obtain ⟨m, S, hk, rfl, rfl, hkept, hbox, hm, h0, hd⟩ := hrel
    have hm20 : m < 100000000000000000000 := by
      have := Nat.pow_le_pow_right (n := 10) (by omega) (show 20 - S.length ≤ 20 by omega)
      omega
    have hk1 : S.length < 20 := by
      rcases Nat.lt_or_ge S.length 20 with h | h
      · exact h
      · exfalso
        have e : S.length = 20 := by omega
        rw [e] at hm; rcases h0 with h0 | h0
        · subst h0; simp at e
        · omega
    have hin : ∃ v, wr.cell? ⟨w.heap.size, 20 - S.length - 1, none⟩ = some v := by
      obtain ⟨v, hv⟩ := cells20_some hk (i := 20 - S.length - 1) (by omega); exact ⟨v, by rw [hbox.cell]; exact hv⟩
    obtain ⟨v, hv⟩ := hin; have hf := hbox.loose (20 - S.length - 1); have hc : ((UInt8.ofNat (48 + m % 10)).toNat : Int) = 48 + (m : Int) % 10 := by simp; omega
    have hbox2 : Box (wr.setCell ⟨w.heap.size, 20 - S.length - 1, none⟩ (.int .u8 (48 + (m : Int) % 10))) w.heap.size 59 (cells20 (UInt8.ofNat (48 + m % 10) :: S)) := by
      have := hbox.at_ (20 - S.length - 1) (.int .u8 (UInt8.ofNat (48 + m % 10)).toNat); rw [show 20 - S.length - 1 = 19 - S.length by omega, cells20_cons hk1, hc] at this; rw [show 20 - S.length - 1 = 19 - S.length by omega]; exact this
    have HB2 := Lib.hid hbox2; have HD := Lib.hid hd; have HM := Lib.hid hm; have H0 := Lib.hid h0; clear hbox2 hd hc hbox hm h0
    by_cases c : m / 10 = 0
    · have m9 : m < 10 := by omega
      have c' : ((m : Int) / 10 == 0) = true := by simp; omega
      have hl : (UInt8.ofNat (48 + m % 10) :: S).length = S.length + 1 := rfl
      have hcv := run_convert_bytes_arg (P := Try.prog) (wr.setCell ⟨w.heap.size, 20 - S.length - 1, none⟩ (.int .u8 (48 + (m : Int) % 10))) 52 5 Try.underlying52 Try.underlying5 w.heap.size (20 - S.length - 1) (20 - (20 - S.length - 1)) (20 - (20 - S.length - 1)) ((UInt8.ofNat (48 + m % 10) :: S).map (fun b => (b.toNat : Int))) (by simp; omega)
        (fun i hi => by
          have := cells20_get (S := UInt8.ofNat (48 + m % 10) :: S) (by simp; omega) (i := i) (by simp; omega); rw [List.length_cons] at this; rw [HB2.out.cell, show 20 - S.length - 1 + i = 20 - (S.length + 1) + i by omega]; exact this) 9 Try.underlying9
      rw [strOfNums_map] at hcv; have hsl := fun wx => slice20 w.heap.size (20 - S.length - 1) (by omega) wx; rw [show (((20 - S.length - 1 : Nat) : Int)) = 20 - (S.length : Int) - 1 by omega] at hsl; have E : UInt8.ofNat (48 + m % 10) :: S = digs n := by rw [HD.out, digs_lt m9, Nat.mod_eq_of_lt m9]; rfl
      rw [E] at hcv; clear E; go_wp2_with fail; go_ret; exact ⟨rfl, kpt⟩
    · have c' : ((m : Int) / 10 == 0) = false := by simp; omega
      go_wp2_with fail
      go_roundw
      case rel =>
        have e := HD.out; rw [digs_ge (by omega) hm20, List.append_assoc] at e; refine ⟨m / 10, UInt8.ofNat (48 + m % 10) :: S, by simp; omega, by simp, by simp; omega, kpt, HB2.out, ?_, Or.inr (by omega), e⟩; have hm := HM.out; rw [Nat.div_lt_iff_lt_mul (by omega), List.length_cons, ← Nat.pow_succ, show (20 - (S.length + 1)).succ = 20 - S.length by omega]; exact hm
      case measure => simp [intOf]; omega
end Go.Proofs.Ytbgpbopnfodjoaa

namespace Go.Proofs.Ytbgpbopnfodjoaa
open Go.RowKit
def OwnB (w : World) (base : Nat) (v : Value) (l : List UInt8) : Prop := w.ownsRow base 5 1 v l.length (l.map fun b => Value.int .u8 b.toNat)
theorem OwnB.nil (w : World) (base : Nat) : OwnB w base (.slice none 0 0) [] := World.ownsRow_nil w base _ 1
theorem OwnB.kept {w w' : World} {base : Nat} {v : Value} {l : List UInt8} (h : OwnB w base v l) (k : Kept w w') : OwnB w' base v l := by
  obtain ⟨h1, h2⟩ := h; refine ⟨h1, ?_⟩; rcases h2 with h2 | ⟨g, cap, cur, hv, hg, hh, r⟩
  · exact Or.inl h2
  · have hlt : g < w.heap.size := (Array.getElem?_eq_some_iff.1 hh).1
    exact Or.inr ⟨g, cap, cur, hv, hg, (k.block g hlt).trans hh, r⟩
theorem OwnB.alloc {w : World} {base : Nat} {v : Value} {l : List UInt8} (h : OwnB w base v l) (o : Obj) : OwnB (w.alloc o) base v l := h.kept ((Kept.refl w).alloc o)
theorem OwnB.drew {w : World} {base : Nat} {v : Value} {l : List UInt8} (h : OwnB w base v l) : OwnB w.drew base v l := h.kept ((Kept.refl w).drew)
theorem OwnB.drewN {w : World} {base : Nat} {v : Value} {l : List UInt8} (h : OwnB w base v l) (n : Nat) : OwnB (w.drewN n) base v l := h.kept ((Kept.refl w).drewN n)
theorem OwnB.grown {a w w' : World} {base : Nat} {v : Value} {l : List UInt8} (h : OwnB w base v l) (hb : a.heap.size ≤ base) (k : Kept a w) (g : w.grownBy w' v.ownBlock) : Kept a w' :=
  Below.grown k g k.size (fun x hx => Nat.le_trans hb (World.ownsRow.lt h x hx).1)
theorem strOfNums_list (S : List UInt8) : strOfNums (S.map (fun b => (b.toNat : Int))) = ⟨S.toArray⟩ := by
  unfold strOfNums
  congr 1
  congr 1
  rw [List.map_map]
  conv => rhs; rw [← List.map_id S]
  refine List.map_congr_left fun b _ => ?_
  simp
theorem info_u8 : ∃ i, Try.prog.info? 5 = some i ∧ i.zero = some (.int .u8 0) ∧ i.size = 1 ∧ i.bytes = 1 := by
  have h : (Try.prog.info? 5).map (fun i => (i.zero, i.size, i.bytes)) = some (some (.int .u8 0), 1, 1) := by kernel_rfl
  cases hi : Try.prog.info? 5 with
  | none => rw [hi] at h; cases h
  | some i =>
    rw [hi] at h
    simp at h
    exact ⟨i, rfl, h.1, h.2.1, h.2.2⟩
theorem strCells_of (l : List UInt8) : Lib.strCells ⟨l.toArray⟩ = l.map fun b => Value.int .u8 b.toNat := rfl
theorem append_byte {ops : Array Oper} {rest : List Oper} {o : Oper} {a : Act} {w : World} {Q : Exit → Act → World → Prop} (hgd : o.guard = none) (s x : Operand)
    (ho : o.op = .call { callee := .builtin .append, args := #[s, x], argTypes := #[52, 52] })
    (base : Nat) (v : Value) (l : List UInt8) (hs : a.eval s = v) (hown : OwnB w base v l) (g c : Nat) (n : Int) (b : UInt8) (hb : n = b.toNat)
    (hx : a.eval x = .slice (some ⟨g, 0, none⟩) 1 c) (hc : w.cell? ⟨g, 0, none⟩ = some (.int .u8 n)) (hl : l.length + 1 ≤ 140737488355328) (hbase : base ≤ w.heap.size)
    (h : ∀ v' w', OwnB w' base v' (l ++ [b]) → w.grownBy w' v.ownBlock → wpList Try.prog ops Q rest (a.put o.dst v') w') : wpList Try.prog ops Q (o :: rest) a w := by
  obtain ⟨i, hi, hz, h1, h2⟩ := info_u8; refine wpList_append_own w hgd s x 52 ho base 5 i (.int .u8 0) 1 1 Try.underlying52 hi hz h1 h2 rfl (by decide) v l.length _ hs hown ⟨g, 0, none⟩ 1 c [.int .u8 n] hx rfl ?_ ?_ ?_ ?_ hbase ?_
  · intro j u hj
    match j, hj with
    | 0, hj => simp at hj; subst hj; exact hc
  · intro u hu; simp at hu; subst hu; rfl
  · simp only [maxLen]; omega
  · omega
  · intro v' w' ho' hg _
    refine h v' w' ?_ hg; unfold OwnB; rw [List.length_append, List.map_append]; subst hb; exact ho'
theorem append_string {ops : Array Oper} {rest : List Oper} {o : Oper} {a : Act} {w : World} {Q : Exit → Act → World → Prop} (hgd : o.guard = none) (sl x : Operand)
    (ho : o.op = .call { callee := .builtin .append, args := #[sl, x], argTypes := #[52, 9] })
    (base : Nat) (v : Value) (l m : List UInt8) (hs : a.eval sl = v) (hown : OwnB w base v l) (hx : a.eval x = .string ⟨m.toArray⟩) (hl : l.length + m.length ≤ 140737488355328) (hbase : base ≤ w.heap.size)
    (h : ∀ v' w', OwnB w' base v' (l ++ m) → w.grownBy w' v.ownBlock → wpList Try.prog ops Q rest (a.put o.dst v') w') : wpList Try.prog ops Q (o :: rest) a w := by
  obtain ⟨i, hi, hz, h1, h2⟩ := info_u8; have hsz : (ByteArray.mk m.toArray).size = m.length := by simp [ByteArray.size]
  refine Lib.wpList_append_own_string w hgd sl x 52 9 ho base 5 i Try.underlying52 Try.underlying9 hi hz h1 h2 v l.length _ hs hown ⟨m.toArray⟩ hx (by rw [hsz]; simp only [maxLen]; omega) (by rw [hsz]; omega) hbase ?_; intro v' w' ho' hg _; refine h v' w' ?_ hg; unfold OwnB; rw [List.length_append, List.map_append, ← strCells_of, ← strCells_of, ← hsz]; exact ho'
theorem append_str {ops : Array Oper} {rest : List Oper} {o : Oper} {a : Act} {w : World} {Q : Exit → Act → World → Prop} (hgd : o.guard = none) (sl x : Operand)
    (ho : o.op = .call { callee := .builtin .append, args := #[sl, x], argTypes := #[52, 9] })
    (base : Nat) (v : Value) (l : List UInt8) (s : ByteArray) (hs : a.eval sl = v) (hown : OwnB w base v l) (hx : a.eval x = .string s) (hl : l.length + s.size ≤ 140737488355328) (hbase : base ≤ w.heap.size)
    (h : ∀ v' w', OwnB w' base v' (l ++ s.data.toList) → w.grownBy w' v.ownBlock → wpList Try.prog ops Q rest (a.put o.dst v') w') : wpList Try.prog ops Q (o :: rest) a w :=
  append_string hgd sl x ho base v l s.data.toList hs hown hx (by show l.length + s.data.toList.length ≤ _; rw [Array.length_toList]; exact hl) hbase h
theorem bytes_of {s : ByteArray} {l : List UInt8} (h : s.data.toList = l) : s = ⟨l.toArray⟩ := by subst h; rfl
theorem size_of_list (l : List UInt8) : (ByteArray.mk l.toArray).size = l.length := rfl
theorem get_of_list (l : List UInt8) (i : Nat) (h : i < (ByteArray.mk l.toArray).size) : (ByteArray.mk l.toArray)[i] = l[i]'h := rfl
theorem last_byte {s : ByteArray} {m : List UInt8} {c : UInt8} (h : s.data.toList = m ++ [c]) (hp : s.size - 1 < s.size) : s[s.size - 1] = c := by
  obtain rfl := bytes_of h; rw [get_of_list]; have e : (ByteArray.mk (m ++ [c]).toArray).size - 1 = m.length := by rw [size_of_list, List.length_append]; rfl
  simp only [e]
  exact List.getElem_concat_length rfl _
theorem extract_list (l : List UInt8) (i j : Nat) : ((ByteArray.mk l.toArray).extract i j).data.toList = (l.take j).drop i := by
  rw [ByteArray.data_extract, Array.toList_extract]; show (l.extract i j) = _; rw [List.extract_eq_take_drop, List.drop_take]
theorem but_last {s : ByteArray} {m : List UInt8} {c : UInt8} (h : s.data.toList = m ++ [c]) : (s.extract 0 (s.size - 1)).data.toList = m := by
  obtain rfl := bytes_of h; rw [extract_list, size_of_list, List.length_append, List.length_singleton, Nat.add_sub_cancel, List.drop_zero, List.take_left']
  rfl
theorem size_apart {s : ByteArray} {m : List UInt8} {c : UInt8} (h : s.data.toList = m ++ [c]) : s.size = m.length + 1 := by
  obtain rfl := bytes_of h; rw [size_of_list, List.length_append]; rfl
theorem size_toList (s : ByteArray) : s.data.toList.length = s.size := rfl
theorem tail_bytes (c : UInt8) (f : List UInt8) : ((⟨(c :: f).toArray⟩ : ByteArray).extract 1 (f.length + 1)).data.toList = f := by
  rw [extract_list, List.take_of_length_le (by simp)]; rfl
theorem conv_own {w : World} {base : Nat} {v : Value} {l : List UInt8} (h : OwnB w base v l) : (convert 52 9 v).run Try.prog w = .ok (.string ⟨l.toArray⟩) w := by
  rcases h.2 with ⟨rfl, h0⟩ | ⟨g, cap, cur, rfl, _, hh, h4, h5, h6, h7⟩
  · have : l = [] := List.eq_nil_of_length_eq_zero h0
    subst this; exact run_convert_bytes_nil w 52 5 Try.underlying52 Try.underlying5 0 0 9 Try.underlying9
  · have hcells := World.ownsRow.cells h (g := g) rfl
    have := run_convert_bytes_arg (P := Try.prog) w 52 5 Try.underlying52 Try.underlying5 g 0 l.length cap (l.map fun b => (b.toNat : Int)) (by simp)
      (fun i hi => by
        have hc := hcells i (.int .u8 (l.getD i 0).toNat) (by simp [hi]); rw [Go.WideShapes.add_plain] at hc; rw [hc]
        simp [hi]) 9 Try.underlying9
    rw [this, strOfNums_list]
end Go.Proofs.Ytbgpbopnfodjoaa

namespace Go.Proofs.Ytbgpbopnfodjoaa.Lv
open Go
def isD (c : UInt8) : Bool := decide (48 ≤ c.toNat ∧ c.toNat ≤ 57)
def nd : List UInt8 → Nat
  | [] => 0
  | c :: l => if isD c then nd l + 1 else 0
theorem nd_le : ∀ l : List UInt8, nd l ≤ l.length
  | [] => Nat.le_refl _
  | c :: l => by have := nd_le l; unfold nd; split <;> simp <;> omega
theorem nd_step {l : List UInt8} {k : Nat} (h : k < l.length) (d : isD l[k] = true) : nd (l.drop k) = 1 + nd (l.drop (k + 1)) := by
  rw [List.drop_eq_getElem_cons h]; show (if isD l[k] = true then nd (l.drop (k + 1)) + 1 else 0) = _; rw [if_pos d]; omega
theorem nd_stop {l : List UInt8} {k : Nat} (h : k < l.length) (d : isD l[k] = false) : nd (l.drop k) = 0 := by
  rw [List.drop_eq_getElem_cons h]; show (if isD l[k] = true then nd (l.drop (k + 1)) + 1 else 0) = _; rw [if_neg (by simp [d])]
theorem nd_end {l : List UInt8} {k : Nat} (h : l.length ≤ k) : nd (l.drop k) = 0 := by rw [List.drop_eq_nil_of_le h]; rfl
def frac : List UInt8 → Option (List UInt8)
  | [] => some []
  | c :: r => if c = 46 ∧ r ≠ [] ∧ nd r = r.length then some r else none
def val (l : List UInt8) : Nat := l.foldl (fun v c => 10 * v + (c.toNat - 48)) 0
theorem val_snoc (l : List UInt8) (c : UInt8) : val (l ++ [c]) = 10 * val l + (c.toNat - 48) := by unfold val; rw [List.foldl_append]; rfl
def pad (r : List UInt8) : List UInt8 := r ++ [48, 48, 48, 48, 48]
def places (r : List UInt8) : List UInt8 := (pad r).take 4
def fifth (r : List UInt8) : UInt8 := (pad r).getD 4 48
def read (ng : Bool) (m : List UInt8) : Int × Int :=
  if nd m = 0 then (0, 4)
  else match frac (m.drop (nd m)) with
    | none => (0, 4)
    | some r =>
      let v : Int := val (m.take (nd m) ++ places r) + (if 53 ≤ (fifth r).toNat then 1 else 0)
      if v ≤ 9223372036854775807 then (sg ng v, 0) else (0, 3)
def dParse (l : List UInt8) : Int × Int := if l.head? = some 45 then read true l.tail else read false l
theorem val_take {l : List UInt8} {k : Nat} (h : k < l.length) : val (l.take (k + 1)) = 10 * val (l.take k) + (l[k].toNat - 48) := by
  rw [List.take_succ_eq_append_getElem h, val_snoc]
theorem nd_all : ∀ {l : List UInt8}, nd l = l.length → ∀ c ∈ l, isD c = true
  | [], _, c, hc => by cases hc
  | a :: l, h, c, hc => by
    by_cases d : isD a = true
    · have e : nd (a :: l) = nd l + 1 := if_pos d
      rw [e] at h; rcases List.mem_cons.1 hc with rfl | hc
      · exact d
      · exact nd_all (by simpa using h) c hc
    · have e : nd (a :: l) = 0 := if_neg d
      rw [e] at h; simp at h
theorem isD_iff {c : UInt8} : isD c = true ↔ 48 ≤ c.toNat ∧ c.toNat ≤ 57 := by unfold isD; simp
end Go.Proofs.Ytbgpbopnfodjoaa.Lv

namespace Go.Proofs.Ytbgpbopnfodjoaa
open Go.RowKit Lv
set_option maxHeartbeats 400000 in
theorem digits_any (s : ByteArray) (w : World) (hs : s.size ≤ 9223372036854775807) : Calls Try.prog 27 #[.string s] w fun e w' => e = .returned (.int .i64 (nd s.data.toList)) ∧ w = w' := by
  have E0 : Hid (nd s.data.toList = 0 + nd (s.data.toList.drop 0)) := by rw [List.drop_zero, Nat.zero_add]; rfl
  go_enter Try.func27, Try.ntmps27; go_wp2_with fail
  go_loop [6] (fun i => ∃ k : Nat, k ≤ s.size ∧ i = .int .i64 k ∧ nd s.data.toList = k + nd (s.data.toList.drop k)) (fun i => s.size - (intOf i).toNat)
  case atStart => exact ⟨0, by omega, rfl, E0.out⟩
  case round =>
    obtain ⟨k, hk, rfl, hn⟩ := hrel; have N := Lib.hid hn; clear hn
    by_cases c : k < s.size
    · by_cases d : isD s[k] = true
      · have e := of_decide_eq_true d
        obtain ⟨e1, e2⟩ := e; have S := Lib.hid (nd_step (l := s.data.toList) c d); clear d; go_wp2_with fail
        go_round
        case rel => exact ⟨k + 1, by omega, by go_num, by rw [N.out, S.out]; omega⟩
        case measure => simp [intOf]; omega
      · have d' : isD s[k] = false := by simpa using d
        have S : Hid (nd s.data.toList = k) := by show _ = _; rw [N.out, nd_stop (l := s.data.toList) c d']; rfl
        have e := of_decide_eq_false d'; clear d d'
        by_cases e1 : s[k].toNat < 48
        · clear e
          go_wp2_with fail; go_ret; exact ⟨ret_int (by have := S.out; omega), rfl⟩
        · have e2 : 57 < s[k].toNat := by omega
          clear e; go_wp2_with fail; go_ret; exact ⟨ret_int (by have := S.out; omega), rfl⟩
    · obtain rfl : k = s.size := by omega
      have S : Hid (nd s.data.toList = s.size) := by show _ = _; rw [N.out, nd_end (l := s.data.toList) (k := s.size) (by rw [size_toList]; omega)]; rfl
      go_wp2_with fail; go_ret; exact ⟨ret_int (by have := S.out; omega), rfl⟩
end Go.Proofs.Ytbgpbopnfodjoaa

namespace Go.Proofs.Ytbgpbopnfodjoaa
open Go.RowKit
theorem ba_extract (l : List UInt8) (i j : Nat) : (ByteArray.mk l.toArray).extract i j = ⟨((l.take j).drop i).toArray⟩ := bytes_of (extract_list l i j)
theorem ba_size (l : List UInt8) : (ByteArray.mk l.toArray).size = l.length := rfl
theorem ba_append (l m : List UInt8) : (ByteArray.mk l.toArray) ++ (ByteArray.mk m.toArray) = ⟨(l ++ m).toArray⟩ := by
  refine bytes_of ?_
  simp
theorem conv_bytes (s : ByteArray) (w : World) : (convert 9 52 (.string s)).run Try.prog w = .ok (.slice (some ⟨w.heap.size, 0, none⟩) s.size (grownCap w s.size 0 5)) (Lib.bytesWorld w 5 s) :=
  Lib.run_convert_string_bytes w _ _ _ s Try.underlying9 Try.underlying52 Try.underlying5
theorem bytes_kept (w : World) (e : TypeId) (s : ByteArray) : Kept w (Lib.bytesWorld w e s) where
  os := rfl
  tape := rfl
  output := rfl
  size := by rw [Lib.bytesWorld_size]; omega
  block := fun k hk => Lib.bytesWorld_at_old w e s k hk
end Go.Proofs.Ytbgpbopnfodjoaa

namespace Go.Proofs.Ytbgpbopnfodjoaa
open Go.RowKit Lv
theorem wrap_u64_0 (x : Int) : 0 ≤ IntKind.u64.wrap x := by have e : IntKind.u64.wrap x = x % 18446744073709551616 := rfl; omega
theorem wrap_u64_1 (x : Int) : IntKind.u64.wrap x ≤ 18446744073709551615 := by have e : IntKind.u64.wrap x = x % 18446744073709551616 := rfl; omega
theorem all_digits {L : List UInt8} (h : ∀ c ∈ L, isD c = true) : Hid (∀ k (hk : k < L.length), 48 ≤ L[k].toNat ∧ L[k].toNat ≤ 57) := fun k hk => isD_iff.1 (h _ (List.getElem_mem hk))
theorem bytes_cells (w : World) (L : List UInt8) : ∀ j (hj : j < L.length), (Lib.bytesWorld w 5 ⟨L.toArray⟩).cell? ⟨w.heap.size, j, none⟩ = some (.int .u8 L[j].toNat) := fun j hj => by
  rw [Lib.bytesWorld_cell w _ ⟨L.toArray⟩ j hj]
  simp [hj]
end Go.Proofs.Ytbgpbopnfodjoaa

namespace Go.Proofs.Ytbgpbopnfodjoaa
open Go.RowKit Lv
theorem frac_one (c : UInt8) : frac [c] = none := if_neg (fun h => h.2.1 rfl)
theorem frac_no {c : UInt8} {r : List UInt8} (h : c ≠ 46) : frac (c :: r) = none := if_neg (fun x => h x.1)
theorem frac_bad {c : UInt8} {r : List UInt8} (h : nd r ≠ r.length) : frac (c :: r) = none := if_neg (fun x => h x.2.2)
theorem frac_some {r : List UInt8} (h0 : 0 < r.length) (h : nd r = r.length) : frac (46 :: r) = some r := if_pos ⟨rfl, by intro e; subst e; simp at h0, h⟩
set_option maxHeartbeats 800000 in
set_option maxRecDepth 100000 in
theorem parse_a0_neg (m wh r : List UInt8) (c : UInt8) (n : Nat) (w : World) (hs : m.length ≤ 2000) (hn : nd m = n) (t1 : m.take n = wh) (t2 : m.drop n = [c]) (n0 : Hid (n = 0)) :
    Calls Try.prog 17 #[.string ⟨(45 :: m).toArray⟩] w fun e w' => e = .returned (.tuple #[.int .i64 (Lv.read true m).1, .int .i64 (Lv.read true m).2]) ∧ Kept w w' := by
  have X := ba_extract; have Z := ba_size; have Y := ba_append; have D := fun w => digits_any ⟨m.toArray⟩ w (by rw [ba_size]; omega); rw [show nd (ByteArray.mk m.toArray).data.toList = n from hn] at D; have HD := Lib.hid D; have HN := Lib.hid hn; clear D hn; have lp : (0 : Int) < ((45 :: m).length : Int) := by simp
  have b0 : (((ByteArray.mk (45 :: m).toArray)[0]'(by rw [ba_size]; simp)).toNat : Int) = 45 := rfl; have n1 : n ≤ m.length := by have := nd_le m; rw [HN.out] at this; exact this
  have nz : ((n : Int) == 0) = true := by rw [n0.out]; rfl
  have E : Hid (Lv.read true m = (0, 4)) := by
    show _ = _; unfold Lv.read; rw [HN.out]; rw [if_pos n0.out]
  go_enter Try.func17, Try.ntmps17; go_wp2_with fail; refine (HD.out _).mono ?_; rintro e w' ⟨rfl, rfl⟩; go_wp2_with fail
  go_region
  go_wp2_with fail; go_ret2; exact ⟨ret_ii (by rw [E.out]) (by rw [E.out]), kpt⟩
set_option maxHeartbeats 800000 in
set_option maxRecDepth 100000 in
theorem parse_b0_neg (m wh r : List UInt8) (c : UInt8) (n : Nat) (w : World) (hs : m.length ≤ 2000) (hn : nd m = n) (t1 : m.take n = wh) (t2 : m.drop n = c :: r) (n0 : Hid (n = 0)) (hr : 0 < r.length) (hc : c ≠ 46) :
    Calls Try.prog 17 #[.string ⟨(45 :: m).toArray⟩] w fun e w' => e = .returned (.tuple #[.int .i64 (Lv.read true m).1, .int .i64 (Lv.read true m).2]) ∧ Kept w w' := by
  have X := ba_extract; have Z := ba_size; have Y := ba_append; have D := fun w => digits_any ⟨m.toArray⟩ w (by rw [ba_size]; omega); rw [show nd (ByteArray.mk m.toArray).data.toList = n from hn] at D; have HD := Lib.hid D; have HN := Lib.hid hn; clear D hn; have lp : (0 : Int) < ((45 :: m).length : Int) := by simp
  have b0 : (((ByteArray.mk (45 :: m).toArray)[0]'(by rw [ba_size]; simp)).toNat : Int) = 45 := rfl; have n1 : n ≤ m.length := by have := nd_le m; rw [HN.out] at this; exact this
  have nz : ((n : Int) == 0) = true := by rw [n0.out]; rfl
  have c0 : ((((ByteArray.mk (c :: r).toArray)[0]'(by rw [ba_size]; simp)).toNat : Int) == 46) = false := by rw [beq_eq_false_iff_ne]; intro h; apply hc; apply UInt8.toNat_inj.1; show c.toNat = 46; exact Int.ofNat_inj.1 h
  have E : Hid (Lv.read true m = (0, 4)) := by
    show _ = _; unfold Lv.read; rw [HN.out]; rw [if_pos n0.out]
  clear hc; go_enter Try.func17, Try.ntmps17; go_wp2_with fail; refine (HD.out _).mono ?_; rintro e w' ⟨rfl, rfl⟩; go_wp2_with fail
  go_region
  go_wp2_with fail; go_ret2; exact ⟨ret_ii (by rw [E.out]) (by rw [E.out]), kpt⟩
set_option maxHeartbeats 800000 in
set_option maxRecDepth 100000 in
theorem parse_c0_neg (m wh r : List UInt8) (c : UInt8) (n : Nat) (w : World) (hs : m.length ≤ 2000) (hn : nd m = n) (t1 : m.take n = wh) (t2 : m.drop n = c :: r) (n0 : Hid (n = 0)) (hr : 0 < r.length) (hc : c = 46) (hd : nd r ≠ r.length) :
    Calls Try.prog 17 #[.string ⟨(45 :: m).toArray⟩] w fun e w' => e = .returned (.tuple #[.int .i64 (Lv.read true m).1, .int .i64 (Lv.read true m).2]) ∧ Kept w w' := by
  have X := ba_extract; have Z := ba_size; have Y := ba_append; have D := fun w => digits_any ⟨m.toArray⟩ w (by rw [ba_size]; omega); rw [show nd (ByteArray.mk m.toArray).data.toList = n from hn] at D; have HD := Lib.hid D; have HN := Lib.hid hn; clear D hn; have lp : (0 : Int) < ((45 :: m).length : Int) := by simp
  have b0 : (((ByteArray.mk (45 :: m).toArray)[0]'(by rw [ba_size]; simp)).toNat : Int) = 45 := rfl; have n1 : n ≤ m.length := by have := nd_le m; rw [HN.out] at this; exact this
  have nz : ((n : Int) == 0) = true := by rw [n0.out]; rfl
  have c0 : ((((ByteArray.mk (c :: r).toArray)[0]'(by rw [ba_size]; simp)).toNat : Int) == 46) = true := by rw [hc]; rfl
  have E : Hid (Lv.read true m = (0, 4)) := by
    show _ = _; unfold Lv.read; rw [HN.out]; rw [if_pos n0.out]
  have rl : r.length ≤ 2000 := by have := congrArg List.length t2; simp at this; omega
  have D2 := fun w => digits_any ⟨r.toArray⟩ w (by rw [ba_size]; omega); rw [show nd (ByteArray.mk r.toArray).data.toList = nd r from rfl] at D2; have HD2 := Lib.hid D2; have de : ((nd r : Int) == (r.length : Int)) = false := by rw [beq_eq_false_iff_ne]; omega
  clear hc hd D2; generalize nd r = k at *; go_enter Try.func17, Try.ntmps17; go_wp2_with fail; refine (HD.out _).mono ?_; rintro e w' ⟨rfl, rfl⟩; go_wp2_with fail
  go_region
  go_wp2_with fail; refine (HD2.out _).mono ?_; rintro e w' ⟨rfl, rfl⟩; go_wp2_with fail; go_ret2; exact ⟨ret_ii (by rw [E.out]) (by rw [E.out]), kpt⟩
set_option maxHeartbeats 800000 in
set_option maxRecDepth 100000 in
theorem parse_a1_neg (m wh r : List UInt8) (c : UInt8) (n : Nat) (w : World) (hs : m.length ≤ 2000) (hn : nd m = n) (t1 : m.take n = wh) (t2 : m.drop n = [c]) (n0 : 0 < n) :
    Calls Try.prog 17 #[.string ⟨(45 :: m).toArray⟩] w fun e w' => e = .returned (.tuple #[.int .i64 (Lv.read true m).1, .int .i64 (Lv.read true m).2]) ∧ Kept w w' := by
  have X := ba_extract; have Z := ba_size; have Y := ba_append; have D := fun w => digits_any ⟨m.toArray⟩ w (by rw [ba_size]; omega); rw [show nd (ByteArray.mk m.toArray).data.toList = n from hn] at D; have HD := Lib.hid D; have HN := Lib.hid hn; clear D hn; have lp : (0 : Int) < ((45 :: m).length : Int) := by simp
  have b0 : (((ByteArray.mk (45 :: m).toArray)[0]'(by rw [ba_size]; simp)).toNat : Int) = 45 := rfl; have n1 : n ≤ m.length := by have := nd_le m; rw [HN.out] at this; exact this
  have nz : ((n : Int) == 0) = false := by rw [beq_eq_false_iff_ne]; omega
  have E : Hid (Lv.read true m = (0, 4)) := by
    show _ = _; unfold Lv.read; rw [HN.out]; rw [if_neg (by omega), t2, frac_one]
  go_enter Try.func17, Try.ntmps17; go_wp2_with fail; refine (HD.out _).mono ?_; rintro e w' ⟨rfl, rfl⟩; go_wp2_with fail
  go_region
  go_wp2_with fail; go_ret2; exact ⟨ret_ii (by rw [E.out]) (by rw [E.out]), kpt⟩
set_option maxHeartbeats 800000 in
set_option maxRecDepth 100000 in
theorem parse_b1_neg (m wh r : List UInt8) (c : UInt8) (n : Nat) (w : World) (hs : m.length ≤ 2000) (hn : nd m = n) (t1 : m.take n = wh) (t2 : m.drop n = c :: r) (n0 : 0 < n) (hr : 0 < r.length) (hc : c ≠ 46) :
    Calls Try.prog 17 #[.string ⟨(45 :: m).toArray⟩] w fun e w' => e = .returned (.tuple #[.int .i64 (Lv.read true m).1, .int .i64 (Lv.read true m).2]) ∧ Kept w w' := by
  have X := ba_extract; have Z := ba_size; have Y := ba_append; have D := fun w => digits_any ⟨m.toArray⟩ w (by rw [ba_size]; omega); rw [show nd (ByteArray.mk m.toArray).data.toList = n from hn] at D; have HD := Lib.hid D; have HN := Lib.hid hn; clear D hn; have lp : (0 : Int) < ((45 :: m).length : Int) := by simp
  have b0 : (((ByteArray.mk (45 :: m).toArray)[0]'(by rw [ba_size]; simp)).toNat : Int) = 45 := rfl; have n1 : n ≤ m.length := by have := nd_le m; rw [HN.out] at this; exact this
  have nz : ((n : Int) == 0) = false := by rw [beq_eq_false_iff_ne]; omega
  have c0 : ((((ByteArray.mk (c :: r).toArray)[0]'(by rw [ba_size]; simp)).toNat : Int) == 46) = false := by rw [beq_eq_false_iff_ne]; intro h; apply hc; apply UInt8.toNat_inj.1; show c.toNat = 46; exact Int.ofNat_inj.1 h
  have E : Hid (Lv.read true m = (0, 4)) := by
    show _ = _; unfold Lv.read; rw [HN.out]; rw [if_neg (by omega), t2, frac_no hc]
  clear hc; go_enter Try.func17, Try.ntmps17; go_wp2_with fail; refine (HD.out _).mono ?_; rintro e w' ⟨rfl, rfl⟩; go_wp2_with fail
  go_region
  go_wp2_with fail; go_ret2; exact ⟨ret_ii (by rw [E.out]) (by rw [E.out]), kpt⟩
set_option maxHeartbeats 800000 in
set_option maxRecDepth 100000 in
theorem parse_c1_neg (m wh r : List UInt8) (c : UInt8) (n : Nat) (w : World) (hs : m.length ≤ 2000) (hn : nd m = n) (t1 : m.take n = wh) (t2 : m.drop n = c :: r) (n0 : 0 < n) (hr : 0 < r.length) (hc : c = 46) (hd : nd r ≠ r.length) :
    Calls Try.prog 17 #[.string ⟨(45 :: m).toArray⟩] w fun e w' => e = .returned (.tuple #[.int .i64 (Lv.read true m).1, .int .i64 (Lv.read true m).2]) ∧ Kept w w' := by
  have X := ba_extract; have Z := ba_size; have Y := ba_append; have D := fun w => digits_any ⟨m.toArray⟩ w (by rw [ba_size]; omega); rw [show nd (ByteArray.mk m.toArray).data.toList = n from hn] at D; have HD := Lib.hid D; have HN := Lib.hid hn; clear D hn; have lp : (0 : Int) < ((45 :: m).length : Int) := by simp
  have b0 : (((ByteArray.mk (45 :: m).toArray)[0]'(by rw [ba_size]; simp)).toNat : Int) = 45 := rfl; have n1 : n ≤ m.length := by have := nd_le m; rw [HN.out] at this; exact this
  have nz : ((n : Int) == 0) = false := by rw [beq_eq_false_iff_ne]; omega
  have c0 : ((((ByteArray.mk (c :: r).toArray)[0]'(by rw [ba_size]; simp)).toNat : Int) == 46) = true := by rw [hc]; rfl
  have E : Hid (Lv.read true m = (0, 4)) := by
    show _ = _; unfold Lv.read; rw [HN.out]; rw [if_neg (by omega), t2, frac_bad hd]
  have rl : r.length ≤ 2000 := by have := congrArg List.length t2; simp at this; omega
  have D2 := fun w => digits_any ⟨r.toArray⟩ w (by rw [ba_size]; omega); rw [show nd (ByteArray.mk r.toArray).data.toList = nd r from rfl] at D2; have HD2 := Lib.hid D2; have de : ((nd r : Int) == (r.length : Int)) = false := by rw [beq_eq_false_iff_ne]; omega
  clear hc hd D2; generalize nd r = k at *; go_enter Try.func17, Try.ntmps17; go_wp2_with fail; refine (HD.out _).mono ?_; rintro e w' ⟨rfl, rfl⟩; go_wp2_with fail
  go_region
  go_wp2_with fail; refine (HD2.out _).mono ?_; rintro e w' ⟨rfl, rfl⟩; go_wp2_with fail; go_ret2; exact ⟨ret_ii (by rw [E.out]) (by rw [E.out]), kpt⟩
set_option maxHeartbeats 800000 in
set_option maxRecDepth 100000 in
theorem parse_d_neg (m wh r : List UInt8) (c : UInt8) (n : Nat) (w : World) (hs : m.length ≤ 2000) (hn : nd m = n) (t1 : m.take n = wh) (t2 : m.drop n = c :: r) (n0 : Hid (n = 0)) (hr : 0 < r.length) (hc : c = 46) (hd : nd r = r.length) :
    Calls Try.prog 17 #[.string ⟨(45 :: m).toArray⟩] w fun e w' => e = .returned (.tuple #[.int .i64 (Lv.read true m).1, .int .i64 (Lv.read true m).2]) ∧ Kept w w' := by
  have X := ba_extract; have Z := ba_size; have Y := ba_append; have D := fun w => digits_any ⟨m.toArray⟩ w (by rw [ba_size]; omega); rw [show nd (ByteArray.mk m.toArray).data.toList = n from hn] at D; have HD := Lib.hid D; have HN := Lib.hid hn; clear D hn; have lp : (0 : Int) < ((45 :: m).length : Int) := by simp
  have b0 : (((ByteArray.mk (45 :: m).toArray)[0]'(by rw [ba_size]; simp)).toNat : Int) = 45 := rfl; have n1 : n ≤ m.length := by have := nd_le m; rw [HN.out] at this; exact this
  have nz : ((n : Int) == 0) = true := by rw [n0.out]; rfl
  have c0 : ((((ByteArray.mk (c :: r).toArray)[0]'(by rw [ba_size]; simp)).toNat : Int) == 46) = true := by rw [hc]; rfl
  have E : Hid (Lv.read true m = (0, 4)) := by
    show _ = _; unfold Lv.read; rw [HN.out]; rw [if_pos n0.out]
  have rl : r.length ≤ 2000 := by have := congrArg List.length t2; simp at this; omega
  have D2 := fun w => digits_any ⟨r.toArray⟩ w (by rw [ba_size]; omega); rw [show nd (ByteArray.mk r.toArray).data.toList = r.length from hd] at D2; have HD2 := Lib.hid D2; clear hc hd D2; go_enter Try.func17, Try.ntmps17; go_wp2_with fail; refine (HD.out _).mono ?_; rintro e w' ⟨rfl, rfl⟩; go_wp2_with fail
  go_region
  go_wp2_with fail; refine (HD2.out _).mono ?_; rintro e w' ⟨rfl, rfl⟩; go_wp2_with fail; go_ret2; exact ⟨ret_ii (by rw [E.out]) (by rw [E.out]), kpt⟩
set_option maxHeartbeats 800000 in
set_option maxRecDepth 100000 in
theorem parse_a0_pos (m wh r : List UInt8) (c : UInt8) (n : Nat) (w : World) (hs : m.length ≤ 2000) (hn : nd m = n) (t1 : m.take n = wh) (t2 : m.drop n = [c]) (hb : ∀ h, ((((ByteArray.mk m.toArray)[0]'h).toNat : Int) == 45) = false) (hl0 : 0 < m.length) (n0 : Hid (n = 0)) :
    Calls Try.prog 17 #[.string ⟨m.toArray⟩] w fun e w' => e = .returned (.tuple #[.int .i64 (Lv.read false m).1, .int .i64 (Lv.read false m).2]) ∧ Kept w w' := by
  have X := ba_extract; have Z := ba_size; have Y := ba_append; have D := fun w => digits_any ⟨m.toArray⟩ w (by rw [ba_size]; omega); rw [show nd (ByteArray.mk m.toArray).data.toList = n from hn] at D; have HD := Lib.hid D; have HN := Lib.hid hn; clear D hn; have lp : (0 : Int) < (m.length : Int) := by omega
  have b0 := fun h => hb h; have n1 : n ≤ m.length := by have := nd_le m; rw [HN.out] at this; exact this
  have nz : ((n : Int) == 0) = true := by rw [n0.out]; rfl
  have E : Hid (Lv.read false m = (0, 4)) := by
    show _ = _; unfold Lv.read; rw [HN.out]; rw [if_pos n0.out]
  go_enter Try.func17, Try.ntmps17; go_wp2_with fail; refine (HD.out _).mono ?_; rintro e w' ⟨rfl, rfl⟩; go_wp2_with fail
  go_region
  go_wp2_with fail; go_ret2; exact ⟨ret_ii (by rw [E.out]) (by rw [E.out]), kpt⟩
set_option maxHeartbeats 800000 in
set_option maxRecDepth 100000 in
theorem parse_b0_pos (m wh r : List UInt8) (c : UInt8) (n : Nat) (w : World) (hs : m.length ≤ 2000) (hn : nd m = n) (t1 : m.take n = wh) (t2 : m.drop n = c :: r) (hb : ∀ h, ((((ByteArray.mk m.toArray)[0]'h).toNat : Int) == 45) = false) (hl0 : 0 < m.length) (n0 : Hid (n = 0)) (hr : 0 < r.length) (hc : c ≠ 46) :
    Calls Try.prog 17 #[.string ⟨m.toArray⟩] w fun e w' => e = .returned (.tuple #[.int .i64 (Lv.read false m).1, .int .i64 (Lv.read false m).2]) ∧ Kept w w' := by
  have X := ba_extract; have Z := ba_size; have Y := ba_append; have D := fun w => digits_any ⟨m.toArray⟩ w (by rw [ba_size]; omega); rw [show nd (ByteArray.mk m.toArray).data.toList = n from hn] at D; have HD := Lib.hid D; have HN := Lib.hid hn; clear D hn; have lp : (0 : Int) < (m.length : Int) := by omega
  have b0 := fun h => hb h; have n1 : n ≤ m.length := by have := nd_le m; rw [HN.out] at this; exact this
  have nz : ((n : Int) == 0) = true := by rw [n0.out]; rfl
  have c0 : ((((ByteArray.mk (c :: r).toArray)[0]'(by rw [ba_size]; simp)).toNat : Int) == 46) = false := by rw [beq_eq_false_iff_ne]; intro h; apply hc; apply UInt8.toNat_inj.1; show c.toNat = 46; exact Int.ofNat_inj.1 h
  have E : Hid (Lv.read false m = (0, 4)) := by
    show _ = _; unfold Lv.read; rw [HN.out]; rw [if_pos n0.out]
  clear hc; go_enter Try.func17, Try.ntmps17; go_wp2_with fail; refine (HD.out _).mono ?_; rintro e w' ⟨rfl, rfl⟩; go_wp2_with fail
  go_region
  go_wp2_with fail; go_ret2; exact ⟨ret_ii (by rw [E.out]) (by rw [E.out]), kpt⟩
set_option maxHeartbeats 800000 in
set_option maxRecDepth 100000 in
theorem parse_c0_pos (m wh r : List UInt8) (c : UInt8) (n : Nat) (w : World) (hs : m.length ≤ 2000) (hn : nd m = n) (t1 : m.take n = wh) (t2 : m.drop n = c :: r) (hb : ∀ h, ((((ByteArray.mk m.toArray)[0]'h).toNat : Int) == 45) = false) (hl0 : 0 < m.length) (n0 : Hid (n = 0)) (hr : 0 < r.length) (hc : c = 46) (hd : nd r ≠ r.length) :
    Calls Try.prog 17 #[.string ⟨m.toArray⟩] w fun e w' => e = .returned (.tuple #[.int .i64 (Lv.read false m).1, .int .i64 (Lv.read false m).2]) ∧ Kept w w' := by
  have X := ba_extract; have Z := ba_size; have Y := ba_append; have D := fun w => digits_any ⟨m.toArray⟩ w (by rw [ba_size]; omega); rw [show nd (ByteArray.mk m.toArray).data.toList = n from hn] at D; have HD := Lib.hid D; have HN := Lib.hid hn; clear D hn; have lp : (0 : Int) < (m.length : Int) := by omega
  have b0 := fun h => hb h; have n1 : n ≤ m.length := by have := nd_le m; rw [HN.out] at this; exact this
  have nz : ((n : Int) == 0) = true := by rw [n0.out]; rfl
  have c0 : ((((ByteArray.mk (c :: r).toArray)[0]'(by rw [ba_size]; simp)).toNat : Int) == 46) = true := by rw [hc]; rfl
  have E : Hid (Lv.read false m = (0, 4)) := by
    show _ = _; unfold Lv.read; rw [HN.out]; rw [if_pos n0.out]
  have rl : r.length ≤ 2000 := by have := congrArg List.length t2; simp at this; omega
  have D2 := fun w => digits_any ⟨r.toArray⟩ w (by rw [ba_size]; omega); rw [show nd (ByteArray.mk r.toArray).data.toList = nd r from rfl] at D2; have HD2 := Lib.hid D2; have de : ((nd r : Int) == (r.length : Int)) = false := by rw [beq_eq_false_iff_ne]; omega
  clear hc hd D2; generalize nd r = k at *; go_enter Try.func17, Try.ntmps17; go_wp2_with fail; refine (HD.out _).mono ?_; rintro e w' ⟨rfl, rfl⟩; go_wp2_with fail
  go_region
  go_wp2_with fail; refine (HD2.out _).mono ?_; rintro e w' ⟨rfl, rfl⟩; go_wp2_with fail; go_ret2; exact ⟨ret_ii (by rw [E.out]) (by rw [E.out]), kpt⟩
set_option maxHeartbeats 800000 in
set_option maxRecDepth 100000 in
theorem parse_a1_pos (m wh r : List UInt8) (c : UInt8) (n : Nat) (w : World) (hs : m.length ≤ 2000) (hn : nd m = n) (t1 : m.take n = wh) (t2 : m.drop n = [c]) (hb : ∀ h, ((((ByteArray.mk m.toArray)[0]'h).toNat : Int) == 45) = false) (hl0 : 0 < m.length) (n0 : 0 < n) :
    Calls Try.prog 17 #[.string ⟨m.toArray⟩] w fun e w' => e = .returned (.tuple #[.int .i64 (Lv.read false m).1, .int .i64 (Lv.read false m).2]) ∧ Kept w w' := by
  have X := ba_extract; have Z := ba_size; have Y := ba_append; have D := fun w => digits_any ⟨m.toArray⟩ w (by rw [ba_size]; omega); rw [show nd (ByteArray.mk m.toArray).data.toList = n from hn] at D; have HD := Lib.hid D; have HN := Lib.hid hn; clear D hn; have lp : (0 : Int) < (m.length : Int) := by omega
  have b0 := fun h => hb h; have n1 : n ≤ m.length := by have := nd_le m; rw [HN.out] at this; exact this
  have nz : ((n : Int) == 0) = false := by rw [beq_eq_false_iff_ne]; omega
  have E : Hid (Lv.read false m = (0, 4)) := by
    show _ = _; unfold Lv.read; rw [HN.out]; rw [if_neg (by omega), t2, frac_one]
  go_enter Try.func17, Try.ntmps17; go_wp2_with fail; refine (HD.out _).mono ?_; rintro e w' ⟨rfl, rfl⟩; go_wp2_with fail
  go_region
  go_wp2_with fail; go_ret2; exact ⟨ret_ii (by rw [E.out]) (by rw [E.out]), kpt⟩
set_option maxHeartbeats 800000 in
set_option maxRecDepth 100000 in
theorem parse_b1_pos (m wh r : List UInt8) (c : UInt8) (n : Nat) (w : World) (hs : m.length ≤ 2000) (hn : nd m = n) (t1 : m.take n = wh) (t2 : m.drop n = c :: r) (hb : ∀ h, ((((ByteArray.mk m.toArray)[0]'h).toNat : Int) == 45) = false) (hl0 : 0 < m.length) (n0 : 0 < n) (hr : 0 < r.length) (hc : c ≠ 46) :
    Calls Try.prog 17 #[.string ⟨m.toArray⟩] w fun e w' => e = .returned (.tuple #[.int .i64 (Lv.read false m).1, .int .i64 (Lv.read false m).2]) ∧ Kept w w' := by
  have X := ba_extract; have Z := ba_size; have Y := ba_append; have D := fun w => digits_any ⟨m.toArray⟩ w (by rw [ba_size]; omega); rw [show nd (ByteArray.mk m.toArray).data.toList = n from hn] at D; have HD := Lib.hid D; have HN := Lib.hid hn; clear D hn; have lp : (0 : Int) < (m.length : Int) := by omega
  have b0 := fun h => hb h; have n1 : n ≤ m.length := by have := nd_le m; rw [HN.out] at this; exact this
  have nz : ((n : Int) == 0) = false := by rw [beq_eq_false_iff_ne]; omega
  have c0 : ((((ByteArray.mk (c :: r).toArray)[0]'(by rw [ba_size]; simp)).toNat : Int) == 46) = false := by rw [beq_eq_false_iff_ne]; intro h; apply hc; apply UInt8.toNat_inj.1; show c.toNat = 46; exact Int.ofNat_inj.1 h
  have E : Hid (Lv.read false m = (0, 4)) := by
    show _ = _; unfold Lv.read; rw [HN.out]; rw [if_neg (by omega), t2, frac_no hc]
  clear hc; go_enter Try.func17, Try.ntmps17; go_wp2_with fail; refine (HD.out _).mono ?_; rintro e w' ⟨rfl, rfl⟩; go_wp2_with fail
  go_region
  go_wp2_with fail; go_ret2; exact ⟨ret_ii (by rw [E.out]) (by rw [E.out]), kpt⟩
set_option maxHeartbeats 800000 in
set_option maxRecDepth 100000 in
theorem parse_c1_pos (m wh r : List UInt8) (c : UInt8) (n : Nat) (w : World) (hs : m.length ≤ 2000) (hn : nd m = n) (t1 : m.take n = wh) (t2 : m.drop n = c :: r) (hb : ∀ h, ((((ByteArray.mk m.toArray)[0]'h).toNat : Int) == 45) = false) (hl0 : 0 < m.length) (n0 : 0 < n) (hr : 0 < r.length) (hc : c = 46) (hd : nd r ≠ r.length) :
    Calls Try.prog 17 #[.string ⟨m.toArray⟩] w fun e w' => e = .returned (.tuple #[.int .i64 (Lv.read false m).1, .int .i64 (Lv.read false m).2]) ∧ Kept w w' := by
  have X := ba_extract; have Z := ba_size; have Y := ba_append; have D := fun w => digits_any ⟨m.toArray⟩ w (by rw [ba_size]; omega); rw [show nd (ByteArray.mk m.toArray).data.toList = n from hn] at D; have HD := Lib.hid D; have HN := Lib.hid hn; clear D hn; have lp : (0 : Int) < (m.length : Int) := by omega
  have b0 := fun h => hb h; have n1 : n ≤ m.length := by have := nd_le m; rw [HN.out] at this; exact this
  have nz : ((n : Int) == 0) = false := by rw [beq_eq_false_iff_ne]; omega
  have c0 : ((((ByteArray.mk (c :: r).toArray)[0]'(by rw [ba_size]; simp)).toNat : Int) == 46) = true := by rw [hc]; rfl
  have E : Hid (Lv.read false m = (0, 4)) := by
    show _ = _; unfold Lv.read; rw [HN.out]; rw [if_neg (by omega), t2, frac_bad hd]
  have rl : r.length ≤ 2000 := by have := congrArg List.length t2; simp at this; omega
  have D2 := fun w => digits_any ⟨r.toArray⟩ w (by rw [ba_size]; omega); rw [show nd (ByteArray.mk r.toArray).data.toList = nd r from rfl] at D2; have HD2 := Lib.hid D2; have de : ((nd r : Int) == (r.length : Int)) = false := by rw [beq_eq_false_iff_ne]; omega
  clear hc hd D2; generalize nd r = k at *; go_enter Try.func17, Try.ntmps17; go_wp2_with fail; refine (HD.out _).mono ?_; rintro e w' ⟨rfl, rfl⟩; go_wp2_with fail
  go_region
  go_wp2_with fail; refine (HD2.out _).mono ?_; rintro e w' ⟨rfl, rfl⟩; go_wp2_with fail; go_ret2; exact ⟨ret_ii (by rw [E.out]) (by rw [E.out]), kpt⟩
set_option maxHeartbeats 800000 in
set_option maxRecDepth 100000 in
theorem parse_d_pos (m wh r : List UInt8) (c : UInt8) (n : Nat) (w : World) (hs : m.length ≤ 2000) (hn : nd m = n) (t1 : m.take n = wh) (t2 : m.drop n = c :: r) (hb : ∀ h, ((((ByteArray.mk m.toArray)[0]'h).toNat : Int) == 45) = false) (hl0 : 0 < m.length) (n0 : Hid (n = 0)) (hr : 0 < r.length) (hc : c = 46) (hd : nd r = r.length) :
    Calls Try.prog 17 #[.string ⟨m.toArray⟩] w fun e w' => e = .returned (.tuple #[.int .i64 (Lv.read false m).1, .int .i64 (Lv.read false m).2]) ∧ Kept w w' := by
  have X := ba_extract; have Z := ba_size; have Y := ba_append; have D := fun w => digits_any ⟨m.toArray⟩ w (by rw [ba_size]; omega); rw [show nd (ByteArray.mk m.toArray).data.toList = n from hn] at D; have HD := Lib.hid D; have HN := Lib.hid hn; clear D hn; have lp : (0 : Int) < (m.length : Int) := by omega
  have b0 := fun h => hb h; have n1 : n ≤ m.length := by have := nd_le m; rw [HN.out] at this; exact this
  have nz : ((n : Int) == 0) = true := by rw [n0.out]; rfl
  have c0 : ((((ByteArray.mk (c :: r).toArray)[0]'(by rw [ba_size]; simp)).toNat : Int) == 46) = true := by rw [hc]; rfl
  have E : Hid (Lv.read false m = (0, 4)) := by
    show _ = _; unfold Lv.read; rw [HN.out]; rw [if_pos n0.out]
  have rl : r.length ≤ 2000 := by have := congrArg List.length t2; simp at this; omega
  have D2 := fun w => digits_any ⟨r.toArray⟩ w (by rw [ba_size]; omega); rw [show nd (ByteArray.mk r.toArray).data.toList = r.length from hd] at D2; have HD2 := Lib.hid D2; clear hc hd D2; go_enter Try.func17, Try.ntmps17; go_wp2_with fail; refine (HD.out _).mono ?_; rintro e w' ⟨rfl, rfl⟩; go_wp2_with fail
  go_region
  go_wp2_with fail; refine (HD2.out _).mono ?_; rintro e w' ⟨rfl, rfl⟩; go_wp2_with fail; go_ret2; exact ⟨ret_ii (by rw [E.out]) (by rw [E.out]), kpt⟩
end Go.Proofs.Ytbgpbopnfodjoaa
