/- Decimal digits, and how layer 1 writes a number: plain lists of bytes. -/
import Derived.Test.YtingopdeckgpaaaMDec
namespace Go.Proofs.Ytingopdeckgpaaa.Lv
set_option linter.unusedVariables false
set_option linter.unusedSimpArgs false
open Go
def dg : Nat → Nat → List UInt8
  | 0, _ => []
  | f + 1, n => if n < 10 then [UInt8.ofNat (48 + n)] else dg f (n / 10) ++ [UInt8.ofNat (48 + n % 10)]
theorem dg_fuel : ∀ (f n : Nat), n < 10 ^ f → 0 < f → dg f n = dg (f + 1) n
  | 0, _, _, h => absurd h (by omega)
  | 1, n, h, _ => by
    have : n < 10 := by simpa using h
    simp [dg, this]
  | f + 2, n, h, _ => by
    unfold dg
    by_cases c : n < 10
    · simp [c]
    · rw [if_neg c, if_neg c, dg_fuel (f + 1) (n / 10) (by rw [Nat.div_lt_iff_lt_mul (by omega)]; rw [Nat.pow_succ] at h; exact h) (by omega)]
/-- the decimal digits of a number -/
def digs (n : Nat) : List UInt8 := dg 20 n
theorem digs_lt {n : Nat} (h : n < 10) : digs n = [UInt8.ofNat (48 + n)] := by unfold digs dg; rw [if_pos h]
theorem digs_ge {n : Nat} (h : 10 ≤ n) (g : n < 100000000000000000000) : digs n = digs (n / 10) ++ [UInt8.ofNat (48 + n % 10)] := by
  have e : dg 19 (n / 10) = dg 20 (n / 10) := dg_fuel 19 (n / 10) (by omega) (by omega)
  show dg 20 n = dg 20 (n / 10) ++ _
  rw [← e]
  conv => lhs; unfold dg
  rw [if_neg (by omega)]
theorem digs_len {n : Nat} : ∀ (k : Nat), n < 10 ^ k → 0 < k → k ≤ 20 → (digs n).length ≤ k := by
  intro k
  induction k generalizing n with
  | zero => intro _ h; omega
  | succ k ih =>
    intro h _ hk
    have h20 : (10 : Nat) ^ (k + 1) ≤ 10 ^ 20 := Nat.pow_le_pow_right (by omega) hk
    by_cases c : n < 10
    · rw [digs_lt c]; simp
    · rw [digs_ge (by omega) (by omega)]
      have hk0 : 0 < k := by
        rcases Nat.eq_zero_or_pos k with h0 | h0
        · subst h0; simp at h; omega
        · exact h0
      have := ih (n := n / 10) (by rw [Nat.div_lt_iff_lt_mul (by omega)]; rw [Nat.pow_succ] at h; exact h) hk0 (by omega)
      simp; omega
theorem digs_pos (n : Nat) (g : n < 100000000000000000000) : 0 < (digs n).length := by
  by_cases c : n < 10
  · rw [digs_lt c]; simp
  · rw [digs_ge (by omega) g]; simp

/-- the 20 cells while digits are filled in from behind -/
def cells20 (S : List UInt8) : Array Value := (List.replicate (20 - S.length) (Value.int .u8 0) ++ S.map (fun b => Value.int .u8 b.toNat)).toArray
theorem cells20_nil : cells20 [] = #[.int .u8 0, .int .u8 0, .int .u8 0, .int .u8 0, .int .u8 0, .int .u8 0, .int .u8 0, .int .u8 0, .int .u8 0, .int .u8 0, .int .u8 0, .int .u8 0, .int .u8 0, .int .u8 0, .int .u8 0, .int .u8 0, .int .u8 0, .int .u8 0, .int .u8 0, .int .u8 0] := rfl
theorem cells20_cons {S : List UInt8} {c : UInt8} (h : S.length < 20) : (cells20 S).setIfInBounds (19 - S.length) (.int .u8 c.toNat) = cells20 (c :: S) := by
  unfold cells20
  apply Array.ext'
  simp only [List.setIfInBounds_toArray, List.length_cons, List.map_cons]
  rw [List.set_append_left _ _ (by simp; omega)]
  have e : 20 - S.length = (20 - (S.length + 1)) + 1 := by omega
  have e2 : 19 - S.length = 20 - (S.length + 1) := by omega
  rw [e, e2, List.replicate_succ', List.set_append_right _ _ (by simp)]
  simp
theorem cells20_get {S : List UInt8} (h : S.length ≤ 20) {i : Nat} (hi : i < S.length) : (cells20 S)[20 - S.length + i]? = some (.int .u8 ((S.map (fun b => (b.toNat : Int))).getD i 0)) := by
  unfold cells20
  simp only [List.getElem?_toArray]
  rw [List.getElem?_append_right (by simp)]
  simp [hi]
theorem cells20_some {S : List UInt8} (h : S.length ≤ 20) {i : Nat} (hi : i < 20) : ∃ v, (cells20 S)[i]? = some v := by
  have : i < (cells20 S).size := by unfold cells20; simp; omega
  exact ⟨_, Array.getElem?_eq_getElem this⟩

/-- without the zeros at the end -/
def strip (l : List UInt8) : List UInt8 := (l.reverse.dropWhile (· == 48)).reverse
theorem strip_zero (l : List UInt8) : strip (l ++ [48]) = strip l := by unfold strip; simp
theorem strip_other (l : List UInt8) {c : UInt8} (h : c ≠ 48) : strip (l ++ [c]) = l ++ [c] := by
  unfold strip
  rw [List.reverse_append]
  simp only [List.reverse_cons, List.reverse_nil, List.nil_append, List.singleton_append]
  rw [List.dropWhile_cons_of_neg (by simpa using h)]
  simp
/-- how layer 1 writes a number -/
def fmt (a : Int) : List UInt8 :=
  (if a < 0 then [45] else []) ++ digs (a.natAbs / 10000) ++ (if a.natAbs % 10000 = 0 then [] else 46 :: strip ((digs (10000 + a.natAbs % 10000)).drop 1))
/-- the four places -/
def four (p : Nat) : List UInt8 := [UInt8.ofNat (48 + p / 1000), UInt8.ofNat (48 + p / 100 % 10), UInt8.ofNat (48 + p / 10 % 10), UInt8.ofNat (48 + p % 10)]
theorem digs_four {p : Nat} (h : p < 10000) : digs (10000 + p) = 49 :: four p := by
  rw [digs_ge (by omega) (by omega), show (10000 + p) / 10 = 1000 + p / 10 by omega, digs_ge (by omega) (by omega), show (1000 + p / 10) / 10 = 100 + p / 100 by omega,
    digs_ge (by omega) (by omega), show (100 + p / 100) / 10 = 10 + p / 1000 by omega, digs_ge (by omega) (by omega), show (10 + p / 1000) / 10 = 1 by omega, digs_lt (by omega)]
  rw [show (10000 + p) % 10 = p % 10 by omega, show (1000 + p / 10) % 10 = p / 10 % 10 by omega, show (100 + p / 100) % 10 = p / 100 % 10 by omega, show (10 + p / 1000) % 10 = p / 1000 by omega]
  rfl
theorem digit_zero {d : Nat} (h : d < 10) : UInt8.ofNat (48 + d) = 48 ↔ d = 0 := by
  constructor
  · intro e
    have := congrArg UInt8.toNat e
    simp at this
    omega
  · rintro rfl; rfl
theorem four_some {p : Nat} (h : p < 10000) (h0 : p ≠ 0) : ∃ x ∈ four p, x ≠ 48 := by
  by_cases c0 : p % 10 = 0
  · by_cases c1 : p / 10 % 10 = 0
    · by_cases c2 : p / 100 % 10 = 0
      · exact ⟨UInt8.ofNat (48 + p / 1000), by simp [four], fun e => by rw [digit_zero (by omega)] at e; omega⟩
      · exact ⟨UInt8.ofNat (48 + p / 100 % 10), by simp [four], fun e => by rw [digit_zero (by omega)] at e; omega⟩
    · exact ⟨UInt8.ofNat (48 + p / 10 % 10), by simp [four], fun e => by rw [digit_zero (by omega)] at e; omega⟩
  · exact ⟨UInt8.ofNat (48 + p % 10), by simp [four], fun e => by rw [digit_zero (by omega)] at e; omega⟩
theorem fmt_12500 : fmt 12500 = [49, 46, 50, 53] := by decide
/-- a string's bytes, the last one apart -/
theorem last_apart {l : List UInt8} (h : 0 < l.length) : ∃ (m : List UInt8) (c : UInt8), l = m ++ [c] := by
  rcases List.eq_nil_or_concat l with h0 | ⟨m, c, h0⟩
  · subst h0; simp at h
  · exact ⟨m, c, by rw [h0, List.concat_eq_append]⟩
end Go.Proofs.Ytingopdeckgpaaa.Lv
