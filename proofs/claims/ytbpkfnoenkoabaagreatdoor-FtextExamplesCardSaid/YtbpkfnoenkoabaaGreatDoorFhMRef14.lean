/- Layer 14: laws of the reference's loops, on plain data. -/
import Derived.Test.YtbpkfnoenkoabaaGreatDoorFhMText14
namespace Go.Proofs.YtbpkfnoenkoabaaGreatDoor.Lv
set_option linter.unusedVariables false
set_option linter.unusedSimpArgs false
open Go
theorem occ_drop (t s : List UInt8) (a i : Nat) : Lib.occAt (t.drop a) s i = Lib.occAt t s (a + i) := by unfold Lib.occAt; rw [List.drop_drop]
def NoHit (s t : List UInt8) (a k : Nat) : Prop := ∀ j, a ≤ j → j < k → Lib.occAt t s j = false
theorem noHit_start (s t : List UInt8) (a : Nat) : NoHit s t a a := fun j h1 h2 => by omega
theorem occ_piece {s t : List UInt8} {k : Nat} (h1 : 1 ≤ k) (hr : k + s.length ≤ t.length + 1) : Lib.occAt t s (k - 1) = decide ((t.take (k - 1 + s.length)).drop (k - 1) = s) := by
  rw [Lib.occAt_iff_take t s (k - 1) (by omega), List.drop_take, Nat.add_sub_cancel_left]
  by_cases h : (t.drop (k - 1)).take s.length = s
  · rw [h]; simp
  · rw [decide_eq_false h]; exact beq_eq_false_iff_ne.2 h
theorem rfind_hit {s t : List UInt8} {m : Int} {k : Nat} (h1 : 1 ≤ m) (hk : m.toNat ≤ k) (hr : k + s.length ≤ t.length + 1) (he : (t.take (k - 1 + s.length)).drop (k - 1) = s) (hn : NoHit s t (m.toNat - 1) (k - 1)) : vMake ((k : Int) * 10000) = find14 s t m := by
  have e : Lib.index (t.drop (m - 1).toNat) s = ((k - m.toNat : Nat) : Int) := by
    refine Lib.index_first (by rw [List.length_drop]; omega) ?_ (fun j hj => ?_)
    · rw [occ_drop, show (m - 1).toNat + (k - m.toNat) = k - 1 by omega, occ_piece (by omega) hr]
      exact decide_eq_true he
    · rw [occ_drop]; exact hn _ (by omega) (by omega)
  unfold find14; rw [if_neg (by omega), e, if_neg (by omega)]
  congr 1
  omega
theorem rfind_next {s t : List UInt8} {a k : Nat} (h1 : 1 ≤ k) (hr : k + s.length ≤ t.length + 1) (he : ¬ (t.take (k - 1 + s.length)).drop (k - 1) = s) (hn : NoHit s t a (k - 1)) : NoHit s t a (k + 1 - 1) := fun j ha hj => by
  by_cases c : j < k - 1
  · exact hn j ha c
  · rw [show j = k - 1 by omega, occ_piece h1 hr]; exact decide_eq_false he
theorem rfind_end {s t : List UInt8} {m : Int} {k : Nat} (h1 : 1 ≤ m) (hk : m.toNat ≤ k) (hr : t.length + 1 < k + s.length) (hn : NoHit s t (m.toNat - 1) (k - 1)) : vFail 2 = find14 s t m := by
  unfold find14
  by_cases c : (t.length : Int) + 1 < m
  · rw [if_pos (Or.inr c)]
  · rw [if_neg (by omega), if_pos]
    rw [Lib.index_none (fun j hj => ?_)]
    · omega
    · rw [List.length_drop] at hj
      rw [occ_drop]
      by_cases d : (m - 1).toNat + j < k - 1
      · exact hn _ (by omega) d
      · cases h : Lib.occAt t s ((m - 1).toNat + j) with
        | false => rfl
        | true =>
          rcases Lib.occAt_room h with r | r
          · omega
          · subst r; simp only [List.length_nil] at hr; omega
theorem flat_len (s : List UInt8) (n : Nat) : (List.replicate n s).flatten.length = n * s.length := by simp
theorem flat_next (s : List UInt8) (n : Nat) : (List.replicate n s).flatten ++ s = (List.replicate (n + 1) s).flatten := by
  rw [List.replicate_succ', List.flatten_append]; simp
theorem rrept_end {s : List UInt8} {n : Int} {k : Nat} (h : 0 ≤ n) (hk : k ≤ n.toNat) (he : k = n.toNat ∨ s = []) : vText (List.replicate k s).flatten = rept14 s n := by
  unfold rept14; rw [if_neg (by omega)]; rcases he with rfl | rfl
  · rfl
  · congr 1; simp
theorem rrept_out {s : List UInt8} {n : Int} {k : Nat} (h : 0 ≤ n) (hk : k ≤ n.toNat) (hl : 256 < (List.replicate k s).flatten.length) : vText (List.replicate k s).flatten = rept14 s n := by
  unfold rept14 vText; rw [if_pos hl, if_neg (by omega), if_pos]; rw [flat_len] at hl ⊢; exact Nat.lt_of_lt_of_le hl (Nat.mul_le_mul hk (Nat.le_refl _))
end Go.Proofs.YtbpkfnoenkoabaaGreatDoor.Lv
