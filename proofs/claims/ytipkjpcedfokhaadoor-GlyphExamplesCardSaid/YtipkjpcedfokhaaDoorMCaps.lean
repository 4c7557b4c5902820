/- Capitals, and the order of texts: plain lists. -/
import Derived.Test.YtipkjpcedfokhaaDoorMComp
namespace Go.Proofs.YtipkjpcedfokhaaDoor.Lv
set_option linter.unusedVariables false
set_option linter.unusedSimpArgs false
open Go
theorem up8_up8 (c : Nat) : up8 (up8 c) = up8 c := by
  unfold up8; repeat' split
  all_goals omega
theorem lo8_lo8 (c : Nat) : lo8 (lo8 c) = lo8 c := by
  unfold lo8; repeat' split
  all_goals omega
theorem up8_lo8 (c : Nat) : up8 (lo8 c) = up8 c := by
  unfold up8 lo8; repeat' split
  all_goals omega
theorem lo8_up8 (c : Nat) : lo8 (up8 c) = lo8 c := by
  unfold up8 lo8; repeat' split
  all_goals omega
theorem upB_upB (c : UInt8) : upB (upB c) = upB c := UInt8.toNat_inj.1 (by rw [upB_toNat, upB_toNat, up8_up8])
theorem loB_loB (c : UInt8) : loB (loB c) = loB c := UInt8.toNat_inj.1 (by rw [loB_toNat, loB_toNat, lo8_lo8])
theorem upB_loB (c : UInt8) : upB (loB c) = upB c := UInt8.toNat_inj.1 (by rw [upB_toNat, loB_toNat, upB_toNat, up8_lo8])
theorem loB_upB (c : UInt8) : loB (upB c) = loB c := UInt8.toNat_inj.1 (by rw [loB_toNat, upB_toNat, loB_toNat, lo8_up8])
theorem upper_upper (l : List UInt8) : upper (upper l) = upper l := by unfold upper; rw [List.map_map]; exact List.map_congr_left fun c _ => upB_upB c
theorem lower_lower (l : List UInt8) : lower (lower l) = lower l := by unfold lower; rw [List.map_map]; exact List.map_congr_left fun c _ => loB_loB c
theorem upper_lower (l : List UInt8) : upper (lower l) = upper l := by unfold upper lower; rw [List.map_map]; exact List.map_congr_left fun c _ => upB_loB c
theorem lower_upper (l : List UInt8) : lower (upper l) = lower l := by unfold upper lower; rw [List.map_map]; exact List.map_congr_left fun c _ => loB_upB c
theorem upper_len (l : List UInt8) : (upper l).length = l.length := List.length_map _
theorem lower_len (l : List UInt8) : (lower l).length = l.length := List.length_map _
theorem upper_append (l m : List UInt8) : upper (l ++ m) = upper l ++ upper m := List.map_append

theorem cmp_self (l : List UInt8) : Lib.compareBytes l l = 0 := by
  rcases cmp_spec l l with ⟨h, _⟩ | ⟨_, _, h⟩ | ⟨_, h, _⟩
  · exfalso
    have : ∀ l : List UInt8, Op.bytesLess l l = false := by
      intro l
      induction l with
      | nil => rfl
      | cons c l ih =>
        have hc : ¬ c < c := fun h => absurd (show c.toNat < c.toNat from h) (by omega)
        unfold Op.bytesLess
        simp [hc, ih]
    rw [this l] at h; cases h
  · exact h
  · exact absurd rfl h
theorem cmp_zero {x y : List UInt8} : Lib.compareBytes x y = 0 ↔ x = y := by
  constructor
  · intro h
    rcases cmp_spec x y with ⟨_, g⟩ | ⟨_, e, _⟩ | ⟨_, _, g⟩
    · omega
    · exact e
    · omega
  · rintro rfl; exact cmp_self x
theorem cmp_range (x y : List UInt8) : -1 ≤ Lib.compareBytes x y ∧ Lib.compareBytes x y ≤ 1 := by
  rcases cmp_spec x y with ⟨_, g⟩ | ⟨_, _, g⟩ | ⟨_, _, g⟩ <;> omega
theorem cmp_cons (a b : UInt8) (x y : List UInt8) : Lib.compareBytes (a :: x) (b :: y) = if a.toNat < b.toNat then -1 else if b.toNat < a.toNat then 1 else Lib.compareBytes x y := rfl
theorem cmp_anti : ∀ x y : List UInt8, Lib.compareBytes y x = -Lib.compareBytes x y
  | [], [] => rfl
  | [], _ :: _ => rfl
  | _ :: _, [] => rfl
  | a :: x, b :: y => by
    rw [cmp_cons, cmp_cons, cmp_anti x y]
    split
    · rw [if_neg (by omega)] <;> rfl
    · split <;> rfl
theorem cmp_trans : ∀ x y z : List UInt8, Lib.compareBytes x y ≤ 0 → Lib.compareBytes y z ≤ 0 → Lib.compareBytes x z ≤ 0 ∧ (Lib.compareBytes x z = 0 → Lib.compareBytes x y = 0 ∧ Lib.compareBytes y z = 0)
  | [], [], _, _, h => ⟨h, fun e => ⟨rfl, e⟩⟩
  | [], _ :: _, [], _, h => by simp [Lib.compareBytes] at h
  | [], _ :: _, _ :: _, _, _ => by simp [Lib.compareBytes]
  | _ :: _, [], _, h, _ => by simp [Lib.compareBytes] at h
  | _ :: _, _ :: _, [], _, h => by simp [Lib.compareBytes] at h
  | a :: x, b :: y, c :: z, h, g => by
    simp only [cmp_cons] at h g ⊢
    have ih := cmp_trans x y z
    by_cases h1 : a.toNat < b.toNat
    · by_cases g1 : b.toNat < c.toNat
      · rw [if_pos (show a.toNat < c.toNat by omega)]; exact ⟨by omega, fun e => by omega⟩
      · rw [if_neg g1] at g
        by_cases g2 : c.toNat < b.toNat
        · rw [if_pos g2] at g; omega
        · rw [if_pos (show a.toNat < c.toNat by omega)]; exact ⟨by omega, fun e => by omega⟩
    · rw [if_neg h1] at h
      by_cases h2 : b.toNat < a.toNat
      · rw [if_pos h2] at h; omega
      · rw [if_neg h2] at h
        by_cases g1 : b.toNat < c.toNat
        · rw [if_pos (show a.toNat < c.toNat by omega)]; exact ⟨by omega, fun e => by omega⟩
        · rw [if_neg g1] at g
          by_cases g2 : c.toNat < b.toNat
          · rw [if_pos g2] at g; omega
          · rw [if_neg g2] at g
            rw [if_neg (show ¬ a.toNat < c.toNat by omega), if_neg (show ¬ c.toNat < a.toNat by omega), if_neg h1, if_neg h2, if_neg g1, if_neg g2]
            exact ih h g
theorem cmp_prefix : ∀ x y : List UInt8, Lib.compareBytes x (x ++ y) ≤ 0
  | [], [] => by decide
  | [], _ :: _ => by simp [Lib.compareBytes]
  | a :: x, y => by
    rw [List.cons_append, cmp_cons, if_neg (by omega), if_neg (by omega)]
    exact cmp_prefix x y
end Go.Proofs.YtipkjpcedfokhaaDoor.Lv
