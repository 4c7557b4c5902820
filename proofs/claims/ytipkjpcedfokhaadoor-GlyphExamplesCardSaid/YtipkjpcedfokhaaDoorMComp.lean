/- The order of strings: plain lists of bytes. -/
import Derived.Test.YtipkjpcedfokhaaDoorMGlyph
import Derived.Lib.Bytealg
namespace Go.Proofs.YtipkjpcedfokhaaDoor.Lv
set_option linter.unusedVariables false
set_option linter.unusedSimpArgs false
open Go
theorem cmp_spec : ∀ x y : List UInt8, (Op.bytesLess x y = true ∧ Lib.compareBytes x y = -1) ∨ (Op.bytesLess x y = false ∧ x = y ∧ Lib.compareBytes x y = 0) ∨ (Op.bytesLess x y = false ∧ x ≠ y ∧ Lib.compareBytes x y = 1)
  | [], [] => by simp [Op.bytesLess, Lib.compareBytes]
  | [], _ :: _ => by simp [Op.bytesLess, Lib.compareBytes]
  | _ :: _, [] => by simp [Op.bytesLess, Lib.compareBytes]
  | a :: x, b :: y => by
    have ih := cmp_spec x y
    unfold Op.bytesLess Lib.compareBytes
    by_cases h : a < b
    · left; simp [h]
    · by_cases g : b < a
      · right; right
        have ne : a ≠ b := by intro e; subst e; exact absurd g h
        simp [h, g, ne]
      · have e : a = b := by
          apply UInt8.toNat_inj.1
          have h1 : ¬ a.toNat < b.toNat := h
          have h2 : ¬ b.toNat < a.toNat := g
          omega
        subst e
        simp only [h, if_false, beq_self_eq_true, Bool.true_and, decide_false, Bool.false_or]
        rcases ih with ⟨h1, h2⟩ | ⟨h1, h2, h3⟩ | ⟨h1, h2, h3⟩
        · left; exact ⟨h1, h2⟩
        · right; left; exact ⟨h1, by rw [h2], h3⟩
        · right; right; exact ⟨h1, by simpa using h2, h3⟩
end Go.Proofs.YtipkjpcedfokhaaDoor.Lv
