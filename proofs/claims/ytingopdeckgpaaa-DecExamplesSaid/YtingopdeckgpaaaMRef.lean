/- Numbers of 128 bits in two halves, as the references have them. -/
import Derived.Test.YtingopdeckgpaaaMDec
namespace Go.Proofs.Ytingopdeckgpaaa.Lv
set_option linter.unusedVariables false
set_option linter.unusedSimpArgs false
open Go
/-- a number of 128 bits out of its halves -/
def wd (h l : Int) : Int := h * 18446744073709551616 + l
def hi64 (n : Int) : Int := n / 18446744073709551616 % 18446744073709551616
def lo64 (n : Int) : Int := n % 18446744073709551616
theorem hi64_u (n : Int) : u64 (hi64 n) := by unfold hi64 u64; omega
theorem lo64_u (n : Int) : u64 (lo64 n) := by unfold lo64 u64; omega
theorem wd_hilo (n : Int) : wd (hi64 n) (lo64 n) = n % 340282366920938463463374607431768211456 := by unfold wd hi64 lo64; omega
theorem wd_in {n : Int} (h : 0 ≤ n) (g : n < 340282366920938463463374607431768211456) : wd (hi64 n) (lo64 n) = n := by rw [wd_hilo]; omega
theorem hi64_wd {h l : Int} (a : u64 h) (b : u64 l) : hi64 (wd h l) = h := by unfold hi64 wd; obtain ⟨a1, a2⟩ := a; obtain ⟨b1, b2⟩ := b; omega
theorem lo64_wd {h l : Int} (a : u64 h) (b : u64 l) : lo64 (wd h l) = l := by unfold lo64 wd; obtain ⟨a1, a2⟩ := a; obtain ⟨b1, b2⟩ := b; omega
end Go.Proofs.Ytingopdeckgpaaa.Lv
