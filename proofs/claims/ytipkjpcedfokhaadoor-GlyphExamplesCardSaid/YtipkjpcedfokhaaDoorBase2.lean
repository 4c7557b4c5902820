/- What a call leaves of the world: small lemmas for the ends of walks. -/
import Derived.Test.YtipkjpcedfokhaaDoorBase
import Derived.Deep.QuietTactic
namespace Go.Proofs.YtipkjpcedfokhaaDoor
set_option linter.unusedVariables false
set_option linter.unusedSimpArgs false
open Go.RowKit
theorem Kept.alloc {a w : World} (h : Kept a w) (o : Obj) : Kept a (w.alloc o) := Below.alloc h h.size o
theorem Kept.drew {a w : World} (h : Kept a w) : Kept a w.drew := Below.drew h
theorem Kept.drewN {a w : World} (h : Kept a w) (n : Nat) : Kept a (w.drewN n) := by
  induction n with
  | zero => exact h
  | succ n ih => exact Below.drew ih
theorem Kept.setCell {a w : World} (h : Kept a w) {p : Addr} (hp : a.heap.size ≤ p.block) (u : Value) : Kept a (w.setCell p u) := Below.setCell h hp u
theorem Kept.setCellX {a w : World} {p : Addr} (hp : a.heap.size ≤ p.block) (h : Kept a w) (u : Value) : Kept a (w.setCell p u) := Below.setCell h hp u
theorem ret_agg2 {k l : IntKind} {a b c d : Int} (h : a = b) (g : c = d) : Ending.returned (.agg #[.int k a, .int l c]) = .returned (.agg #[.int k b, .int l d]) := by rw [h, g]
theorem Kept.of_drewN {w : World} (n : Nat) : Kept w (w.drewN n) := (Kept.refl w).drewN n
end Go.Proofs.YtipkjpcedfokhaaDoor
