/- Slices of numbers that come in. -/
import Derived.Test.YtingopdeckgpaaaWRef4
import Derived.Test.YtingopdeckgpaaaWKnown
namespace Go.Proofs.Ytingopdeckgpaaa
set_option linter.unusedVariables false
set_option linter.unusedSimpArgs false
open Go.RowKit Lv

/-- a slice of integers that came in: nil, or a row of cap cells, the first len of which are its elements -/
def IsRow (k : IntKind) (w : World) (a : Option Addr) (len cap : Nat) (zs : List Int) : Prop :=
  (a = none ∧ len = 0 ∧ cap = 0 ∧ zs = []) ∨
  ∃ x, a = some x ∧ len ≤ cap ∧ cap ≤ maxLen ∧ zs.length = cap ∧ (∀ i, i < zs.length → w.cell? (x.add i) = some (.int k (zs.getD i 0))) ∧ ∀ n ∈ zs, (Lit.int k n).wf = true

theorem i64_of_lit {a : Int} (h : (Lit.int .i64 a).wf = true) : i64 a := by
  have := Go.bounds_i64 h
  unfold i64; omega

theorem IsRow.row {w : World} {a : Option Addr} {len cap : Nat} {zs : List Int} (h : IsRow .i64 w a len cap zs) : Row w a (zs.take len) ∧ All64 (zs.take len) ∧ (zs.take len).length = len ∧ len ≤ 9223372036854775807 := by
  rcases h with ⟨rfl, rfl, rfl, rfl⟩ | ⟨x, rfl, hl, hm, hz, hc, hw⟩
  · exact ⟨fun i hi => by simp at hi, fun a ha => by simp at ha, rfl, by omega⟩
  · have hlen : (zs.take len).length = len := by rw [List.length_take]; omega
    refine ⟨fun i hi => ?_, fun a ha => i64_of_lit (hw a (List.mem_of_mem_take ha)), hlen, by unfold maxLen at hm; omega⟩
    have hi' : i < zs.length := by omega
    obtain ⟨b, off, rfl, hcell⟩ := ints_at hc (by omega)
    have hget : (zs.take len).getD i 0 = zs.getD i 0 := by
      have : i < len := by omega
      simp [List.getD, this]
    have hci := hcell i hi'
    refine ⟨b, off, rfl, ?_, by rw [hget]; exact hci⟩
    rcases Nat.lt_or_ge b w.heap.size with h | h
    · exact h
    · exfalso
      have : w.cell? ⟨b, off + i, none⟩ = none := by simp [World.cell?, Array.getElem?_eq_none h]
      rw [this] at hci; cases hci
end Go.Proofs.Ytingopdeckgpaaa
