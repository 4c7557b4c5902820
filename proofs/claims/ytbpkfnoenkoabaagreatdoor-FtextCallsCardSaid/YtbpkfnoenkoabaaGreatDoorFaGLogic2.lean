/- Layer 15: fold, conditions, choice. -/
import Derived.Test.YtbpkfnoenkoabaaGreatDoorFaGFew
import Derived.Test.YtbpkfnoenkoabaaGreatDoorFaMFlogic
import Derived.Test.YtbpkfnoenkoabaaGreatDoorFaMVal3
namespace Go.Proofs.YtbpkfnoenkoabaaGreatDoor
set_option linter.unusedVariables false
set_option linter.unusedSimpArgs false
open Go.RowKit Lv
theorem Box.three {w : World} {p : Nat} {a : Vl} (h : Box w p 25 (cellsV a)) : p < w.heap.size ∧ w.cell? ⟨p, 0, none⟩ = some (.int .u8 a.k) ∧ w.cell? ⟨p, 1, none⟩ = some (.int .i64 a.n) ∧ w.cell? ⟨p, 2, none⟩ = some (.string ⟨a.t.toArray⟩) ∧ w.frozen? ⟨p, 0, none⟩ = false ∧ w.frozen? ⟨p, 1, none⟩ = false ∧ w.frozen? ⟨p, 2, none⟩ = false :=
  ⟨h.inside, h.cell 0, h.cell 1, h.cell 2, h.loose 0, h.loose 1, h.loose 2⟩
end Go.Proofs.YtbpkfnoenkoabaaGreatDoor
