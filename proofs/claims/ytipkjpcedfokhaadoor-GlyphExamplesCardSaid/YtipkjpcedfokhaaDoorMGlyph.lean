/- Layer 4 as plain lists of bytes. -/
import Derived.WalkKit
namespace Go.Proofs.YtipkjpcedfokhaaDoor.Lv
set_option linter.unusedVariables false
set_option linter.unusedSimpArgs false
open Go
def upB (c : UInt8) : UInt8 := if 97 ≤ c.toNat ∧ c.toNat ≤ 122 then UInt8.ofNat (c.toNat - 32) else c
def loB (c : UInt8) : UInt8 := if 65 ≤ c.toNat ∧ c.toNat ≤ 90 then UInt8.ofNat (c.toNat + 32) else c
def up8 (c : Nat) : Nat := if 97 ≤ c ∧ c ≤ 122 then c - 32 else c
def lo8 (c : Nat) : Nat := if 65 ≤ c ∧ c ≤ 90 then c + 32 else c
def pr8 (c : Nat) : Nat := if c < 32 ∨ 126 < c then 0 else 32
theorem upB_toNat (c : UInt8) : (upB c).toNat = up8 c.toNat := by unfold upB up8; split <;> simp; omega
theorem loB_toNat (c : UInt8) : (loB c).toNat = lo8 c.toNat := by unfold loB lo8; split <;> simp; omega
def upper (l : List UInt8) : List UInt8 := l.map upB
def lower (l : List UInt8) : List UInt8 := l.map loB
def okB (c : UInt8) : Bool := decide (32 ≤ c.toNat ∧ c.toNat ≤ 126)
def plain (l : List UInt8) : Bool := l.all okB
end Go.Proofs.YtipkjpcedfokhaaDoor.Lv
