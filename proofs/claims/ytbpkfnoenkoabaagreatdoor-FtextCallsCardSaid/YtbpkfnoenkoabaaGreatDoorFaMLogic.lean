/- Layer 15: conditions, on plain data. -/
import Derived.Test.YtbpkfnoenkoabaaGreatDoorFaBunM
namespace Go.Proofs.YtbpkfnoenkoabaaGreatDoor.Lv
set_option linter.unusedVariables false
set_option linter.unusedSimpArgs false
open Go
def isE (v : Vl) : Bool := decide (v.k = 4)
def firstE (l : List Vl) : Option Vl := l.find? isE
def blankV : Vl := ⟨0, 0, []⟩
end Go.Proofs.YtbpkfnoenkoabaaGreatDoor.Lv
