/- Values made valid, and rows cut: on plain data. -/
import Derived.Test.YtbpkfnoenkoabaaGreatDoorFaMLogic2
namespace Go.Proofs.YtbpkfnoenkoabaaGreatDoor.Lv
set_option linter.unusedVariables false
set_option linter.unusedSimpArgs false
open Go
def cut300 (v : Vl) : Vl := { v with t := v.t.take 300 }
def few (l : List Vl) : List Vl := (l.take 20).map cut300
theorem few_length (l : List Vl) : (few l).length = min 20 l.length := by unfold few; simp
end Go.Proofs.YtbpkfnoenkoabaaGreatDoor.Lv
