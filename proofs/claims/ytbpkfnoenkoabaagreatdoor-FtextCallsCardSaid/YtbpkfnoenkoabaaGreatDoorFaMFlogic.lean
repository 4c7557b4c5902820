/- The outright laws of layer 15 on plain data. -/
import Derived.Test.YtbpkfnoenkoabaaGreatDoorFaMGood
namespace Go.Proofs.YtbpkfnoenkoabaaGreatDoor.Lv
set_option linter.unusedVariables false
set_option linter.unusedSimpArgs false
open Go
end Go.Proofs.YtbpkfnoenkoabaaGreatDoor.Lv
