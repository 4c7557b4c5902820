/- A row that lists variables: what a walk is told of the first world: its shape, and the listed data. -/
import Derived.Test.YtbkjdcpfkepheaaGreatDoorRows
import Derived.HandedShaped
import Derived.ChangeVars
import Derived.LaidMore
import Derived.Lay
namespace Go.Proofs.YtbkjdcpfkepheaaGreatDoor
section
set_option linter.unusedVariables false
set_option linter.unusedSimpArgs false
open Go
