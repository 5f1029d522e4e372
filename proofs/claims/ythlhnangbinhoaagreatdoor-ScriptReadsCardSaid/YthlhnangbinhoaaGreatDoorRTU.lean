/- The wrap and the witness of a row whose specification bears a bound of bulk, over seven laid variables. -/
import Derived.Test.YthlhnangbinhoaaGreatDoorRT7
import Derived.JoinedCond
import Derived.Deep.CondSized
set_option linter.unusedVariables false
namespace Go.Proofs.YthlhnangbinhoaaGreatDoor.Dm
open Go.ChangeShapes Go.WideShapes Go.ChangeAt
open Go.Dm
end Go.Proofs.YthlhnangbinhoaaGreatDoor.Dm
