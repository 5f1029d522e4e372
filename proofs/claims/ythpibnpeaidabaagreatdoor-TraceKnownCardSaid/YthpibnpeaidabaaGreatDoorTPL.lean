/- Texts and lists of events: plain laws. -/
import Derived.Test.YthpibnpeaidabaaGreatDoorTPA
set_option linter.unusedSimpArgs false
set_option linter.unusedVariables false
namespace Go.Proofs.YthpibnpeaidabaaGreatDoor.Dm
open Go.Dm
set_option maxHeartbeats 16000000
set_option maxRecDepth 20000
end Go.Proofs.YthpibnpeaidabaaGreatDoor.Dm
