/- Are two lists of events, of numbers the same. -/
import Derived.Test.YthpibnpeaidabaaGreatDoorTW
set_option linter.unusedSimpArgs false
set_option linter.unusedVariables false
namespace Go.Proofs.YthpibnpeaidabaaGreatDoor.Dm
open Go.Dm
set_option maxHeartbeats 16000000
set_option maxRecDepth 20000
theorem VU {α:Type}[Inhabited α]{l:List α}{k:Nat}(h:k < l.length):l.take (k+1)=l.take k ++ [at' l k]:=by rw [Dt _ _ h];exact List.take_succ_eq_append_getElem h
end Go.Proofs.YthpibnpeaidabaaGreatDoor.Dm
