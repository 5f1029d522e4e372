/- TraceAgain: the walk. -/
import Derived.Test.YthpibnpeaidabaaGreatDoorTPR
import Derived.Test.YthpibnpeaidabaaGreatDoorTPC
set_option linter.unusedVariables false
namespace Go.Proofs.YthpibnpeaidabaaGreatDoor.Dm
open Go.Dm
set_option maxHeartbeats 16000000
set_option maxRecDepth 20000
theorem evTxt_ge : ∀ l : List T_Event, l.length ≤ (evTxt l).length
  | [] => Nat.le_refl _
  | x :: l => by
    have := evTxt_ge l
    rw [evTxt_cons]
    simp only [List.length_append, List.length_cons]
    omega
theorem slen_nilE {h' : Hp} : slen tt.get h' 22 (.slice none 0 0) = (.int .i64 0, True) := by
  unfold slen
  simp only [k_sEvent]
  simp [lenA, t_sEvent, ti22]
end Go.Proofs.YthpibnpeaidabaaGreatDoor.Dm
/- A text of events cut: plain laws. -/
set_option linter.unusedVariables false
namespace Go.Proofs.YthpibnpeaidabaaGreatDoor.Dm
open Go.Dm
set_option maxHeartbeats 4000000
set_option maxRecDepth 20000
theorem cut_none {s : List UInt8} (h : (10 : UInt8) ∉ s) : cutF s = (s, [], false) := by
  unfold cutF Lib.cut
  by_cases hi : 0 ≤ Lib.index s [10]
  · exfalso
    have := index_nlB s hi
    rw [this] at h
    exact h (by simp)
  · rw [if_neg hi]
end Go.Proofs.YthpibnpeaidabaaGreatDoor.Dm
