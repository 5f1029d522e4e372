/- TraceAgain: the walk. -/
import Derived.Test.YthpibnpeaidabaaGreatDoorTPR
import Derived.Test.YthpibnpeaidabaaGreatDoorTPC
set_option linter.unusedSimpArgs false
set_option linter.unusedVariables false
namespace Go.Proofs.YthpibnpeaidabaaGreatDoor.Dm
open Go.Dm
set_option maxHeartbeats 16000000
set_option maxRecDepth 20000
theorem evTxt_ge : ∀ l : List T_Event, l.length ≤ (evTxt l).length
  | [] => Nat.le_refl _
  | x :: l => by
    have := evTxt_ge l
    rw [evTxt_cons]
    simp only [List.length_append, List.length_cons]
    omega
theorem slen_nilE {h' : Hp} : slen tt.get h' 22 (.slice none 0 0) = (.int .i64 0, True) := by
  unfold slen
  simp only [k_sEvent]
  simp [lenA, t_sEvent, ti22]
def GA1 : FuncId → Con := addG (addG (addG (addG GT7 10 conPrt) 13 conPar) 9 conWorks) 14 conPlace
theorem envA1 : EnvV Tryz.prog tt.get GA1 := (((envT7.add prt_ok).add par_ok).add works_ok).add place_ok
theorem GA1_e : GA1 12 = conEvent := rfl
theorem GA1_l : GA1 11 = conLine := rfl
theorem GA1_p : GA1 10 = conPrt := rfl
theorem GA1_q : GA1 13 = conPar := rfl
theorem GA1_w : GA1 9 = conWorks := rfl
theorem GA1_c : GA1 14 = conPlace := rfl
end Go.Proofs.YthpibnpeaidabaaGreatDoor.Dm
