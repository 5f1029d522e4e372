/- The document's words. -/
import Derived.Test.YthpibnpeaidabaaGreatDoorTW
set_option linter.unusedSimpArgs false
set_option linter.unusedVariables false
namespace Go.Proofs.YthpibnpeaidabaaGreatDoor.Dm
open Go.Dm
set_option maxHeartbeats 16000000
set_option maxRecDepth 20000
/-- the pieces and the start of the next one, behind i rounds -/
def wdS (s : List UInt8) : Nat → List (List UInt8) × Nat
  | 0 => ([], 0)
  | i + 1 => if i = s.length ∨ at' s i = 32 then ((wdS s i).1 ++ [(s.drop (wdS s i).2).take (i - (wdS s i).2)], i + 1) else wdS s i
theorem slice_strW {h' : Hp} {s : List UInt8} {f i : Nat} (h1 : f ≤ i) (h2 : i ≤ s.length) : sslice tt.get h' 9 (.string ⟨⟨s⟩⟩) (some (.int .i64 (f : Int))) (some (.int .i64 (i : Int))) = (.string ⟨⟨(s.drop f).take (i - f)⟩⟩, True) := by
  unfold sslice
  simp only [k_string]
  simp [sbound, isBound, strOf, IsS, IsN, intOf]
  omega
end Go.Proofs.YthpibnpeaidabaaGreatDoor.Dm
