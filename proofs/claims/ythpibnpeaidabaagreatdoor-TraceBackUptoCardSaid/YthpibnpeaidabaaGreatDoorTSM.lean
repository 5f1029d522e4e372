/- Are two lists of events, of numbers the same. -/
import Derived.Test.YthpibnpeaidabaaGreatDoorTW
set_option linter.unusedSimpArgs false
set_option linter.unusedVariables false
namespace Go.Proofs.YthpibnpeaidabaaGreatDoor.Dm
open Go.Dm
set_option maxHeartbeats 16000000
set_option maxRecDepth 20000
theorem take_at {α : Type} [Inhabited α] {l : List α} {k : Nat} (h : k < l.length) : l.take (k + 1) = l.take k ++ [at' l k] := by rw [at'_get _ _ h]; exact List.take_succ_eq_append_getElem h
theorem ev_neqC {xo yo : Operand} {a b : T_Event} : sbin2 tt.get .neq 33 xo yo (.agg ⟨[.int .u64 (a.At), .int .i64 (a.Kind), .int .i64 (a.Router), .int .i64 (a.Peer), .int .u32 (a.Id), .int .i64 (a.Set), .int .u64 (a.Bits_x0), .int .u64 (a.Bits_x1), .int .u64 (a.Bits_x2), .int .u64 (a.Bits_x3)]⟩) (.agg ⟨[.int .u64 (b.At), .int .i64 (b.Kind), .int .i64 (b.Router), .int .i64 (b.Peer), .int .u32 (b.Id), .int .i64 (b.Set), .int .u64 (b.Bits_x0), .int .u64 (b.Bits_x1), .int .u64 (b.Bits_x2), .int .u64 (b.Bits_x3)]⟩) = (.bool (!decide (a = b)), True) := ev_neq (a := a) (b := b)
end Go.Proofs.YthpibnpeaidabaaGreatDoor.Dm
