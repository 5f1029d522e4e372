/- Are two lists of events, of numbers the same. -/
import Derived.Test.YthpibnpeaidabaaGreatDoorTW
set_option linter.unusedVariables false
namespace Go.Proofs.YthpibnpeaidabaaGreatDoor.Dm
open Go.Dm
set_option maxHeartbeats 16000000
set_option maxRecDepth 20000
theorem PT {α:Type}[Inhabited α]{l:List α}{k:Nat}(h:k < l.length):l.take (k+1)=l.take k ++ [at' l k]:=by rw [Cd _ _ h];exact List.take_succ_eq_append_getElem h
theorem VB {xo yo:Operand}{a b:AM}:BS tt.get .neq 33 xo yo (.agg ⟨[.int .u64 (a.At), .int .i64 (a.Kind), .int .i64 (a.Bw), .int .i64 (a.DY), .int .u32 (a.Id), .int .i64 (a.Set), .int .u64 (a.Dr), .int .u64 (a.Dw), .int .u64 (a.Dt), .int .u64 (a.Dq)]⟩) (.agg ⟨[.int .u64 (b.At), .int .i64 (b.Kind), .int .i64 (b.Bw), .int .i64 (b.DY), .int .u32 (b.Id), .int .i64 (b.Set), .int .u64 (b.Dr), .int .u64 (b.Dw), .int .u64 (b.Dt), .int .u64 (b.Dq)]⟩)=(.bool (!decide (a=b)),True):=oe (a:=a) (b:=b)
end Go.Proofs.YthpibnpeaidabaaGreatDoor.Dm
