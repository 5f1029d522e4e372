/- A row of bytes that bears its type: append of a text. -/
import Derived.Test.YthpibnpeaidabaaGreatDoorTD
import Derived.Lib.UnsafeStr
import Derived.Shelf.RegionOpenPlain
import Derived.WalkKit
import Derived.Test.YthpibnpeaidabaaGreatDoorTPL
import Derived.Test.YthpibnpeaidabaaGreatDoorTSM
set_option linter.unusedVariables false
namespace Go.Proofs.YthpibnpeaidabaaGreatDoor.Dm
open Go.Dm Go.RowKit
set_option maxHeartbeats 4000000
set_option maxRecDepth 100000
def mkB : Nat := 1 + tabMark * (1 + 5)
def byV (s : List UInt8) : List Value := s.map fun b => .int .u8 b.toNat
def byZ (z : Nat) (s : List UInt8) : Option AObj := match s with
  | [] => none
  | a :: s => some (.cells true z (byV (a :: s)))
def byO (s : List UInt8) : Option AObj := byZ mkB s
end Go.Proofs.YthpibnpeaidabaaGreatDoor.Dm
/- strings.Builder: WriteString, as the world has it. -/
set_option linter.unusedVariables false
namespace Go.Proofs.YthpibnpeaidabaaGreatDoor.Dm
open Go.Dm Go.RowKit
set_option maxHeartbeats 4000000
set_option maxRecDepth 100000
end Go.Proofs.YthpibnpeaidabaaGreatDoor.Dm
/- strings.Builder: String, as the world has it. -/
set_option linter.unusedVariables false
namespace Go.Proofs.YthpibnpeaidabaaGreatDoor.Dm
open Go.Dm Go.RowKit
set_option maxHeartbeats 4000000
set_option maxRecDepth 100000
end Go.Proofs.YthpibnpeaidabaaGreatDoor.Dm
/- strings.Builder as the engine has it: WriteString, Len, String. -/
set_option linter.unusedVariables false
namespace Go.Proofs.YthpibnpeaidabaaGreatDoor.Dm
open Go.Dm Go.RowKit
set_option maxHeartbeats 4000000
set_option maxRecDepth 100000
structure BldAt (hp : Hp) (i : Nat) (a : Value) (j : Nat) (l : List UInt8) : Prop where
  o : hp i = bldO a (mkSl j l)
  a : a = .pointer none ∨ a = .pointer (some ⟨i, 0, none⟩)
  b : hp j = byO l
  ne : j ≠ i
end Go.Proofs.YthpibnpeaidabaaGreatDoor.Dm
/- strings.Builder as the engine has it: Len, String. -/
set_option linter.unusedVariables false
namespace Go.Proofs.YthpibnpeaidabaaGreatDoor.Dm
open Go.Dm Go.RowKit
set_option maxHeartbeats 4000000
set_option maxRecDepth 100000
end Go.Proofs.YthpibnpeaidabaaGreatDoor.Dm
/- Print. -/
set_option linter.unusedVariables false
namespace Go.Proofs.YthpibnpeaidabaaGreatDoor.Dm
open Go.Dm
set_option maxHeartbeats 16000000
set_option maxRecDepth 20000
end Go.Proofs.YthpibnpeaidabaaGreatDoor.Dm
