/- NetCounts: its own counter. -/
import Derived.Test.YtmppehipfpkepaaN22
set_option linter.unusedSimpArgs false
set_option linter.unusedVariables false
namespace Go.Proofs.Ytmppehipfpkepaa.Dm
open Go.Dm
set_option maxHeartbeats 16000000
set_option maxRecDepth 20000
def byte0 (x : T_Arrive) : Nat := ((x.Bytes[0]?).getD 0).toNat
def bump1 (g : List Int) (x : T_Arrive) : List Int := g.set (byte0 x) (wrapA .i64 (at' g (byte0 x) + 1))
def bump (g : List Int) (l : List T_Arrive) : List Int := l.foldl bump1 g
theorem bump_len : ∀ (l : List T_Arrive) (g : List Int), (bump g l).length = g.length
  | [], _ => rfl
  | x :: l, g => by unfold bump; rw [List.foldl_cons]; exact (bump_len l (bump1 g x)).trans (by unfold bump1; rw [List.length_set])
end Go.Proofs.Ytmppehipfpkepaa.Dm
