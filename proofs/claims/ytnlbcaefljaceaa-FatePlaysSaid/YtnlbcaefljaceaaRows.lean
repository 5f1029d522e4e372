/-
  No cell of these rows narrows 'for every input' (looked for: loops, veiled, ifaces, maps, wideKeys, modest, calm, conditions, laid).
  DERIVED. THE GIVEN ROWS OF THIS SEAT. 3 by the template 'for every input the law returns true; each argument reads behind the call as it read before'; 0 by the template 'total and deterministic' (their statements: YtnlbcaefljaceaaTotals.lean).
  GIVEN WITH THE SEED: the statements are not yours to turn. If you find one false, say at which input.
  Laid BY PROGRAM, IN A SANDBOX (cutbox-rows.mjs): the forced cells as the released guide's own fill.sh prints them over the translation bb053f132c86c5d0… (all of the seat's roots in one cut). By AI agents, Wed Nov 11 2026. No macro, syntax, notation, axiom, sorry.
-/
import Derived.Test.YtnlbcaefljaceaaChecked
import GoSem.Claim
import GoSem.ClaimJoined
import GoSem.ClaimMapViews
import Derived.JoinedTies
import Derived.KernelRfl
namespace Go.Proofs.Ytnlbcaefljaceaa
/- THE CELL 'sum', in the pinned program and in every row, IS THE sha256 OF THE DUMP (.gsa) THAT YtnlbcaefljaceaaProg.lean LOADS. Nothing in Lean hashes anything: it is a label: what it is worth is what the hold of that sum in a sandbox is worth. -/
noncomputable def Try.pinned : Pinned := { name := "ytnlbcaefljaceaa", sum := "bb053f132c86c5d0393a2cd6120ed43c251717a1a25342ff25cbe5366144b7a9", checked := Try.checked }
namespace Rows
def none {H : Type} : Left H := { results := [], args := [] }

/-- 'dandelionlaw17.FateOnce': WHATEVER THE INPUT: true; the input reads as it did. -/
def fateOnceSpec : ChangeSpec := { name := "fateOnce", fn := fun _ => fun
  | [d1, d2] => { results := [.lit (.bool true)], args := [d1, d2] }
  | _ => none }
def fateOnceRow : OpenClaim := { program := "ytnlbcaefljaceaa", sum := "bb053f132c86c5d0393a2cd6120ed43c251717a1a25342ff25cbe5366144b7a9", func := "dandelion/dandelionlaw17.FateOnce", spec := "fateOnce", plainKeys := false, apart := false }
def FateOnceSaid : Prop := fateOnceRow.holds Try.pinned (OpenSpec.ofChange fateOnceSpec)

/-- ITS FALSE NEIGHBOUR: 'it returns false'. Refute it at one input. -/
def fateOnceWrong : ChangeSpec := { name := "fateOnce", fn := fun _ => fun
  | [d1, d2] => { results := [.lit (.bool false)], args := [d1, d2] }
  | _ => none }
def FateOnceWrongFalsely : Prop := fateOnceRow.holds Try.pinned (OpenSpec.ofChange fateOnceWrong)

/-- 'dandelionlaw17.FatePlays': WHATEVER THE INPUT: true; the input reads as it did. -/
def fatePlaysSpec : ChangeSpec := { name := "fatePlays", fn := fun _ => fun
  | [d1, d2] => { results := [.lit (.bool true)], args := [d1, d2] }
  | _ => none }
def fatePlaysRow : OpenClaim := { program := "ytnlbcaefljaceaa", sum := "bb053f132c86c5d0393a2cd6120ed43c251717a1a25342ff25cbe5366144b7a9", func := "dandelion/dandelionlaw17.FatePlays", spec := "fatePlays", inPlace := ["maps.clone"], plainKeys := false, apart := false }
def FatePlaysSaid : Prop := fatePlaysRow.holds Try.pinned (OpenSpec.ofChange fatePlaysSpec)

/-- ITS FALSE NEIGHBOUR: 'it returns false'. Refute it at one input. -/
def fatePlaysWrong : ChangeSpec := { name := "fatePlays", fn := fun _ => fun
  | [d1, d2] => { results := [.lit (.bool false)], args := [d1, d2] }
  | _ => none }
def FatePlaysWrongFalsely : Prop := fatePlaysRow.holds Try.pinned (OpenSpec.ofChange fatePlaysWrong)

/-- 'dandelionlaw17.FateKnown': WHATEVER THE INPUT: true; the input reads as it did. -/
def fateKnownSpec : ChangeSpec := { name := "fateKnown", fn := fun _ => fun
  | [] => { results := [.lit (.bool true)], args := [] }
  | _ => none }
def fateKnownRow : OpenClaim := { program := "ytnlbcaefljaceaa", sum := "bb053f132c86c5d0393a2cd6120ed43c251717a1a25342ff25cbe5366144b7a9", func := "dandelion/dandelionlaw17.FateKnown", spec := "fateKnown", inPlace := ["maps.clone"], unfollowed := true, recurses := true, plainKeys := false, apart := false }
def FateKnownSaid : Prop := fateKnownRow.holds Try.pinned (OpenSpec.ofChange fateKnownSpec)

/-- ITS FALSE NEIGHBOUR: 'it returns false'. Refute it at one input. -/
def fateKnownWrong : ChangeSpec := { name := "fateKnown", fn := fun _ => fun
  | [] => { results := [.lit (.bool false)], args := [] }
  | _ => none }
def FateKnownWrongFalsely : Prop := fateKnownRow.holds Try.pinned (OpenSpec.ofChange fateKnownWrong)

/- THE SECOND FORM. 'bulk': how many values and letters a reading holds, each counted each time it is reached (what is shared counts as often as it is met; a slice's spare places count too). A statement '..UptoSaid' is the law's where the arguments, and the package variables that the reading takes, are together of bulk at most 1048576: NARROWER than '..Said'. Prove '..Said' where nothing that the law and all that it calls make is longer than what came in: it says more and counts as full. Else prove '..UptoSaid'. A law counts once. -/
mutual
def uptoBulk {H : Type} : DataW H → Nat
  | .lit (.string bytes) => bytes.length + 1
  | .lit _ => 1
  | .nil => 1
  | .ptr d => uptoBulk d + 1
  | .slice elems spare => uptoBulkAll elems + uptoBulkAll spare + 1
  | .agg parts => uptoBulkAll parts + 1
  | .iface _ d => uptoBulk d + 1
  | .map entries => uptoBulkEntries entries + 1
  | .held _ => 1
def uptoBulkAll {H : Type} : List (DataW H) → Nat
  | [] => 0
  | d :: r => uptoBulk d + uptoBulkAll r
def uptoBulkEntries {H : Type} : List (Lit × DataW H) → Nat
  | [] => 0
  | x :: r => uptoBulkEntry x + uptoBulkEntries r
def uptoBulkEntry {H : Type} : Lit × DataW H → Nat
  | (.string bytes, d) => bytes.length + uptoBulk d + 1
  | (_, d) => uptoBulk d + 1
 end
def uptoSmall : (H : Type) → List (DataW H) → Bool := fun _ ds => decide (uptoBulkAll ds ≤ 1048576)
def OpenSpec.upto (s : _root_.Go.ChangeSpec) : _root_.Go.OpenSpec := { _root_.Go.OpenSpec.ofChange s with cond := some uptoSmall }

/-- 'dandelionlaw17.FateOnce', WHERE WHAT IT READS IS OF BULK AT MOST 1048576: true; the input reads as it did. -/
def fateOnceUptoRow : OpenClaim := { program := "ytnlbcaefljaceaa", sum := "bb053f132c86c5d0393a2cd6120ed43c251717a1a25342ff25cbe5366144b7a9", func := "dandelion/dandelionlaw17.FateOnce", spec := "fateOnce", plainKeys := false, apart := false, narrowed := true }
def FateOnceUptoSaid : Prop := fateOnceUptoRow.holds Try.pinned (OpenSpec.upto fateOnceSpec)

/-- 'dandelionlaw17.FatePlays', WHERE WHAT IT READS IS OF BULK AT MOST 1048576: true; the input reads as it did. -/
def fatePlaysUptoRow : OpenClaim := { program := "ytnlbcaefljaceaa", sum := "bb053f132c86c5d0393a2cd6120ed43c251717a1a25342ff25cbe5366144b7a9", func := "dandelion/dandelionlaw17.FatePlays", spec := "fatePlays", inPlace := ["maps.clone"], plainKeys := false, apart := false, narrowed := true }
def FatePlaysUptoSaid : Prop := fatePlaysUptoRow.holds Try.pinned (OpenSpec.upto fatePlaysSpec)

/-- 'dandelionlaw17.FateKnown', WHERE WHAT IT READS IS OF BULK AT MOST 1048576: true; the input reads as it did. -/
def fateKnownUptoRow : OpenClaim := { program := "ytnlbcaefljaceaa", sum := "bb053f132c86c5d0393a2cd6120ed43c251717a1a25342ff25cbe5366144b7a9", func := "dandelion/dandelionlaw17.FateKnown", spec := "fateKnown", inPlace := ["maps.clone"], unfollowed := true, recurses := true, plainKeys := false, apart := false, narrowed := true }
def FateKnownUptoSaid : Prop := fateKnownUptoRow.holds Try.pinned (OpenSpec.upto fateKnownSpec)

end Rows
end Go.Proofs.Ytnlbcaefljaceaa
