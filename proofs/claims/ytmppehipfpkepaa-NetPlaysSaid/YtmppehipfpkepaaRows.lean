/-
  No cell of these rows narrows 'for every input' (looked for: loops, veiled, ifaces, maps, wideKeys, modest, calm, conditions, laid).
  DERIVED. THE GIVEN ROWS OF THIS SEAT. 5 by the template 'for every input the law returns true; each argument reads behind the call as it read before'; 0 by the template 'total and deterministic' (their statements: YtmppehipfpkepaaTotals.lean).
  GIVEN WITH THE SEED: the statements are not yours to turn. If you find one false, say at which input.
  Laid BY PROGRAM, IN A SANDBOX (cutbox-rows.mjs): the forced cells as the released guide's own fill.sh prints them over the translation 34294dad5ade88f5… (all of the seat's roots in one cut). By AI agents, Wed Nov 11 2026. No macro, syntax, notation, axiom, sorry.
-/
import Derived.Test.YtmppehipfpkepaaChecked
import GoSem.Claim
import GoSem.ClaimJoined
import GoSem.ClaimMapViews
import Derived.JoinedTies
import Derived.KernelRfl
namespace Go.Proofs.Ytmppehipfpkepaa
/- THE CELL 'sum', in the pinned program and in every row, IS THE sha256 OF THE DUMP (.gsa) THAT YtmppehipfpkepaaProg.lean LOADS. Nothing in Lean hashes anything: it is a label: what it is worth is what the hold of that sum in a sandbox is worth. -/
noncomputable def Try.pinned : Pinned := { name := "ytmppehipfpkepaa", sum := "34294dad5ade88f5fcb0ca78c38f14ebff249c5e01f0505626a5b550cf4a2d33", checked := Try.checked }
namespace Rows
def none {H : Type} : Left H := { results := [], args := [] }

/-- 'dandelionlaw18.NetInOrder': WHATEVER THE INPUT: true; the input reads as it did. -/
def netInOrderSpec : ChangeSpec := { name := "netInOrder", fn := fun _ => fun
  | [d1, d2] => { results := [.lit (.bool true)], args := [d1, d2] }
  | _ => none }
def netInOrderRow : OpenClaim := { program := "ytmppehipfpkepaa", sum := "34294dad5ade88f5fcb0ca78c38f14ebff249c5e01f0505626a5b550cf4a2d33", func := "dandelion/dandelionlaw18.NetInOrder", spec := "netInOrder", inPlace := ["slices.overlaps[dandelion/calend.thing[dandelion/api.Arrive]]"], unfollowed := true, recurses := true, plainKeys := false, apart := false }
def NetInOrderSaid : Prop := netInOrderRow.holds Try.pinned (OpenSpec.ofChange netInOrderSpec)

/-- ITS FALSE NEIGHBOUR: 'it returns false'. Refute it at one input. -/
def netInOrderWrong : ChangeSpec := { name := "netInOrder", fn := fun _ => fun
  | [d1, d2] => { results := [.lit (.bool false)], args := [d1, d2] }
  | _ => none }
def NetInOrderWrongFalsely : Prop := netInOrderRow.holds Try.pinned (OpenSpec.ofChange netInOrderWrong)

/-- 'dandelionlaw18.NetCounts': WHATEVER THE INPUT: true; the input reads as it did. -/
def netCountsSpec : ChangeSpec := { name := "netCounts", fn := fun _ => fun
  | [d1, d2, d3] => { results := [.lit (.bool true)], args := [d1, d2, d3] }
  | _ => none }
def netCountsRow : OpenClaim := { program := "ytmppehipfpkepaa", sum := "34294dad5ade88f5fcb0ca78c38f14ebff249c5e01f0505626a5b550cf4a2d33", func := "dandelion/dandelionlaw18.NetCounts", spec := "netCounts", inPlace := ["slices.overlaps[dandelion/calend.thing[dandelion/api.Arrive]]"], unfollowed := true, recurses := true, plainKeys := false, apart := false }
def NetCountsSaid : Prop := netCountsRow.holds Try.pinned (OpenSpec.ofChange netCountsSpec)

/-- ITS FALSE NEIGHBOUR: 'it returns false'. Refute it at one input. -/
def netCountsWrong : ChangeSpec := { name := "netCounts", fn := fun _ => fun
  | [d1, d2, d3] => { results := [.lit (.bool false)], args := [d1, d2, d3] }
  | _ => none }
def NetCountsWrongFalsely : Prop := netCountsRow.holds Try.pinned (OpenSpec.ofChange netCountsWrong)

/-- 'dandelionlaw18.NetPlays': WHATEVER THE INPUT: true; the input reads as it did. -/
def netPlaysSpec : ChangeSpec := { name := "netPlays", fn := fun _ => fun
  | [d1, d2] => { results := [.lit (.bool true)], args := [d1, d2] }
  | _ => none }
def netPlaysRow : OpenClaim := { program := "ytmppehipfpkepaa", sum := "34294dad5ade88f5fcb0ca78c38f14ebff249c5e01f0505626a5b550cf4a2d33", func := "dandelion/dandelionlaw18.NetPlays", spec := "netPlays", inPlace := ["slices.overlaps[dandelion/calend.thing[dandelion/api.Arrive]]"], unfollowed := true, recurses := true, plainKeys := false, apart := false }
def NetPlaysSaid : Prop := netPlaysRow.holds Try.pinned (OpenSpec.ofChange netPlaysSpec)

/-- ITS FALSE NEIGHBOUR: 'it returns false'. Refute it at one input. -/
def netPlaysWrong : ChangeSpec := { name := "netPlays", fn := fun _ => fun
  | [d1, d2] => { results := [.lit (.bool false)], args := [d1, d2] }
  | _ => none }
def NetPlaysWrongFalsely : Prop := netPlaysRow.holds Try.pinned (OpenSpec.ofChange netPlaysWrong)

/-- 'dandelionlaw18.NetMends': WHATEVER THE INPUT: true; the input reads as it did. -/
def netMendsSpec : ChangeSpec := { name := "netMends", fn := fun _ => fun
  | [d1, d2, d3] => { results := [.lit (.bool true)], args := [d1, d2, d3] }
  | _ => none }
def netMendsRow : OpenClaim := { program := "ytmppehipfpkepaa", sum := "34294dad5ade88f5fcb0ca78c38f14ebff249c5e01f0505626a5b550cf4a2d33", func := "dandelion/dandelionlaw18.NetMends", spec := "netMends", inPlace := ["slices.overlaps[dandelion/calend.thing[dandelion/api.Arrive]]"], unfollowed := true, recurses := true, plainKeys := false, apart := false }
def NetMendsSaid : Prop := netMendsRow.holds Try.pinned (OpenSpec.ofChange netMendsSpec)

/-- ITS FALSE NEIGHBOUR: 'it returns false'. Refute it at one input. -/
def netMendsWrong : ChangeSpec := { name := "netMends", fn := fun _ => fun
  | [d1, d2, d3] => { results := [.lit (.bool false)], args := [d1, d2, d3] }
  | _ => none }
def NetMendsWrongFalsely : Prop := netMendsRow.holds Try.pinned (OpenSpec.ofChange netMendsWrong)

/-- 'dandelionlaw18.NetKnown': WHATEVER THE INPUT: true; the input reads as it did. -/
def netKnownSpec : ChangeSpec := { name := "netKnown", fn := fun _ => fun
  | [] => { results := [.lit (.bool true)], args := [] }
  | _ => none }
def netKnownRow : OpenClaim := { program := "ytmppehipfpkepaa", sum := "34294dad5ade88f5fcb0ca78c38f14ebff249c5e01f0505626a5b550cf4a2d33", func := "dandelion/dandelionlaw18.NetKnown", spec := "netKnown", inPlace := ["slices.overlaps[dandelion/calend.thing[dandelion/api.Arrive]]"], unfollowed := true, recurses := true, plainKeys := false, apart := false }
def NetKnownSaid : Prop := netKnownRow.holds Try.pinned (OpenSpec.ofChange netKnownSpec)

/-- ITS FALSE NEIGHBOUR: 'it returns false'. Refute it at one input. -/
def netKnownWrong : ChangeSpec := { name := "netKnown", fn := fun _ => fun
  | [] => { results := [.lit (.bool false)], args := [] }
  | _ => none }
def NetKnownWrongFalsely : Prop := netKnownRow.holds Try.pinned (OpenSpec.ofChange netKnownWrong)

/- THE SECOND FORM. 'bulk': how many values and letters a reading holds, each counted each time it is reached (what is shared counts as often as it is met; a slice's spare places count too). A statement '..UptoSaid' is the law's where the arguments, and the package variables that the reading takes, are together of bulk at most 1048576: NARROWER than '..Said'. Prove '..Said' where nothing that the law and all that it calls make is longer than what came in: it says more and counts as full. Else prove '..UptoSaid'. A law counts once. -/
mutual
def uptoBulk {H : Type} : DataW H → Nat
  | .lit (.string bytes) => bytes.length + 1
  | .lit _ => 1
  | .nil => 1
  | .ptr d => uptoBulk d + 1
  | .slice elems spare => uptoBulkAll elems + uptoBulkAll spare + 1
  | .agg parts => uptoBulkAll parts + 1
  | .iface _ d => uptoBulk d + 1
  | .map entries => uptoBulkEntries entries + 1
  | .held _ => 1
def uptoBulkAll {H : Type} : List (DataW H) → Nat
  | [] => 0
  | d :: r => uptoBulk d + uptoBulkAll r
def uptoBulkEntries {H : Type} : List (Lit × DataW H) → Nat
  | [] => 0
  | x :: r => uptoBulkEntry x + uptoBulkEntries r
def uptoBulkEntry {H : Type} : Lit × DataW H → Nat
  | (.string bytes, d) => bytes.length + uptoBulk d + 1
  | (_, d) => uptoBulk d + 1
 end
def uptoSmall : (H : Type) → List (DataW H) → Bool := fun _ ds => decide (uptoBulkAll ds ≤ 1048576)
def OpenSpec.upto (s : _root_.Go.ChangeSpec) : _root_.Go.OpenSpec := { _root_.Go.OpenSpec.ofChange s with cond := some uptoSmall }

/-- 'dandelionlaw18.NetInOrder', WHERE WHAT IT READS IS OF BULK AT MOST 1048576: true; the input reads as it did. -/
def netInOrderUptoRow : OpenClaim := { program := "ytmppehipfpkepaa", sum := "34294dad5ade88f5fcb0ca78c38f14ebff249c5e01f0505626a5b550cf4a2d33", func := "dandelion/dandelionlaw18.NetInOrder", spec := "netInOrder", inPlace := ["slices.overlaps[dandelion/calend.thing[dandelion/api.Arrive]]"], unfollowed := true, recurses := true, plainKeys := false, apart := false, narrowed := true }
def NetInOrderUptoSaid : Prop := netInOrderUptoRow.holds Try.pinned (OpenSpec.upto netInOrderSpec)

/-- 'dandelionlaw18.NetCounts', WHERE WHAT IT READS IS OF BULK AT MOST 1048576: true; the input reads as it did. -/
def netCountsUptoRow : OpenClaim := { program := "ytmppehipfpkepaa", sum := "34294dad5ade88f5fcb0ca78c38f14ebff249c5e01f0505626a5b550cf4a2d33", func := "dandelion/dandelionlaw18.NetCounts", spec := "netCounts", inPlace := ["slices.overlaps[dandelion/calend.thing[dandelion/api.Arrive]]"], unfollowed := true, recurses := true, plainKeys := false, apart := false, narrowed := true }
def NetCountsUptoSaid : Prop := netCountsUptoRow.holds Try.pinned (OpenSpec.upto netCountsSpec)

/-- 'dandelionlaw18.NetPlays', WHERE WHAT IT READS IS OF BULK AT MOST 1048576: true; the input reads as it did. -/
def netPlaysUptoRow : OpenClaim := { program := "ytmppehipfpkepaa", sum := "34294dad5ade88f5fcb0ca78c38f14ebff249c5e01f0505626a5b550cf4a2d33", func := "dandelion/dandelionlaw18.NetPlays", spec := "netPlays", inPlace := ["slices.overlaps[dandelion/calend.thing[dandelion/api.Arrive]]"], unfollowed := true, recurses := true, plainKeys := false, apart := false, narrowed := true }
def NetPlaysUptoSaid : Prop := netPlaysUptoRow.holds Try.pinned (OpenSpec.upto netPlaysSpec)

/-- 'dandelionlaw18.NetMends', WHERE WHAT IT READS IS OF BULK AT MOST 1048576: true; the input reads as it did. -/
def netMendsUptoRow : OpenClaim := { program := "ytmppehipfpkepaa", sum := "34294dad5ade88f5fcb0ca78c38f14ebff249c5e01f0505626a5b550cf4a2d33", func := "dandelion/dandelionlaw18.NetMends", spec := "netMends", inPlace := ["slices.overlaps[dandelion/calend.thing[dandelion/api.Arrive]]"], unfollowed := true, recurses := true, plainKeys := false, apart := false, narrowed := true }
def NetMendsUptoSaid : Prop := netMendsUptoRow.holds Try.pinned (OpenSpec.upto netMendsSpec)

/-- 'dandelionlaw18.NetKnown', WHERE WHAT IT READS IS OF BULK AT MOST 1048576: true; the input reads as it did. -/
def netKnownUptoRow : OpenClaim := { program := "ytmppehipfpkepaa", sum := "34294dad5ade88f5fcb0ca78c38f14ebff249c5e01f0505626a5b550cf4a2d33", func := "dandelion/dandelionlaw18.NetKnown", spec := "netKnown", inPlace := ["slices.overlaps[dandelion/calend.thing[dandelion/api.Arrive]]"], unfollowed := true, recurses := true, plainKeys := false, apart := false, narrowed := true }
def NetKnownUptoSaid : Prop := netKnownUptoRow.holds Try.pinned (OpenSpec.upto netKnownSpec)

end Rows
end Go.Proofs.Ytmppehipfpkepaa
