/-
  No cell of these rows narrows 'for every input' (looked for: loops, veiled, ifaces, maps, wideKeys, modest, calm, conditions, laid).
  DERIVED. THE GIVEN ROWS OF THIS SEAT. 5 by the template 'for every input the law returns true; each argument reads behind the call as it read before'; 0 by the template 'total and deterministic' (their statements: YtogndgadipdikaaTotals.lean).
  GIVEN WITH THE SEED: the statements are not yours to turn. If you find one false, say at which input.
  Laid BY PROGRAM, IN A SANDBOX (cutbox-rows.mjs): the forced cells as the released guide's own fill.sh prints them over the translation 9d5c428a7727bfa4… (all of the seat's roots in one cut). By AI agents, Wed Nov 11 2026. No macro, syntax, notation, axiom, sorry.
-/
import Derived.Test.YtogndgadipdikaaChecked
import GoSem.Claim
import GoSem.ClaimJoined
import GoSem.ClaimMapViews
import Derived.JoinedTies
import Derived.KernelRfl
namespace Go.Proofs.Ytogndgadipdikaa
/- THE CELL 'sum', in the pinned program and in every row, IS THE sha256 OF THE DUMP (.gsa) THAT YtogndgadipdikaaProg.lean LOADS. Nothing in Lean hashes anything: it is a label: what it is worth is what the hold of that sum in a sandbox is worth. -/
noncomputable def Try.pinned : Pinned := { name := "ytogndgadipdikaa", sum := "9d5c428a7727bfa4d3e7c9ea9878fa35e5646fdbb3586742fc2af5911bb8f843", checked := Try.checked }
namespace Rows
def none {H : Type} : Left H := { results := [], args := [] }

/-- 'dandelionlaw16.CalendKinds': WHATEVER THE INPUT: true; the input reads as it did. -/
def calendKindsSpec : ChangeSpec := { name := "calendKinds", fn := fun _ => fun
  | [d] => { results := [.lit (.bool true)], args := [d] }
  | _ => none }
def calendKindsRow : OpenClaim := { program := "ytogndgadipdikaa", sum := "9d5c428a7727bfa4d3e7c9ea9878fa35e5646fdbb3586742fc2af5911bb8f843", func := "dandelion/dandelionlaw16.CalendKinds", spec := "calendKinds", inPlace := ["slices.overlaps[dandelion/calend.thing[int]]", "slices.overlaps[dandelion/calend.thing[[2]string]]", "slices.overlaps[dandelion/calend.thing[string]]"], unfollowed := true, recurses := true, apart := false }
def CalendKindsSaid : Prop := calendKindsRow.holds Try.pinned (OpenSpec.ofChange calendKindsSpec)

/-- ITS FALSE NEIGHBOUR: 'it returns false'. Refute it at one input. -/
def calendKindsWrong : ChangeSpec := { name := "calendKinds", fn := fun _ => fun
  | [d] => { results := [.lit (.bool false)], args := [d] }
  | _ => none }
def CalendKindsWrongFalsely : Prop := calendKindsRow.holds Try.pinned (OpenSpec.ofChange calendKindsWrong)

/-- 'dandelionlaw16.CalendPieces': WHATEVER THE INPUT: true; the input reads as it did. -/
def calendPiecesSpec : ChangeSpec := { name := "calendPieces", fn := fun _ => fun
  | [d1, d2] => { results := [.lit (.bool true)], args := [d1, d2] }
  | _ => none }
def calendPiecesRow : OpenClaim := { program := "ytogndgadipdikaa", sum := "9d5c428a7727bfa4d3e7c9ea9878fa35e5646fdbb3586742fc2af5911bb8f843", func := "dandelion/dandelionlaw16.CalendPieces", spec := "calendPieces", inPlace := ["slices.overlaps[dandelion/calend.thing[string]]", "slices.overlaps[dandelion/calend.thing[int]]"], unfollowed := true, recurses := true, apart := false }
def CalendPiecesSaid : Prop := calendPiecesRow.holds Try.pinned (OpenSpec.ofChange calendPiecesSpec)

/-- ITS FALSE NEIGHBOUR: 'it returns false'. Refute it at one input. -/
def calendPiecesWrong : ChangeSpec := { name := "calendPieces", fn := fun _ => fun
  | [d1, d2] => { results := [.lit (.bool false)], args := [d1, d2] }
  | _ => none }
def CalendPiecesWrongFalsely : Prop := calendPiecesRow.holds Try.pinned (OpenSpec.ofChange calendPiecesWrong)

/-- 'dandelionlaw16.CalendDrops': WHATEVER THE INPUT: true; the input reads as it did. -/
def calendDropsSpec : ChangeSpec := { name := "calendDrops", fn := fun _ => fun
  | [d1, d2, d3] => { results := [.lit (.bool true)], args := [d1, d2, d3] }
  | _ => none }
def calendDropsRow : OpenClaim := { program := "ytogndgadipdikaa", sum := "9d5c428a7727bfa4d3e7c9ea9878fa35e5646fdbb3586742fc2af5911bb8f843", func := "dandelion/dandelionlaw16.CalendDrops", spec := "calendDrops", inPlace := ["slices.overlaps[dandelion/calend.thing[string]]", "slices.overlaps[dandelion/calend.thing[int]]"], unfollowed := true, recurses := true, apart := false }
def CalendDropsSaid : Prop := calendDropsRow.holds Try.pinned (OpenSpec.ofChange calendDropsSpec)

/-- ITS FALSE NEIGHBOUR: 'it returns false'. Refute it at one input. -/
def calendDropsWrong : ChangeSpec := { name := "calendDrops", fn := fun _ => fun
  | [d1, d2, d3] => { results := [.lit (.bool false)], args := [d1, d2, d3] }
  | _ => none }
def CalendDropsWrongFalsely : Prop := calendDropsRow.holds Try.pinned (OpenSpec.ofChange calendDropsWrong)

/-- 'dandelionlaw16.CalendPlays': WHATEVER THE INPUT: true; the input reads as it did. -/
def calendPlaysSpec : ChangeSpec := { name := "calendPlays", fn := fun _ => fun
  | [d] => { results := [.lit (.bool true)], args := [d] }
  | _ => none }
def calendPlaysRow : OpenClaim := { program := "ytogndgadipdikaa", sum := "9d5c428a7727bfa4d3e7c9ea9878fa35e5646fdbb3586742fc2af5911bb8f843", func := "dandelion/dandelionlaw16.CalendPlays", spec := "calendPlays", inPlace := ["slices.overlaps[dandelion/calend.thing[string]]"], unfollowed := true, recurses := true, apart := false }
def CalendPlaysSaid : Prop := calendPlaysRow.holds Try.pinned (OpenSpec.ofChange calendPlaysSpec)

/-- ITS FALSE NEIGHBOUR: 'it returns false'. Refute it at one input. -/
def calendPlaysWrong : ChangeSpec := { name := "calendPlays", fn := fun _ => fun
  | [d] => { results := [.lit (.bool false)], args := [d] }
  | _ => none }
def CalendPlaysWrongFalsely : Prop := calendPlaysRow.holds Try.pinned (OpenSpec.ofChange calendPlaysWrong)

/-- 'dandelionlaw16.CalendKnown': WHATEVER THE INPUT: true; the input reads as it did. -/
def calendKnownSpec : ChangeSpec := { name := "calendKnown", fn := fun _ => fun
  | [] => { results := [.lit (.bool true)], args := [] }
  | _ => none }
def calendKnownRow : OpenClaim := { program := "ytogndgadipdikaa", sum := "9d5c428a7727bfa4d3e7c9ea9878fa35e5646fdbb3586742fc2af5911bb8f843", func := "dandelion/dandelionlaw16.CalendKnown", spec := "calendKnown", inPlace := ["slices.overlaps[dandelion/calend.thing[string]]"], unfollowed := true, recurses := true, apart := false }
def CalendKnownSaid : Prop := calendKnownRow.holds Try.pinned (OpenSpec.ofChange calendKnownSpec)

/-- ITS FALSE NEIGHBOUR: 'it returns false'. Refute it at one input. -/
def calendKnownWrong : ChangeSpec := { name := "calendKnown", fn := fun _ => fun
  | [] => { results := [.lit (.bool false)], args := [] }
  | _ => none }
def CalendKnownWrongFalsely : Prop := calendKnownRow.holds Try.pinned (OpenSpec.ofChange calendKnownWrong)

/- THE SECOND FORM. 'bulk': how many values and letters a reading holds, each counted each time it is reached (what is shared counts as often as it is met; a slice's spare places count too). A statement '..UptoSaid' is the law's where the arguments, and the package variables that the reading takes, are together of bulk at most 1048576: NARROWER than '..Said'. Prove '..Said' where nothing that the law and all that it calls make is longer than what came in: it says more and counts as full. Else prove '..UptoSaid'. A law counts once. -/
mutual
def uptoBulk {H : Type} : DataW H → Nat
  | .lit (.string bytes) => bytes.length + 1
  | .lit _ => 1
  | .nil => 1
  | .ptr d => uptoBulk d + 1
  | .slice elems spare => uptoBulkAll elems + uptoBulkAll spare + 1
  | .agg parts => uptoBulkAll parts + 1
  | .iface _ d => uptoBulk d + 1
  | .map entries => uptoBulkEntries entries + 1
  | .held _ => 1
def uptoBulkAll {H : Type} : List (DataW H) → Nat
  | [] => 0
  | d :: r => uptoBulk d + uptoBulkAll r
def uptoBulkEntries {H : Type} : List (Lit × DataW H) → Nat
  | [] => 0
  | x :: r => uptoBulkEntry x + uptoBulkEntries r
def uptoBulkEntry {H : Type} : Lit × DataW H → Nat
  | (.string bytes, d) => bytes.length + uptoBulk d + 1
  | (_, d) => uptoBulk d + 1
 end
def uptoSmall : (H : Type) → List (DataW H) → Bool := fun _ ds => decide (uptoBulkAll ds ≤ 1048576)
def OpenSpec.upto (s : _root_.Go.ChangeSpec) : _root_.Go.OpenSpec := { _root_.Go.OpenSpec.ofChange s with cond := some uptoSmall }

/-- 'dandelionlaw16.CalendKinds', WHERE WHAT IT READS IS OF BULK AT MOST 1048576: true; the input reads as it did. -/
def calendKindsUptoRow : OpenClaim := { program := "ytogndgadipdikaa", sum := "9d5c428a7727bfa4d3e7c9ea9878fa35e5646fdbb3586742fc2af5911bb8f843", func := "dandelion/dandelionlaw16.CalendKinds", spec := "calendKinds", inPlace := ["slices.overlaps[dandelion/calend.thing[int]]", "slices.overlaps[dandelion/calend.thing[[2]string]]", "slices.overlaps[dandelion/calend.thing[string]]"], unfollowed := true, recurses := true, apart := false, narrowed := true }
def CalendKindsUptoSaid : Prop := calendKindsUptoRow.holds Try.pinned (OpenSpec.upto calendKindsSpec)

/-- 'dandelionlaw16.CalendPieces', WHERE WHAT IT READS IS OF BULK AT MOST 1048576: true; the input reads as it did. -/
def calendPiecesUptoRow : OpenClaim := { program := "ytogndgadipdikaa", sum := "9d5c428a7727bfa4d3e7c9ea9878fa35e5646fdbb3586742fc2af5911bb8f843", func := "dandelion/dandelionlaw16.CalendPieces", spec := "calendPieces", inPlace := ["slices.overlaps[dandelion/calend.thing[string]]", "slices.overlaps[dandelion/calend.thing[int]]"], unfollowed := true, recurses := true, apart := false, narrowed := true }
def CalendPiecesUptoSaid : Prop := calendPiecesUptoRow.holds Try.pinned (OpenSpec.upto calendPiecesSpec)

/-- 'dandelionlaw16.CalendDrops', WHERE WHAT IT READS IS OF BULK AT MOST 1048576: true; the input reads as it did. -/
def calendDropsUptoRow : OpenClaim := { program := "ytogndgadipdikaa", sum := "9d5c428a7727bfa4d3e7c9ea9878fa35e5646fdbb3586742fc2af5911bb8f843", func := "dandelion/dandelionlaw16.CalendDrops", spec := "calendDrops", inPlace := ["slices.overlaps[dandelion/calend.thing[string]]", "slices.overlaps[dandelion/calend.thing[int]]"], unfollowed := true, recurses := true, apart := false, narrowed := true }
def CalendDropsUptoSaid : Prop := calendDropsUptoRow.holds Try.pinned (OpenSpec.upto calendDropsSpec)

/-- 'dandelionlaw16.CalendPlays', WHERE WHAT IT READS IS OF BULK AT MOST 1048576: true; the input reads as it did. -/
def calendPlaysUptoRow : OpenClaim := { program := "ytogndgadipdikaa", sum := "9d5c428a7727bfa4d3e7c9ea9878fa35e5646fdbb3586742fc2af5911bb8f843", func := "dandelion/dandelionlaw16.CalendPlays", spec := "calendPlays", inPlace := ["slices.overlaps[dandelion/calend.thing[string]]"], unfollowed := true, recurses := true, apart := false, narrowed := true }
def CalendPlaysUptoSaid : Prop := calendPlaysUptoRow.holds Try.pinned (OpenSpec.upto calendPlaysSpec)

/-- 'dandelionlaw16.CalendKnown', WHERE WHAT IT READS IS OF BULK AT MOST 1048576: true; the input reads as it did. -/
def calendKnownUptoRow : OpenClaim := { program := "ytogndgadipdikaa", sum := "9d5c428a7727bfa4d3e7c9ea9878fa35e5646fdbb3586742fc2af5911bb8f843", func := "dandelion/dandelionlaw16.CalendKnown", spec := "calendKnown", inPlace := ["slices.overlaps[dandelion/calend.thing[string]]"], unfollowed := true, recurses := true, apart := false, narrowed := true }
def CalendKnownUptoSaid : Prop := calendKnownUptoRow.holds Try.pinned (OpenSpec.upto calendKnownSpec)

end Rows
end Go.Proofs.Ytogndgadipdikaa
