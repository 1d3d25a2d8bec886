/-
  No cell of these rows narrows 'for every input' (looked for: loops, veiled, ifaces, maps, wideKeys, modest, calm, conditions, laid).
  DERIVED. THE GIVEN ROWS OF THIS SEAT. 12 by the template 'for every input the law returns true; each argument reads behind the call as it read before'; 0 by the template 'total and deterministic' (their statements: YthnchojddoefiaaTotals.lean).
  GIVEN WITH THE SEED: the statements are not yours to turn. If you find one false, say at which input.
  Laid BY PROGRAM, IN A SANDBOX (cutbox-rows.mjs): the forced cells as the released guide's own fill.sh prints them over the translation e397f016dfdbac42… (all of the seat's roots in one cut). By AI agents, Wed Nov 11 2026. No macro, syntax, notation, axiom, sorry.
-/
import Derived.Test.YthnchojddoefiaaChecked
import GoSem.Claim
import GoSem.ClaimJoined
import GoSem.ClaimMapViews
import Derived.JoinedTies
import Derived.KernelRfl
namespace Go.Proofs.Ythnchojddoefiaa
/- THE CELL 'sum', in the pinned program and in every row, IS THE sha256 OF THE DUMP (.gsa) THAT YthnchojddoefiaaProg.lean LOADS. Nothing in Lean hashes anything: it is a label: what it is worth is what the hold of that sum in a sandbox is worth. -/
noncomputable def Try.pinned : Pinned := { name := "ythnchojddoefiaa", sum := "e397f016dfdbac423329ee1c73ac77e55d1ac23f9fdd0af1a5664bd67045d24b", checked := Try.checked }
namespace Rows
def none {H : Type} : Left H := { results := [], args := [] }

/-- 'quicksetlaw.LabelEncodes': WHATEVER THE INPUT: true; the input reads as it did. -/
def labelEncodesSpec : ChangeSpec := { name := "labelEncodes", fn := fun _ => fun
  | [d] => { results := [.lit (.bool true)], args := [d] }
  | _ => none }
def labelEncodesRow : OpenClaim := { program := "ythnchojddoefiaa", sum := "e397f016dfdbac423329ee1c73ac77e55d1ac23f9fdd0af1a5664bd67045d24b", func := "quickset/quicksetlaw.LabelEncodes", spec := "labelEncodes", apart := false }
def LabelEncodesSaid : Prop := labelEncodesRow.holds Try.pinned (OpenSpec.ofChange labelEncodesSpec)

/-- ITS FALSE NEIGHBOUR: 'it returns false'. Refute it at one input. -/
def labelEncodesWrong : ChangeSpec := { name := "labelEncodes", fn := fun _ => fun
  | [d] => { results := [.lit (.bool false)], args := [d] }
  | _ => none }
def LabelEncodesWrongFalsely : Prop := labelEncodesRow.holds Try.pinned (OpenSpec.ofChange labelEncodesWrong)

/-- 'quicksetlaw.LabelDecodes': WHATEVER THE INPUT: true; the input reads as it did. -/
def labelDecodesSpec : ChangeSpec := { name := "labelDecodes", fn := fun _ => fun
  | [d] => { results := [.lit (.bool true)], args := [d] }
  | _ => none }
def labelDecodesRow : OpenClaim := { program := "ythnchojddoefiaa", sum := "e397f016dfdbac423329ee1c73ac77e55d1ac23f9fdd0af1a5664bd67045d24b", func := "quickset/quicksetlaw.LabelDecodes", spec := "labelDecodes", unfollowed := true, recurses := true, apart := false }
def LabelDecodesSaid : Prop := labelDecodesRow.holds Try.pinned (OpenSpec.ofChange labelDecodesSpec)

/-- ITS FALSE NEIGHBOUR: 'it returns false'. Refute it at one input. -/
def labelDecodesWrong : ChangeSpec := { name := "labelDecodes", fn := fun _ => fun
  | [d] => { results := [.lit (.bool false)], args := [d] }
  | _ => none }
def LabelDecodesWrongFalsely : Prop := labelDecodesRow.holds Try.pinned (OpenSpec.ofChange labelDecodesWrong)

/-- 'quicksetlaw.LabelBests': WHATEVER THE INPUT: true; the input reads as it did. -/
def labelBestsSpec : ChangeSpec := { name := "labelBests", fn := fun _ => fun
  | [d] => { results := [.lit (.bool true)], args := [d] }
  | _ => none }
def labelBestsRow : OpenClaim := { program := "ythnchojddoefiaa", sum := "e397f016dfdbac423329ee1c73ac77e55d1ac23f9fdd0af1a5664bd67045d24b", func := "quickset/quicksetlaw.LabelBests", spec := "labelBests", unfollowed := true, recurses := true, apart := false }
def LabelBestsSaid : Prop := labelBestsRow.holds Try.pinned (OpenSpec.ofChange labelBestsSpec)

/-- ITS FALSE NEIGHBOUR: 'it returns false'. Refute it at one input. -/
def labelBestsWrong : ChangeSpec := { name := "labelBests", fn := fun _ => fun
  | [d] => { results := [.lit (.bool false)], args := [d] }
  | _ => none }
def LabelBestsWrongFalsely : Prop := labelBestsRow.holds Try.pinned (OpenSpec.ofChange labelBestsWrong)

/-- 'quicksetlaw.DrivePlays': WHATEVER THE INPUT: true; the input reads as it did. -/
def drivePlaysSpec : ChangeSpec := { name := "drivePlays", fn := fun _ => fun
  | [d1, d2] => { results := [.lit (.bool true)], args := [d1, d2] }
  | _ => none }
def drivePlaysRow : OpenClaim := { program := "ythnchojddoefiaa", sum := "e397f016dfdbac423329ee1c73ac77e55d1ac23f9fdd0af1a5664bd67045d24b", func := "quickset/quicksetlaw.DrivePlays", spec := "drivePlays", unfollowed := true, recurses := true, apart := false }
def DrivePlaysSaid : Prop := drivePlaysRow.holds Try.pinned (OpenSpec.ofChange drivePlaysSpec)

/-- ITS FALSE NEIGHBOUR: 'it returns false'. Refute it at one input. -/
def drivePlaysWrong : ChangeSpec := { name := "drivePlays", fn := fun _ => fun
  | [d1, d2] => { results := [.lit (.bool false)], args := [d1, d2] }
  | _ => none }
def DrivePlaysWrongFalsely : Prop := drivePlaysRow.holds Try.pinned (OpenSpec.ofChange drivePlaysWrong)

/-- 'quicksetlaw.TreePlays': WHATEVER THE INPUT: true; the input reads as it did. -/
def treePlaysSpec : ChangeSpec := { name := "treePlays", fn := fun _ => fun
  | [d] => { results := [.lit (.bool true)], args := [d] }
  | _ => none }
def treePlaysRow : OpenClaim := { program := "ythnchojddoefiaa", sum := "e397f016dfdbac423329ee1c73ac77e55d1ac23f9fdd0af1a5664bd67045d24b", func := "quickset/quicksetlaw.TreePlays", spec := "treePlays", recurses := true, apart := false }
def TreePlaysSaid : Prop := treePlaysRow.holds Try.pinned (OpenSpec.ofChange treePlaysSpec)

/-- ITS FALSE NEIGHBOUR: 'it returns false'. Refute it at one input. -/
def treePlaysWrong : ChangeSpec := { name := "treePlays", fn := fun _ => fun
  | [d] => { results := [.lit (.bool false)], args := [d] }
  | _ => none }
def TreePlaysWrongFalsely : Prop := treePlaysRow.holds Try.pinned (OpenSpec.ofChange treePlaysWrong)

/-- 'quicksetlaw.SnapPlays': WHATEVER THE INPUT: true; the input reads as it did. -/
def snapPlaysSpec : ChangeSpec := { name := "snapPlays", fn := fun _ => fun
  | [d] => { results := [.lit (.bool true)], args := [d] }
  | _ => none }
def snapPlaysRow : OpenClaim := { program := "ythnchojddoefiaa", sum := "e397f016dfdbac423329ee1c73ac77e55d1ac23f9fdd0af1a5664bd67045d24b", func := "quickset/quicksetlaw.SnapPlays", spec := "snapPlays", unfollowed := true, recurses := true, apart := false }
def SnapPlaysSaid : Prop := snapPlaysRow.holds Try.pinned (OpenSpec.ofChange snapPlaysSpec)

/-- ITS FALSE NEIGHBOUR: 'it returns false'. Refute it at one input. -/
def snapPlaysWrong : ChangeSpec := { name := "snapPlays", fn := fun _ => fun
  | [d] => { results := [.lit (.bool false)], args := [d] }
  | _ => none }
def SnapPlaysWrongFalsely : Prop := snapPlaysRow.holds Try.pinned (OpenSpec.ofChange snapPlaysWrong)

/-- 'quicksetlaw.SpaceReplays': WHATEVER THE INPUT: true; the input reads as it did. -/
def spaceReplaysSpec : ChangeSpec := { name := "spaceReplays", fn := fun _ => fun
  | [d1, d2] => { results := [.lit (.bool true)], args := [d1, d2] }
  | _ => none }
def spaceReplaysRow : OpenClaim := { program := "ythnchojddoefiaa", sum := "e397f016dfdbac423329ee1c73ac77e55d1ac23f9fdd0af1a5664bd67045d24b", func := "quickset/quicksetlaw.SpaceReplays", spec := "spaceReplays", unfollowed := true, recurses := true, apart := false }
def SpaceReplaysSaid : Prop := spaceReplaysRow.holds Try.pinned (OpenSpec.ofChange spaceReplaysSpec)

/-- ITS FALSE NEIGHBOUR: 'it returns false'. Refute it at one input. -/
def spaceReplaysWrong : ChangeSpec := { name := "spaceReplays", fn := fun _ => fun
  | [d1, d2] => { results := [.lit (.bool false)], args := [d1, d2] }
  | _ => none }
def SpaceReplaysWrongFalsely : Prop := spaceReplaysRow.holds Try.pinned (OpenSpec.ofChange spaceReplaysWrong)

/-- 'quicksetlaw.SpaceCondenses': WHATEVER THE INPUT: true; the input reads as it did. -/
def spaceCondensesSpec : ChangeSpec := { name := "spaceCondenses", fn := fun _ => fun
  | [d1, d2] => { results := [.lit (.bool true)], args := [d1, d2] }
  | _ => none }
def spaceCondensesRow : OpenClaim := { program := "ythnchojddoefiaa", sum := "e397f016dfdbac423329ee1c73ac77e55d1ac23f9fdd0af1a5664bd67045d24b", func := "quickset/quicksetlaw.SpaceCondenses", spec := "spaceCondenses", unfollowed := true, recurses := true, apart := false }
def SpaceCondensesSaid : Prop := spaceCondensesRow.holds Try.pinned (OpenSpec.ofChange spaceCondensesSpec)

/-- ITS FALSE NEIGHBOUR: 'it returns false'. Refute it at one input. -/
def spaceCondensesWrong : ChangeSpec := { name := "spaceCondenses", fn := fun _ => fun
  | [d1, d2] => { results := [.lit (.bool false)], args := [d1, d2] }
  | _ => none }
def SpaceCondensesWrongFalsely : Prop := spaceCondensesRow.holds Try.pinned (OpenSpec.ofChange spaceCondensesWrong)

/-- 'quicksetlaw.SpacePlays': WHATEVER THE INPUT: true; the input reads as it did. -/
def spacePlaysSpec : ChangeSpec := { name := "spacePlays", fn := fun _ => fun
  | [d1, d2] => { results := [.lit (.bool true)], args := [d1, d2] }
  | _ => none }
def spacePlaysRow : OpenClaim := { program := "ythnchojddoefiaa", sum := "e397f016dfdbac423329ee1c73ac77e55d1ac23f9fdd0af1a5664bd67045d24b", func := "quickset/quicksetlaw.SpacePlays", spec := "spacePlays", unfollowed := true, recurses := true, apart := false }
def SpacePlaysSaid : Prop := spacePlaysRow.holds Try.pinned (OpenSpec.ofChange spacePlaysSpec)

/-- ITS FALSE NEIGHBOUR: 'it returns false'. Refute it at one input. -/
def spacePlaysWrong : ChangeSpec := { name := "spacePlays", fn := fun _ => fun
  | [d1, d2] => { results := [.lit (.bool false)], args := [d1, d2] }
  | _ => none }
def SpacePlaysWrongFalsely : Prop := spacePlaysRow.holds Try.pinned (OpenSpec.ofChange spacePlaysWrong)

/-- 'quicksetlaw.SpanAdds': WHATEVER THE INPUT: true; the input reads as it did. -/
def spanAddsSpec : ChangeSpec := { name := "spanAdds", fn := fun _ => fun
  | [d1, d2] => { results := [.lit (.bool true)], args := [d1, d2] }
  | _ => none }
def spanAddsRow : OpenClaim := { program := "ythnchojddoefiaa", sum := "e397f016dfdbac423329ee1c73ac77e55d1ac23f9fdd0af1a5664bd67045d24b", func := "quickset/quicksetlaw.SpanAdds", spec := "spanAdds", inPlace := ["internal/reflectlite.ValueOf", "internal/reflectlite.Swapper", "(internal/reflectlite.Value).Len"], unfollowed := true, recurses := true, apart := false }
def SpanAddsSaid : Prop := spanAddsRow.holds Try.pinned (OpenSpec.ofChange spanAddsSpec)

/-- ITS FALSE NEIGHBOUR: 'it returns false'. Refute it at one input. -/
def spanAddsWrong : ChangeSpec := { name := "spanAdds", fn := fun _ => fun
  | [d1, d2] => { results := [.lit (.bool false)], args := [d1, d2] }
  | _ => none }
def SpanAddsWrongFalsely : Prop := spanAddsRow.holds Try.pinned (OpenSpec.ofChange spanAddsWrong)

/-- 'quicksetlaw.SpanCuts': WHATEVER THE INPUT: true; the input reads as it did. -/
def spanCutsSpec : ChangeSpec := { name := "spanCuts", fn := fun _ => fun
  | [d1, d2] => { results := [.lit (.bool true)], args := [d1, d2] }
  | _ => none }
def spanCutsRow : OpenClaim := { program := "ythnchojddoefiaa", sum := "e397f016dfdbac423329ee1c73ac77e55d1ac23f9fdd0af1a5664bd67045d24b", func := "quickset/quicksetlaw.SpanCuts", spec := "spanCuts", inPlace := ["internal/reflectlite.ValueOf", "internal/reflectlite.Swapper", "(internal/reflectlite.Value).Len"], unfollowed := true, recurses := true, apart := false }
def SpanCutsSaid : Prop := spanCutsRow.holds Try.pinned (OpenSpec.ofChange spanCutsSpec)

/-- ITS FALSE NEIGHBOUR: 'it returns false'. Refute it at one input. -/
def spanCutsWrong : ChangeSpec := { name := "spanCuts", fn := fun _ => fun
  | [d1, d2] => { results := [.lit (.bool false)], args := [d1, d2] }
  | _ => none }
def SpanCutsWrongFalsely : Prop := spanCutsRow.holds Try.pinned (OpenSpec.ofChange spanCutsWrong)

/-- 'quicksetlaw.SpanBoths': WHATEVER THE INPUT: true; the input reads as it did. -/
def spanBothsSpec : ChangeSpec := { name := "spanBoths", fn := fun _ => fun
  | [d1, d2] => { results := [.lit (.bool true)], args := [d1, d2] }
  | _ => none }
def spanBothsRow : OpenClaim := { program := "ythnchojddoefiaa", sum := "e397f016dfdbac423329ee1c73ac77e55d1ac23f9fdd0af1a5664bd67045d24b", func := "quickset/quicksetlaw.SpanBoths", spec := "spanBoths", inPlace := ["internal/reflectlite.ValueOf", "internal/reflectlite.Swapper", "(internal/reflectlite.Value).Len"], unfollowed := true, recurses := true, apart := false }
def SpanBothsSaid : Prop := spanBothsRow.holds Try.pinned (OpenSpec.ofChange spanBothsSpec)

/-- ITS FALSE NEIGHBOUR: 'it returns false'. Refute it at one input. -/
def spanBothsWrong : ChangeSpec := { name := "spanBoths", fn := fun _ => fun
  | [d1, d2] => { results := [.lit (.bool false)], args := [d1, d2] }
  | _ => none }
def SpanBothsWrongFalsely : Prop := spanBothsRow.holds Try.pinned (OpenSpec.ofChange spanBothsWrong)

/- THE SECOND FORM. 'bulk': how many values and letters a reading holds, each counted each time it is reached (what is shared counts as often as it is met; a slice's spare places count too). A statement '..UptoSaid' is the law's where the arguments, and the package variables that the reading takes, are together of bulk at most 1048576: NARROWER than '..Said'. Prove '..Said' where nothing that the law and all that it calls make is longer than what came in: it says more and counts as full. Else prove '..UptoSaid'. A law counts once. -/
mutual
def uptoBulk {H : Type} : DataW H → Nat
  | .lit (.string bytes) => bytes.length + 1
  | .lit _ => 1
  | .nil => 1
  | .ptr d => uptoBulk d + 1
  | .slice elems spare => uptoBulkAll elems + uptoBulkAll spare + 1
  | .agg parts => uptoBulkAll parts + 1
  | .iface _ d => uptoBulk d + 1
  | .map entries => uptoBulkEntries entries + 1
  | .held _ => 1
def uptoBulkAll {H : Type} : List (DataW H) → Nat
  | [] => 0
  | d :: r => uptoBulk d + uptoBulkAll r
def uptoBulkEntries {H : Type} : List (Lit × DataW H) → Nat
  | [] => 0
  | x :: r => uptoBulkEntry x + uptoBulkEntries r
def uptoBulkEntry {H : Type} : Lit × DataW H → Nat
  | (.string bytes, d) => bytes.length + uptoBulk d + 1
  | (_, d) => uptoBulk d + 1
 end
def uptoSmall : (H : Type) → List (DataW H) → Bool := fun _ ds => decide (uptoBulkAll ds ≤ 1048576)
def OpenSpec.upto (s : _root_.Go.ChangeSpec) : _root_.Go.OpenSpec := { _root_.Go.OpenSpec.ofChange s with cond := some uptoSmall }

/-- 'quicksetlaw.LabelEncodes', WHERE WHAT IT READS IS OF BULK AT MOST 1048576: true; the input reads as it did. -/
def labelEncodesUptoRow : OpenClaim := { program := "ythnchojddoefiaa", sum := "e397f016dfdbac423329ee1c73ac77e55d1ac23f9fdd0af1a5664bd67045d24b", func := "quickset/quicksetlaw.LabelEncodes", spec := "labelEncodes", apart := false, narrowed := true }
def LabelEncodesUptoSaid : Prop := labelEncodesUptoRow.holds Try.pinned (OpenSpec.upto labelEncodesSpec)

/-- 'quicksetlaw.LabelDecodes', WHERE WHAT IT READS IS OF BULK AT MOST 1048576: true; the input reads as it did. -/
def labelDecodesUptoRow : OpenClaim := { program := "ythnchojddoefiaa", sum := "e397f016dfdbac423329ee1c73ac77e55d1ac23f9fdd0af1a5664bd67045d24b", func := "quickset/quicksetlaw.LabelDecodes", spec := "labelDecodes", unfollowed := true, recurses := true, apart := false, narrowed := true }
def LabelDecodesUptoSaid : Prop := labelDecodesUptoRow.holds Try.pinned (OpenSpec.upto labelDecodesSpec)

/-- 'quicksetlaw.LabelBests', WHERE WHAT IT READS IS OF BULK AT MOST 1048576: true; the input reads as it did. -/
def labelBestsUptoRow : OpenClaim := { program := "ythnchojddoefiaa", sum := "e397f016dfdbac423329ee1c73ac77e55d1ac23f9fdd0af1a5664bd67045d24b", func := "quickset/quicksetlaw.LabelBests", spec := "labelBests", unfollowed := true, recurses := true, apart := false, narrowed := true }
def LabelBestsUptoSaid : Prop := labelBestsUptoRow.holds Try.pinned (OpenSpec.upto labelBestsSpec)

/-- 'quicksetlaw.DrivePlays', WHERE WHAT IT READS IS OF BULK AT MOST 1048576: true; the input reads as it did. -/
def drivePlaysUptoRow : OpenClaim := { program := "ythnchojddoefiaa", sum := "e397f016dfdbac423329ee1c73ac77e55d1ac23f9fdd0af1a5664bd67045d24b", func := "quickset/quicksetlaw.DrivePlays", spec := "drivePlays", unfollowed := true, recurses := true, apart := false, narrowed := true }
def DrivePlaysUptoSaid : Prop := drivePlaysUptoRow.holds Try.pinned (OpenSpec.upto drivePlaysSpec)

/-- 'quicksetlaw.TreePlays', WHERE WHAT IT READS IS OF BULK AT MOST 1048576: true; the input reads as it did. -/
def treePlaysUptoRow : OpenClaim := { program := "ythnchojddoefiaa", sum := "e397f016dfdbac423329ee1c73ac77e55d1ac23f9fdd0af1a5664bd67045d24b", func := "quickset/quicksetlaw.TreePlays", spec := "treePlays", recurses := true, apart := false, narrowed := true }
def TreePlaysUptoSaid : Prop := treePlaysUptoRow.holds Try.pinned (OpenSpec.upto treePlaysSpec)

/-- 'quicksetlaw.SnapPlays', WHERE WHAT IT READS IS OF BULK AT MOST 1048576: true; the input reads as it did. -/
def snapPlaysUptoRow : OpenClaim := { program := "ythnchojddoefiaa", sum := "e397f016dfdbac423329ee1c73ac77e55d1ac23f9fdd0af1a5664bd67045d24b", func := "quickset/quicksetlaw.SnapPlays", spec := "snapPlays", unfollowed := true, recurses := true, apart := false, narrowed := true }
def SnapPlaysUptoSaid : Prop := snapPlaysUptoRow.holds Try.pinned (OpenSpec.upto snapPlaysSpec)

/-- 'quicksetlaw.SpaceReplays', WHERE WHAT IT READS IS OF BULK AT MOST 1048576: true; the input reads as it did. -/
def spaceReplaysUptoRow : OpenClaim := { program := "ythnchojddoefiaa", sum := "e397f016dfdbac423329ee1c73ac77e55d1ac23f9fdd0af1a5664bd67045d24b", func := "quickset/quicksetlaw.SpaceReplays", spec := "spaceReplays", unfollowed := true, recurses := true, apart := false, narrowed := true }
def SpaceReplaysUptoSaid : Prop := spaceReplaysUptoRow.holds Try.pinned (OpenSpec.upto spaceReplaysSpec)

/-- 'quicksetlaw.SpaceCondenses', WHERE WHAT IT READS IS OF BULK AT MOST 1048576: true; the input reads as it did. -/
def spaceCondensesUptoRow : OpenClaim := { program := "ythnchojddoefiaa", sum := "e397f016dfdbac423329ee1c73ac77e55d1ac23f9fdd0af1a5664bd67045d24b", func := "quickset/quicksetlaw.SpaceCondenses", spec := "spaceCondenses", unfollowed := true, recurses := true, apart := false, narrowed := true }
def SpaceCondensesUptoSaid : Prop := spaceCondensesUptoRow.holds Try.pinned (OpenSpec.upto spaceCondensesSpec)

/-- 'quicksetlaw.SpacePlays', WHERE WHAT IT READS IS OF BULK AT MOST 1048576: true; the input reads as it did. -/
def spacePlaysUptoRow : OpenClaim := { program := "ythnchojddoefiaa", sum := "e397f016dfdbac423329ee1c73ac77e55d1ac23f9fdd0af1a5664bd67045d24b", func := "quickset/quicksetlaw.SpacePlays", spec := "spacePlays", unfollowed := true, recurses := true, apart := false, narrowed := true }
def SpacePlaysUptoSaid : Prop := spacePlaysUptoRow.holds Try.pinned (OpenSpec.upto spacePlaysSpec)

/-- 'quicksetlaw.SpanAdds', WHERE WHAT IT READS IS OF BULK AT MOST 1048576: true; the input reads as it did. -/
def spanAddsUptoRow : OpenClaim := { program := "ythnchojddoefiaa", sum := "e397f016dfdbac423329ee1c73ac77e55d1ac23f9fdd0af1a5664bd67045d24b", func := "quickset/quicksetlaw.SpanAdds", spec := "spanAdds", inPlace := ["internal/reflectlite.ValueOf", "internal/reflectlite.Swapper", "(internal/reflectlite.Value).Len"], unfollowed := true, recurses := true, apart := false, narrowed := true }
def SpanAddsUptoSaid : Prop := spanAddsUptoRow.holds Try.pinned (OpenSpec.upto spanAddsSpec)

/-- 'quicksetlaw.SpanCuts', WHERE WHAT IT READS IS OF BULK AT MOST 1048576: true; the input reads as it did. -/
def spanCutsUptoRow : OpenClaim := { program := "ythnchojddoefiaa", sum := "e397f016dfdbac423329ee1c73ac77e55d1ac23f9fdd0af1a5664bd67045d24b", func := "quickset/quicksetlaw.SpanCuts", spec := "spanCuts", inPlace := ["internal/reflectlite.ValueOf", "internal/reflectlite.Swapper", "(internal/reflectlite.Value).Len"], unfollowed := true, recurses := true, apart := false, narrowed := true }
def SpanCutsUptoSaid : Prop := spanCutsUptoRow.holds Try.pinned (OpenSpec.upto spanCutsSpec)

/-- 'quicksetlaw.SpanBoths', WHERE WHAT IT READS IS OF BULK AT MOST 1048576: true; the input reads as it did. -/
def spanBothsUptoRow : OpenClaim := { program := "ythnchojddoefiaa", sum := "e397f016dfdbac423329ee1c73ac77e55d1ac23f9fdd0af1a5664bd67045d24b", func := "quickset/quicksetlaw.SpanBoths", spec := "spanBoths", inPlace := ["internal/reflectlite.ValueOf", "internal/reflectlite.Swapper", "(internal/reflectlite.Value).Len"], unfollowed := true, recurses := true, apart := false, narrowed := true }
def SpanBothsUptoSaid : Prop := spanBothsUptoRow.holds Try.pinned (OpenSpec.upto spanBothsSpec)

end Rows
end Go.Proofs.Ythnchojddoefiaa
