/-
  No cell of these rows narrows 'for every input' (looked for: loops, veiled, ifaces, maps, wideKeys, modest, calm, conditions, laid).
  DERIVED. THE GIVEN ROWS OF THIS SEAT. 9 by the template 'for every input the law returns true; each argument reads behind the call as it read before'; 0 by the template 'total and deterministic' (their statements: YtpaenlplpaabjaaTotals.lean).
  GIVEN WITH THE SEED: the statements are not yours to turn. If you find one false, say at which input.
  Laid BY PROGRAM, IN A SANDBOX (cutbox-rows.mjs): the forced cells as the released guide's own fill.sh prints them over the translation 7948670c6bdbe1a5… (all of the seat's roots in one cut). By AI agents, Wed Nov 11 2026. No macro, syntax, notation, axiom, sorry.
-/
import Derived.Test.YtpaenlplpaabjaaChecked
import GoSem.Claim
import GoSem.ClaimJoined
import GoSem.ClaimMapViews
import Derived.JoinedTies
import Derived.KernelRfl
namespace Go.Proofs.Ytpaenlplpaabjaa
/- THE CELL 'sum', in the pinned program and in every row, IS THE sha256 OF THE DUMP (.gsa) THAT YtpaenlplpaabjaaProg.lean LOADS. Nothing in Lean hashes anything: it is a label: what it is worth is what the hold of that sum in a sandbox is worth. -/
noncomputable def Try.pinned : Pinned := { name := "ytpaenlplpaabjaa", sum := "7948670c6bdbe1a5cf7a5e58d81eae61e1ce904509bd12a0b1fd08f9896caaeb", checked := Try.checked }
namespace Rows
def none {H : Type} : Left H := { results := [], args := [] }

/-- 'quicksetlaw.CombAlls': WHATEVER THE INPUT: true; the input reads as it did. -/
def combAllsSpec : ChangeSpec := { name := "combAlls", fn := fun _ => fun
  | [d1, d2] => { results := [.lit (.bool true)], args := [d1, d2] }
  | _ => none }
def combAllsRow : OpenClaim := { program := "ytpaenlplpaabjaa", sum := "7948670c6bdbe1a5cf7a5e58d81eae61e1ce904509bd12a0b1fd08f9896caaeb", func := "quickset/quicksetlaw.CombAlls", spec := "combAlls", unfollowed := true, recurses := true, apart := false }
def CombAllsSaid : Prop := combAllsRow.holds Try.pinned (OpenSpec.ofChange combAllsSpec)

/-- ITS FALSE NEIGHBOUR: 'it returns false'. Refute it at one input. -/
def combAllsWrong : ChangeSpec := { name := "combAlls", fn := fun _ => fun
  | [d1, d2] => { results := [.lit (.bool false)], args := [d1, d2] }
  | _ => none }
def CombAllsWrongFalsely : Prop := combAllsRow.holds Try.pinned (OpenSpec.ofChange combAllsWrong)

/-- 'quicksetlaw.MatApplies': WHATEVER THE INPUT: true; the input reads as it did. -/
def matAppliesSpec : ChangeSpec := { name := "matApplies", fn := fun _ => fun
  | [d1, d2] => { results := [.lit (.bool true)], args := [d1, d2] }
  | _ => none }
def matAppliesRow : OpenClaim := { program := "ytpaenlplpaabjaa", sum := "7948670c6bdbe1a5cf7a5e58d81eae61e1ce904509bd12a0b1fd08f9896caaeb", func := "quickset/quicksetlaw.MatApplies", spec := "matApplies", unfollowed := true, recurses := true, apart := false }
def MatAppliesSaid : Prop := matAppliesRow.holds Try.pinned (OpenSpec.ofChange matAppliesSpec)

/-- ITS FALSE NEIGHBOUR: 'it returns false'. Refute it at one input. -/
def matAppliesWrong : ChangeSpec := { name := "matApplies", fn := fun _ => fun
  | [d1, d2] => { results := [.lit (.bool false)], args := [d1, d2] }
  | _ => none }
def MatAppliesWrongFalsely : Prop := matAppliesRow.holds Try.pinned (OpenSpec.ofChange matAppliesWrong)

/-- 'quicksetlaw.MatMuls': WHATEVER THE INPUT: true; the input reads as it did. -/
def matMulsSpec : ChangeSpec := { name := "matMuls", fn := fun _ => fun
  | [d1, d2] => { results := [.lit (.bool true)], args := [d1, d2] }
  | _ => none }
def matMulsRow : OpenClaim := { program := "ytpaenlplpaabjaa", sum := "7948670c6bdbe1a5cf7a5e58d81eae61e1ce904509bd12a0b1fd08f9896caaeb", func := "quickset/quicksetlaw.MatMuls", spec := "matMuls", unfollowed := true, recurses := true, apart := false }
def MatMulsSaid : Prop := matMulsRow.holds Try.pinned (OpenSpec.ofChange matMulsSpec)

/-- ITS FALSE NEIGHBOUR: 'it returns false'. Refute it at one input. -/
def matMulsWrong : ChangeSpec := { name := "matMuls", fn := fun _ => fun
  | [d1, d2] => { results := [.lit (.bool false)], args := [d1, d2] }
  | _ => none }
def MatMulsWrongFalsely : Prop := matMulsRow.holds Try.pinned (OpenSpec.ofChange matMulsWrong)

/-- 'quicksetlaw.MatRanks': WHATEVER THE INPUT: true; the input reads as it did. -/
def matRanksSpec : ChangeSpec := { name := "matRanks", fn := fun _ => fun
  | [d] => { results := [.lit (.bool true)], args := [d] }
  | _ => none }
def matRanksRow : OpenClaim := { program := "ytpaenlplpaabjaa", sum := "7948670c6bdbe1a5cf7a5e58d81eae61e1ce904509bd12a0b1fd08f9896caaeb", func := "quickset/quicksetlaw.MatRanks", spec := "matRanks", unfollowed := true, recurses := true, apart := false }
def MatRanksSaid : Prop := matRanksRow.holds Try.pinned (OpenSpec.ofChange matRanksSpec)

/-- ITS FALSE NEIGHBOUR: 'it returns false'. Refute it at one input. -/
def matRanksWrong : ChangeSpec := { name := "matRanks", fn := fun _ => fun
  | [d] => { results := [.lit (.bool false)], args := [d] }
  | _ => none }
def MatRanksWrongFalsely : Prop := matRanksRow.holds Try.pinned (OpenSpec.ofChange matRanksWrong)

/-- 'quicksetlaw.MatInverts': WHATEVER THE INPUT: true; the input reads as it did. -/
def matInvertsSpec : ChangeSpec := { name := "matInverts", fn := fun _ => fun
  | [d] => { results := [.lit (.bool true)], args := [d] }
  | _ => none }
def matInvertsRow : OpenClaim := { program := "ytpaenlplpaabjaa", sum := "7948670c6bdbe1a5cf7a5e58d81eae61e1ce904509bd12a0b1fd08f9896caaeb", func := "quickset/quicksetlaw.MatInverts", spec := "matInverts", unfollowed := true, recurses := true, apart := false }
def MatInvertsSaid : Prop := matInvertsRow.holds Try.pinned (OpenSpec.ofChange matInvertsSpec)

/-- ITS FALSE NEIGHBOUR: 'it returns false'. Refute it at one input. -/
def matInvertsWrong : ChangeSpec := { name := "matInverts", fn := fun _ => fun
  | [d] => { results := [.lit (.bool false)], args := [d] }
  | _ => none }
def MatInvertsWrongFalsely : Prop := matInvertsRow.holds Try.pinned (OpenSpec.ofChange matInvertsWrong)

/-- 'quicksetlaw.ParEncodes': WHATEVER THE INPUT: true; the input reads as it did. -/
def parEncodesSpec : ChangeSpec := { name := "parEncodes", fn := fun _ => fun
  | [d1, d2] => { results := [.lit (.bool true)], args := [d1, d2] }
  | _ => none }
def parEncodesRow : OpenClaim := { program := "ytpaenlplpaabjaa", sum := "7948670c6bdbe1a5cf7a5e58d81eae61e1ce904509bd12a0b1fd08f9896caaeb", func := "quickset/quicksetlaw.ParEncodes", spec := "parEncodes", unfollowed := true, recurses := true, apart := false }
def ParEncodesSaid : Prop := parEncodesRow.holds Try.pinned (OpenSpec.ofChange parEncodesSpec)

/-- ITS FALSE NEIGHBOUR: 'it returns false'. Refute it at one input. -/
def parEncodesWrong : ChangeSpec := { name := "parEncodes", fn := fun _ => fun
  | [d1, d2] => { results := [.lit (.bool false)], args := [d1, d2] }
  | _ => none }
def ParEncodesWrongFalsely : Prop := parEncodesRow.holds Try.pinned (OpenSpec.ofChange parEncodesWrong)

/-- 'quicksetlaw.ParRebuilds': WHATEVER THE INPUT: true; the input reads as it did. -/
def parRebuildsSpec : ChangeSpec := { name := "parRebuilds", fn := fun _ => fun
  | [d1, d2, d3] => { results := [.lit (.bool true)], args := [d1, d2, d3] }
  | _ => none }
def parRebuildsRow : OpenClaim := { program := "ytpaenlplpaabjaa", sum := "7948670c6bdbe1a5cf7a5e58d81eae61e1ce904509bd12a0b1fd08f9896caaeb", func := "quickset/quicksetlaw.ParRebuilds", spec := "parRebuilds", unfollowed := true, recurses := true, apart := false }
def ParRebuildsSaid : Prop := parRebuildsRow.holds Try.pinned (OpenSpec.ofChange parRebuildsSpec)

/-- ITS FALSE NEIGHBOUR: 'it returns false'. Refute it at one input. -/
def parRebuildsWrong : ChangeSpec := { name := "parRebuilds", fn := fun _ => fun
  | [d1, d2, d3] => { results := [.lit (.bool false)], args := [d1, d2, d3] }
  | _ => none }
def ParRebuildsWrongFalsely : Prop := parRebuildsRow.holds Try.pinned (OpenSpec.ofChange parRebuildsWrong)

/-- 'quicksetlaw.StripeLays': WHATEVER THE INPUT: true; the input reads as it did. -/
def stripeLaysSpec : ChangeSpec := { name := "stripeLays", fn := fun _ => fun
  | [d1, d2, d3, d4] => { results := [.lit (.bool true)], args := [d1, d2, d3, d4] }
  | _ => none }
def stripeLaysRow : OpenClaim := { program := "ytpaenlplpaabjaa", sum := "7948670c6bdbe1a5cf7a5e58d81eae61e1ce904509bd12a0b1fd08f9896caaeb", func := "quickset/quicksetlaw.StripeLays", spec := "stripeLays", unfollowed := true, recurses := true, apart := false }
def StripeLaysSaid : Prop := stripeLaysRow.holds Try.pinned (OpenSpec.ofChange stripeLaysSpec)

/-- ITS FALSE NEIGHBOUR: 'it returns false'. Refute it at one input. -/
def stripeLaysWrong : ChangeSpec := { name := "stripeLays", fn := fun _ => fun
  | [d1, d2, d3, d4] => { results := [.lit (.bool false)], args := [d1, d2, d3, d4] }
  | _ => none }
def StripeLaysWrongFalsely : Prop := stripeLaysRow.holds Try.pinned (OpenSpec.ofChange stripeLaysWrong)

/-- 'quicksetlaw.StripeGathers': WHATEVER THE INPUT: true; the input reads as it did. -/
def stripeGathersSpec : ChangeSpec := { name := "stripeGathers", fn := fun _ => fun
  | [d1, d2, d3, d4, d5, d6] => { results := [.lit (.bool true)], args := [d1, d2, d3, d4, d5, d6] }
  | _ => none }
def stripeGathersRow : OpenClaim := { program := "ytpaenlplpaabjaa", sum := "7948670c6bdbe1a5cf7a5e58d81eae61e1ce904509bd12a0b1fd08f9896caaeb", func := "quickset/quicksetlaw.StripeGathers", spec := "stripeGathers", unfollowed := true, recurses := true, apart := false }
def StripeGathersSaid : Prop := stripeGathersRow.holds Try.pinned (OpenSpec.ofChange stripeGathersSpec)

/-- ITS FALSE NEIGHBOUR: 'it returns false'. Refute it at one input. -/
def stripeGathersWrong : ChangeSpec := { name := "stripeGathers", fn := fun _ => fun
  | [d1, d2, d3, d4, d5, d6] => { results := [.lit (.bool false)], args := [d1, d2, d3, d4, d5, d6] }
  | _ => none }
def StripeGathersWrongFalsely : Prop := stripeGathersRow.holds Try.pinned (OpenSpec.ofChange stripeGathersWrong)

/- THE SECOND FORM. 'bulk': how many values and letters a reading holds, each counted each time it is reached (what is shared counts as often as it is met; a slice's spare places count too). A statement '..UptoSaid' is the law's where the arguments, and the package variables that the reading takes, are together of bulk at most 1048576: NARROWER than '..Said'. Prove '..Said' where nothing that the law and all that it calls make is longer than what came in: it says more and counts as full. Else prove '..UptoSaid'. A law counts once. -/
mutual
def uptoBulk {H : Type} : DataW H → Nat
  | .lit (.string bytes) => bytes.length + 1
  | .lit _ => 1
  | .nil => 1
  | .ptr d => uptoBulk d + 1
  | .slice elems spare => uptoBulkAll elems + uptoBulkAll spare + 1
  | .agg parts => uptoBulkAll parts + 1
  | .iface _ d => uptoBulk d + 1
  | .map entries => uptoBulkEntries entries + 1
  | .held _ => 1
def uptoBulkAll {H : Type} : List (DataW H) → Nat
  | [] => 0
  | d :: r => uptoBulk d + uptoBulkAll r
def uptoBulkEntries {H : Type} : List (Lit × DataW H) → Nat
  | [] => 0
  | x :: r => uptoBulkEntry x + uptoBulkEntries r
def uptoBulkEntry {H : Type} : Lit × DataW H → Nat
  | (.string bytes, d) => bytes.length + uptoBulk d + 1
  | (_, d) => uptoBulk d + 1
 end
def uptoSmall : (H : Type) → List (DataW H) → Bool := fun _ ds => decide (uptoBulkAll ds ≤ 1048576)
def OpenSpec.upto (s : _root_.Go.ChangeSpec) : _root_.Go.OpenSpec := { _root_.Go.OpenSpec.ofChange s with cond := some uptoSmall }

/-- 'quicksetlaw.CombAlls', WHERE WHAT IT READS IS OF BULK AT MOST 1048576: true; the input reads as it did. -/
def combAllsUptoRow : OpenClaim := { program := "ytpaenlplpaabjaa", sum := "7948670c6bdbe1a5cf7a5e58d81eae61e1ce904509bd12a0b1fd08f9896caaeb", func := "quickset/quicksetlaw.CombAlls", spec := "combAlls", unfollowed := true, recurses := true, apart := false, narrowed := true }
def CombAllsUptoSaid : Prop := combAllsUptoRow.holds Try.pinned (OpenSpec.upto combAllsSpec)

/-- 'quicksetlaw.MatApplies', WHERE WHAT IT READS IS OF BULK AT MOST 1048576: true; the input reads as it did. -/
def matAppliesUptoRow : OpenClaim := { program := "ytpaenlplpaabjaa", sum := "7948670c6bdbe1a5cf7a5e58d81eae61e1ce904509bd12a0b1fd08f9896caaeb", func := "quickset/quicksetlaw.MatApplies", spec := "matApplies", unfollowed := true, recurses := true, apart := false, narrowed := true }
def MatAppliesUptoSaid : Prop := matAppliesUptoRow.holds Try.pinned (OpenSpec.upto matAppliesSpec)

/-- 'quicksetlaw.MatMuls', WHERE WHAT IT READS IS OF BULK AT MOST 1048576: true; the input reads as it did. -/
def matMulsUptoRow : OpenClaim := { program := "ytpaenlplpaabjaa", sum := "7948670c6bdbe1a5cf7a5e58d81eae61e1ce904509bd12a0b1fd08f9896caaeb", func := "quickset/quicksetlaw.MatMuls", spec := "matMuls", unfollowed := true, recurses := true, apart := false, narrowed := true }
def MatMulsUptoSaid : Prop := matMulsUptoRow.holds Try.pinned (OpenSpec.upto matMulsSpec)

/-- 'quicksetlaw.MatRanks', WHERE WHAT IT READS IS OF BULK AT MOST 1048576: true; the input reads as it did. -/
def matRanksUptoRow : OpenClaim := { program := "ytpaenlplpaabjaa", sum := "7948670c6bdbe1a5cf7a5e58d81eae61e1ce904509bd12a0b1fd08f9896caaeb", func := "quickset/quicksetlaw.MatRanks", spec := "matRanks", unfollowed := true, recurses := true, apart := false, narrowed := true }
def MatRanksUptoSaid : Prop := matRanksUptoRow.holds Try.pinned (OpenSpec.upto matRanksSpec)

/-- 'quicksetlaw.MatInverts', WHERE WHAT IT READS IS OF BULK AT MOST 1048576: true; the input reads as it did. -/
def matInvertsUptoRow : OpenClaim := { program := "ytpaenlplpaabjaa", sum := "7948670c6bdbe1a5cf7a5e58d81eae61e1ce904509bd12a0b1fd08f9896caaeb", func := "quickset/quicksetlaw.MatInverts", spec := "matInverts", unfollowed := true, recurses := true, apart := false, narrowed := true }
def MatInvertsUptoSaid : Prop := matInvertsUptoRow.holds Try.pinned (OpenSpec.upto matInvertsSpec)

/-- 'quicksetlaw.ParEncodes', WHERE WHAT IT READS IS OF BULK AT MOST 1048576: true; the input reads as it did. -/
def parEncodesUptoRow : OpenClaim := { program := "ytpaenlplpaabjaa", sum := "7948670c6bdbe1a5cf7a5e58d81eae61e1ce904509bd12a0b1fd08f9896caaeb", func := "quickset/quicksetlaw.ParEncodes", spec := "parEncodes", unfollowed := true, recurses := true, apart := false, narrowed := true }
def ParEncodesUptoSaid : Prop := parEncodesUptoRow.holds Try.pinned (OpenSpec.upto parEncodesSpec)

/-- 'quicksetlaw.ParRebuilds', WHERE WHAT IT READS IS OF BULK AT MOST 1048576: true; the input reads as it did. -/
def parRebuildsUptoRow : OpenClaim := { program := "ytpaenlplpaabjaa", sum := "7948670c6bdbe1a5cf7a5e58d81eae61e1ce904509bd12a0b1fd08f9896caaeb", func := "quickset/quicksetlaw.ParRebuilds", spec := "parRebuilds", unfollowed := true, recurses := true, apart := false, narrowed := true }
def ParRebuildsUptoSaid : Prop := parRebuildsUptoRow.holds Try.pinned (OpenSpec.upto parRebuildsSpec)

/-- 'quicksetlaw.StripeLays', WHERE WHAT IT READS IS OF BULK AT MOST 1048576: true; the input reads as it did. -/
def stripeLaysUptoRow : OpenClaim := { program := "ytpaenlplpaabjaa", sum := "7948670c6bdbe1a5cf7a5e58d81eae61e1ce904509bd12a0b1fd08f9896caaeb", func := "quickset/quicksetlaw.StripeLays", spec := "stripeLays", unfollowed := true, recurses := true, apart := false, narrowed := true }
def StripeLaysUptoSaid : Prop := stripeLaysUptoRow.holds Try.pinned (OpenSpec.upto stripeLaysSpec)

/-- 'quicksetlaw.StripeGathers', WHERE WHAT IT READS IS OF BULK AT MOST 1048576: true; the input reads as it did. -/
def stripeGathersUptoRow : OpenClaim := { program := "ytpaenlplpaabjaa", sum := "7948670c6bdbe1a5cf7a5e58d81eae61e1ce904509bd12a0b1fd08f9896caaeb", func := "quickset/quicksetlaw.StripeGathers", spec := "stripeGathers", unfollowed := true, recurses := true, apart := false, narrowed := true }
def StripeGathersUptoSaid : Prop := stripeGathersUptoRow.holds Try.pinned (OpenSpec.upto stripeGathersSpec)

end Rows
end Go.Proofs.Ytpaenlplpaabjaa
