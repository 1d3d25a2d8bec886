/-
  No cell of these rows narrows 'for every input' (looked for: loops, veiled, ifaces, maps, wideKeys, modest, calm, conditions, laid).
  DERIVED. THE GIVEN ROWS OF THIS SEAT. 12 by the template 'for every input the law returns true; each argument reads behind the call as it read before'; 0 by the template 'total and deterministic' (their statements: YtgibkbiofdmiaaaTotals.lean).
  GIVEN WITH THE SEED: the statements are not yours to turn. If you find one false, say at which input.
  Laid BY PROGRAM, IN A SANDBOX (cutbox-rows.mjs): the forced cells as the released guide's own fill.sh prints them over the translation 10871adeee167eba… (all of the seat's roots in one cut). By AI agents, Wed Nov 11 2026. No macro, syntax, notation, axiom, sorry.
-/
import Derived.Test.YtgibkbiofdmiaaaChecked
import GoSem.Claim
import GoSem.ClaimJoined
import GoSem.ClaimMapViews
import Derived.JoinedTies
import Derived.KernelRfl
namespace Go.Proofs.Ytgibkbiofdmiaaa
/- THE CELL 'sum', in the pinned program and in every row, IS THE sha256 OF THE DUMP (.gsa) THAT YtgibkbiofdmiaaaProg.lean LOADS. Nothing in Lean hashes anything: it is a label: what it is worth is what the hold of that sum in a sandbox is worth. -/
noncomputable def Try.pinned : Pinned := { name := "ytgibkbiofdmiaaa", sum := "10871adeee167eba0810b382672a6ce942ffb6c5511484ac96a8cf9f49a0834b", checked := Try.checked }
namespace Rows
def none {H : Type} : Left H := { results := [], args := [] }

/-- 'quicksetlaw.LabelMays': WHATEVER THE INPUT: true; the input reads as it did. -/
def labelMaysSpec : ChangeSpec := { name := "labelMays", fn := fun _ => fun
  | [d] => { results := [.lit (.bool true)], args := [d] }
  | _ => none }
def labelMaysRow : OpenClaim := { program := "ytgibkbiofdmiaaa", sum := "10871adeee167eba0810b382672a6ce942ffb6c5511484ac96a8cf9f49a0834b", func := "quickset/quicksetlaw.LabelMays", spec := "labelMays", apart := false }
def LabelMaysSaid : Prop := labelMaysRow.holds Try.pinned (OpenSpec.ofChange labelMaysSpec)

/-- ITS FALSE NEIGHBOUR: 'it returns false'. Refute it at one input. -/
def labelMaysWrong : ChangeSpec := { name := "labelMays", fn := fun _ => fun
  | [d] => { results := [.lit (.bool false)], args := [d] }
  | _ => none }
def LabelMaysWrongFalsely : Prop := labelMaysRow.holds Try.pinned (OpenSpec.ofChange labelMaysWrong)

/-- 'quicksetlaw.CombCounts': WHATEVER THE INPUT: true; the input reads as it did. -/
def combCountsSpec : ChangeSpec := { name := "combCounts", fn := fun _ => fun
  | [d1, d2] => { results := [.lit (.bool true)], args := [d1, d2] }
  | _ => none }
def combCountsRow : OpenClaim := { program := "ytgibkbiofdmiaaa", sum := "10871adeee167eba0810b382672a6ce942ffb6c5511484ac96a8cf9f49a0834b", func := "quickset/quicksetlaw.CombCounts", spec := "combCounts", apart := false }
def CombCountsSaid : Prop := combCountsRow.holds Try.pinned (OpenSpec.ofChange combCountsSpec)

/-- ITS FALSE NEIGHBOUR: 'it returns false'. Refute it at one input. -/
def combCountsWrong : ChangeSpec := { name := "combCounts", fn := fun _ => fun
  | [d1, d2] => { results := [.lit (.bool false)], args := [d1, d2] }
  | _ => none }
def CombCountsWrongFalsely : Prop := combCountsRow.holds Try.pinned (OpenSpec.ofChange combCountsWrong)

/-- 'quicksetlaw.ParMays': WHATEVER THE INPUT: true; the input reads as it did. -/
def parMaysSpec : ChangeSpec := { name := "parMays", fn := fun _ => fun
  | [d] => { results := [.lit (.bool true)], args := [d] }
  | _ => none }
def parMaysRow : OpenClaim := { program := "ytgibkbiofdmiaaa", sum := "10871adeee167eba0810b382672a6ce942ffb6c5511484ac96a8cf9f49a0834b", func := "quickset/quicksetlaw.ParMays", spec := "parMays", unfollowed := true, recurses := true, apart := false }
def ParMaysSaid : Prop := parMaysRow.holds Try.pinned (OpenSpec.ofChange parMaysSpec)

/-- ITS FALSE NEIGHBOUR: 'it returns false'. Refute it at one input. -/
def parMaysWrong : ChangeSpec := { name := "parMays", fn := fun _ => fun
  | [d] => { results := [.lit (.bool false)], args := [d] }
  | _ => none }
def ParMaysWrongFalsely : Prop := parMaysRow.holds Try.pinned (OpenSpec.ofChange parMaysWrong)

/-- 'quicksetlaw.FletJoins': WHATEVER THE INPUT: true; the input reads as it did. -/
def fletJoinsSpec : ChangeSpec := { name := "fletJoins", fn := fun _ => fun
  | [d1, d2, d3] => { results := [.lit (.bool true)], args := [d1, d2, d3] }
  | _ => none }
def fletJoinsRow : OpenClaim := { program := "ytgibkbiofdmiaaa", sum := "10871adeee167eba0810b382672a6ce942ffb6c5511484ac96a8cf9f49a0834b", func := "quickset/quicksetlaw.FletJoins", spec := "fletJoins", apart := false }
def FletJoinsSaid : Prop := fletJoinsRow.holds Try.pinned (OpenSpec.ofChange fletJoinsSpec)

/-- ITS FALSE NEIGHBOUR: 'it returns false'. Refute it at one input. -/
def fletJoinsWrong : ChangeSpec := { name := "fletJoins", fn := fun _ => fun
  | [d1, d2, d3] => { results := [.lit (.bool false)], args := [d1, d2, d3] }
  | _ => none }
def FletJoinsWrongFalsely : Prop := fletJoinsRow.holds Try.pinned (OpenSpec.ofChange fletJoinsWrong)

/-- 'quicksetlaw.SpanSizes': WHATEVER THE INPUT: true; the input reads as it did. -/
def spanSizesSpec : ChangeSpec := { name := "spanSizes", fn := fun _ => fun
  | [d] => { results := [.lit (.bool true)], args := [d] }
  | _ => none }
def spanSizesRow : OpenClaim := { program := "ytgibkbiofdmiaaa", sum := "10871adeee167eba0810b382672a6ce942ffb6c5511484ac96a8cf9f49a0834b", func := "quickset/quicksetlaw.SpanSizes", spec := "spanSizes", apart := false }
def SpanSizesSaid : Prop := spanSizesRow.holds Try.pinned (OpenSpec.ofChange spanSizesSpec)

/-- ITS FALSE NEIGHBOUR: 'it returns false'. Refute it at one input. -/
def spanSizesWrong : ChangeSpec := { name := "spanSizes", fn := fun _ => fun
  | [d] => { results := [.lit (.bool false)], args := [d] }
  | _ => none }
def SpanSizesWrongFalsely : Prop := spanSizesRow.holds Try.pinned (OpenSpec.ofChange spanSizesWrong)

/-- 'quicksetlaw.FletMores': WHATEVER THE INPUT: true; the input reads as it did. -/
def fletMoresSpec : ChangeSpec := { name := "fletMores", fn := fun _ => fun
  | [d1, d2] => { results := [.lit (.bool true)], args := [d1, d2] }
  | _ => none }
def fletMoresRow : OpenClaim := { program := "ytgibkbiofdmiaaa", sum := "10871adeee167eba0810b382672a6ce942ffb6c5511484ac96a8cf9f49a0834b", func := "quickset/quicksetlaw.FletMores", spec := "fletMores", apart := false }
def FletMoresSaid : Prop := fletMoresRow.holds Try.pinned (OpenSpec.ofChange fletMoresSpec)

/-- ITS FALSE NEIGHBOUR: 'it returns false'. Refute it at one input. -/
def fletMoresWrong : ChangeSpec := { name := "fletMores", fn := fun _ => fun
  | [d1, d2] => { results := [.lit (.bool false)], args := [d1, d2] }
  | _ => none }
def FletMoresWrongFalsely : Prop := fletMoresRow.holds Try.pinned (OpenSpec.ofChange fletMoresWrong)

/-- 'quicksetlaw.FletOfs': WHATEVER THE INPUT: true; the input reads as it did. -/
def fletOfsSpec : ChangeSpec := { name := "fletOfs", fn := fun _ => fun
  | [d] => { results := [.lit (.bool true)], args := [d] }
  | _ => none }
def fletOfsRow : OpenClaim := { program := "ytgibkbiofdmiaaa", sum := "10871adeee167eba0810b382672a6ce942ffb6c5511484ac96a8cf9f49a0834b", func := "quickset/quicksetlaw.FletOfs", spec := "fletOfs", apart := false }
def FletOfsSaid : Prop := fletOfsRow.holds Try.pinned (OpenSpec.ofChange fletOfsSpec)

/-- ITS FALSE NEIGHBOUR: 'it returns false'. Refute it at one input. -/
def fletOfsWrong : ChangeSpec := { name := "fletOfs", fn := fun _ => fun
  | [d] => { results := [.lit (.bool false)], args := [d] }
  | _ => none }
def FletOfsWrongFalsely : Prop := fletOfsRow.holds Try.pinned (OpenSpec.ofChange fletOfsWrong)

/-- 'quicksetlaw.CombAts': WHATEVER THE INPUT: true; the input reads as it did. -/
def combAtsSpec : ChangeSpec := { name := "combAts", fn := fun _ => fun
  | [d1, d2, d3] => { results := [.lit (.bool true)], args := [d1, d2, d3] }
  | _ => none }
def combAtsRow : OpenClaim := { program := "ytgibkbiofdmiaaa", sum := "10871adeee167eba0810b382672a6ce942ffb6c5511484ac96a8cf9f49a0834b", func := "quickset/quicksetlaw.CombAts", spec := "combAts", recurses := true, apart := false }
def CombAtsSaid : Prop := combAtsRow.holds Try.pinned (OpenSpec.ofChange combAtsSpec)

/-- ITS FALSE NEIGHBOUR: 'it returns false'. Refute it at one input. -/
def combAtsWrong : ChangeSpec := { name := "combAts", fn := fun _ => fun
  | [d1, d2, d3] => { results := [.lit (.bool false)], args := [d1, d2, d3] }
  | _ => none }
def CombAtsWrongFalsely : Prop := combAtsRow.holds Try.pinned (OpenSpec.ofChange combAtsWrong)

/-- 'quicksetlaw.CombNumbers': WHATEVER THE INPUT: true; the input reads as it did. -/
def combNumbersSpec : ChangeSpec := { name := "combNumbers", fn := fun _ => fun
  | [d1, d2] => { results := [.lit (.bool true)], args := [d1, d2] }
  | _ => none }
def combNumbersRow : OpenClaim := { program := "ytgibkbiofdmiaaa", sum := "10871adeee167eba0810b382672a6ce942ffb6c5511484ac96a8cf9f49a0834b", func := "quickset/quicksetlaw.CombNumbers", spec := "combNumbers", recurses := true, apart := false }
def CombNumbersSaid : Prop := combNumbersRow.holds Try.pinned (OpenSpec.ofChange combNumbersSpec)

/-- ITS FALSE NEIGHBOUR: 'it returns false'. Refute it at one input. -/
def combNumbersWrong : ChangeSpec := { name := "combNumbers", fn := fun _ => fun
  | [d1, d2] => { results := [.lit (.bool false)], args := [d1, d2] }
  | _ => none }
def CombNumbersWrongFalsely : Prop := combNumbersRow.holds Try.pinned (OpenSpec.ofChange combNumbersWrong)

/-- 'quicksetlaw.SpanFirsts': WHATEVER THE INPUT: true; the input reads as it did. -/
def spanFirstsSpec : ChangeSpec := { name := "spanFirsts", fn := fun _ => fun
  | [d1, d2] => { results := [.lit (.bool true)], args := [d1, d2] }
  | _ => none }
def spanFirstsRow : OpenClaim := { program := "ytgibkbiofdmiaaa", sum := "10871adeee167eba0810b382672a6ce942ffb6c5511484ac96a8cf9f49a0834b", func := "quickset/quicksetlaw.SpanFirsts", spec := "spanFirsts", apart := false }
def SpanFirstsSaid : Prop := spanFirstsRow.holds Try.pinned (OpenSpec.ofChange spanFirstsSpec)

/-- ITS FALSE NEIGHBOUR: 'it returns false'. Refute it at one input. -/
def spanFirstsWrong : ChangeSpec := { name := "spanFirsts", fn := fun _ => fun
  | [d1, d2] => { results := [.lit (.bool false)], args := [d1, d2] }
  | _ => none }
def SpanFirstsWrongFalsely : Prop := spanFirstsRow.holds Try.pinned (OpenSpec.ofChange spanFirstsWrong)

/-- 'quicksetlaw.MatMays': WHATEVER THE INPUT: true; the input reads as it did. -/
def matMaysSpec : ChangeSpec := { name := "matMays", fn := fun _ => fun
  | [d] => { results := [.lit (.bool true)], args := [d] }
  | _ => none }
def matMaysRow : OpenClaim := { program := "ytgibkbiofdmiaaa", sum := "10871adeee167eba0810b382672a6ce942ffb6c5511484ac96a8cf9f49a0834b", func := "quickset/quicksetlaw.MatMays", spec := "matMays", unfollowed := true, recurses := true, apart := false }
def MatMaysSaid : Prop := matMaysRow.holds Try.pinned (OpenSpec.ofChange matMaysSpec)

/-- ITS FALSE NEIGHBOUR: 'it returns false'. Refute it at one input. -/
def matMaysWrong : ChangeSpec := { name := "matMays", fn := fun _ => fun
  | [d] => { results := [.lit (.bool false)], args := [d] }
  | _ => none }
def MatMaysWrongFalsely : Prop := matMaysRow.holds Try.pinned (OpenSpec.ofChange matMaysWrong)

/-- 'quicksetlaw.SpanHases': WHATEVER THE INPUT: true; the input reads as it did. -/
def spanHasesSpec : ChangeSpec := { name := "spanHases", fn := fun _ => fun
  | [d1, d2] => { results := [.lit (.bool true)], args := [d1, d2] }
  | _ => none }
def spanHasesRow : OpenClaim := { program := "ytgibkbiofdmiaaa", sum := "10871adeee167eba0810b382672a6ce942ffb6c5511484ac96a8cf9f49a0834b", func := "quickset/quicksetlaw.SpanHases", spec := "spanHases", unfollowed := true, recurses := true, apart := false }
def SpanHasesSaid : Prop := spanHasesRow.holds Try.pinned (OpenSpec.ofChange spanHasesSpec)

/-- ITS FALSE NEIGHBOUR: 'it returns false'. Refute it at one input. -/
def spanHasesWrong : ChangeSpec := { name := "spanHases", fn := fun _ => fun
  | [d1, d2] => { results := [.lit (.bool false)], args := [d1, d2] }
  | _ => none }
def SpanHasesWrongFalsely : Prop := spanHasesRow.holds Try.pinned (OpenSpec.ofChange spanHasesWrong)

/- THE SECOND FORM. 'bulk': how many values and letters a reading holds, each counted each time it is reached (what is shared counts as often as it is met; a slice's spare places count too). A statement '..UptoSaid' is the law's where the arguments, and the package variables that the reading takes, are together of bulk at most 1048576: NARROWER than '..Said'. Prove '..Said' where nothing that the law and all that it calls make is longer than what came in: it says more and counts as full. Else prove '..UptoSaid'. A law counts once. -/
mutual
def uptoBulk {H : Type} : DataW H → Nat
  | .lit (.string bytes) => bytes.length + 1
  | .lit _ => 1
  | .nil => 1
  | .ptr d => uptoBulk d + 1
  | .slice elems spare => uptoBulkAll elems + uptoBulkAll spare + 1
  | .agg parts => uptoBulkAll parts + 1
  | .iface _ d => uptoBulk d + 1
  | .map entries => uptoBulkEntries entries + 1
  | .held _ => 1
def uptoBulkAll {H : Type} : List (DataW H) → Nat
  | [] => 0
  | d :: r => uptoBulk d + uptoBulkAll r
def uptoBulkEntries {H : Type} : List (Lit × DataW H) → Nat
  | [] => 0
  | x :: r => uptoBulkEntry x + uptoBulkEntries r
def uptoBulkEntry {H : Type} : Lit × DataW H → Nat
  | (.string bytes, d) => bytes.length + uptoBulk d + 1
  | (_, d) => uptoBulk d + 1
 end
def uptoSmall : (H : Type) → List (DataW H) → Bool := fun _ ds => decide (uptoBulkAll ds ≤ 1048576)
def OpenSpec.upto (s : _root_.Go.ChangeSpec) : _root_.Go.OpenSpec := { _root_.Go.OpenSpec.ofChange s with cond := some uptoSmall }

/-- 'quicksetlaw.LabelMays', WHERE WHAT IT READS IS OF BULK AT MOST 1048576: true; the input reads as it did. -/
def labelMaysUptoRow : OpenClaim := { program := "ytgibkbiofdmiaaa", sum := "10871adeee167eba0810b382672a6ce942ffb6c5511484ac96a8cf9f49a0834b", func := "quickset/quicksetlaw.LabelMays", spec := "labelMays", apart := false, narrowed := true }
def LabelMaysUptoSaid : Prop := labelMaysUptoRow.holds Try.pinned (OpenSpec.upto labelMaysSpec)

/-- 'quicksetlaw.CombCounts', WHERE WHAT IT READS IS OF BULK AT MOST 1048576: true; the input reads as it did. -/
def combCountsUptoRow : OpenClaim := { program := "ytgibkbiofdmiaaa", sum := "10871adeee167eba0810b382672a6ce942ffb6c5511484ac96a8cf9f49a0834b", func := "quickset/quicksetlaw.CombCounts", spec := "combCounts", apart := false, narrowed := true }
def CombCountsUptoSaid : Prop := combCountsUptoRow.holds Try.pinned (OpenSpec.upto combCountsSpec)

/-- 'quicksetlaw.ParMays', WHERE WHAT IT READS IS OF BULK AT MOST 1048576: true; the input reads as it did. -/
def parMaysUptoRow : OpenClaim := { program := "ytgibkbiofdmiaaa", sum := "10871adeee167eba0810b382672a6ce942ffb6c5511484ac96a8cf9f49a0834b", func := "quickset/quicksetlaw.ParMays", spec := "parMays", unfollowed := true, recurses := true, apart := false, narrowed := true }
def ParMaysUptoSaid : Prop := parMaysUptoRow.holds Try.pinned (OpenSpec.upto parMaysSpec)

/-- 'quicksetlaw.FletJoins', WHERE WHAT IT READS IS OF BULK AT MOST 1048576: true; the input reads as it did. -/
def fletJoinsUptoRow : OpenClaim := { program := "ytgibkbiofdmiaaa", sum := "10871adeee167eba0810b382672a6ce942ffb6c5511484ac96a8cf9f49a0834b", func := "quickset/quicksetlaw.FletJoins", spec := "fletJoins", apart := false, narrowed := true }
def FletJoinsUptoSaid : Prop := fletJoinsUptoRow.holds Try.pinned (OpenSpec.upto fletJoinsSpec)

/-- 'quicksetlaw.SpanSizes', WHERE WHAT IT READS IS OF BULK AT MOST 1048576: true; the input reads as it did. -/
def spanSizesUptoRow : OpenClaim := { program := "ytgibkbiofdmiaaa", sum := "10871adeee167eba0810b382672a6ce942ffb6c5511484ac96a8cf9f49a0834b", func := "quickset/quicksetlaw.SpanSizes", spec := "spanSizes", apart := false, narrowed := true }
def SpanSizesUptoSaid : Prop := spanSizesUptoRow.holds Try.pinned (OpenSpec.upto spanSizesSpec)

/-- 'quicksetlaw.FletMores', WHERE WHAT IT READS IS OF BULK AT MOST 1048576: true; the input reads as it did. -/
def fletMoresUptoRow : OpenClaim := { program := "ytgibkbiofdmiaaa", sum := "10871adeee167eba0810b382672a6ce942ffb6c5511484ac96a8cf9f49a0834b", func := "quickset/quicksetlaw.FletMores", spec := "fletMores", apart := false, narrowed := true }
def FletMoresUptoSaid : Prop := fletMoresUptoRow.holds Try.pinned (OpenSpec.upto fletMoresSpec)

/-- 'quicksetlaw.FletOfs', WHERE WHAT IT READS IS OF BULK AT MOST 1048576: true; the input reads as it did. -/
def fletOfsUptoRow : OpenClaim := { program := "ytgibkbiofdmiaaa", sum := "10871adeee167eba0810b382672a6ce942ffb6c5511484ac96a8cf9f49a0834b", func := "quickset/quicksetlaw.FletOfs", spec := "fletOfs", apart := false, narrowed := true }
def FletOfsUptoSaid : Prop := fletOfsUptoRow.holds Try.pinned (OpenSpec.upto fletOfsSpec)

/-- 'quicksetlaw.CombAts', WHERE WHAT IT READS IS OF BULK AT MOST 1048576: true; the input reads as it did. -/
def combAtsUptoRow : OpenClaim := { program := "ytgibkbiofdmiaaa", sum := "10871adeee167eba0810b382672a6ce942ffb6c5511484ac96a8cf9f49a0834b", func := "quickset/quicksetlaw.CombAts", spec := "combAts", recurses := true, apart := false, narrowed := true }
def CombAtsUptoSaid : Prop := combAtsUptoRow.holds Try.pinned (OpenSpec.upto combAtsSpec)

/-- 'quicksetlaw.CombNumbers', WHERE WHAT IT READS IS OF BULK AT MOST 1048576: true; the input reads as it did. -/
def combNumbersUptoRow : OpenClaim := { program := "ytgibkbiofdmiaaa", sum := "10871adeee167eba0810b382672a6ce942ffb6c5511484ac96a8cf9f49a0834b", func := "quickset/quicksetlaw.CombNumbers", spec := "combNumbers", recurses := true, apart := false, narrowed := true }
def CombNumbersUptoSaid : Prop := combNumbersUptoRow.holds Try.pinned (OpenSpec.upto combNumbersSpec)

/-- 'quicksetlaw.SpanFirsts', WHERE WHAT IT READS IS OF BULK AT MOST 1048576: true; the input reads as it did. -/
def spanFirstsUptoRow : OpenClaim := { program := "ytgibkbiofdmiaaa", sum := "10871adeee167eba0810b382672a6ce942ffb6c5511484ac96a8cf9f49a0834b", func := "quickset/quicksetlaw.SpanFirsts", spec := "spanFirsts", apart := false, narrowed := true }
def SpanFirstsUptoSaid : Prop := spanFirstsUptoRow.holds Try.pinned (OpenSpec.upto spanFirstsSpec)

/-- 'quicksetlaw.MatMays', WHERE WHAT IT READS IS OF BULK AT MOST 1048576: true; the input reads as it did. -/
def matMaysUptoRow : OpenClaim := { program := "ytgibkbiofdmiaaa", sum := "10871adeee167eba0810b382672a6ce942ffb6c5511484ac96a8cf9f49a0834b", func := "quickset/quicksetlaw.MatMays", spec := "matMays", unfollowed := true, recurses := true, apart := false, narrowed := true }
def MatMaysUptoSaid : Prop := matMaysUptoRow.holds Try.pinned (OpenSpec.upto matMaysSpec)

/-- 'quicksetlaw.SpanHases', WHERE WHAT IT READS IS OF BULK AT MOST 1048576: true; the input reads as it did. -/
def spanHasesUptoRow : OpenClaim := { program := "ytgibkbiofdmiaaa", sum := "10871adeee167eba0810b382672a6ce942ffb6c5511484ac96a8cf9f49a0834b", func := "quickset/quicksetlaw.SpanHases", spec := "spanHases", unfollowed := true, recurses := true, apart := false, narrowed := true }
def SpanHasesUptoSaid : Prop := spanHasesUptoRow.holds Try.pinned (OpenSpec.upto spanHasesSpec)

end Rows
end Go.Proofs.Ytgibkbiofdmiaaa
