/-
  No cell of these rows narrows 'for every input' (looked for: loops, veiled, ifaces, maps, wideKeys, modest, calm, conditions, laid).
  DERIVED. THE GIVEN ROWS OF THIS SEAT. 12 by the template 'for every input the law returns true; each argument reads behind the call as it read before'; 0 by the template 'total and deterministic' (their statements: YtdececbckohhgaaTotals.lean).
  GIVEN WITH THE SEED: the statements are not yours to turn. If you find one false, say at which input.
  Laid BY PROGRAM, IN A SANDBOX (cutbox-rows.mjs): the forced cells as the released guide's own fill.sh prints them over the translation 256e17e1ef8a08c8… (all of the seat's roots in one cut). By AI agents, Wed Nov 11 2026. No macro, syntax, notation, axiom, sorry.
-/
import Derived.Test.YtdececbckohhgaaChecked
import GoSem.Claim
import GoSem.ClaimJoined
import GoSem.ClaimMapViews
import Derived.JoinedTies
import Derived.KernelRfl
namespace Go.Proofs.Ytdececbckohhgaa
/- THE CELL 'sum', in the pinned program and in every row, IS THE sha256 OF THE DUMP (.gsa) THAT YtdececbckohhgaaProg.lean LOADS. Nothing in Lean hashes anything: it is a label: what it is worth is what the hold of that sum in a sandbox is worth. -/
noncomputable def Try.pinned : Pinned := { name := "ytdececbckohhgaa", sum := "256e17e1ef8a08c8312dc0cb2b0fdfb14bdd37981cae4bc0aaa944c13867eb4a", checked := Try.checked }
namespace Rows
def none {H : Type} : Left H := { results := [], args := [] }

/-- 'quicksetlaw.Names': WHATEVER THE INPUT: true; the input reads as it did. -/
def namesSpec : ChangeSpec := { name := "names", fn := fun _ => fun
  | [] => { results := [.lit (.bool true)], args := [] }
  | _ => none }
def namesRow : OpenClaim := { program := "ytdececbckohhgaa", sum := "256e17e1ef8a08c8312dc0cb2b0fdfb14bdd37981cae4bc0aaa944c13867eb4a", func := "quickset/quicksetlaw.Names", spec := "names", apart := false }
def NamesSaid : Prop := namesRow.holds Try.pinned (OpenSpec.ofChange namesSpec)

/-- ITS FALSE NEIGHBOUR: 'it returns false'. Refute it at one input. -/
def namesWrong : ChangeSpec := { name := "names", fn := fun _ => fun
  | [] => { results := [.lit (.bool false)], args := [] }
  | _ => none }
def NamesWrongFalsely : Prop := namesRow.holds Try.pinned (OpenSpec.ofChange namesWrong)

/-- 'quicksetlaw.GfAdds': WHATEVER THE INPUT: true; the input reads as it did. -/
def gfAddsSpec : ChangeSpec := { name := "gfAdds", fn := fun _ => fun
  | [d1, d2] => { results := [.lit (.bool true)], args := [d1, d2] }
  | _ => none }
def gfAddsRow : OpenClaim := { program := "ytdececbckohhgaa", sum := "256e17e1ef8a08c8312dc0cb2b0fdfb14bdd37981cae4bc0aaa944c13867eb4a", func := "quickset/quicksetlaw.GfAdds", spec := "gfAdds", apart := false }
def GfAddsSaid : Prop := gfAddsRow.holds Try.pinned (OpenSpec.ofChange gfAddsSpec)

/-- ITS FALSE NEIGHBOUR: 'it returns false'. Refute it at one input. -/
def gfAddsWrong : ChangeSpec := { name := "gfAdds", fn := fun _ => fun
  | [d1, d2] => { results := [.lit (.bool false)], args := [d1, d2] }
  | _ => none }
def GfAddsWrongFalsely : Prop := gfAddsRow.holds Try.pinned (OpenSpec.ofChange gfAddsWrong)

/-- 'quicksetlaw.GfMuls': WHATEVER THE INPUT: true; the input reads as it did. -/
def gfMulsSpec : ChangeSpec := { name := "gfMuls", fn := fun _ => fun
  | [d1, d2] => { results := [.lit (.bool true)], args := [d1, d2] }
  | _ => none }
def gfMulsRow : OpenClaim := { program := "ytdececbckohhgaa", sum := "256e17e1ef8a08c8312dc0cb2b0fdfb14bdd37981cae4bc0aaa944c13867eb4a", func := "quickset/quicksetlaw.GfMuls", spec := "gfMuls", apart := false }
def GfMulsSaid : Prop := gfMulsRow.holds Try.pinned (OpenSpec.ofChange gfMulsSpec)

/-- ITS FALSE NEIGHBOUR: 'it returns false'. Refute it at one input. -/
def gfMulsWrong : ChangeSpec := { name := "gfMuls", fn := fun _ => fun
  | [d1, d2] => { results := [.lit (.bool false)], args := [d1, d2] }
  | _ => none }
def GfMulsWrongFalsely : Prop := gfMulsRow.holds Try.pinned (OpenSpec.ofChange gfMulsWrong)

/-- 'quicksetlaw.GfLogs': WHATEVER THE INPUT: true; the input reads as it did. -/
def gfLogsSpec : ChangeSpec := { name := "gfLogs", fn := fun _ => fun
  | [d] => { results := [.lit (.bool true)], args := [d] }
  | _ => none }
def gfLogsRow : OpenClaim := { program := "ytdececbckohhgaa", sum := "256e17e1ef8a08c8312dc0cb2b0fdfb14bdd37981cae4bc0aaa944c13867eb4a", func := "quickset/quicksetlaw.GfLogs", spec := "gfLogs", apart := false }
def GfLogsSaid : Prop := gfLogsRow.holds Try.pinned (OpenSpec.ofChange gfLogsSpec)

/-- ITS FALSE NEIGHBOUR: 'it returns false'. Refute it at one input. -/
def gfLogsWrong : ChangeSpec := { name := "gfLogs", fn := fun _ => fun
  | [d] => { results := [.lit (.bool false)], args := [d] }
  | _ => none }
def GfLogsWrongFalsely : Prop := gfLogsRow.holds Try.pinned (OpenSpec.ofChange gfLogsWrong)

/-- 'quicksetlaw.GfPows': WHATEVER THE INPUT: true; the input reads as it did. -/
def gfPowsSpec : ChangeSpec := { name := "gfPows", fn := fun _ => fun
  | [d1, d2] => { results := [.lit (.bool true)], args := [d1, d2] }
  | _ => none }
def gfPowsRow : OpenClaim := { program := "ytdececbckohhgaa", sum := "256e17e1ef8a08c8312dc0cb2b0fdfb14bdd37981cae4bc0aaa944c13867eb4a", func := "quickset/quicksetlaw.GfPows", spec := "gfPows", apart := false }
def GfPowsSaid : Prop := gfPowsRow.holds Try.pinned (OpenSpec.ofChange gfPowsSpec)

/-- ITS FALSE NEIGHBOUR: 'it returns false'. Refute it at one input. -/
def gfPowsWrong : ChangeSpec := { name := "gfPows", fn := fun _ => fun
  | [d1, d2] => { results := [.lit (.bool false)], args := [d1, d2] }
  | _ => none }
def GfPowsWrongFalsely : Prop := gfPowsRow.holds Try.pinned (OpenSpec.ofChange gfPowsWrong)

/-- 'quicksetlaw.GfExps': WHATEVER THE INPUT: true; the input reads as it did. -/
def gfExpsSpec : ChangeSpec := { name := "gfExps", fn := fun _ => fun
  | [d] => { results := [.lit (.bool true)], args := [d] }
  | _ => none }
def gfExpsRow : OpenClaim := { program := "ytdececbckohhgaa", sum := "256e17e1ef8a08c8312dc0cb2b0fdfb14bdd37981cae4bc0aaa944c13867eb4a", func := "quickset/quicksetlaw.GfExps", spec := "gfExps", apart := false }
def GfExpsSaid : Prop := gfExpsRow.holds Try.pinned (OpenSpec.ofChange gfExpsSpec)

/-- ITS FALSE NEIGHBOUR: 'it returns false'. Refute it at one input. -/
def gfExpsWrong : ChangeSpec := { name := "gfExps", fn := fun _ => fun
  | [d] => { results := [.lit (.bool false)], args := [d] }
  | _ => none }
def GfExpsWrongFalsely : Prop := gfExpsRow.holds Try.pinned (OpenSpec.ofChange gfExpsWrong)

/-- 'quicksetlaw.GfDivs': WHATEVER THE INPUT: true; the input reads as it did. -/
def gfDivsSpec : ChangeSpec := { name := "gfDivs", fn := fun _ => fun
  | [d1, d2] => { results := [.lit (.bool true)], args := [d1, d2] }
  | _ => none }
def gfDivsRow : OpenClaim := { program := "ytdececbckohhgaa", sum := "256e17e1ef8a08c8312dc0cb2b0fdfb14bdd37981cae4bc0aaa944c13867eb4a", func := "quickset/quicksetlaw.GfDivs", spec := "gfDivs", apart := false }
def GfDivsSaid : Prop := gfDivsRow.holds Try.pinned (OpenSpec.ofChange gfDivsSpec)

/-- ITS FALSE NEIGHBOUR: 'it returns false'. Refute it at one input. -/
def gfDivsWrong : ChangeSpec := { name := "gfDivs", fn := fun _ => fun
  | [d1, d2] => { results := [.lit (.bool false)], args := [d1, d2] }
  | _ => none }
def GfDivsWrongFalsely : Prop := gfDivsRow.holds Try.pinned (OpenSpec.ofChange gfDivsWrong)

/-- 'quicksetlaw.GfInvs': WHATEVER THE INPUT: true; the input reads as it did. -/
def gfInvsSpec : ChangeSpec := { name := "gfInvs", fn := fun _ => fun
  | [d] => { results := [.lit (.bool true)], args := [d] }
  | _ => none }
def gfInvsRow : OpenClaim := { program := "ytdececbckohhgaa", sum := "256e17e1ef8a08c8312dc0cb2b0fdfb14bdd37981cae4bc0aaa944c13867eb4a", func := "quickset/quicksetlaw.GfInvs", spec := "gfInvs", apart := false }
def GfInvsSaid : Prop := gfInvsRow.holds Try.pinned (OpenSpec.ofChange gfInvsSpec)

/-- ITS FALSE NEIGHBOUR: 'it returns false'. Refute it at one input. -/
def gfInvsWrong : ChangeSpec := { name := "gfInvs", fn := fun _ => fun
  | [d] => { results := [.lit (.bool false)], args := [d] }
  | _ => none }
def GfInvsWrongFalsely : Prop := gfInvsRow.holds Try.pinned (OpenSpec.ofChange gfInvsWrong)

/-- 'quicksetlaw.GeomSpots': WHATEVER THE INPUT: true; the input reads as it did. -/
def geomSpotsSpec : ChangeSpec := { name := "geomSpots", fn := fun _ => fun
  | [d1, d2] => { results := [.lit (.bool true)], args := [d1, d2] }
  | _ => none }
def geomSpotsRow : OpenClaim := { program := "ytdececbckohhgaa", sum := "256e17e1ef8a08c8312dc0cb2b0fdfb14bdd37981cae4bc0aaa944c13867eb4a", func := "quickset/quicksetlaw.GeomSpots", spec := "geomSpots", apart := false }
def GeomSpotsSaid : Prop := geomSpotsRow.holds Try.pinned (OpenSpec.ofChange geomSpotsSpec)

/-- ITS FALSE NEIGHBOUR: 'it returns false'. Refute it at one input. -/
def geomSpotsWrong : ChangeSpec := { name := "geomSpots", fn := fun _ => fun
  | [d1, d2] => { results := [.lit (.bool false)], args := [d1, d2] }
  | _ => none }
def GeomSpotsWrongFalsely : Prop := geomSpotsRow.holds Try.pinned (OpenSpec.ofChange geomSpotsWrong)

/-- 'quicksetlaw.GeomCosts': WHATEVER THE INPUT: true; the input reads as it did. -/
def geomCostsSpec : ChangeSpec := { name := "geomCosts", fn := fun _ => fun
  | [d1, d2, d3] => { results := [.lit (.bool true)], args := [d1, d2, d3] }
  | _ => none }
def geomCostsRow : OpenClaim := { program := "ytdececbckohhgaa", sum := "256e17e1ef8a08c8312dc0cb2b0fdfb14bdd37981cae4bc0aaa944c13867eb4a", func := "quickset/quicksetlaw.GeomCosts", spec := "geomCosts", apart := false }
def GeomCostsSaid : Prop := geomCostsRow.holds Try.pinned (OpenSpec.ofChange geomCostsSpec)

/-- ITS FALSE NEIGHBOUR: 'it returns false'. Refute it at one input. -/
def geomCostsWrong : ChangeSpec := { name := "geomCosts", fn := fun _ => fun
  | [d1, d2, d3] => { results := [.lit (.bool false)], args := [d1, d2, d3] }
  | _ => none }
def GeomCostsWrongFalsely : Prop := geomCostsRow.holds Try.pinned (OpenSpec.ofChange geomCostsWrong)

/-- 'quicksetlaw.GeomColumns': WHATEVER THE INPUT: true; the input reads as it did. -/
def geomColumnsSpec : ChangeSpec := { name := "geomColumns", fn := fun _ => fun
  | [d1, d2, d3, d4] => { results := [.lit (.bool true)], args := [d1, d2, d3, d4] }
  | _ => none }
def geomColumnsRow : OpenClaim := { program := "ytdececbckohhgaa", sum := "256e17e1ef8a08c8312dc0cb2b0fdfb14bdd37981cae4bc0aaa944c13867eb4a", func := "quickset/quicksetlaw.GeomColumns", spec := "geomColumns", apart := false }
def GeomColumnsSaid : Prop := geomColumnsRow.holds Try.pinned (OpenSpec.ofChange geomColumnsSpec)

/-- ITS FALSE NEIGHBOUR: 'it returns false'. Refute it at one input. -/
def geomColumnsWrong : ChangeSpec := { name := "geomColumns", fn := fun _ => fun
  | [d1, d2, d3, d4] => { results := [.lit (.bool false)], args := [d1, d2, d3, d4] }
  | _ => none }
def GeomColumnsWrongFalsely : Prop := geomColumnsRow.holds Try.pinned (OpenSpec.ofChange geomColumnsWrong)

/-- 'quicksetlaw.SpanMays': WHATEVER THE INPUT: true; the input reads as it did. -/
def spanMaysSpec : ChangeSpec := { name := "spanMays", fn := fun _ => fun
  | [d] => { results := [.lit (.bool true)], args := [d] }
  | _ => none }
def spanMaysRow : OpenClaim := { program := "ytdececbckohhgaa", sum := "256e17e1ef8a08c8312dc0cb2b0fdfb14bdd37981cae4bc0aaa944c13867eb4a", func := "quickset/quicksetlaw.SpanMays", spec := "spanMays", apart := false }
def SpanMaysSaid : Prop := spanMaysRow.holds Try.pinned (OpenSpec.ofChange spanMaysSpec)

/-- ITS FALSE NEIGHBOUR: 'it returns false'. Refute it at one input. -/
def spanMaysWrong : ChangeSpec := { name := "spanMays", fn := fun _ => fun
  | [d] => { results := [.lit (.bool false)], args := [d] }
  | _ => none }
def SpanMaysWrongFalsely : Prop := spanMaysRow.holds Try.pinned (OpenSpec.ofChange spanMaysWrong)

/- THE SECOND FORM. 'bulk': how many values and letters a reading holds, each counted each time it is reached (what is shared counts as often as it is met; a slice's spare places count too). A statement '..UptoSaid' is the law's where the arguments, and the package variables that the reading takes, are together of bulk at most 1048576: NARROWER than '..Said'. Prove '..Said' where nothing that the law and all that it calls make is longer than what came in: it says more and counts as full. Else prove '..UptoSaid'. A law counts once. -/
mutual
def uptoBulk {H : Type} : DataW H → Nat
  | .lit (.string bytes) => bytes.length + 1
  | .lit _ => 1
  | .nil => 1
  | .ptr d => uptoBulk d + 1
  | .slice elems spare => uptoBulkAll elems + uptoBulkAll spare + 1
  | .agg parts => uptoBulkAll parts + 1
  | .iface _ d => uptoBulk d + 1
  | .map entries => uptoBulkEntries entries + 1
  | .held _ => 1
def uptoBulkAll {H : Type} : List (DataW H) → Nat
  | [] => 0
  | d :: r => uptoBulk d + uptoBulkAll r
def uptoBulkEntries {H : Type} : List (Lit × DataW H) → Nat
  | [] => 0
  | x :: r => uptoBulkEntry x + uptoBulkEntries r
def uptoBulkEntry {H : Type} : Lit × DataW H → Nat
  | (.string bytes, d) => bytes.length + uptoBulk d + 1
  | (_, d) => uptoBulk d + 1
 end
def uptoSmall : (H : Type) → List (DataW H) → Bool := fun _ ds => decide (uptoBulkAll ds ≤ 1048576)
def OpenSpec.upto (s : _root_.Go.ChangeSpec) : _root_.Go.OpenSpec := { _root_.Go.OpenSpec.ofChange s with cond := some uptoSmall }

/-- 'quicksetlaw.Names', WHERE WHAT IT READS IS OF BULK AT MOST 1048576: true; the input reads as it did. -/
def namesUptoRow : OpenClaim := { program := "ytdececbckohhgaa", sum := "256e17e1ef8a08c8312dc0cb2b0fdfb14bdd37981cae4bc0aaa944c13867eb4a", func := "quickset/quicksetlaw.Names", spec := "names", apart := false, narrowed := true }
def NamesUptoSaid : Prop := namesUptoRow.holds Try.pinned (OpenSpec.upto namesSpec)

/-- 'quicksetlaw.GfAdds', WHERE WHAT IT READS IS OF BULK AT MOST 1048576: true; the input reads as it did. -/
def gfAddsUptoRow : OpenClaim := { program := "ytdececbckohhgaa", sum := "256e17e1ef8a08c8312dc0cb2b0fdfb14bdd37981cae4bc0aaa944c13867eb4a", func := "quickset/quicksetlaw.GfAdds", spec := "gfAdds", apart := false, narrowed := true }
def GfAddsUptoSaid : Prop := gfAddsUptoRow.holds Try.pinned (OpenSpec.upto gfAddsSpec)

/-- 'quicksetlaw.GfMuls', WHERE WHAT IT READS IS OF BULK AT MOST 1048576: true; the input reads as it did. -/
def gfMulsUptoRow : OpenClaim := { program := "ytdececbckohhgaa", sum := "256e17e1ef8a08c8312dc0cb2b0fdfb14bdd37981cae4bc0aaa944c13867eb4a", func := "quickset/quicksetlaw.GfMuls", spec := "gfMuls", apart := false, narrowed := true }
def GfMulsUptoSaid : Prop := gfMulsUptoRow.holds Try.pinned (OpenSpec.upto gfMulsSpec)

/-- 'quicksetlaw.GfLogs', WHERE WHAT IT READS IS OF BULK AT MOST 1048576: true; the input reads as it did. -/
def gfLogsUptoRow : OpenClaim := { program := "ytdececbckohhgaa", sum := "256e17e1ef8a08c8312dc0cb2b0fdfb14bdd37981cae4bc0aaa944c13867eb4a", func := "quickset/quicksetlaw.GfLogs", spec := "gfLogs", apart := false, narrowed := true }
def GfLogsUptoSaid : Prop := gfLogsUptoRow.holds Try.pinned (OpenSpec.upto gfLogsSpec)

/-- 'quicksetlaw.GfPows', WHERE WHAT IT READS IS OF BULK AT MOST 1048576: true; the input reads as it did. -/
def gfPowsUptoRow : OpenClaim := { program := "ytdececbckohhgaa", sum := "256e17e1ef8a08c8312dc0cb2b0fdfb14bdd37981cae4bc0aaa944c13867eb4a", func := "quickset/quicksetlaw.GfPows", spec := "gfPows", apart := false, narrowed := true }
def GfPowsUptoSaid : Prop := gfPowsUptoRow.holds Try.pinned (OpenSpec.upto gfPowsSpec)

/-- 'quicksetlaw.GfExps', WHERE WHAT IT READS IS OF BULK AT MOST 1048576: true; the input reads as it did. -/
def gfExpsUptoRow : OpenClaim := { program := "ytdececbckohhgaa", sum := "256e17e1ef8a08c8312dc0cb2b0fdfb14bdd37981cae4bc0aaa944c13867eb4a", func := "quickset/quicksetlaw.GfExps", spec := "gfExps", apart := false, narrowed := true }
def GfExpsUptoSaid : Prop := gfExpsUptoRow.holds Try.pinned (OpenSpec.upto gfExpsSpec)

/-- 'quicksetlaw.GfDivs', WHERE WHAT IT READS IS OF BULK AT MOST 1048576: true; the input reads as it did. -/
def gfDivsUptoRow : OpenClaim := { program := "ytdececbckohhgaa", sum := "256e17e1ef8a08c8312dc0cb2b0fdfb14bdd37981cae4bc0aaa944c13867eb4a", func := "quickset/quicksetlaw.GfDivs", spec := "gfDivs", apart := false, narrowed := true }
def GfDivsUptoSaid : Prop := gfDivsUptoRow.holds Try.pinned (OpenSpec.upto gfDivsSpec)

/-- 'quicksetlaw.GfInvs', WHERE WHAT IT READS IS OF BULK AT MOST 1048576: true; the input reads as it did. -/
def gfInvsUptoRow : OpenClaim := { program := "ytdececbckohhgaa", sum := "256e17e1ef8a08c8312dc0cb2b0fdfb14bdd37981cae4bc0aaa944c13867eb4a", func := "quickset/quicksetlaw.GfInvs", spec := "gfInvs", apart := false, narrowed := true }
def GfInvsUptoSaid : Prop := gfInvsUptoRow.holds Try.pinned (OpenSpec.upto gfInvsSpec)

/-- 'quicksetlaw.GeomSpots', WHERE WHAT IT READS IS OF BULK AT MOST 1048576: true; the input reads as it did. -/
def geomSpotsUptoRow : OpenClaim := { program := "ytdececbckohhgaa", sum := "256e17e1ef8a08c8312dc0cb2b0fdfb14bdd37981cae4bc0aaa944c13867eb4a", func := "quickset/quicksetlaw.GeomSpots", spec := "geomSpots", apart := false, narrowed := true }
def GeomSpotsUptoSaid : Prop := geomSpotsUptoRow.holds Try.pinned (OpenSpec.upto geomSpotsSpec)

/-- 'quicksetlaw.GeomCosts', WHERE WHAT IT READS IS OF BULK AT MOST 1048576: true; the input reads as it did. -/
def geomCostsUptoRow : OpenClaim := { program := "ytdececbckohhgaa", sum := "256e17e1ef8a08c8312dc0cb2b0fdfb14bdd37981cae4bc0aaa944c13867eb4a", func := "quickset/quicksetlaw.GeomCosts", spec := "geomCosts", apart := false, narrowed := true }
def GeomCostsUptoSaid : Prop := geomCostsUptoRow.holds Try.pinned (OpenSpec.upto geomCostsSpec)

/-- 'quicksetlaw.GeomColumns', WHERE WHAT IT READS IS OF BULK AT MOST 1048576: true; the input reads as it did. -/
def geomColumnsUptoRow : OpenClaim := { program := "ytdececbckohhgaa", sum := "256e17e1ef8a08c8312dc0cb2b0fdfb14bdd37981cae4bc0aaa944c13867eb4a", func := "quickset/quicksetlaw.GeomColumns", spec := "geomColumns", apart := false, narrowed := true }
def GeomColumnsUptoSaid : Prop := geomColumnsUptoRow.holds Try.pinned (OpenSpec.upto geomColumnsSpec)

/-- 'quicksetlaw.SpanMays', WHERE WHAT IT READS IS OF BULK AT MOST 1048576: true; the input reads as it did. -/
def spanMaysUptoRow : OpenClaim := { program := "ytdececbckohhgaa", sum := "256e17e1ef8a08c8312dc0cb2b0fdfb14bdd37981cae4bc0aaa944c13867eb4a", func := "quickset/quicksetlaw.SpanMays", spec := "spanMays", apart := false, narrowed := true }
def SpanMaysUptoSaid : Prop := spanMaysUptoRow.holds Try.pinned (OpenSpec.upto spanMaysSpec)

end Rows
end Go.Proofs.Ytdececbckohhgaa
