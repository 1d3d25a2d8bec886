/- Printed from a stub by wip/stub.py with the kit's print.py, then turned by hand. -/
import Derived.Test.YthnchojddoefiaaProg
import Derived.Below
import Derived.Deep.Draws
import Derived.Deep.AppendLies
import Derived.Maps.AppendAt
import Derived.OwnWalk
import Derived.Laws.BytesArg
import Derived.Laws.MakeOwn
import Derived.Laws.OwnMore
import Derived.Deep.OwnRows
import Derived.Tactics
import Derived.Lib.ConvBytes
import Derived.Laws.Slices
import Derived.WalkKit
import Derived.KernelRfl
import Derived.RowKit3
import Derived.Deep.LoopGhost
import Derived.Deep.QuietTactic
import Derived.BigQuiet
import Derived.WideLaws
import Derived.Deep.DeepCutAuto
import Derived.Deep.CutBlock
import Derived.Deep.RegionHeld3
import Derived.Laws.Rows
import Derived.Lib.AppendStr
import Derived.ArgAppend
import Derived.Laws.IdiomCopy
import Derived.OrdersHeld
import Derived.Laws.BitsLemmas
import Derived.RowKit
import Derived.Test.YthnchojddoefiaaWWords
import Derived.Test.YthnchojddoefiaaWLast
import Derived.Test.YthnchojddoefiaaWTab
import Derived.Test.YthnchojddoefiaaWFour
import Derived.Test.YthnchojddoefiaaWQPut
import Derived.Test.YthnchojddoefiaaWApart
import Derived.Test.YthnchojddoefiaaWArr
import Derived.Test.YthnchojddoefiaaWZeros
import Derived.Test.YthnchojddoefiaaWFoot
import Derived.Test.YthnchojddoefiaaWKept
import Derived.Test.YthnchojddoefiaaWShare
import Derived.Test.YthnchojddoefiaaWN
import Derived.Test.YthnchojddoefiaaWFootNe
import Derived.Test.YthnchojddoefiaaWAt
import Derived.Test.YthnchojddoefiaaWEqStruct
import Derived.Test.YthnchojddoefiaaWRepsOne
import Derived.Test.YthnchojddoefiaaWInv
import Derived.Test.YthnchojddoefiaaWInvWords
import Derived.Test.YthnchojddoefiaaWGuard
import Derived.Test.YthnchojddoefiaaWNEv
import Derived.Test.YthnchojddoefiaaWMore
namespace Go.Proofs.Ythnchojddoefiaa.QLabelDecodes
open Go.RowKit Go.Proofs.YthnchojddoefiaaW.PrintWords Go.Proofs.YthnchojddoefiaaW.PrintLast Go.Proofs.YthnchojddoefiaaW.PrintMore
attribute [local go_sem] max2_int min2_int max_two min_two max_three min_three max_four min_four   -- for this text's walks alone
set_option linter.unusedVariables false
set_option linter.unusedSimpArgs false



def errW : Option Int → Value
  | none => .nilIface
  | some c => .iface 0 (.int .i64 c)
theorem errW_none : errW none = .nilIface := rfl
theorem errW_some (c : Int) : errW (some c) = .iface 0 (.int .i64 c) := rfl

theorem info3 : (Try.prog.info? 3).map (fun i => (i.zero, i.size, i.bytes)) = some (some (.int .i64 0), 1, 8) := by kernel_rfl
theorem info5 : (Try.prog.info? 5).map (fun i => (i.zero, i.size, i.bytes)) = some (some (.int .u8 0), 1, 1) := by kernel_rfl
-- the values' own types

end Go.Proofs.Ythnchojddoefiaa.QLabelDecodes
