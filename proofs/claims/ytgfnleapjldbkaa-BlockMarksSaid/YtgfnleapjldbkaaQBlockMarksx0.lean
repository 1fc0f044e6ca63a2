-- Laid by the session's own driver of the kit's print (wip/tools/pr.py). Lean checks it.
import Derived.Test.YtgfnleapjldbkaaProg
import Derived.Below
import Derived.Deep.Draws
import Derived.Deep.AppendLies
import Derived.Maps.AppendAt
import Derived.OwnWalk
import Derived.Laws.BytesArg
import Derived.Laws.MakeOwn
import Derived.Laws.OwnMore
import Derived.Deep.OwnRows
import Derived.Tactics
import Derived.Lib.ConvBytes
import Derived.Laws.Slices
import Derived.WalkKit
import Derived.KernelRfl
import Derived.RowKit3
import Derived.Deep.LoopGhost
import Derived.Deep.QuietTactic
import Derived.BigQuiet
import Derived.WideLaws
import Derived.Deep.DeepCutAuto
import Derived.Deep.CutBlock
import Derived.Deep.RegionHeld3
import Derived.Laws.Rows
import Derived.Lib.AppendStr
import Derived.ArgAppend
import Derived.Laws.IdiomCopy
import Derived.OrdersHeld
import Derived.Laws.BitsLemmas
import Derived.RowKit
import Derived.Test.YtgfnleapjldbkaaBlockMark
import Derived.Test.YtgfnleapjldbkaaQKinds
import Derived.Test.YtgfnleapjldbkaaWWords
import Derived.Test.YtgfnleapjldbkaaWLast
import Derived.Test.YtgfnleapjldbkaaWTab
import Derived.Test.YtgfnleapjldbkaaWFour
import Derived.Test.YtgfnleapjldbkaaWQPut
import Derived.Test.YtgfnleapjldbkaaWApart
import Derived.Test.YtgfnleapjldbkaaWArr
import Derived.Test.YtgfnleapjldbkaaWZeros
import Derived.Test.YtgfnleapjldbkaaWFoot
import Derived.Test.YtgfnleapjldbkaaWKept
import Derived.Test.YtgfnleapjldbkaaWShare
import Derived.Test.YtgfnleapjldbkaaWN
import Derived.Test.YtgfnleapjldbkaaWFootNe
import Derived.Test.YtgfnleapjldbkaaWAt
import Derived.Test.YtgfnleapjldbkaaWEqStruct
import Derived.Test.YtgfnleapjldbkaaWRepsOne
import Derived.Test.YtgfnleapjldbkaaWInv
import Derived.Test.YtgfnleapjldbkaaWInvWords
import Derived.Test.YtgfnleapjldbkaaWGuard
import Derived.Test.YtgfnleapjldbkaaWNEv
import Derived.Test.YtgfnleapjldbkaaWMore
namespace Go.Proofs.Ytgfnleapjldbkaa.QBlockMarks
open Go.RowKit Go.Proofs.Ytgfnleapjldbkaa.QKinds Go.Proofs.Ytgfnleapjldbkaa.BlockMark Go.Proofs.YtgfnleapjldbkaaW.PrintWords Go.Proofs.YtgfnleapjldbkaaW.PrintLast Go.Proofs.YtgfnleapjldbkaaW.PrintMore
attribute [local go_sem] max2_int min2_int max_two min_two max_three min_three max_four min_four   -- for this text's walks alone
set_option linter.unusedVariables false
set_option linter.unusedSimpArgs false



def errW : Option Int → Value
  | none => .nilIface
  | some c => .iface 0 (.int .i64 c)
theorem errW_none : errW none = .nilIface := rfl
theorem errW_some (c : Int) : errW (some c) = .iface 0 (.int .i64 c) := rfl

theorem info5 : (Try.prog.info? 5).map (fun i => (i.zero, i.size, i.bytes)) = some (some (.int .u8 0), 1, 1) := by kernel_rfl
-- the values' own types


end Go.Proofs.Ytgfnleapjldbkaa.QBlockMarks
