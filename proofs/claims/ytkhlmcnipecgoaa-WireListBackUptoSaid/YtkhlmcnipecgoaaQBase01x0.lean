-- Laid by the session's own driver of the kit's print (wip/tools/pr.py). Lean checks it.
import Derived.Test.YtkhlmcnipecgoaaProg
import Derived.Below
import Derived.Deep.Draws
import Derived.Deep.AppendLies
import Derived.Maps.AppendAt
import Derived.OwnWalk
import Derived.Laws.BytesArg
import Derived.Laws.MakeOwn
import Derived.Laws.OwnMore
import Derived.Deep.OwnRows
import Derived.Tactics
import Derived.Lib.ConvBytes
import Derived.Laws.Slices
import Derived.WalkKit
import Derived.KernelRfl
import Derived.RowKit3
import Derived.Deep.LoopGhost
import Derived.Deep.QuietTactic
import Derived.BigQuiet
import Derived.WideLaws
import Derived.Deep.DeepCutAuto
import Derived.Deep.CutBlock
import Derived.Deep.RegionHeld3
import Derived.Laws.Rows
import Derived.Lib.AppendStr
import Derived.ArgAppend
import Derived.Laws.IdiomCopy
import Derived.OrdersHeld
import Derived.Laws.BitsLemmas
import Derived.RowKit
import Derived.Test.YtkhlmcnipecgoaaWireInt
import Derived.Test.YtkhlmcnipecgoaaWWords
import Derived.Test.YtkhlmcnipecgoaaWLast
import Derived.Test.YtkhlmcnipecgoaaWTab
import Derived.Test.YtkhlmcnipecgoaaWFour
import Derived.Test.YtkhlmcnipecgoaaWQPut
import Derived.Test.YtkhlmcnipecgoaaWApart
import Derived.Test.YtkhlmcnipecgoaaWArr
import Derived.Test.YtkhlmcnipecgoaaWZeros
import Derived.Test.YtkhlmcnipecgoaaWFoot
import Derived.Test.YtkhlmcnipecgoaaWKept
import Derived.Test.YtkhlmcnipecgoaaWShare
import Derived.Test.YtkhlmcnipecgoaaWN
import Derived.Test.YtkhlmcnipecgoaaWFootNe
import Derived.Test.YtkhlmcnipecgoaaWAt
import Derived.Test.YtkhlmcnipecgoaaWEqStruct
import Derived.Test.YtkhlmcnipecgoaaWRepsOne
import Derived.Test.YtkhlmcnipecgoaaWInv
import Derived.Test.YtkhlmcnipecgoaaWInvWords
import Derived.Test.YtkhlmcnipecgoaaWGuard
import Derived.Test.YtkhlmcnipecgoaaWNEv
import Derived.Test.YtkhlmcnipecgoaaWMore
namespace Go.Proofs.Ytkhlmcnipecgoaa.QBase01
open Go.RowKit Go.Proofs.Ytkhlmcnipecgoaa.WireInt Go.Proofs.YtkhlmcnipecgoaaW.PrintWords Go.Proofs.YtkhlmcnipecgoaaW.PrintLast Go.Proofs.YtkhlmcnipecgoaaW.PrintMore
attribute [local go_sem] max2_int min2_int max_two min_two max_three min_three max_four min_four   -- for this text's walks alone
set_option linter.unusedVariables false
set_option linter.unusedSimpArgs false



def errW : Option Int → Value
  | none => .nilIface
  | some c => .iface 0 (.int .i64 c)
theorem errW_none : errW none = .nilIface := rfl
theorem errW_some (c : Int) : errW (some c) = .iface 0 (.int .i64 c) := rfl

theorem info5 : (Try.prog.info? 5).map (fun i => (i.zero, i.size, i.bytes)) = some (some (.int .u8 0), 1, 1) := by kernel_rfl
theorem info9 : (Try.prog.info? 9).map (fun i => (i.zero, i.size, i.bytes)) = some (some (.string ⟨#[]⟩), 1, 16) := by kernel_rfl
-- the values' own types

end Go.Proofs.Ytkhlmcnipecgoaa.QBase01
