-- Laid by the session's own driver of the kit's print (wip/tools/pr.py). Lean checks it.
import Derived.Test.YtflnlkaednpenaaDoorProg
import Derived.Below
import Derived.Deep.Draws
import Derived.Deep.AppendLies
import Derived.Maps.AppendAt
import Derived.OwnWalk
import Derived.Laws.BytesArg
import Derived.Laws.MakeOwn
import Derived.Laws.OwnMore
import Derived.Deep.OwnRows
import Derived.Tactics
import Derived.Lib.ConvBytes
import Derived.Laws.Slices
import Derived.WalkKit
import Derived.KernelRfl
import Derived.RowKit3
import Derived.Deep.LoopGhost
import Derived.Deep.QuietTactic
import Derived.BigQuiet
import Derived.WideLaws
import Derived.Deep.DeepCutAuto
import Derived.Deep.CutBlock
import Derived.Deep.RegionHeld3
import Derived.Laws.Rows
import Derived.Lib.AppendStr
import Derived.ArgAppend
import Derived.Laws.IdiomCopy
import Derived.OrdersHeld
import Derived.Laws.BitsLemmas
import Derived.RowKit
import Derived.Test.YtflnlkaednpenaaDoorMixX
import Derived.Test.YtflnlkaednpenaaDoorQKinds
import Derived.Test.YtflnlkaednpenaaDoorWWords
import Derived.Test.YtflnlkaednpenaaDoorWLast
import Derived.Test.YtflnlkaednpenaaDoorWTab
import Derived.Test.YtflnlkaednpenaaDoorWFour
import Derived.Test.YtflnlkaednpenaaDoorWQPut
import Derived.Test.YtflnlkaednpenaaDoorWApart
import Derived.Test.YtflnlkaednpenaaDoorWArr
import Derived.Test.YtflnlkaednpenaaDoorWZeros
import Derived.Test.YtflnlkaednpenaaDoorWFoot
import Derived.Test.YtflnlkaednpenaaDoorWKept
import Derived.Test.YtflnlkaednpenaaDoorWShare
import Derived.Test.YtflnlkaednpenaaDoorWN
import Derived.Test.YtflnlkaednpenaaDoorWFootNe
import Derived.Test.YtflnlkaednpenaaDoorWAt
import Derived.Test.YtflnlkaednpenaaDoorWEqStruct
import Derived.Test.YtflnlkaednpenaaDoorWRepsOne
import Derived.Test.YtflnlkaednpenaaDoorWInv
import Derived.Test.YtflnlkaednpenaaDoorWInvWords
import Derived.Test.YtflnlkaednpenaaDoorWGuard
import Derived.Test.YtflnlkaednpenaaDoorWNEv
import Derived.Test.YtflnlkaednpenaaDoorWMore
namespace Go.Proofs.YtflnlkaednpenaaDoor.QBaseD
open Go.RowKit Go.Proofs.YtflnlkaednpenaaDoor.QKinds Go.Proofs.YtflnlkaednpenaaDoor.MixX Go.Proofs.YtflnlkaednpenaaDoorW.PrintWords Go.Proofs.YtflnlkaednpenaaDoorW.PrintLast Go.Proofs.YtflnlkaednpenaaDoorW.PrintMore
attribute [local go_sem] max2_int min2_int max_two min_two max_three min_three max_four min_four   -- for this text's walks alone
set_option linter.unusedVariables false
set_option linter.unusedSimpArgs false



def errW : Option Int → Value
  | none => .nilIface
  | some c => .iface 0 (.int .i64 c)
theorem errW_none : errW none = .nilIface := rfl
theorem errW_some (c : Int) : errW (some c) = .iface 0 (.int .i64 c) := rfl

theorem info3 : (Tryd.prog.info? 3).map (fun i => (i.zero, i.size, i.bytes)) = some (some (.int .i64 0), 1, 8) := by kernel_rfl
theorem info5 : (Tryd.prog.info? 5).map (fun i => (i.zero, i.size, i.bytes)) = some (some (.int .u8 0), 1, 1) := by kernel_rfl
theorem info29 : (Tryd.prog.info? 29).map (fun i => (i.zero, i.size, i.bytes)) = some (some (.int .u32 0), 1, 4) := by kernel_rfl
theorem info45 : (Tryd.prog.info? 45).map (fun i => (i.zero, i.size, i.bytes)) = some (some (.slice none 0 0), 1, 24) := by kernel_rfl
-- the values' own types


end Go.Proofs.YtflnlkaednpenaaDoor.QBaseD
