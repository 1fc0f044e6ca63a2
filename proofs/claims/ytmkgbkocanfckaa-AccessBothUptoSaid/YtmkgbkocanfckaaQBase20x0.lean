-- Laid by the session's own driver of the kit's print (wip/tools/pr.py). Lean checks it.
import Derived.Test.YtmkgbkocanfckaaProg
import Derived.Below
import Derived.Deep.Draws
import Derived.Deep.AppendLies
import Derived.Maps.AppendAt
import Derived.OwnWalk
import Derived.Laws.BytesArg
import Derived.Laws.MakeOwn
import Derived.Laws.OwnMore
import Derived.Deep.OwnRows
import Derived.Tactics
import Derived.Lib.ConvBytes
import Derived.Laws.Slices
import Derived.WalkKit
import Derived.KernelRfl
import Derived.RowKit3
import Derived.Deep.LoopGhost
import Derived.Deep.QuietTactic
import Derived.BigQuiet
import Derived.WideLaws
import Derived.Deep.DeepCutAuto
import Derived.Deep.CutBlock
import Derived.Deep.RegionHeld3
import Derived.Laws.Rows
import Derived.Lib.AppendStr
import Derived.ArgAppend
import Derived.Laws.IdiomCopy
import Derived.OrdersHeld
import Derived.Laws.BitsLemmas
import Derived.RowKit
import Derived.Test.YtmkgbkocanfckaaMeet
import Derived.Test.YtmkgbkocanfckaaQKinds
import Derived.Test.YtmkgbkocanfckaaWWords
import Derived.Test.YtmkgbkocanfckaaWLast
import Derived.Test.YtmkgbkocanfckaaWTab
import Derived.Test.YtmkgbkocanfckaaWFour
import Derived.Test.YtmkgbkocanfckaaWQPut
import Derived.Test.YtmkgbkocanfckaaWApart
import Derived.Test.YtmkgbkocanfckaaWArr
import Derived.Test.YtmkgbkocanfckaaWZeros
import Derived.Test.YtmkgbkocanfckaaWFoot
import Derived.Test.YtmkgbkocanfckaaWKept
import Derived.Test.YtmkgbkocanfckaaWShare
import Derived.Test.YtmkgbkocanfckaaWN
import Derived.Test.YtmkgbkocanfckaaWFootNe
import Derived.Test.YtmkgbkocanfckaaWAt
import Derived.Test.YtmkgbkocanfckaaWEqStruct
import Derived.Test.YtmkgbkocanfckaaWRepsOne
import Derived.Test.YtmkgbkocanfckaaWInv
import Derived.Test.YtmkgbkocanfckaaWInvWords
import Derived.Test.YtmkgbkocanfckaaWGuard
import Derived.Test.YtmkgbkocanfckaaWNEv
import Derived.Test.YtmkgbkocanfckaaWMore
namespace Go.Proofs.Ytmkgbkocanfckaa.QBase20
open Go.RowKit Go.Proofs.Ytmkgbkocanfckaa.QKinds Go.Proofs.Ytmkgbkocanfckaa.Meet Go.Proofs.YtmkgbkocanfckaaW.PrintWords Go.Proofs.YtmkgbkocanfckaaW.PrintLast Go.Proofs.YtmkgbkocanfckaaW.PrintMore
attribute [local go_sem] max2_int min2_int max_two min_two max_three min_three max_four min_four   -- for this text's walks alone
set_option linter.unusedVariables false
set_option linter.unusedSimpArgs false



def errW : Option Int → Value
  | none => .nilIface
  | some c => .iface 0 (.int .i64 c)
theorem errW_none : errW none = .nilIface := rfl
theorem errW_some (c : Int) : errW (some c) = .iface 0 (.int .i64 c) := rfl

theorem info3 : (Try.prog.info? 3).map (fun i => (i.zero, i.size, i.bytes)) = some (some (.int .i64 0), 1, 8) := by kernel_rfl
theorem info9 : (Try.prog.info? 9).map (fun i => (i.zero, i.size, i.bytes)) = some (some (.string ⟨#[]⟩), 1, 16) := by kernel_rfl
theorem info26 : (Try.prog.info? 26).map (fun i => (i.zero, i.size, i.bytes)) = some (some (.agg #[(.int .i64 0), (.string ⟨#[]⟩), (.string ⟨#[]⟩), (.int .u64 0), (.int .u64 0), (.string ⟨#[]⟩), (.string ⟨#[]⟩), (.slice none 0 0), (.slice none 0 0)]), 9, 136) := by kernel_rfl
theorem info39 : (Try.prog.info? 39).map (fun i => (i.zero, i.size, i.bytes)) = some (some (.agg #[(.int .i64 0), (.int .i64 0)]), 2, 16) := by kernel_rfl
-- the values' own types


end Go.Proofs.Ytmkgbkocanfckaa.QBase20
