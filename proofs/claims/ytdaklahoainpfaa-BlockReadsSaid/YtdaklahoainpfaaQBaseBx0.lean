-- Laid by the session's own driver of the kit's print (wip/tools/pr.py). Lean checks it.
import Derived.Test.YtdaklahoainpfaaProg
import Derived.Below
import Derived.Deep.Draws
import Derived.Deep.AppendLies
import Derived.Maps.AppendAt
import Derived.OwnWalk
import Derived.Laws.BytesArg
import Derived.Laws.MakeOwn
import Derived.Laws.OwnMore
import Derived.Deep.OwnRows
import Derived.Tactics
import Derived.Lib.ConvBytes
import Derived.Laws.Slices
import Derived.WalkKit
import Derived.KernelRfl
import Derived.RowKit3
import Derived.Deep.LoopGhost
import Derived.Deep.QuietTactic
import Derived.BigQuiet
import Derived.WideLaws
import Derived.Deep.DeepCutAuto
import Derived.Deep.CutBlock
import Derived.Deep.RegionHeld3
import Derived.Laws.Rows
import Derived.Lib.AppendStr
import Derived.ArgAppend
import Derived.Laws.IdiomCopy
import Derived.OrdersHeld
import Derived.Laws.BitsLemmas
import Derived.RowKit
import Derived.Test.YtdaklahoainpfaaRef01
import Derived.Test.YtdaklahoainpfaaWireInt
import Derived.Test.YtdaklahoainpfaaQKinds
import Derived.Test.YtdaklahoainpfaaWWords
import Derived.Test.YtdaklahoainpfaaWLast
import Derived.Test.YtdaklahoainpfaaWTab
import Derived.Test.YtdaklahoainpfaaWFour
import Derived.Test.YtdaklahoainpfaaWQPut
import Derived.Test.YtdaklahoainpfaaWApart
import Derived.Test.YtdaklahoainpfaaWArr
import Derived.Test.YtdaklahoainpfaaWZeros
import Derived.Test.YtdaklahoainpfaaWFoot
import Derived.Test.YtdaklahoainpfaaWKept
import Derived.Test.YtdaklahoainpfaaWShare
import Derived.Test.YtdaklahoainpfaaWN
import Derived.Test.YtdaklahoainpfaaWFootNe
import Derived.Test.YtdaklahoainpfaaWAt
import Derived.Test.YtdaklahoainpfaaWEqStruct
import Derived.Test.YtdaklahoainpfaaWRepsOne
import Derived.Test.YtdaklahoainpfaaWInv
import Derived.Test.YtdaklahoainpfaaWInvWords
import Derived.Test.YtdaklahoainpfaaWGuard
import Derived.Test.YtdaklahoainpfaaWNEv
import Derived.Test.YtdaklahoainpfaaWMore
namespace Go.Proofs.Ytdaklahoainpfaa.QBaseB
open Go.RowKit Go.Proofs.Ytdaklahoainpfaa.QKinds Go.Proofs.Ytdaklahoainpfaa.Ref01 Go.Proofs.Ytdaklahoainpfaa.WireInt Go.Proofs.YtdaklahoainpfaaW.PrintWords Go.Proofs.YtdaklahoainpfaaW.PrintLast Go.Proofs.YtdaklahoainpfaaW.PrintMore
attribute [local go_sem] max2_int min2_int max_two min_two max_three min_three max_four min_four   -- for this text's walks alone
set_option linter.unusedVariables false
set_option linter.unusedSimpArgs false



def errW : Option Int → Value
  | none => .nilIface
  | some c => .iface 0 (.int .i64 c)
theorem errW_none : errW none = .nilIface := rfl
theorem errW_some (c : Int) : errW (some c) = .iface 0 (.int .i64 c) := rfl

theorem info77 : (Try.prog.info? 77).map (fun i => (i.zero, i.size, i.bytes)) = some (some (.agg #[(.int .i64 0), (.string ⟨#[]⟩)]), 2, 24) := by kernel_rfl
-- the values' own types


end Go.Proofs.Ytdaklahoainpfaa.QBaseB
