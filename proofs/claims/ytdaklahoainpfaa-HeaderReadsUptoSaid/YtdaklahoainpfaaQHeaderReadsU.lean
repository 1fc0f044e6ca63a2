-- The plain statement of the law tusklaw06_HeaderReads where its arguments are of bulk at most 1048576 (laid by wip/tools/rowgen.py).
import Derived.Test.YtdaklahoainpfaaQHeaderReadsx3
import Derived.Test.YtdaklahoainpfaaQOpen
namespace Go.Proofs.Ytdaklahoainpfaa.QHeaderReads
open Go.RowKit Go.Proofs.YtdaklahoainpfaaW.PrintWords Go.Proofs.Ytdaklahoainpfaa.QKinds Go.Proofs.Ytdaklahoainpfaa.Open Go.Proofs.Ytdaklahoainpfaa.QOpen
def tusklaw06_HeaderReads.PureU : Prop := ∀ (a0 : ByteArray) (l1 : List (S77)), (gList g77) l1 → mStr a0 + (mList m77) l1 ≤ 1048576 → ∃ k, tusklaw06_HeaderReads.f k a0 l1 = some true
end Go.Proofs.Ytdaklahoainpfaa.QHeaderReads
