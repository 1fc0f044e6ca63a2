-- The plain statement of the law tusklaw01_WireCuts where its arguments are of bulk at most 1048576 (laid by wip/tools/rowgen.py).
import Derived.Test.YtkhlmcnipecgoaaQWireCutsx1
import Derived.Test.YtkhlmcnipecgoaaQOpen
namespace Go.Proofs.Ytkhlmcnipecgoaa.QWireCuts
open Go.RowKit Go.Proofs.YtkhlmcnipecgoaaW.PrintWords Go.Proofs.Ytkhlmcnipecgoaa.QKinds Go.Proofs.Ytkhlmcnipecgoaa.Open Go.Proofs.Ytkhlmcnipecgoaa.QOpen
def tusklaw01_WireCuts.PureU : Prop := ∀ (a0 : Int) (a1 : ByteArray) (l2 : List ByteArray) (a3 : Int), (gInt .i64) a0 → (gList gAny) l2 → (gInt .i64) a3 → mOne a0 + mStr a1 + (mList mStr) l2 + mOne a3 ≤ 1048576 → ∃ k, tusklaw01_WireCuts.f k a0 a1 l2 a3 = some true
end Go.Proofs.Ytkhlmcnipecgoaa.QWireCuts
