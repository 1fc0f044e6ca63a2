-- The plain statement of the law tusklaw01_WireLists where its arguments are of bulk at most 1048576 (laid by wip/tools/rowgen.py).
import Derived.Test.YtkhlmcnipecgoaaQWireListsx1
import Derived.Test.YtkhlmcnipecgoaaQOpen
namespace Go.Proofs.Ytkhlmcnipecgoaa.QWireLists
open Go.RowKit Go.Proofs.YtkhlmcnipecgoaaW.PrintWords Go.Proofs.Ytkhlmcnipecgoaa.QKinds Go.Proofs.Ytkhlmcnipecgoaa.Open Go.Proofs.Ytkhlmcnipecgoaa.QOpen
def tusklaw01_WireLists.PureU : Prop := ∀ (l0 : List ByteArray) (a1 : ByteArray) (a2 : Int), (gList gAny) l0 → (gInt .i64) a2 → (mList mStr) l0 + mStr a1 + mOne a2 ≤ 1048576 → tusklaw01_WireLists.f l0 a1 a2 = some true
end Go.Proofs.Ytkhlmcnipecgoaa.QWireLists
