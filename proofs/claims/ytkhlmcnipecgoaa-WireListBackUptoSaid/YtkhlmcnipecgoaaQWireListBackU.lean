-- The plain statement of the law tusklaw01_WireListBack where its arguments are of bulk at most 1048576 (laid by wip/tools/rowgen.py).
import Derived.Test.YtkhlmcnipecgoaaQWireListBackx1
import Derived.Test.YtkhlmcnipecgoaaQOpen
namespace Go.Proofs.Ytkhlmcnipecgoaa.QWireListBack
open Go.RowKit Go.Proofs.YtkhlmcnipecgoaaW.PrintWords Go.Proofs.Ytkhlmcnipecgoaa.QKinds Go.Proofs.Ytkhlmcnipecgoaa.Open Go.Proofs.Ytkhlmcnipecgoaa.QOpen
def tusklaw01_WireListBack.PureU : Prop := ∀ (l0 : List ByteArray) (a1 : ByteArray), (gList gAny) l0 → (mList mStr) l0 + mStr a1 ≤ 1048576 → ∃ k, tusklaw01_WireListBack.f k l0 a1 = some true
end Go.Proofs.Ytkhlmcnipecgoaa.QWireListBack
