-- The plain statement of the law tusklaw01_WireJoins where its arguments are of bulk at most 1048576 (laid by wip/tools/rowgen.py).
import Derived.Test.YtkhlmcnipecgoaaQWireJoinsx2
import Derived.Test.YtkhlmcnipecgoaaQOpen
namespace Go.Proofs.Ytkhlmcnipecgoaa.QWireJoins
open Go.RowKit Go.Proofs.YtkhlmcnipecgoaaW.PrintWords Go.Proofs.Ytkhlmcnipecgoaa.QKinds Go.Proofs.Ytkhlmcnipecgoaa.Open Go.Proofs.Ytkhlmcnipecgoaa.QOpen
def tusklaw01_WireJoins.PureU : Prop := ∀ (l0 : List ByteArray) (l1 : List ByteArray), (gList gAny) l0 → (gList gAny) l1 → (mList mStr) l0 + (mList mStr) l1 ≤ 1048576 → ∃ k, tusklaw01_WireJoins.f k l0 l1 = some true
end Go.Proofs.Ytkhlmcnipecgoaa.QWireJoins
