-- The plain statement of the law tusklaw20_AccessApart where its arguments are of bulk at most 1048576 (laid by wip/tools/rowgen.py).
import Derived.Test.YtmkgbkocanfckaaQAccessApartx2
import Derived.Test.YtmkgbkocanfckaaQOpen
namespace Go.Proofs.Ytmkgbkocanfckaa.QAccessApart
open Go.RowKit Go.Proofs.YtmkgbkocanfckaaW.PrintWords Go.Proofs.Ytmkgbkocanfckaa.QKinds Go.Proofs.Ytmkgbkocanfckaa.Open Go.Proofs.Ytmkgbkocanfckaa.QOpen
def tusklaw20_AccessApart.PureU : Prop := ∀ (l0 : List (S26)), (gList g26) l0 → (mList m26) l0 ≤ 1048576 → ∃ k, tusklaw20_AccessApart.f k l0 = some true
end Go.Proofs.Ytmkgbkocanfckaa.QAccessApart
