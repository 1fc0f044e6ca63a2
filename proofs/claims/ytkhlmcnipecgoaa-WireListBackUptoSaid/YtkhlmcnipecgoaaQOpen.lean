-- The bulk of the program's own types (laid by wip/tools/rowgen.py).
import Derived.Test.YtkhlmcnipecgoaaOpen
import Derived.Test.YtkhlmcnipecgoaaQKinds
namespace Go.Proofs.Ytkhlmcnipecgoaa.QOpen
open Go.Proofs.YtkhlmcnipecgoaaW.PrintWords Go.Proofs.Ytkhlmcnipecgoaa.QKinds Go.Proofs.Ytkhlmcnipecgoaa.Open
set_option linter.unusedVariables false
end Go.Proofs.Ytkhlmcnipecgoaa.QOpen
