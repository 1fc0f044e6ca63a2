-- Laid by the session's own driver of the kit's print (wip/tools/pr.py). Lean checks it.
import Derived.Test.YtkhlmcnipecgoaaQBase01x0
import Derived.Test.YtkhlmcnipecgoaaQBase01x1
import Derived.Test.YtkhlmcnipecgoaaQBase01x2
namespace Go.Proofs.Ytkhlmcnipecgoaa.QBase01
open Go.RowKit Go.Proofs.Ytkhlmcnipecgoaa.WireInt Go.Proofs.YtkhlmcnipecgoaaW.PrintWords Go.Proofs.YtkhlmcnipecgoaaW.PrintLast Go.Proofs.YtkhlmcnipecgoaaW.PrintMore
attribute [local go_sem] max2_int min2_int max_two min_two max_three min_three max_four min_four   -- for this text's walks alone
set_option linter.unusedVariables false
set_option linter.unusedSimpArgs false

end Go.Proofs.Ytkhlmcnipecgoaa.QBase01
