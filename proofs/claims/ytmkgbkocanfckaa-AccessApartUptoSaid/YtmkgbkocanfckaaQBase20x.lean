-- Laid by the session's own driver of the kit's print (wip/tools/pr.py). Lean checks it.
import Derived.Test.YtmkgbkocanfckaaQBase20x0
import Derived.Test.YtmkgbkocanfckaaQBase20x1
import Derived.Test.YtmkgbkocanfckaaQBase20x2
import Derived.Test.YtmkgbkocanfckaaQBase20x3
namespace Go.Proofs.Ytmkgbkocanfckaa.QBase20
open Go.RowKit Go.Proofs.Ytmkgbkocanfckaa.QKinds Go.Proofs.Ytmkgbkocanfckaa.Meet Go.Proofs.YtmkgbkocanfckaaW.PrintWords Go.Proofs.YtmkgbkocanfckaaW.PrintLast Go.Proofs.YtmkgbkocanfckaaW.PrintMore
attribute [local go_sem] max2_int min2_int max_two min_two max_three min_three max_four min_four   -- for this text's walks alone
set_option linter.unusedVariables false
set_option linter.unusedSimpArgs false

end Go.Proofs.Ytmkgbkocanfckaa.QBase20
