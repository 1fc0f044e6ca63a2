-- Laid by the session's own driver of the kit's print (wip/tools/pr.py). Lean checks it.
import Derived.Test.YtiaanhjnjkmnfaaQBase19x0
import Derived.Test.YtiaanhjnjkmnfaaQBase19x1
namespace Go.Proofs.Ytiaanhjnjkmnfaa.QBase19
open Go.RowKit Go.Proofs.Ytiaanhjnjkmnfaa.QKinds Go.Proofs.YtiaanhjnjkmnfaaW.PrintWords Go.Proofs.YtiaanhjnjkmnfaaW.PrintLast Go.Proofs.YtiaanhjnjkmnfaaW.PrintMore
attribute [local go_sem] max2_int min2_int max_two min_two max_three min_three max_four min_four   -- for this text's walks alone
set_option linter.unusedVariables false
set_option linter.unusedSimpArgs false

end Go.Proofs.Ytiaanhjnjkmnfaa.QBase19
