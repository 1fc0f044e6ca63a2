-- Laid by the session's own driver of the kit's print (wip/tools/pr.py). Lean checks it.
import Derived.Test.YtkfhajdkpbpkdaaQBase21x0
import Derived.Test.YtkfhajdkpbpkdaaQBase21x1
import Derived.Test.YtkfhajdkpbpkdaaQBase21x2
import Derived.Test.YtkfhajdkpbpkdaaQBase21x3
import Derived.Test.YtkfhajdkpbpkdaaQBase21x4
import Derived.Test.YtkfhajdkpbpkdaaQBase21x5
import Derived.Test.YtkfhajdkpbpkdaaQBase21x6
namespace Go.Proofs.Ytkfhajdkpbpkdaa.QBase21
open Go.RowKit Go.Proofs.Ytkfhajdkpbpkdaa.QKinds Go.Proofs.Ytkfhajdkpbpkdaa.Meet Go.Proofs.YtkfhajdkpbpkdaaW.PrintWords Go.Proofs.YtkfhajdkpbpkdaaW.PrintLast Go.Proofs.YtkfhajdkpbpkdaaW.PrintMore
attribute [local go_sem] max2_int min2_int max_two min_two max_three min_three max_four min_four   -- for this text's walks alone
set_option linter.unusedVariables false
set_option linter.unusedSimpArgs false

end Go.Proofs.Ytkfhajdkpbpkdaa.QBase21
