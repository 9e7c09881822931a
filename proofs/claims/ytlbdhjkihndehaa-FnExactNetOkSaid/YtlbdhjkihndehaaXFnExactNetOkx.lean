-- Written by a program of this claim's session (wip/xprint.py), out of the translation.
import Derived.Test.YtlbdhjkihndehaaXFnExactNetOkx0
import Derived.Test.YtlbdhjkihndehaaXFnExactNetOkx1
import Derived.Test.YtlbdhjkihndehaaXFnExactNetOkx2
import Derived.Test.YtlbdhjkihndehaaXFnExactNetOkx3
import Derived.Test.YtlbdhjkihndehaaXFnExactNetOkx4
namespace Go.Proofs.Ytlbdhjkihndehaa.XFnExactNetOk
open Go.RowKit Go.Proofs.YtlbdhjkihndehaaW.PrintWords Go.Proofs.YtlbdhjkihndehaaW.PrintLast Go.Proofs.YtlbdhjkihndehaaW.PrintMore
attribute [local go_sem] max2_int min2_int max_two min_two max_three min_three max_four min_four   -- for this text's walks alone
set_option linter.unusedVariables false
set_option linter.unusedSimpArgs false

end Go.Proofs.Ytlbdhjkihndehaa.XFnExactNetOk
