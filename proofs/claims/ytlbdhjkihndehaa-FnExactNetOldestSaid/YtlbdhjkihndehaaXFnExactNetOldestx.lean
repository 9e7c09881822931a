-- Written by a program of this claim's session (wip/xprint.py), out of the translation.
import Derived.Test.YtlbdhjkihndehaaXFnExactNetOldestx0
import Derived.Test.YtlbdhjkihndehaaXFnExactNetOldestx1
import Derived.Test.YtlbdhjkihndehaaXFnExactNetOldestx2
import Derived.Test.YtlbdhjkihndehaaXFnExactNetOldestx3
import Derived.Test.YtlbdhjkihndehaaXFnExactNetOldestx4
import Derived.Test.YtlbdhjkihndehaaXFnExactNetOldestx5
namespace Go.Proofs.Ytlbdhjkihndehaa.XFnExactNetOldest
open Go.RowKit Go.Proofs.YtlbdhjkihndehaaW.PrintWords Go.Proofs.YtlbdhjkihndehaaW.PrintLast Go.Proofs.YtlbdhjkihndehaaW.PrintMore
attribute [local go_sem] max2_int min2_int max_two min_two max_three min_three max_four min_four   -- for this text's walks alone
set_option linter.unusedVariables false
set_option linter.unusedSimpArgs false

end Go.Proofs.Ytlbdhjkihndehaa.XFnExactNetOldest
