-- Written by a program of this claim's session (wip/xprint.py), out of the translation.
import Derived.Test.YtlbdhjkihndehaaXFnExactNetCutx0
import Derived.Test.YtlbdhjkihndehaaXFnExactNetCutx1
import Derived.Test.YtlbdhjkihndehaaXFnExactNetCutx2
import Derived.Test.YtlbdhjkihndehaaXFnExactNetCutx3
import Derived.Test.YtlbdhjkihndehaaXFnExactNetCutx4
import Derived.Test.YtlbdhjkihndehaaXFnExactNetCutx5
import Derived.Test.YtlbdhjkihndehaaXFnExactNetCutx6
import Derived.Test.YtlbdhjkihndehaaXFnExactNetCutx7
import Derived.Test.YtlbdhjkihndehaaXFnExactNetCutx8
import Derived.Test.YtlbdhjkihndehaaXFnExactNetCutx9
namespace Go.Proofs.Ytlbdhjkihndehaa.XFnExactNetCut
open Go.RowKit Go.Proofs.YtlbdhjkihndehaaW.PrintWords Go.Proofs.YtlbdhjkihndehaaW.PrintLast Go.Proofs.YtlbdhjkihndehaaW.PrintMore
attribute [local go_sem] max2_int min2_int max_two min_two max_three min_three max_four min_four   -- for this text's walks alone
set_option linter.unusedVariables false
set_option linter.unusedSimpArgs false

end Go.Proofs.Ytlbdhjkihndehaa.XFnExactNetCut
