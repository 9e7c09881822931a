-- Written by a program of this claim's session (wip/xprint.py), out of the translation.
import Derived.Test.YtlbdhjkihndehaaXFnMailForx0
import Derived.Test.YtlbdhjkihndehaaXFnMailForx1
import Derived.Test.YtlbdhjkihndehaaXFnMailForx2
import Derived.Test.YtlbdhjkihndehaaXFnMailForx3
import Derived.Test.YtlbdhjkihndehaaXFnMailForx4
import Derived.Test.YtlbdhjkihndehaaXFnMailForx5
import Derived.Test.YtlbdhjkihndehaaXFnMailForx6
import Derived.Test.YtlbdhjkihndehaaXFnMailForx7
import Derived.Test.YtlbdhjkihndehaaXFnMailForx8
import Derived.Test.YtlbdhjkihndehaaXFnMailForx9
import Derived.Test.YtlbdhjkihndehaaXFnMailForx10
namespace Go.Proofs.Ytlbdhjkihndehaa.XFnMailFor
open Go.RowKit Go.Proofs.YtlbdhjkihndehaaW.PrintWords Go.Proofs.YtlbdhjkihndehaaW.PrintLast Go.Proofs.YtlbdhjkihndehaaW.PrintMore
attribute [local go_sem] max2_int min2_int max_two min_two max_three min_three max_four min_four   -- for this text's walks alone
set_option linter.unusedVariables false
set_option linter.unusedSimpArgs false

end Go.Proofs.Ytlbdhjkihndehaa.XFnMailFor
