-- Written by a program of this claim's session (wip/xprint.py), out of the translation.
import Derived.Test.YtimikgeppdgpkaaXFnAll1x0
import Derived.Test.YtimikgeppdgpkaaXFnAll1x1
import Derived.Test.YtimikgeppdgpkaaXFnAll1x2
import Derived.Test.YtimikgeppdgpkaaXFnAll1x3
import Derived.Test.YtimikgeppdgpkaaXFnAll1x4
import Derived.Test.YtimikgeppdgpkaaXFnAll1x5
import Derived.Test.YtimikgeppdgpkaaXFnAll1x6
import Derived.Test.YtimikgeppdgpkaaXFnAll1x7
namespace Go.Proofs.Ytimikgeppdgpkaa.XFnAll1
open Go.RowKit Go.Proofs.YtimikgeppdgpkaaW.PrintWords Go.Proofs.YtimikgeppdgpkaaW.PrintLast Go.Proofs.YtimikgeppdgpkaaW.PrintMore
attribute [local go_sem] max2_int min2_int max_two min_two max_three min_three max_four min_four   -- for this text's walks alone
set_option linter.unusedVariables false
set_option linter.unusedSimpArgs false

end Go.Proofs.Ytimikgeppdgpkaa.XFnAll1
