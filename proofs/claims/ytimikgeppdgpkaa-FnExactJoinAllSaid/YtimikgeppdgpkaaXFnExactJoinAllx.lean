-- Written by a program of this claim's session (wip/xprint.py), out of the translation.
import Derived.Test.YtimikgeppdgpkaaXFnExactJoinAllx0
import Derived.Test.YtimikgeppdgpkaaXFnExactJoinAllx1
import Derived.Test.YtimikgeppdgpkaaXFnExactJoinAllx2
import Derived.Test.YtimikgeppdgpkaaXFnExactJoinAllx3
namespace Go.Proofs.Ytimikgeppdgpkaa.XFnExactJoinAll
open Go.RowKit Go.Proofs.YtimikgeppdgpkaaW.PrintWords Go.Proofs.YtimikgeppdgpkaaW.PrintLast Go.Proofs.YtimikgeppdgpkaaW.PrintMore
attribute [local go_sem] max2_int min2_int max_two min_two max_three min_three max_four min_four   -- for this text's walks alone
set_option linter.unusedVariables false
set_option linter.unusedSimpArgs false

end Go.Proofs.Ytimikgeppdgpkaa.XFnExactJoinAll
