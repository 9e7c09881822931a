-- Written by a program of this claim's session (wip/xprint.py), out of the translation.
import Derived.Test.YtpnfbekbkeiahaaXFnExactPackx0
import Derived.Test.YtpnfbekbkeiahaaXFnExactPackx1
import Derived.Test.YtpnfbekbkeiahaaXFnExactPackx2
import Derived.Test.YtpnfbekbkeiahaaXFnExactPackx3
import Derived.Test.YtpnfbekbkeiahaaXFnExactPackx4
import Derived.Test.YtpnfbekbkeiahaaXFnExactPackx5
import Derived.Test.YtpnfbekbkeiahaaXFnExactPackx6
import Derived.Test.YtpnfbekbkeiahaaXFnExactPackx7
import Derived.Test.YtpnfbekbkeiahaaXFnExactPackx8
import Derived.Test.YtpnfbekbkeiahaaXFnExactPackx9
namespace Go.Proofs.Ytpnfbekbkeiahaa.XFnExactPack
open Go.RowKit Go.Proofs.YtpnfbekbkeiahaaW.PrintWords Go.Proofs.YtpnfbekbkeiahaaW.PrintLast Go.Proofs.YtpnfbekbkeiahaaW.PrintMore
attribute [local go_sem] max2_int min2_int max_two min_two max_three min_three max_four min_four   -- for this text's walks alone
set_option linter.unusedVariables false
set_option linter.unusedSimpArgs false

end Go.Proofs.Ytpnfbekbkeiahaa.XFnExactPack
