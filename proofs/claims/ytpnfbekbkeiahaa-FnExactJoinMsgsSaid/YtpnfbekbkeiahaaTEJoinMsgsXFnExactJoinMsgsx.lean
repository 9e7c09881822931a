-- Written by a program of this claim's session (wip/xprint.py), out of the translation.
import Derived.Test.YtpnfbekbkeiahaaTEJoinMsgsXFnExactJoinMsgsx0
import Derived.Test.YtpnfbekbkeiahaaTEJoinMsgsXFnExactJoinMsgsx1
import Derived.Test.YtpnfbekbkeiahaaTEJoinMsgsXFnExactJoinMsgsx2
import Derived.Test.YtpnfbekbkeiahaaTEJoinMsgsXFnExactJoinMsgsx3
import Derived.Test.YtpnfbekbkeiahaaTEJoinMsgsXFnExactJoinMsgsx4
import Derived.Test.YtpnfbekbkeiahaaTEJoinMsgsXFnExactJoinMsgsx5
import Derived.Test.YtpnfbekbkeiahaaTEJoinMsgsXFnExactJoinMsgsx6
import Derived.Test.YtpnfbekbkeiahaaTEJoinMsgsXFnExactJoinMsgsx7
import Derived.Test.YtpnfbekbkeiahaaTEJoinMsgsXFnExactJoinMsgsx8
import Derived.Test.YtpnfbekbkeiahaaTEJoinMsgsXFnExactJoinMsgsx9
import Derived.Test.YtpnfbekbkeiahaaTEJoinMsgsXFnExactJoinMsgsx10
namespace Go.Proofs.Ytpnfbekbkeiahaa.XFnExactJoinMsgs
open Go.RowKit Go.Proofs.YtpnfbekbkeiahaaW.PrintWords Go.Proofs.YtpnfbekbkeiahaaW.PrintLast Go.Proofs.YtpnfbekbkeiahaaW.PrintMore
open Go.Proofs.YtpnfbekbkeiahaaW.PrintWords renaming blk_drewN → bA, blk_drew → bB, blk_alloc → bC, pw_below_drewN → bD, below_alloc → bE, below_drew1 → bF, Aside0.mk → zM, below_step → bG, blk_put → bH
attribute [local go_sem] max2_int min2_int max_two min_two max_three min_three max_four min_four   -- for this text's walks alone
set_option linter.unusedVariables false
set_option linter.unusedSimpArgs false
set_option maxHeartbeats 8000000
set_option maxRecDepth 100000

end Go.Proofs.Ytpnfbekbkeiahaa.XFnExactJoinMsgs
