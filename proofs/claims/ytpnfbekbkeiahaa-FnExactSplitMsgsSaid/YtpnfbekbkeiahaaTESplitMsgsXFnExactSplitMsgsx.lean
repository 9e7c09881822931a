-- Written by a program of this claim's session (wip/xprint.py), out of the translation.
import Derived.Test.YtpnfbekbkeiahaaTESplitMsgsXFnExactSplitMsgsx0
import Derived.Test.YtpnfbekbkeiahaaTESplitMsgsXFnExactSplitMsgsx1
import Derived.Test.YtpnfbekbkeiahaaTESplitMsgsXFnExactSplitMsgsx2
import Derived.Test.YtpnfbekbkeiahaaTESplitMsgsXFnExactSplitMsgsx3
import Derived.Test.YtpnfbekbkeiahaaTESplitMsgsXFnExactSplitMsgsx4
import Derived.Test.YtpnfbekbkeiahaaTESplitMsgsXFnExactSplitMsgsx5
import Derived.Test.YtpnfbekbkeiahaaTESplitMsgsXFnExactSplitMsgsx6
import Derived.Test.YtpnfbekbkeiahaaTESplitMsgsXFnExactSplitMsgsx7
import Derived.Test.YtpnfbekbkeiahaaTESplitMsgsXFnExactSplitMsgsx8
import Derived.Test.YtpnfbekbkeiahaaTESplitMsgsXFnExactSplitMsgsx9
import Derived.Test.YtpnfbekbkeiahaaTESplitMsgsXFnExactSplitMsgsx10
import Derived.Test.YtpnfbekbkeiahaaTESplitMsgsXFnExactSplitMsgsx11
import Derived.Test.YtpnfbekbkeiahaaTESplitMsgsXFnExactSplitMsgsx12
import Derived.Test.YtpnfbekbkeiahaaTESplitMsgsXFnExactSplitMsgsx13
namespace Go.Proofs.Ytpnfbekbkeiahaa.XFnExactSplitMsgs
open Go.RowKit Go.Proofs.YtpnfbekbkeiahaaW.PrintWords Go.Proofs.YtpnfbekbkeiahaaW.PrintLast Go.Proofs.YtpnfbekbkeiahaaW.PrintMore
open Go.Proofs.YtpnfbekbkeiahaaW.PrintWords renaming blk_drewN → bA, blk_drew → bB, blk_alloc → bC, pw_below_drewN → bD, below_alloc → bE, below_drew1 → bF, Aside0.mk → zM, below_step → bG, blk_put → bH
open List renaming setIfInBounds_toArray → zS, set_cons_zero → z0, set_cons_succ → z1
attribute [local go_sem] max2_int min2_int max_two min_two max_three min_three max_four min_four
set_option linter.unusedVariables false
set_option linter.unusedSimpArgs false
set_option maxHeartbeats 8000000
set_option maxRecDepth 100000

end Go.Proofs.Ytpnfbekbkeiahaa.XFnExactSplitMsgs
