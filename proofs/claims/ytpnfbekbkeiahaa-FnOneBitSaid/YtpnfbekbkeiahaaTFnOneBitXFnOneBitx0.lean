-- Written by a program of this claim's session (wip/xprint.py), out of the translation.
import Derived.Test.YtpnfbekbkeiahaaProg
import Derived.Below
import Derived.Deep.Draws
import Derived.Deep.AppendLies
import Derived.Maps.AppendAt
import Derived.OwnWalk
import Derived.Laws.BytesArg
import Derived.Laws.MakeOwn
import Derived.Laws.OwnMore
import Derived.Deep.OwnRows
import Derived.Tactics
import Derived.Lib.ConvBytes
import Derived.Laws.Slices
import Derived.WalkKit
import Derived.KernelRfl
import Derived.RowKit3
import Derived.Deep.LoopGhost
import Derived.Deep.QuietTactic
import Derived.BigQuiet
import Derived.WideLaws
import Derived.Deep.DeepCutAuto
import Derived.Deep.CutBlock
import Derived.Deep.RegionHeld3
import Derived.Laws.Rows
import Derived.Lib.AppendStr
import Derived.ArgAppend
import Derived.Laws.IdiomCopy
import Derived.OrdersHeld
import Derived.Laws.BitsLemmas
import Derived.RowKit
import Derived.Test.YtpnfbekbkeiahaaTFnOneBitFnVal
import Derived.Test.YtpnfbekbkeiahaaTFnOneBitConv
import Derived.Test.YtpnfbekbkeiahaaTFnOneBitWWords
import Derived.Test.YtpnfbekbkeiahaaTFnOneBitWLast
import Derived.Test.YtpnfbekbkeiahaaTFnOneBitWTab
import Derived.Test.YtpnfbekbkeiahaaTFnOneBitWFour
import Derived.Test.YtpnfbekbkeiahaaTFnOneBitWQPut
import Derived.Test.YtpnfbekbkeiahaaTFnOneBitWApart
import Derived.Test.YtpnfbekbkeiahaaTFnOneBitWArr
import Derived.Test.YtpnfbekbkeiahaaTFnOneBitWZeros
import Derived.Test.YtpnfbekbkeiahaaTFnOneBitWFoot
import Derived.Test.YtpnfbekbkeiahaaTFnOneBitWKept
import Derived.Test.YtpnfbekbkeiahaaTFnOneBitWShare
import Derived.Test.YtpnfbekbkeiahaaTFnOneBitWN
import Derived.Test.YtpnfbekbkeiahaaTFnOneBitWFootNe
import Derived.Test.YtpnfbekbkeiahaaTFnOneBitWAt
import Derived.Test.YtpnfbekbkeiahaaTFnOneBitWEqStruct
import Derived.Test.YtpnfbekbkeiahaaTFnOneBitWRepsOne
import Derived.Test.YtpnfbekbkeiahaaTFnOneBitWInv
import Derived.Test.YtpnfbekbkeiahaaTFnOneBitWInvWords
import Derived.Test.YtpnfbekbkeiahaaTFnOneBitWGuard
import Derived.Test.YtpnfbekbkeiahaaTFnOneBitWNEv
import Derived.Test.YtpnfbekbkeiahaaTFnOneBitWMore
namespace Go.Proofs.Ytpnfbekbkeiahaa.XFnOneBit
open Go.RowKit Go.Proofs.YtpnfbekbkeiahaaW.PrintWords Go.Proofs.YtpnfbekbkeiahaaW.PrintLast Go.Proofs.YtpnfbekbkeiahaaW.PrintMore
open Go.Proofs.YtpnfbekbkeiahaaW.PrintWords renaming blk_drewN → bA, blk_drew → bB, blk_alloc → bC, pw_below_drewN → bD, below_alloc → bE, below_drew1 → bF, Aside0.mk → zM, below_step → bG, blk_put → bH
open List renaming setIfInBounds_toArray → zS, set_cons_zero → z0, set_cons_succ → z1
attribute [local go_sem] max2_int min2_int max_two min_two max_three min_three max_four min_four
set_option linter.unusedVariables false
set_option linter.unusedSimpArgs false
set_option maxHeartbeats 8000000
set_option maxRecDepth 100000



def errW : Option Int → Value
 | none => .nilIface
 | some c => .iface 0 (.int .i64 c)
theorem errW_none : errW none = .nilIface := rfl
theorem errW_some (c : Int) : errW (some c) = .iface 0 (.int .i64 c) := rfl

theorem info3 : (Try.prog.info? 3).map (fun i => (i.zero, i.size, i.bytes)) = some (some (.int .i64 0), 1, 8) := by kernel_rfl
theorem info5 : (Try.prog.info? 5).map (fun i => (i.zero, i.size, i.bytes)) = some (some (.int .u8 0), 1, 1) := by kernel_rfl
-- the values' own types

end Go.Proofs.Ytpnfbekbkeiahaa.XFnOneBit
