-- Written by a program of this claim's session (wip/xprint.py), out of the translation.
import Derived.Test.YtimikgeppdgpkaaProg
import Derived.Below
import Derived.Deep.Draws
import Derived.Deep.AppendLies
import Derived.Maps.AppendAt
import Derived.OwnWalk
import Derived.Laws.BytesArg
import Derived.Laws.MakeOwn
import Derived.Laws.OwnMore
import Derived.Deep.OwnRows
import Derived.Tactics
import Derived.Lib.ConvBytes
import Derived.Laws.Slices
import Derived.WalkKit
import Derived.KernelRfl
import Derived.RowKit3
import Derived.Deep.LoopGhost
import Derived.Deep.QuietTactic
import Derived.BigQuiet
import Derived.WideLaws
import Derived.Deep.DeepCutAuto
import Derived.Deep.CutBlock
import Derived.Deep.RegionHeld3
import Derived.Laws.Rows
import Derived.Lib.AppendStr
import Derived.ArgAppend
import Derived.Laws.IdiomCopy
import Derived.OrdersHeld
import Derived.Laws.BitsLemmas
import Derived.RowKit
import Derived.Test.YtimikgeppdgpkaaFnVal
import Derived.Test.YtimikgeppdgpkaaWWords
import Derived.Test.YtimikgeppdgpkaaWLast
import Derived.Test.YtimikgeppdgpkaaWTab
import Derived.Test.YtimikgeppdgpkaaWFour
import Derived.Test.YtimikgeppdgpkaaWQPut
import Derived.Test.YtimikgeppdgpkaaWApart
import Derived.Test.YtimikgeppdgpkaaWArr
import Derived.Test.YtimikgeppdgpkaaWZeros
import Derived.Test.YtimikgeppdgpkaaWFoot
import Derived.Test.YtimikgeppdgpkaaWKept
import Derived.Test.YtimikgeppdgpkaaWShare
import Derived.Test.YtimikgeppdgpkaaWN
import Derived.Test.YtimikgeppdgpkaaWFootNe
import Derived.Test.YtimikgeppdgpkaaWAt
import Derived.Test.YtimikgeppdgpkaaWEqStruct
import Derived.Test.YtimikgeppdgpkaaWRepsOne
import Derived.Test.YtimikgeppdgpkaaWInv
import Derived.Test.YtimikgeppdgpkaaWInvWords
import Derived.Test.YtimikgeppdgpkaaWGuard
import Derived.Test.YtimikgeppdgpkaaWNEv
import Derived.Test.YtimikgeppdgpkaaWMore
namespace Go.Proofs.Ytimikgeppdgpkaa.XFnStretches
open Go.RowKit Go.Proofs.YtimikgeppdgpkaaW.PrintWords Go.Proofs.YtimikgeppdgpkaaW.PrintLast Go.Proofs.YtimikgeppdgpkaaW.PrintMore
attribute [local go_sem] max2_int min2_int max_two min_two max_three min_three max_four min_four   -- for this text's walks alone
set_option linter.unusedVariables false
set_option linter.unusedSimpArgs false



def errW : Option Int → Value
  | none => .nilIface
  | some c => .iface 0 (.int .i64 c)
theorem errW_none : errW none = .nilIface := rfl
theorem errW_some (c : Int) : errW (some c) = .iface 0 (.int .i64 c) := rfl

theorem info3 : (Try.prog.info? 3).map (fun i => (i.zero, i.size, i.bytes)) = some (some (.int .i64 0), 1, 8) := by kernel_rfl
-- the values' own types

end Go.Proofs.Ytimikgeppdgpkaa.XFnStretches
