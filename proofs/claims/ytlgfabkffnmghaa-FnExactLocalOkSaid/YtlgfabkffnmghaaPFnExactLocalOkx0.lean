-- PRINTED BY print.sh 35421559b90ae4d0a3588c463048766b98c2df88dd9212a6774a882060cdf62d: not written by this session
import Derived.Test.YtlgfabkffnmghaaProg
import Derived.Below
import Derived.Deep.Draws
import Derived.Deep.AppendLies
import Derived.Maps.AppendAt
import Derived.OwnWalk
import Derived.Laws.BytesArg
import Derived.Laws.MakeOwn
import Derived.Laws.OwnMore
import Derived.Deep.OwnRows
import Derived.Tactics
import Derived.Lib.ConvBytes
import Derived.Laws.Slices
import Derived.WalkKit
import Derived.KernelRfl
import Derived.RowKit3
import Derived.Deep.LoopGhost
import Derived.Deep.QuietTactic
import Derived.BigQuiet
import Derived.WideLaws
import Derived.Deep.DeepCutAuto
import Derived.Deep.CutBlock
import Derived.Deep.RegionHeld3
import Derived.Laws.Rows
import Derived.Lib.AppendStr
import Derived.ArgAppend
import Derived.Laws.IdiomCopy
import Derived.OrdersHeld
import Derived.Laws.BitsLemmas
import Derived.RowKit
import Derived.Test.YtlgfabkffnmghaaWWords
import Derived.Test.YtlgfabkffnmghaaWLast
import Derived.Test.YtlgfabkffnmghaaWTab
import Derived.Test.YtlgfabkffnmghaaWFour
import Derived.Test.YtlgfabkffnmghaaWQPut
import Derived.Test.YtlgfabkffnmghaaWApart
import Derived.Test.YtlgfabkffnmghaaWArr
import Derived.Test.YtlgfabkffnmghaaWZeros
import Derived.Test.YtlgfabkffnmghaaWFoot
import Derived.Test.YtlgfabkffnmghaaWKept
import Derived.Test.YtlgfabkffnmghaaWShare
import Derived.Test.YtlgfabkffnmghaaWN
import Derived.Test.YtlgfabkffnmghaaWFootNe
import Derived.Test.YtlgfabkffnmghaaWAt
import Derived.Test.YtlgfabkffnmghaaWEqStruct
import Derived.Test.YtlgfabkffnmghaaWRepsOne
import Derived.Test.YtlgfabkffnmghaaWInv
import Derived.Test.YtlgfabkffnmghaaWInvWords
import Derived.Test.YtlgfabkffnmghaaWGuard
import Derived.Test.YtlgfabkffnmghaaWNEv
import Derived.Test.YtlgfabkffnmghaaWMore
namespace Go.Proofs.Ytlgfabkffnmghaa.PFnExactLocalOk
open Go.RowKit Go.Proofs.YtlgfabkffnmghaaW.PrintWords Go.Proofs.YtlgfabkffnmghaaW.PrintLast Go.Proofs.YtlgfabkffnmghaaW.PrintMore
attribute [local go_sem] max2_int min2_int max_two min_two max_three min_three max_four min_four   -- for this text's walks alone
set_option linter.unusedVariables false
set_option linter.unusedSimpArgs false



def errW : Option Int → Value
  | none => .nilIface
  | some c => .iface 0 (.int .i64 c)
theorem errW_none : errW none = .nilIface := rfl
theorem errW_some (c : Int) : errW (some c) = .iface 0 (.int .i64 c) := rfl

-- the values' own types

end Go.Proofs.Ytlgfabkffnmghaa.PFnExactLocalOk
