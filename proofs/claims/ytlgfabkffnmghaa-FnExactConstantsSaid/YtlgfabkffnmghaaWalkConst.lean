import Derived.Test.YtlgfabkffnmghaaProg
import Derived.Below
import Derived.Deep.Draws
import Derived.Deep.AppendLies
import Derived.Maps.AppendAt
import Derived.OwnWalk
import Derived.Laws.BytesArg
import Derived.Laws.MakeOwn
import Derived.Laws.OwnMore
import Derived.Deep.OwnRows
import Derived.Tactics
import Derived.Lib.ConvBytes
import Derived.Laws.Slices
import Derived.WalkKit
import Derived.KernelRfl
import Derived.RowKit3
import Derived.Deep.LoopGhost
import Derived.Deep.QuietTactic
import Derived.BigQuiet
import Derived.WideLaws
import Derived.Deep.DeepCutAuto
import Derived.Deep.CutBlock
import Derived.Deep.RegionHeld3
import Derived.Laws.Rows
import Derived.Lib.AppendStr
import Derived.ArgAppend
import Derived.Laws.IdiomCopy
import Derived.OrdersHeld
import Derived.Laws.BitsLemmas
import Derived.RowKit
import Derived.Test.YtlgfabkffnmghaaWWords
import Derived.Test.YtlgfabkffnmghaaWLast
import Derived.Test.YtlgfabkffnmghaaWTab
import Derived.Test.YtlgfabkffnmghaaWFour
import Derived.Test.YtlgfabkffnmghaaWQPut
import Derived.Test.YtlgfabkffnmghaaWApart
import Derived.Test.YtlgfabkffnmghaaWArr
import Derived.Test.YtlgfabkffnmghaaWZeros
import Derived.Test.YtlgfabkffnmghaaWFoot
import Derived.Test.YtlgfabkffnmghaaWKept
import Derived.Test.YtlgfabkffnmghaaWShare
import Derived.Test.YtlgfabkffnmghaaWN
import Derived.Test.YtlgfabkffnmghaaWFootNe
import Derived.Test.YtlgfabkffnmghaaWAt
import Derived.Test.YtlgfabkffnmghaaWEqStruct
import Derived.Test.YtlgfabkffnmghaaWRepsOne
import Derived.Test.YtlgfabkffnmghaaWInv
import Derived.Test.YtlgfabkffnmghaaWInvWords
import Derived.Test.YtlgfabkffnmghaaWGuard
import Derived.Test.YtlgfabkffnmghaaWNEv
import Derived.Test.YtlgfabkffnmghaaWMore
namespace Go.Proofs.Ytlgfabkffnmghaa.WalkConst
open Go.RowKit Go.Proofs.YtlgfabkffnmghaaW.PrintWords Go.Proofs.YtlgfabkffnmghaaW.PrintLast Go.Proofs.YtlgfabkffnmghaaW.PrintMore
set_option linter.unusedVariables false
set_option maxHeartbeats 8000000 in
set_option maxRecDepth 1000000 in
theorem laws_FnExactConstants.calls (w : World) : Calls Try.prog 3 #[] w fun e w' => e = .returned (.bool true) ∧ Below w.heap.size w w' := by
  go_enter Try.func3, Try.ntmps3
  go_wp2
  go_ret
  exact ⟨rfl, Below.refl _ _⟩
end Go.Proofs.Ytlgfabkffnmghaa.WalkConst
