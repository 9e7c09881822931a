-- Written by a program of this claim's session (wip/xprint.py), out of the translation.
import Derived.Test.YtlijhbkmppphmaaProg
import Derived.Below
import Derived.Deep.Draws
import Derived.Deep.AppendLies
import Derived.Maps.AppendAt
import Derived.OwnWalk
import Derived.Laws.BytesArg
import Derived.Laws.MakeOwn
import Derived.Laws.OwnMore
import Derived.Deep.OwnRows
import Derived.Tactics
import Derived.Lib.ConvBytes
import Derived.Laws.Slices
import Derived.WalkKit
import Derived.KernelRfl
import Derived.RowKit3
import Derived.Deep.LoopGhost
import Derived.Deep.QuietTactic
import Derived.BigQuiet
import Derived.WideLaws
import Derived.Deep.DeepCutAuto
import Derived.Deep.CutBlock
import Derived.Deep.RegionHeld3
import Derived.Laws.Rows
import Derived.Lib.AppendStr
import Derived.ArgAppend
import Derived.Laws.IdiomCopy
import Derived.OrdersHeld
import Derived.Laws.BitsLemmas
import Derived.RowKit
import Derived.Test.YtlijhbkmppphmaaFnVal
import Derived.Test.YtlijhbkmppphmaaWWords
import Derived.Test.YtlijhbkmppphmaaWLast
import Derived.Test.YtlijhbkmppphmaaWTab
import Derived.Test.YtlijhbkmppphmaaWFour
import Derived.Test.YtlijhbkmppphmaaWQPut
import Derived.Test.YtlijhbkmppphmaaWApart
import Derived.Test.YtlijhbkmppphmaaWArr
import Derived.Test.YtlijhbkmppphmaaWZeros
import Derived.Test.YtlijhbkmppphmaaWFoot
import Derived.Test.YtlijhbkmppphmaaWKept
import Derived.Test.YtlijhbkmppphmaaWShare
import Derived.Test.YtlijhbkmppphmaaWN
import Derived.Test.YtlijhbkmppphmaaWFootNe
import Derived.Test.YtlijhbkmppphmaaWAt
import Derived.Test.YtlijhbkmppphmaaWEqStruct
import Derived.Test.YtlijhbkmppphmaaWRepsOne
import Derived.Test.YtlijhbkmppphmaaWInv
import Derived.Test.YtlijhbkmppphmaaWInvWords
import Derived.Test.YtlijhbkmppphmaaWGuard
import Derived.Test.YtlijhbkmppphmaaWNEv
import Derived.Test.YtlijhbkmppphmaaWMore
namespace Go.Proofs.Ytlijhbkmppphmaa.XFnNums4
open Go.RowKit Go.Proofs.YtlijhbkmppphmaaW.PrintWords Go.Proofs.YtlijhbkmppphmaaW.PrintLast Go.Proofs.YtlijhbkmppphmaaW.PrintMore
attribute [local go_sem] max2_int min2_int max_two min_two max_three min_three max_four min_four   -- for this text's walks alone
set_option linter.unusedVariables false
set_option linter.unusedSimpArgs false



def errW : Option Int → Value
  | none => .nilIface
  | some c => .iface 0 (.int .i64 c)
theorem errW_none : errW none = .nilIface := rfl
theorem errW_some (c : Int) : errW (some c) = .iface 0 (.int .i64 c) := rfl

theorem info3 : (Try.prog.info? 3).map (fun i => (i.zero, i.size, i.bytes)) = some (some (.int .i64 0), 1, 8) := by kernel_rfl
theorem info5 : (Try.prog.info? 5).map (fun i => (i.zero, i.size, i.bytes)) = some (some (.int .u8 0), 1, 1) := by kernel_rfl
-- the values' own types

end Go.Proofs.Ytlijhbkmppphmaa.XFnNums4
