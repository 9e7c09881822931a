-- Written by a program of this claim's session (wip/xprint.py), out of the translation.
import Derived.Test.YtpnfbekbkeiahaaTESplitMsgsXFnExactSplitMsgsx0
namespace Go.Proofs.Ytpnfbekbkeiahaa.XFnExactSplitMsgs
open Go.RowKit Go.Proofs.YtpnfbekbkeiahaaW.PrintWords Go.Proofs.YtpnfbekbkeiahaaW.PrintLast Go.Proofs.YtpnfbekbkeiahaaW.PrintMore
open Go.Proofs.YtpnfbekbkeiahaaW.PrintWords renaming blk_drewN → bA, blk_drew → bB, blk_alloc → bC, pw_below_drewN → bD, below_alloc → bE, below_drew1 → bF, Aside0.mk → zM, below_step → bG, blk_put → bH
open List renaming setIfInBounds_toArray → zS, set_cons_zero → z0, set_cons_succ → z1
attribute [local go_sem] max2_int min2_int max_two min_two max_three min_three max_four min_four
set_option linter.unusedVariables false
set_option linter.unusedSimpArgs false
set_option maxHeartbeats 8000000
set_option maxRecDepth 100000

theorem eqA30 (d : Nat) (w : World) (x0 y0 : Int) (x1 y1 : Int) :
  (Op.equalIn (d + 2) 30 (.agg #[.int .i64 x0, .int .i64 x1]) (.agg #[.int .i64 y0, .int .i64 y1])).run Try.prog w = .ok (x0 == y0 && (x1 == y1)) w := by
 refine eqA_of Try.underlying30 (by kernel_rfl) ?_
 refine eqf_cons (by rfl) (by go_simp; rfl) (by go_simp; rfl) (by go_simp) ?_
 exact eqf_last (by rfl) (by go_simp; rfl) (by go_simp; rfl) (by go_simp)
end Go.Proofs.Ytpnfbekbkeiahaa.XFnExactSplitMsgs
