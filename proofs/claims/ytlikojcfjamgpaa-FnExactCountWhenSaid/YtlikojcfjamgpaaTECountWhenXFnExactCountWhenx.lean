-- Written by a program of this claim's session (wip/xprint.py), out of the translation.
import Derived.Test.YtlikojcfjamgpaaTECountWhenXFnExactCountWhenx0
import Derived.Test.YtlikojcfjamgpaaTECountWhenXFnExactCountWhenx1
import Derived.Test.YtlikojcfjamgpaaTECountWhenXFnExactCountWhenx2
import Derived.Test.YtlikojcfjamgpaaTECountWhenXFnExactCountWhenx3
import Derived.Test.YtlikojcfjamgpaaTECountWhenXFnExactCountWhenx4
import Derived.Test.YtlikojcfjamgpaaTECountWhenXFnExactCountWhenx5
import Derived.Test.YtlikojcfjamgpaaTECountWhenXFnExactCountWhenx6
import Derived.Test.YtlikojcfjamgpaaTECountWhenXFnExactCountWhenx7
import Derived.Test.YtlikojcfjamgpaaTECountWhenXFnExactCountWhenx8
namespace Go.Proofs.Ytlikojcfjamgpaa.XFnExactCountWhen
open Go.RowKit Go.Proofs.YtlikojcfjamgpaaW.PrintWords Go.Proofs.YtlikojcfjamgpaaW.PrintLast Go.Proofs.YtlikojcfjamgpaaW.PrintMore
open Go.Proofs.YtlikojcfjamgpaaW.PrintWords renaming blk_drewN → bA, blk_drew → bB, blk_alloc → bC, pw_below_drewN → bD, below_alloc → bE, below_drew1 → bF, Aside0.mk → zM, below_step → bG, blk_put → bH
open List renaming setIfInBounds_toArray → zS, set_cons_zero → z0, set_cons_succ → z1
attribute [local go_sem] max2_int min2_int max_two min_two max_three min_three max_four min_four
set_option linter.unusedVariables false
set_option linter.unusedSimpArgs false
set_option maxHeartbeats 8000000
set_option maxRecDepth 100000

end Go.Proofs.Ytlikojcfjamgpaa.XFnExactCountWhen
