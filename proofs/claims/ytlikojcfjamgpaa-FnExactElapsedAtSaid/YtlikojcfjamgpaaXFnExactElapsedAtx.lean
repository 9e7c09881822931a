-- Written by a program of this claim's session (wip/xprint.py), out of the translation.
import Derived.Test.YtlikojcfjamgpaaXFnExactElapsedAtx0
import Derived.Test.YtlikojcfjamgpaaXFnExactElapsedAtx1
import Derived.Test.YtlikojcfjamgpaaXFnExactElapsedAtx2
import Derived.Test.YtlikojcfjamgpaaXFnExactElapsedAtx3
import Derived.Test.YtlikojcfjamgpaaXFnExactElapsedAtx4
import Derived.Test.YtlikojcfjamgpaaXFnExactElapsedAtx5
namespace Go.Proofs.Ytlikojcfjamgpaa.XFnExactElapsedAt
open Go.RowKit Go.Proofs.YtlikojcfjamgpaaW.PrintWords Go.Proofs.YtlikojcfjamgpaaW.PrintLast Go.Proofs.YtlikojcfjamgpaaW.PrintMore
attribute [local go_sem] max2_int min2_int max_two min_two max_three min_three max_four min_four   -- for this text's walks alone
set_option linter.unusedVariables false
set_option linter.unusedSimpArgs false

end Go.Proofs.Ytlikojcfjamgpaa.XFnExactElapsedAt
