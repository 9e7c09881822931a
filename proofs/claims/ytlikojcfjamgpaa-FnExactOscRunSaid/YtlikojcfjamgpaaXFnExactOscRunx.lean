-- Written by a program of this claim's session (wip/xprint.py), out of the translation.
import Derived.Test.YtlikojcfjamgpaaXFnExactOscRunx0
import Derived.Test.YtlikojcfjamgpaaXFnExactOscRunx1
import Derived.Test.YtlikojcfjamgpaaXFnExactOscRunx2
import Derived.Test.YtlikojcfjamgpaaXFnExactOscRunx3
import Derived.Test.YtlikojcfjamgpaaXFnExactOscRunx4
import Derived.Test.YtlikojcfjamgpaaXFnExactOscRunx5
import Derived.Test.YtlikojcfjamgpaaXFnExactOscRunx6
import Derived.Test.YtlikojcfjamgpaaXFnExactOscRunx7
namespace Go.Proofs.Ytlikojcfjamgpaa.XFnExactOscRun
open Go.RowKit Go.Proofs.YtlikojcfjamgpaaW.PrintWords Go.Proofs.YtlikojcfjamgpaaW.PrintLast Go.Proofs.YtlikojcfjamgpaaW.PrintMore
attribute [local go_sem] max2_int min2_int max_two min_two max_three min_three max_four min_four   -- for this text's walks alone
set_option linter.unusedVariables false
set_option linter.unusedSimpArgs false

end Go.Proofs.Ytlikojcfjamgpaa.XFnExactOscRun
