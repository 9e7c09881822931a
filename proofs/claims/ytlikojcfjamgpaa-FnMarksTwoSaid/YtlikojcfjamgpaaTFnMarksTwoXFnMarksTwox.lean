-- Written by a program of this claim's session (wip/xprint.py), out of the translation.
import Derived.Test.YtlikojcfjamgpaaTFnMarksTwoXFnMarksTwox0
import Derived.Test.YtlikojcfjamgpaaTFnMarksTwoXFnMarksTwox1
import Derived.Test.YtlikojcfjamgpaaTFnMarksTwoXFnMarksTwox2
import Derived.Test.YtlikojcfjamgpaaTFnMarksTwoXFnMarksTwox3
import Derived.Test.YtlikojcfjamgpaaTFnMarksTwoXFnMarksTwox4
import Derived.Test.YtlikojcfjamgpaaTFnMarksTwoXFnMarksTwox5
import Derived.Test.YtlikojcfjamgpaaTFnMarksTwoXFnMarksTwox6
import Derived.Test.YtlikojcfjamgpaaTFnMarksTwoXFnMarksTwox7
import Derived.Test.YtlikojcfjamgpaaTFnMarksTwoXFnMarksTwox8
import Derived.Test.YtlikojcfjamgpaaTFnMarksTwoXFnMarksTwox9
namespace Go.Proofs.Ytlikojcfjamgpaa.XFnMarksTwo
open Go.RowKit Go.Proofs.YtlikojcfjamgpaaW.PrintWords Go.Proofs.YtlikojcfjamgpaaW.PrintLast Go.Proofs.YtlikojcfjamgpaaW.PrintMore
attribute [local go_sem] max2_int min2_int max_two min_two max_three min_three max_four min_four   -- for this text's walks alone
set_option linter.unusedVariables false
set_option linter.unusedSimpArgs false

end Go.Proofs.Ytlikojcfjamgpaa.XFnMarksTwo
