/- The plain half of FnMarksTwo: what the printed functions compute, over numbers and lists alone. No condition. -/
import Derived.Test.YtlikojcfjamgpaaTFnMarksTwoXFnMarksTwox
import Derived.OpenShut
namespace Go.Proofs.Ytlikojcfjamgpaa.Pure
open Go.RowKit Go.Proofs.Ytlikojcfjamgpaa.XFnMarksTwo Go.Proofs.YtlikojcfjamgpaaW.PrintWords Go.Proofs.YtlikojcfjamgpaaW.PrintLast Go.Proofs.YtlikojcfjamgpaaW.PrintMore
set_option linter.unusedVariables false
set_option linter.unusedSimpArgs false

end Go.Proofs.Ytlikojcfjamgpaa.Pure
