-- Written by a program of this claim's session (wip/xprint.py), out of the translation.
import Derived.Test.YtlijhbkmppphmaaXFnNums4x0
import Derived.Test.YtlijhbkmppphmaaXFnNums4x1
import Derived.Test.YtlijhbkmppphmaaXFnNums4x2
namespace Go.Proofs.Ytlijhbkmppphmaa.XFnNums4
open Go.RowKit Go.Proofs.YtlijhbkmppphmaaW.PrintWords Go.Proofs.YtlijhbkmppphmaaW.PrintLast Go.Proofs.YtlijhbkmppphmaaW.PrintMore
attribute [local go_sem] max2_int min2_int max_two min_two max_three min_three max_four min_four   -- for this text's walks alone
set_option linter.unusedVariables false
set_option linter.unusedSimpArgs false

end Go.Proofs.Ytlijhbkmppphmaa.XFnNums4
