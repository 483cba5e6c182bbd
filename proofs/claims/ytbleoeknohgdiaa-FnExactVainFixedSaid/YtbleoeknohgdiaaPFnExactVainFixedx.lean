/- The Go functions' Lean forms, each with the proof that the function comes to what its form says: for one law, no condition. Written by a program for this work. -/
import Derived.Test.YtbleoeknohgdiaaPFnExactVainFixedx0
import Derived.Test.YtbleoeknohgdiaaPFnExactVainFixedx1
import Derived.Test.YtbleoeknohgdiaaPFnExactVainFixedx2
import Derived.Test.YtbleoeknohgdiaaPFnExactVainFixedx3
import Derived.Test.YtbleoeknohgdiaaPFnExactVainFixedx4
import Derived.Test.YtbleoeknohgdiaaPFnExactVainFixedx5
namespace Go.Proofs.Ytbleoeknohgdiaa.PFnExactVainFixed
open Go.RowKit Go.Proofs.YtbleoeknohgdiaaW.PrintWords Go.Proofs.YtbleoeknohgdiaaW.PrintLast Go.Proofs.YtbleoeknohgdiaaW.PrintMore
open Go.Proofs.Ytbleoeknohgdiaa.Lib
attribute [local go_sem] max2_int min2_int max_two min_two max_three min_three max_four min_four   -- for this text's walks alone
set_option linter.unusedVariables false
set_option linter.unusedSimpArgs false

end Go.Proofs.Ytbleoeknohgdiaa.PFnExactVainFixed
