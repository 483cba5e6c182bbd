/- The Go functions' Lean forms, each with the proof that the function comes to what its form says: for one law, no condition. Written by a program for this work. -/
import Derived.Test.YtbleoeknohgdiaaPFnExactCountBalancedx0
import Derived.Test.YtbleoeknohgdiaaPFnExactCountBalancedx1
import Derived.Test.YtbleoeknohgdiaaPFnExactCountBalancedx2
import Derived.Test.YtbleoeknohgdiaaPFnExactCountBalancedx3
import Derived.Test.YtbleoeknohgdiaaPFnExactCountBalancedx4
import Derived.Test.YtbleoeknohgdiaaPFnExactCountBalancedx5
import Derived.Test.YtbleoeknohgdiaaPFnExactCountBalancedx6
import Derived.Test.YtbleoeknohgdiaaPFnExactCountBalancedx7
import Derived.Test.YtbleoeknohgdiaaPFnExactCountBalancedx8
namespace Go.Proofs.Ytbleoeknohgdiaa.PFnExactCountBalanced
open Go.RowKit Go.Proofs.YtbleoeknohgdiaaW.PrintWords Go.Proofs.YtbleoeknohgdiaaW.PrintLast Go.Proofs.YtbleoeknohgdiaaW.PrintMore
open Go.Proofs.Ytbleoeknohgdiaa.Lib
attribute [local go_sem] max2_int min2_int max_two min_two max_three min_three max_four min_four   -- for this text's walks alone
set_option linter.unusedVariables false
set_option linter.unusedSimpArgs false

end Go.Proofs.Ytbleoeknohgdiaa.PFnExactCountBalanced
