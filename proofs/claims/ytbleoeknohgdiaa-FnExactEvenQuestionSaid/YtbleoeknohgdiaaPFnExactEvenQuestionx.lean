/- The Go functions' Lean forms, each with the proof that the function comes to what its form says: for one law, no condition. Written by a program for this work. -/
import Derived.Test.YtbleoeknohgdiaaPFnExactEvenQuestionx0
import Derived.Test.YtbleoeknohgdiaaPFnExactEvenQuestionx1
import Derived.Test.YtbleoeknohgdiaaPFnExactEvenQuestionx2
import Derived.Test.YtbleoeknohgdiaaPFnExactEvenQuestionx3
import Derived.Test.YtbleoeknohgdiaaPFnExactEvenQuestionx4
import Derived.Test.YtbleoeknohgdiaaPFnExactEvenQuestionx5
import Derived.Test.YtbleoeknohgdiaaPFnExactEvenQuestionx6
import Derived.Test.YtbleoeknohgdiaaPFnExactEvenQuestionx7
namespace Go.Proofs.Ytbleoeknohgdiaa.PFnExactEvenQuestion
open Go.RowKit Go.Proofs.YtbleoeknohgdiaaW.PrintWords Go.Proofs.YtbleoeknohgdiaaW.PrintLast Go.Proofs.YtbleoeknohgdiaaW.PrintMore
open Go.Proofs.Ytbleoeknohgdiaa.Lib
attribute [local go_sem] max2_int min2_int max_two min_two max_three min_three max_four min_four   -- for this text's walks alone
set_option linter.unusedVariables false
set_option linter.unusedSimpArgs false

end Go.Proofs.Ytbleoeknohgdiaa.PFnExactEvenQuestion
