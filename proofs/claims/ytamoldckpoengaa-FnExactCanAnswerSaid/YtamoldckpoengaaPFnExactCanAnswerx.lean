/- The Go functions' Lean forms, each with the proof that the function comes to what its form says: for one law, no condition. Written by a program for this work. -/
import Derived.Test.YtamoldckpoengaaPFnExactCanAnswerx0
import Derived.Test.YtamoldckpoengaaPFnExactCanAnswerx1
import Derived.Test.YtamoldckpoengaaPFnExactCanAnswerx2
import Derived.Test.YtamoldckpoengaaPFnExactCanAnswerx3
import Derived.Test.YtamoldckpoengaaPFnExactCanAnswerx4
import Derived.Test.YtamoldckpoengaaPFnExactCanAnswerx5
import Derived.Test.YtamoldckpoengaaPFnExactCanAnswerx6
import Derived.Test.YtamoldckpoengaaPFnExactCanAnswerx7
namespace Go.Proofs.Ytamoldckpoengaa.PFnExactCanAnswer
open Go.RowKit Go.Proofs.YtamoldckpoengaaW.PrintWords Go.Proofs.YtamoldckpoengaaW.PrintLast Go.Proofs.YtamoldckpoengaaW.PrintMore
open Go.Proofs.Ytamoldckpoengaa.Lib
attribute [local go_sem] max2_int min2_int max_two min_two max_three min_three max_four min_four   -- for this text's walks alone
set_option linter.unusedVariables false
set_option linter.unusedSimpArgs false

end Go.Proofs.Ytamoldckpoengaa.PFnExactCanAnswer
