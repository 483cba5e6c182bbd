/- The Go functions' Lean forms, each with the proof that the function comes to what its form says: for one law, no condition. Written by a program for this work. -/
import Derived.Test.YtamoldckpoengaaPFnExactNoCountsx0
import Derived.Test.YtamoldckpoengaaPFnExactNoCountsx1
import Derived.Test.YtamoldckpoengaaPFnExactNoCountsx2
import Derived.Test.YtamoldckpoengaaPFnExactNoCountsx3
import Derived.Test.YtamoldckpoengaaPFnExactNoCountsx4
namespace Go.Proofs.Ytamoldckpoengaa.PFnExactNoCounts
open Go.RowKit Go.Proofs.YtamoldckpoengaaW.PrintWords Go.Proofs.YtamoldckpoengaaW.PrintLast Go.Proofs.YtamoldckpoengaaW.PrintMore
open Go.Proofs.Ytamoldckpoengaa.Lib
attribute [local go_sem] max2_int min2_int max_two min_two max_three min_three max_four min_four   -- for this text's walks alone
set_option linter.unusedVariables false
set_option linter.unusedSimpArgs false

end Go.Proofs.Ytamoldckpoengaa.PFnExactNoCounts
