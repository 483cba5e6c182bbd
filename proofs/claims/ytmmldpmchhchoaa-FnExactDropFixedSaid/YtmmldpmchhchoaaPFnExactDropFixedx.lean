/- The Go functions' Lean forms, each with the proof that the function comes to what its form says: for one law, no condition. Written by a program for this work. -/
import Derived.Test.YtmmldpmchhchoaaPFnExactDropFixedx0
import Derived.Test.YtmmldpmchhchoaaPFnExactDropFixedx1
import Derived.Test.YtmmldpmchhchoaaPFnExactDropFixedx2
import Derived.Test.YtmmldpmchhchoaaPFnExactDropFixedx3
namespace Go.Proofs.Ytmmldpmchhchoaa.PFnExactDropFixed
open Go.RowKit Go.Proofs.YtmmldpmchhchoaaW.PrintWords Go.Proofs.YtmmldpmchhchoaaW.PrintLast Go.Proofs.YtmmldpmchhchoaaW.PrintMore
open Go.Proofs.Ytmmldpmchhchoaa.Lib
attribute [local go_sem] max2_int min2_int max_two min_two max_three min_three max_four min_four   -- for this text's walks alone
set_option linter.unusedVariables false
set_option linter.unusedSimpArgs false

end Go.Proofs.Ytmmldpmchhchoaa.PFnExactDropFixed
