/- The Go functions' Lean forms, each with the proof that the function comes to what its form says: for one law, no condition. Written by a program for this work. -/
import Derived.Test.YtlmcoaencmfdfaaPFnExactFewestFalsex0
import Derived.Test.YtlmcoaencmfdfaaPFnExactFewestFalsex1
import Derived.Test.YtlmcoaencmfdfaaPFnExactFewestFalsex2
import Derived.Test.YtlmcoaencmfdfaaPFnExactFewestFalsex3
import Derived.Test.YtlmcoaencmfdfaaPFnExactFewestFalsex4
namespace Go.Proofs.Ytlmcoaencmfdfaa.PFnExactFewestFalse
open Go.RowKit Go.Proofs.YtlmcoaencmfdfaaW.PrintWords Go.Proofs.YtlmcoaencmfdfaaW.PrintLast Go.Proofs.YtlmcoaencmfdfaaW.PrintMore
open Go.Proofs.Ytlmcoaencmfdfaa.Lib
attribute [local go_sem] max2_int min2_int max_two min_two max_three min_three max_four min_four   -- for this text's walks alone
set_option linter.unusedVariables false
set_option linter.unusedSimpArgs false

end Go.Proofs.Ytlmcoaencmfdfaa.PFnExactFewestFalse
