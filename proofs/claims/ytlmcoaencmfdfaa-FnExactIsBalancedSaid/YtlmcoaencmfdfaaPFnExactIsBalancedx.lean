/- The Go functions' Lean forms, each with the proof that the function comes to what its form says: for one law, no condition. Written by a program for this work. -/
import Derived.Test.YtlmcoaencmfdfaaPFnExactIsBalancedx0
import Derived.Test.YtlmcoaencmfdfaaPFnExactIsBalancedx1
import Derived.Test.YtlmcoaencmfdfaaPFnExactIsBalancedx2
import Derived.Test.YtlmcoaencmfdfaaPFnExactIsBalancedx3
import Derived.Test.YtlmcoaencmfdfaaPFnExactIsBalancedx4
import Derived.Test.YtlmcoaencmfdfaaPFnExactIsBalancedx5
import Derived.Test.YtlmcoaencmfdfaaPFnExactIsBalancedx6
import Derived.Test.YtlmcoaencmfdfaaPFnExactIsBalancedx7
namespace Go.Proofs.Ytlmcoaencmfdfaa.PFnExactIsBalanced
open Go.RowKit Go.Proofs.YtlmcoaencmfdfaaW.PrintWords Go.Proofs.YtlmcoaencmfdfaaW.PrintLast Go.Proofs.YtlmcoaencmfdfaaW.PrintMore
open Go.Proofs.Ytlmcoaencmfdfaa.Lib
attribute [local go_sem] max2_int min2_int max_two min_two max_three min_three max_four min_four   -- for this text's walks alone
set_option linter.unusedVariables false
set_option linter.unusedSimpArgs false

end Go.Proofs.Ytlmcoaencmfdfaa.PFnExactIsBalanced
