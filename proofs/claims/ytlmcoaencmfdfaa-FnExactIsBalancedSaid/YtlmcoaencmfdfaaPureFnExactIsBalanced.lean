/- The pure statement of FnExactIsBalanced, out of the plain law. Written for this work; no condition. -/
import Derived.Test.YtlmcoaencmfdfaaQFnExactIsBalanced
namespace Go.Proofs.Ytlmcoaencmfdfaa.Pure
open Go.RowKit Go.Proofs.Ytlmcoaencmfdfaa.PFnExactIsBalanced Go.Proofs.YtlmcoaencmfdfaaW.PrintWords Go.Proofs.YtlmcoaencmfdfaaW.PrintLast

theorem FnExactIsBalanced : laws_FnExactIsBalanced.Pure := PFnExactIsBalanced.law

end Go.Proofs.Ytlmcoaencmfdfaa.Pure
