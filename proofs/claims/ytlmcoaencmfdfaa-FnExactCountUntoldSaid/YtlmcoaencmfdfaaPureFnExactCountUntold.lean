/- The pure statement of FnExactCountUntold, out of the plain law. Written for this work; no condition. -/
import Derived.Test.YtlmcoaencmfdfaaQFnExactCountUntold
namespace Go.Proofs.Ytlmcoaencmfdfaa.Pure
open Go.RowKit Go.Proofs.Ytlmcoaencmfdfaa.PFnExactCountUntold Go.Proofs.YtlmcoaencmfdfaaW.PrintWords Go.Proofs.YtlmcoaencmfdfaaW.PrintLast

theorem FnExactCountUntold : laws_FnExactCountUntold.Pure := PFnExactCountUntold.law

end Go.Proofs.Ytlmcoaencmfdfaa.Pure
