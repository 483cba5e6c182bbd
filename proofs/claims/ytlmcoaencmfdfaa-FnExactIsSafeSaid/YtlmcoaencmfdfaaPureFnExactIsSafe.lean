/- The pure statement of FnExactIsSafe, out of the plain law. Written for this work; no condition. -/
import Derived.Test.YtlmcoaencmfdfaaQFnExactIsSafe
namespace Go.Proofs.Ytlmcoaencmfdfaa.Pure
open Go.RowKit Go.Proofs.Ytlmcoaencmfdfaa.PFnExactIsSafe Go.Proofs.YtlmcoaencmfdfaaW.PrintWords Go.Proofs.YtlmcoaencmfdfaaW.PrintLast

theorem FnExactIsSafe : laws_FnExactIsSafe.Pure := PFnExactIsSafe.law

end Go.Proofs.Ytlmcoaencmfdfaa.Pure
