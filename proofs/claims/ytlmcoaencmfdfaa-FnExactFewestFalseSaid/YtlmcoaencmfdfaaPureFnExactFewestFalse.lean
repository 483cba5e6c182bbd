/- The pure statement of FnExactFewestFalse, out of the plain law. Written for this work; no condition. -/
import Derived.Test.YtlmcoaencmfdfaaQFnExactFewestFalse
namespace Go.Proofs.Ytlmcoaencmfdfaa.Pure
open Go.RowKit Go.Proofs.Ytlmcoaencmfdfaa.PFnExactFewestFalse Go.Proofs.YtlmcoaencmfdfaaW.PrintWords Go.Proofs.YtlmcoaencmfdfaaW.PrintLast

theorem FnExactFewestFalse : laws_FnExactFewestFalse.Pure := PFnExactFewestFalse.law

end Go.Proofs.Ytlmcoaencmfdfaa.Pure
