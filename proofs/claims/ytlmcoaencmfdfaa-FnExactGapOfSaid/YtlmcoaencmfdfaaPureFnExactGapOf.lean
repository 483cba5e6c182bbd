/- The pure statement of FnExactGapOf, out of the plain law. Written for this work; no condition. -/
import Derived.Test.YtlmcoaencmfdfaaQFnExactGapOf
namespace Go.Proofs.Ytlmcoaencmfdfaa.Pure
open Go.RowKit Go.Proofs.Ytlmcoaencmfdfaa.PFnExactGapOf Go.Proofs.YtlmcoaencmfdfaaW.PrintWords Go.Proofs.YtlmcoaencmfdfaaW.PrintLast

theorem FnExactGapOf : laws_FnExactGapOf.Pure := PFnExactGapOf.law

end Go.Proofs.Ytlmcoaencmfdfaa.Pure
