/- The pure statement of FnExactUsefulLess, out of the plain law. Written for this work; no condition. -/
import Derived.Test.YtlmcoaencmfdfaaQFnExactUsefulLess
namespace Go.Proofs.Ytlmcoaencmfdfaa.Pure
open Go.RowKit Go.Proofs.Ytlmcoaencmfdfaa.PFnExactUsefulLess Go.Proofs.YtlmcoaencmfdfaaW.PrintWords Go.Proofs.YtlmcoaencmfdfaaW.PrintLast

theorem FnExactUsefulLess : laws_FnExactUsefulLess.Pure := PFnExactUsefulLess.law

end Go.Proofs.Ytlmcoaencmfdfaa.Pure
