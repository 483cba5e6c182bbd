/- The pure statement of FnExactAnswerAll, out of the plain law. Written for this work; no condition. -/
import Derived.Test.YtlmcoaencmfdfaaQFnExactAnswerAll
namespace Go.Proofs.Ytlmcoaencmfdfaa.Pure
open Go.RowKit Go.Proofs.Ytlmcoaencmfdfaa.PFnExactAnswerAll Go.Proofs.YtlmcoaencmfdfaaW.PrintWords Go.Proofs.YtlmcoaencmfdfaaW.PrintLast

theorem FnExactAnswerAll : laws_FnExactAnswerAll.Pure := PFnExactAnswerAll.law

end Go.Proofs.Ytlmcoaencmfdfaa.Pure
