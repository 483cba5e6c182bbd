/- The pure statement of FnExactAnswerWeights, out of the plain law. Written for this work; no condition. -/
import Derived.Test.YtlmcoaencmfdfaaQFnExactAnswerWeights
namespace Go.Proofs.Ytlmcoaencmfdfaa.Pure
open Go.RowKit Go.Proofs.Ytlmcoaencmfdfaa.PFnExactAnswerWeights Go.Proofs.YtlmcoaencmfdfaaW.PrintWords Go.Proofs.YtlmcoaencmfdfaaW.PrintLast

theorem FnExactAnswerWeights : laws_FnExactAnswerWeights.Pure := PFnExactAnswerWeights.law

end Go.Proofs.Ytlmcoaencmfdfaa.Pure
