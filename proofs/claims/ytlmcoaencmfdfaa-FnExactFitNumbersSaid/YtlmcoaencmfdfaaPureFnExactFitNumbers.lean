/- The pure statement of FnExactFitNumbers, out of the plain law. Written for this work; no condition. -/
import Derived.Test.YtlmcoaencmfdfaaQFnExactFitNumbers
namespace Go.Proofs.Ytlmcoaencmfdfaa.Pure
open Go.RowKit Go.Proofs.Ytlmcoaencmfdfaa.PFnExactFitNumbers Go.Proofs.YtlmcoaencmfdfaaW.PrintWords Go.Proofs.YtlmcoaencmfdfaaW.PrintLast

theorem FnExactFitNumbers : laws_FnExactFitNumbers.Pure := PFnExactFitNumbers.law

end Go.Proofs.Ytlmcoaencmfdfaa.Pure
