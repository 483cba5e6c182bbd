/- The pure statement of FnExactAnswerState, out of the plain law. Written for this work; no condition. -/
import Derived.Test.YtllelojlcmkehaaQFnExactAnswerState
namespace Go.Proofs.Ytllelojlcmkehaa.Pure
open Go.RowKit Go.Proofs.Ytllelojlcmkehaa.PFnExactAnswerState Go.Proofs.YtllelojlcmkehaaW.PrintWords Go.Proofs.YtllelojlcmkehaaW.PrintLast

theorem FnExactAnswerState : laws_FnExactAnswerState.Pure := PFnExactAnswerState.law

end Go.Proofs.Ytllelojlcmkehaa.Pure
