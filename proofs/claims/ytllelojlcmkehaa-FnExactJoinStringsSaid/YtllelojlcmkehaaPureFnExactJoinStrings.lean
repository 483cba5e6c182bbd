/- The pure statement of FnExactJoinStrings, out of the plain law. Written for this work; no condition. -/
import Derived.Test.YtllelojlcmkehaaQFnExactJoinStrings
namespace Go.Proofs.Ytllelojlcmkehaa.Pure
open Go.RowKit Go.Proofs.Ytllelojlcmkehaa.PFnExactJoinStrings Go.Proofs.YtllelojlcmkehaaW.PrintWords Go.Proofs.YtllelojlcmkehaaW.PrintLast

theorem FnExactJoinStrings : laws_FnExactJoinStrings.Pure := PFnExactJoinStrings.law

end Go.Proofs.Ytllelojlcmkehaa.Pure
