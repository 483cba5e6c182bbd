/- The pure statement of FnExactRepeatScheme, out of the plain law. Written for this work; no condition. -/
import Derived.Test.YtllelojlcmkehaaQFnExactRepeatScheme
namespace Go.Proofs.Ytllelojlcmkehaa.Pure
open Go.RowKit Go.Proofs.Ytllelojlcmkehaa.PFnExactRepeatScheme Go.Proofs.YtllelojlcmkehaaW.PrintWords Go.Proofs.YtllelojlcmkehaaW.PrintLast

theorem FnExactRepeatScheme : laws_FnExactRepeatScheme.Pure := PFnExactRepeatScheme.law

end Go.Proofs.Ytllelojlcmkehaa.Pure
