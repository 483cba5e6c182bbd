/- The pure statement of FnExactNearNumbers, out of the plain law. Written for this work; no condition. -/
import Derived.Test.YtllelojlcmkehaaQFnExactNearNumbers
namespace Go.Proofs.Ytllelojlcmkehaa.Pure
open Go.RowKit Go.Proofs.Ytllelojlcmkehaa.PFnExactNearNumbers Go.Proofs.YtllelojlcmkehaaW.PrintWords Go.Proofs.YtllelojlcmkehaaW.PrintLast

theorem FnExactNearNumbers : laws_FnExactNearNumbers.Pure := PFnExactNearNumbers.law

end Go.Proofs.Ytllelojlcmkehaa.Pure
