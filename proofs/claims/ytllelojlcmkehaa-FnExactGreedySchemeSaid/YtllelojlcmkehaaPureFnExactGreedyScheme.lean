/- The pure statement of FnExactGreedyScheme, out of the plain law. Written for this work; no condition. -/
import Derived.Test.YtllelojlcmkehaaQFnExactGreedyScheme
namespace Go.Proofs.Ytllelojlcmkehaa.Pure
open Go.RowKit Go.Proofs.Ytllelojlcmkehaa.PFnExactGreedyScheme Go.Proofs.YtllelojlcmkehaaW.PrintWords Go.Proofs.YtllelojlcmkehaaW.PrintLast

theorem FnExactGreedyScheme : laws_FnExactGreedyScheme.Pure := PFnExactGreedyScheme.law

end Go.Proofs.Ytllelojlcmkehaa.Pure
