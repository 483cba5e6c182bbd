/- The pure statement of FnExactAreCounts, out of the plain law. Written for this work; no condition. -/
import Derived.Test.YticjbfcelocehaaQFnExactAreCounts
namespace Go.Proofs.Yticjbfcelocehaa.Pure
open Go.RowKit Go.Proofs.Yticjbfcelocehaa.PFnExactAreCounts Go.Proofs.YticjbfcelocehaaW.PrintWords Go.Proofs.YticjbfcelocehaaW.PrintLast

theorem FnExactAreCounts : laws_FnExactAreCounts.Pure := PFnExactAreCounts.law

end Go.Proofs.Yticjbfcelocehaa.Pure
