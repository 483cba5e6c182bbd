/- The pure statement of FnExactMostByWeight, out of the plain law. Written for this work; no condition. -/
import Derived.Test.YticjbfcelocehaaQFnExactMostByWeight
namespace Go.Proofs.Yticjbfcelocehaa.Pure
open Go.RowKit Go.Proofs.Yticjbfcelocehaa.PFnExactMostByWeight Go.Proofs.YticjbfcelocehaaW.PrintWords Go.Proofs.YticjbfcelocehaaW.PrintLast

theorem FnExactMostByWeight : laws_FnExactMostByWeight.Pure := PFnExactMostByWeight.law

end Go.Proofs.Yticjbfcelocehaa.Pure
