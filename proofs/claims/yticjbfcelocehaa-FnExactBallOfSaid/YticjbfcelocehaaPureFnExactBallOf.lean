/- The pure statement of FnExactBallOf, out of the plain law. Written for this work; no condition. -/
import Derived.Test.YticjbfcelocehaaQFnExactBallOf
namespace Go.Proofs.Yticjbfcelocehaa.Pure
open Go.RowKit Go.Proofs.Yticjbfcelocehaa.PFnExactBallOf Go.Proofs.YticjbfcelocehaaW.PrintWords Go.Proofs.YticjbfcelocehaaW.PrintLast

theorem FnExactBallOf : laws_FnExactBallOf.Pure := PFnExactBallOf.law

end Go.Proofs.Yticjbfcelocehaa.Pure
