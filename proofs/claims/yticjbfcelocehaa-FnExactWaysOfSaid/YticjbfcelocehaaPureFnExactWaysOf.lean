/- The pure statement of FnExactWaysOf, out of the plain law. Written for this work; no condition. -/
import Derived.Test.YticjbfcelocehaaQFnExactWaysOf
namespace Go.Proofs.Yticjbfcelocehaa.Pure
open Go.RowKit Go.Proofs.Yticjbfcelocehaa.PFnExactWaysOf Go.Proofs.YticjbfcelocehaaW.PrintWords Go.Proofs.YticjbfcelocehaaW.PrintLast

theorem FnExactWaysOf : laws_FnExactWaysOf.Pure := PFnExactWaysOf.law

end Go.Proofs.Yticjbfcelocehaa.Pure
