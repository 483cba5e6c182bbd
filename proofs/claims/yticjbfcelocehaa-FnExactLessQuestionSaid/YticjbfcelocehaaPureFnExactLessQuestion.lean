/- The pure statement of FnExactLessQuestion, out of the plain law. Written for this work; no condition. -/
import Derived.Test.YticjbfcelocehaaQFnExactLessQuestion
namespace Go.Proofs.Yticjbfcelocehaa.Pure
open Go.RowKit Go.Proofs.Yticjbfcelocehaa.PFnExactLessQuestion Go.Proofs.YticjbfcelocehaaW.PrintWords Go.Proofs.YticjbfcelocehaaW.PrintLast

theorem FnExactLessQuestion : laws_FnExactLessQuestion.Pure := PFnExactLessQuestion.law

end Go.Proofs.Yticjbfcelocehaa.Pure
