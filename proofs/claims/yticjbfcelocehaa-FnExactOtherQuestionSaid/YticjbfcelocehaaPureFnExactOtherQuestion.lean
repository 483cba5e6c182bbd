/- The pure statement of FnExactOtherQuestion, out of the plain law. Written for this work; no condition. -/
import Derived.Test.YticjbfcelocehaaQFnExactOtherQuestion
namespace Go.Proofs.Yticjbfcelocehaa.Pure
open Go.RowKit Go.Proofs.Yticjbfcelocehaa.PFnExactOtherQuestion Go.Proofs.YticjbfcelocehaaW.PrintWords Go.Proofs.YticjbfcelocehaaW.PrintLast

theorem FnExactOtherQuestion : laws_FnExactOtherQuestion.Pure := PFnExactOtherQuestion.law

end Go.Proofs.Yticjbfcelocehaa.Pure
