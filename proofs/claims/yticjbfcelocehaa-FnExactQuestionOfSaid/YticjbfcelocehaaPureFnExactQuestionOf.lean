/- The pure statement of FnExactQuestionOf, out of the plain law. Written for this work; no condition. -/
import Derived.Test.YticjbfcelocehaaQFnExactQuestionOf
namespace Go.Proofs.Yticjbfcelocehaa.Pure
open Go.RowKit Go.Proofs.Yticjbfcelocehaa.PFnExactQuestionOf Go.Proofs.YticjbfcelocehaaW.PrintWords Go.Proofs.YticjbfcelocehaaW.PrintLast

theorem FnExactQuestionOf : laws_FnExactQuestionOf.Pure := PFnExactQuestionOf.law

end Go.Proofs.Yticjbfcelocehaa.Pure
