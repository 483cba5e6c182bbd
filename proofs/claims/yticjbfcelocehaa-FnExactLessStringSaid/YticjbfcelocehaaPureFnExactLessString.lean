/- The pure statement of FnExactLessString, out of the plain law. Written for this work; no condition. -/
import Derived.Test.YticjbfcelocehaaQFnExactLessString
namespace Go.Proofs.Yticjbfcelocehaa.Pure
open Go.RowKit Go.Proofs.Yticjbfcelocehaa.PFnExactLessString Go.Proofs.YticjbfcelocehaaW.PrintWords Go.Proofs.YticjbfcelocehaaW.PrintLast

theorem FnExactLessString : laws_FnExactLessString.Pure := PFnExactLessString.law

end Go.Proofs.Yticjbfcelocehaa.Pure
