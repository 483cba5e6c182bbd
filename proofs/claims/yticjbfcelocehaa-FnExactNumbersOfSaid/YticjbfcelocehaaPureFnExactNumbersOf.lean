/- The pure statement of FnExactNumbersOf, out of the plain law. Written for this work; no condition. -/
import Derived.Test.YticjbfcelocehaaQFnExactNumbersOf
namespace Go.Proofs.Yticjbfcelocehaa.Pure
open Go.RowKit Go.Proofs.Yticjbfcelocehaa.PFnExactNumbersOf Go.Proofs.YticjbfcelocehaaW.PrintWords Go.Proofs.YticjbfcelocehaaW.PrintLast

theorem FnExactNumbersOf : laws_FnExactNumbersOf.Pure := PFnExactNumbersOf.law

end Go.Proofs.Yticjbfcelocehaa.Pure
