/- The pure statement of FnExactIsScheme, out of the plain law. Written for this work; no condition. -/
import Derived.Test.YticjbfcelocehaaQFnExactIsScheme
namespace Go.Proofs.Yticjbfcelocehaa.Pure
open Go.RowKit Go.Proofs.Yticjbfcelocehaa.PFnExactIsScheme Go.Proofs.YticjbfcelocehaaW.PrintWords Go.Proofs.YticjbfcelocehaaW.PrintLast

theorem FnExactIsScheme : laws_FnExactIsScheme.Pure := PFnExactIsScheme.law

end Go.Proofs.Yticjbfcelocehaa.Pure
