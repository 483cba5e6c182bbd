/- The pure statement of FnExactConstants, out of the plain law. Written for this work; no condition. -/
import Derived.Test.YticjbfcelocehaaQFnExactConstants
namespace Go.Proofs.Yticjbfcelocehaa.Pure
open Go.RowKit Go.Proofs.Yticjbfcelocehaa.PFnExactConstants Go.Proofs.YticjbfcelocehaaW.PrintWords Go.Proofs.YticjbfcelocehaaW.PrintLast

theorem FnExactConstants : laws_FnExactConstants.Pure := PFnExactConstants.law

end Go.Proofs.Yticjbfcelocehaa.Pure
