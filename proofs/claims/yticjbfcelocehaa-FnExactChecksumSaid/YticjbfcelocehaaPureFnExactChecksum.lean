/- The pure statement of FnExactChecksum, out of the plain law. Written for this work; no condition. -/
import Derived.Test.YticjbfcelocehaaQFnExactChecksum
namespace Go.Proofs.Yticjbfcelocehaa.Pure
open Go.RowKit Go.Proofs.Yticjbfcelocehaa.PFnExactChecksum Go.Proofs.YticjbfcelocehaaW.PrintWords Go.Proofs.YticjbfcelocehaaW.PrintLast

theorem FnExactChecksum : laws_FnExactChecksum.Pure := PFnExactChecksum.law

end Go.Proofs.Yticjbfcelocehaa.Pure
