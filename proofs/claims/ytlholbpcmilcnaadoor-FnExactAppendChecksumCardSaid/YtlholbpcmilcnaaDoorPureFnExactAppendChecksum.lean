/- The pure statement of FnExactAppendChecksum, out of the plain law. Written for this work; no condition. -/
import Derived.Test.YtlholbpcmilcnaaDoorQFnExactAppendChecksum
namespace Go.Proofs.YtlholbpcmilcnaaDoor.Pure
open Go.RowKit Go.Proofs.YtlholbpcmilcnaaDoor.PFnExactAppendChecksum Go.Proofs.YtlholbpcmilcnaaDoorW.PrintWords Go.Proofs.YtlholbpcmilcnaaDoorW.PrintLast

theorem FnExactAppendChecksum : laws_FnExactAppendChecksum.Pure := PFnExactAppendChecksum.law

end Go.Proofs.YtlholbpcmilcnaaDoor.Pure
