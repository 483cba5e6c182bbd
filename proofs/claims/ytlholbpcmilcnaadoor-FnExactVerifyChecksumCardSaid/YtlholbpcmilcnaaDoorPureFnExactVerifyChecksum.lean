/- The pure statement of FnExactVerifyChecksum, out of the plain law. Written for this work; no condition. -/
import Derived.Test.YtlholbpcmilcnaaDoorQFnExactVerifyChecksum
namespace Go.Proofs.YtlholbpcmilcnaaDoor.Pure
open Go.RowKit Go.Proofs.YtlholbpcmilcnaaDoor.PFnExactVerifyChecksum Go.Proofs.YtlholbpcmilcnaaDoorW.PrintWords Go.Proofs.YtlholbpcmilcnaaDoorW.PrintLast

theorem FnExactVerifyChecksum : laws_FnExactVerifyChecksum.Pure := PFnExactVerifyChecksum.law

end Go.Proofs.YtlholbpcmilcnaaDoor.Pure
