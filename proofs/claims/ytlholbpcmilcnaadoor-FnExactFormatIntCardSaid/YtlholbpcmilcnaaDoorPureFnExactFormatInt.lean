/- The pure statement of FnExactFormatInt, out of the plain law. Written for this work; no condition. -/
import Derived.Test.YtlholbpcmilcnaaDoorQFnExactFormatInt
namespace Go.Proofs.YtlholbpcmilcnaaDoor.Pure
open Go.RowKit Go.Proofs.YtlholbpcmilcnaaDoor.PFnExactFormatInt Go.Proofs.YtlholbpcmilcnaaDoorW.PrintWords Go.Proofs.YtlholbpcmilcnaaDoorW.PrintLast

theorem FnExactFormatInt : laws_FnExactFormatInt.Pure := PFnExactFormatInt.law

end Go.Proofs.YtlholbpcmilcnaaDoor.Pure
