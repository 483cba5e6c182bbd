/- The pure statement of FnExactParseInt, out of the plain law. Written for this work; no condition. -/
import Derived.Test.YtlholbpcmilcnaaDoorQFnExactParseInt
namespace Go.Proofs.YtlholbpcmilcnaaDoor.Pure
open Go.RowKit Go.Proofs.YtlholbpcmilcnaaDoor.PFnExactParseInt Go.Proofs.YtlholbpcmilcnaaDoorW.PrintWords Go.Proofs.YtlholbpcmilcnaaDoorW.PrintLast

theorem FnExactParseInt : laws_FnExactParseInt.Pure := PFnExactParseInt.law

end Go.Proofs.YtlholbpcmilcnaaDoor.Pure
