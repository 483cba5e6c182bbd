/- The pure statement of FnExactStateText, out of the plain law. Written for this work; no condition. -/
import Derived.Test.YtlholbpcmilcnaaDoorQFnExactStateText
namespace Go.Proofs.YtlholbpcmilcnaaDoor.Pure
open Go.RowKit Go.Proofs.YtlholbpcmilcnaaDoor.PFnExactStateText Go.Proofs.YtlholbpcmilcnaaDoorW.PrintWords Go.Proofs.YtlholbpcmilcnaaDoorW.PrintLast

theorem FnExactStateText : laws_FnExactStateText.Pure := PFnExactStateText.law

end Go.Proofs.YtlholbpcmilcnaaDoor.Pure
