/- The pure statement of FnExactParseState, out of the plain law. Written for this work; no condition. -/
import Derived.Test.YtlholbpcmilcnaaDoorQFnExactParseState
namespace Go.Proofs.YtlholbpcmilcnaaDoor.Pure
open Go.RowKit Go.Proofs.YtlholbpcmilcnaaDoor.PFnExactParseState Go.Proofs.YtlholbpcmilcnaaDoorW.PrintWords Go.Proofs.YtlholbpcmilcnaaDoorW.PrintLast

theorem FnExactParseState : laws_FnExactParseState.Pure := PFnExactParseState.law

end Go.Proofs.YtlholbpcmilcnaaDoor.Pure
