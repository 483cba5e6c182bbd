/- The pure statement of FnExactVainFixed, out of the plain law. Written for this work; no condition. -/
import Derived.Test.YtbleoeknohgdiaaQFnExactVainFixed
namespace Go.Proofs.Ytbleoeknohgdiaa.Pure
open Go.RowKit Go.Proofs.Ytbleoeknohgdiaa.PFnExactVainFixed Go.Proofs.YtbleoeknohgdiaaW.PrintWords Go.Proofs.YtbleoeknohgdiaaW.PrintLast

theorem FnExactVainFixed : laws_FnExactVainFixed.Pure := PFnExactVainFixed.law

end Go.Proofs.Ytbleoeknohgdiaa.Pure
