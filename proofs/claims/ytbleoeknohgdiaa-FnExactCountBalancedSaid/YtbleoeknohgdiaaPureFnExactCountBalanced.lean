/- The pure statement of FnExactCountBalanced, out of the plain law. Written for this work; no condition. -/
import Derived.Test.YtbleoeknohgdiaaQFnExactCountBalanced
namespace Go.Proofs.Ytbleoeknohgdiaa.Pure
open Go.RowKit Go.Proofs.Ytbleoeknohgdiaa.PFnExactCountBalanced Go.Proofs.YtbleoeknohgdiaaW.PrintWords Go.Proofs.YtbleoeknohgdiaaW.PrintLast

theorem FnExactCountBalanced : laws_FnExactCountBalanced.Pure := PFnExactCountBalanced.law

end Go.Proofs.Ytbleoeknohgdiaa.Pure
