/- The pure statement of FnExactEvenQuestion, out of the plain law. Written for this work; no condition. -/
import Derived.Test.YtbleoeknohgdiaaQFnExactEvenQuestion
namespace Go.Proofs.Ytbleoeknohgdiaa.Pure
open Go.RowKit Go.Proofs.Ytbleoeknohgdiaa.PFnExactEvenQuestion Go.Proofs.YtbleoeknohgdiaaW.PrintWords Go.Proofs.YtbleoeknohgdiaaW.PrintLast

theorem FnExactEvenQuestion : laws_FnExactEvenQuestion.Pure := PFnExactEvenQuestion.law

end Go.Proofs.Ytbleoeknohgdiaa.Pure
