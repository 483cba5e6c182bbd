/- The pure statement of FnExactCanAnswer, out of the plain law. Written for this work; no condition. -/
import Derived.Test.YtamoldckpoengaaQFnExactCanAnswer
namespace Go.Proofs.Ytamoldckpoengaa.Pure
open Go.RowKit Go.Proofs.Ytamoldckpoengaa.PFnExactCanAnswer Go.Proofs.YtamoldckpoengaaW.PrintWords Go.Proofs.YtamoldckpoengaaW.PrintLast

theorem FnExactCanAnswer : laws_FnExactCanAnswer.Pure := PFnExactCanAnswer.law

end Go.Proofs.Ytamoldckpoengaa.Pure
