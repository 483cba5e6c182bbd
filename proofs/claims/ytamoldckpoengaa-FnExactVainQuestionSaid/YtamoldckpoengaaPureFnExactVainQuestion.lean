/- The pure statement of FnExactVainQuestion, out of the plain law. Written for this work; no condition. -/
import Derived.Test.YtamoldckpoengaaQFnExactVainQuestion
namespace Go.Proofs.Ytamoldckpoengaa.Pure
open Go.RowKit Go.Proofs.Ytamoldckpoengaa.PFnExactVainQuestion Go.Proofs.YtamoldckpoengaaW.PrintWords Go.Proofs.YtamoldckpoengaaW.PrintLast

theorem FnExactVainQuestion : laws_FnExactVainQuestion.Pure := PFnExactVainQuestion.law

end Go.Proofs.Ytamoldckpoengaa.Pure
