/- The pure statement of FnExactBoundOf, out of the plain law. Written for this work; no condition. -/
import Derived.Test.YtamoldckpoengaaQFnExactBoundOf
namespace Go.Proofs.Ytamoldckpoengaa.Pure
open Go.RowKit Go.Proofs.Ytamoldckpoengaa.PFnExactBoundOf Go.Proofs.YtamoldckpoengaaW.PrintWords Go.Proofs.YtamoldckpoengaaW.PrintLast

theorem FnExactBoundOf : laws_FnExactBoundOf.Pure := PFnExactBoundOf.law

end Go.Proofs.Ytamoldckpoengaa.Pure
