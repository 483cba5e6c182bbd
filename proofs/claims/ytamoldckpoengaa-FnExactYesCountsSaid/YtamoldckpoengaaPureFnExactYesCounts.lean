/- The pure statement of FnExactYesCounts, out of the plain law. Written for this work; no condition. -/
import Derived.Test.YtamoldckpoengaaQFnExactYesCounts
namespace Go.Proofs.Ytamoldckpoengaa.Pure
open Go.RowKit Go.Proofs.Ytamoldckpoengaa.PFnExactYesCounts Go.Proofs.YtamoldckpoengaaW.PrintWords Go.Proofs.YtamoldckpoengaaW.PrintLast

theorem FnExactYesCounts : laws_FnExactYesCounts.Pure := PFnExactYesCounts.law

end Go.Proofs.Ytamoldckpoengaa.Pure
