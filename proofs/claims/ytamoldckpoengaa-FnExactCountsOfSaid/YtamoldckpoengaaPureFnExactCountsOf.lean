/- The pure statement of FnExactCountsOf, out of the plain law. Written for this work; no condition. -/
import Derived.Test.YtamoldckpoengaaQFnExactCountsOf
namespace Go.Proofs.Ytamoldckpoengaa.Pure
open Go.RowKit Go.Proofs.Ytamoldckpoengaa.PFnExactCountsOf Go.Proofs.YtamoldckpoengaaW.PrintWords Go.Proofs.YtamoldckpoengaaW.PrintLast

theorem FnExactCountsOf : laws_FnExactCountsOf.Pure := PFnExactCountsOf.law

end Go.Proofs.Ytamoldckpoengaa.Pure
