/- The pure statement of FnExactStateWeight, out of the plain law. Written for this work; no condition. -/
import Derived.Test.YtamoldckpoengaaQFnExactStateWeight
namespace Go.Proofs.Ytamoldckpoengaa.Pure
open Go.RowKit Go.Proofs.Ytamoldckpoengaa.PFnExactStateWeight Go.Proofs.YtamoldckpoengaaW.PrintWords Go.Proofs.YtamoldckpoengaaW.PrintLast

theorem FnExactStateWeight : laws_FnExactStateWeight.Pure := PFnExactStateWeight.law

end Go.Proofs.Ytamoldckpoengaa.Pure
