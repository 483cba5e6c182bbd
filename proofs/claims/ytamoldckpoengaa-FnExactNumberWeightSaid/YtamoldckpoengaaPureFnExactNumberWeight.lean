/- The pure statement of FnExactNumberWeight, out of the plain law. Written for this work; no condition. -/
import Derived.Test.YtamoldckpoengaaQFnExactNumberWeight
namespace Go.Proofs.Ytamoldckpoengaa.Pure
open Go.RowKit Go.Proofs.Ytamoldckpoengaa.PFnExactNumberWeight Go.Proofs.YtamoldckpoengaaW.PrintWords Go.Proofs.YtamoldckpoengaaW.PrintLast

theorem FnExactNumberWeight : laws_FnExactNumberWeight.Pure := PFnExactNumberWeight.law

end Go.Proofs.Ytamoldckpoengaa.Pure
