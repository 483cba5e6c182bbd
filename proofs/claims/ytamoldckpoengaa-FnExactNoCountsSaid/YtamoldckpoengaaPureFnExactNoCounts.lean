/- The pure statement of FnExactNoCounts, out of the plain law. Written for this work; no condition. -/
import Derived.Test.YtamoldckpoengaaQFnExactNoCounts
namespace Go.Proofs.Ytamoldckpoengaa.Pure
open Go.RowKit Go.Proofs.Ytamoldckpoengaa.PFnExactNoCounts Go.Proofs.YtamoldckpoengaaW.PrintWords Go.Proofs.YtamoldckpoengaaW.PrintLast

theorem FnExactNoCounts : laws_FnExactNoCounts.Pure := PFnExactNoCounts.law

end Go.Proofs.Ytamoldckpoengaa.Pure
