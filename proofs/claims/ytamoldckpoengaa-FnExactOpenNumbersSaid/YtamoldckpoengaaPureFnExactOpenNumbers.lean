/- The pure statement of FnExactOpenNumbers, out of the plain law. Written for this work; no condition. -/
import Derived.Test.YtamoldckpoengaaQFnExactOpenNumbers
namespace Go.Proofs.Ytamoldckpoengaa.Pure
open Go.RowKit Go.Proofs.Ytamoldckpoengaa.PFnExactOpenNumbers Go.Proofs.YtamoldckpoengaaW.PrintWords Go.Proofs.YtamoldckpoengaaW.PrintLast

theorem FnExactOpenNumbers : laws_FnExactOpenNumbers.Pure := PFnExactOpenNumbers.law

end Go.Proofs.Ytamoldckpoengaa.Pure
