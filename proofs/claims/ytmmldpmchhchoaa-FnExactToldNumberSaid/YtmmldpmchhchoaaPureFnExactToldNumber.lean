/- The pure statement of FnExactToldNumber, out of the plain law. Written for this work; no condition. -/
import Derived.Test.YtmmldpmchhchoaaQFnExactToldNumber
namespace Go.Proofs.Ytmmldpmchhchoaa.Pure
open Go.RowKit Go.Proofs.Ytmmldpmchhchoaa.PFnExactToldNumber Go.Proofs.YtmmldpmchhchoaaW.PrintWords Go.Proofs.YtmmldpmchhchoaaW.PrintLast

theorem FnExactToldNumber : laws_FnExactToldNumber.Pure := PFnExactToldNumber.law

end Go.Proofs.Ytmmldpmchhchoaa.Pure
