/- The pure statement of FnExactDropFixed, out of the plain law. Written for this work; no condition. -/
import Derived.Test.YtmmldpmchhchoaaQFnExactDropFixed
namespace Go.Proofs.Ytmmldpmchhchoaa.Pure
open Go.RowKit Go.Proofs.Ytmmldpmchhchoaa.PFnExactDropFixed Go.Proofs.YtmmldpmchhchoaaW.PrintWords Go.Proofs.YtmmldpmchhchoaaW.PrintLast

theorem FnExactDropFixed : laws_FnExactDropFixed.Pure := PFnExactDropFixed.law

end Go.Proofs.Ytmmldpmchhchoaa.Pure
