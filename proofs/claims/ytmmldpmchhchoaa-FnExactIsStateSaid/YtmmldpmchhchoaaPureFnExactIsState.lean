/- The pure statement of FnExactIsState, out of the plain law. Written for this work; no condition. -/
import Derived.Test.YtmmldpmchhchoaaQFnExactIsState
namespace Go.Proofs.Ytmmldpmchhchoaa.Pure
open Go.RowKit Go.Proofs.Ytmmldpmchhchoaa.PFnExactIsState Go.Proofs.YtmmldpmchhchoaaW.PrintWords Go.Proofs.YtmmldpmchhchoaaW.PrintLast

theorem FnExactIsState : laws_FnExactIsState.Pure := PFnExactIsState.law

end Go.Proofs.Ytmmldpmchhchoaa.Pure
