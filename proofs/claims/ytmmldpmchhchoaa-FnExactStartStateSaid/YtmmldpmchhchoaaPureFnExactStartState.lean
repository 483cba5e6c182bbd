/- The pure statement of FnExactStartState, out of the plain law. Written for this work; no condition. -/
import Derived.Test.YtmmldpmchhchoaaQFnExactStartState
namespace Go.Proofs.Ytmmldpmchhchoaa.Pure
open Go.RowKit Go.Proofs.Ytmmldpmchhchoaa.PFnExactStartState Go.Proofs.YtmmldpmchhchoaaW.PrintWords Go.Proofs.YtmmldpmchhchoaaW.PrintLast

theorem FnExactStartState : laws_FnExactStartState.Pure := PFnExactStartState.law

end Go.Proofs.Ytmmldpmchhchoaa.Pure
