/- The pure statement of FnExactFalseFor, out of the plain law. Written for this work; no condition. -/
import Derived.Test.YtmmldpmchhchoaaQFnExactFalseFor
namespace Go.Proofs.Ytmmldpmchhchoaa.Pure
open Go.RowKit Go.Proofs.Ytmmldpmchhchoaa.PFnExactFalseFor Go.Proofs.YtmmldpmchhchoaaW.PrintWords Go.Proofs.YtmmldpmchhchoaaW.PrintLast

theorem FnExactFalseFor : laws_FnExactFalseFor.Pure := PFnExactFalseFor.law

end Go.Proofs.Ytmmldpmchhchoaa.Pure
