/- The pure statement of FnExactOpenSpan, out of the plain law. Written for this work; no condition. -/
import Derived.Test.YtmmldpmchhchoaaQFnExactOpenSpan
namespace Go.Proofs.Ytmmldpmchhchoaa.Pure
open Go.RowKit Go.Proofs.Ytmmldpmchhchoaa.PFnExactOpenSpan Go.Proofs.YtmmldpmchhchoaaW.PrintWords Go.Proofs.YtmmldpmchhchoaaW.PrintLast

theorem FnExactOpenSpan : laws_FnExactOpenSpan.Pure := PFnExactOpenSpan.law

end Go.Proofs.Ytmmldpmchhchoaa.Pure
