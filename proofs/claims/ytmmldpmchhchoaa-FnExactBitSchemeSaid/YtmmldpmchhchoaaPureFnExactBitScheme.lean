/- The pure statement of FnExactBitScheme, out of the plain law. Written for this work; no condition. -/
import Derived.Test.YtmmldpmchhchoaaQFnExactBitScheme
namespace Go.Proofs.Ytmmldpmchhchoaa.Pure
open Go.RowKit Go.Proofs.Ytmmldpmchhchoaa.PFnExactBitScheme Go.Proofs.YtmmldpmchhchoaaW.PrintWords Go.Proofs.YtmmldpmchhchoaaW.PrintLast

theorem FnExactBitScheme : laws_FnExactBitScheme.Pure := PFnExactBitScheme.law

end Go.Proofs.Ytmmldpmchhchoaa.Pure
