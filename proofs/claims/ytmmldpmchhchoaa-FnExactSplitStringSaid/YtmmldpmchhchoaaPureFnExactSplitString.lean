/- The pure statement of FnExactSplitString, out of the plain law. Written for this work; no condition. -/
import Derived.Test.YtmmldpmchhchoaaQFnExactSplitString
namespace Go.Proofs.Ytmmldpmchhchoaa.Pure
open Go.RowKit Go.Proofs.Ytmmldpmchhchoaa.PFnExactSplitString Go.Proofs.YtmmldpmchhchoaaW.PrintWords Go.Proofs.YtmmldpmchhchoaaW.PrintLast

theorem FnExactSplitString : laws_FnExactSplitString.Pure := PFnExactSplitString.law

end Go.Proofs.Ytmmldpmchhchoaa.Pure
