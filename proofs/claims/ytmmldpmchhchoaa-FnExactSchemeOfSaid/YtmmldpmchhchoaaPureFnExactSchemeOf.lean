/- The pure statement of FnExactSchemeOf, out of the plain law. Written for this work; no condition. -/
import Derived.Test.YtmmldpmchhchoaaQFnExactSchemeOf
namespace Go.Proofs.Ytmmldpmchhchoaa.Pure
open Go.RowKit Go.Proofs.Ytmmldpmchhchoaa.PFnExactSchemeOf Go.Proofs.YtmmldpmchhchoaaW.PrintWords Go.Proofs.YtmmldpmchhchoaaW.PrintLast

theorem FnExactSchemeOf : laws_FnExactSchemeOf.Pure := PFnExactSchemeOf.law

end Go.Proofs.Ytmmldpmchhchoaa.Pure
