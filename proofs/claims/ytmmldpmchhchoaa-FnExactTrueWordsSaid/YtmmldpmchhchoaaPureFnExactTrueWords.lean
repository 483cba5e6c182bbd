/- The pure statement of FnExactTrueWords, out of the plain law. Written for this work; no condition. -/
import Derived.Test.YtmmldpmchhchoaaQFnExactTrueWords
namespace Go.Proofs.Ytmmldpmchhchoaa.Pure
open Go.RowKit Go.Proofs.Ytmmldpmchhchoaa.PFnExactTrueWords Go.Proofs.YtmmldpmchhchoaaW.PrintWords Go.Proofs.YtmmldpmchhchoaaW.PrintLast

theorem FnExactTrueWords : laws_FnExactTrueWords.Pure := PFnExactTrueWords.law

end Go.Proofs.Ytmmldpmchhchoaa.Pure
