/- The pure statement of FnExactTrueWord, out of the plain law. Written for this work; no condition. -/
import Derived.Test.YtmmldpmchhchoaaQFnExactTrueWord
namespace Go.Proofs.Ytmmldpmchhchoaa.Pure
open Go.RowKit Go.Proofs.Ytmmldpmchhchoaa.PFnExactTrueWord Go.Proofs.YtmmldpmchhchoaaW.PrintWords Go.Proofs.YtmmldpmchhchoaaW.PrintLast

theorem FnExactTrueWord : laws_FnExactTrueWord.Pure := PFnExactTrueWord.law

end Go.Proofs.Ytmmldpmchhchoaa.Pure
