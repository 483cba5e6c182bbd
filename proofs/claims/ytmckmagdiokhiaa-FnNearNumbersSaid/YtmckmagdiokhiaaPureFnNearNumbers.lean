/- The pure statement of FnNearNumbers, out of the plain law. Written for this work; no condition. -/
import Derived.Test.YtmckmagdiokhiaaQFnNearNumbers
namespace Go.Proofs.Ytmckmagdiokhiaa.Pure
open Go.RowKit Go.Proofs.Ytmckmagdiokhiaa.PFnNearNumbers Go.Proofs.YtmckmagdiokhiaaW.PrintWords Go.Proofs.YtmckmagdiokhiaaW.PrintLast

theorem FnNearNumbers : laws_FnNearNumbers.Pure := PFnNearNumbers.law

end Go.Proofs.Ytmckmagdiokhiaa.Pure
