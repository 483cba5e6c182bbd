/- The pure statement of FnSchemes, out of the plain law. Written for this work; no condition. -/
import Derived.Test.YtmckmagdiokhiaaQFnSchemes
namespace Go.Proofs.Ytmckmagdiokhiaa.Pure
open Go.RowKit Go.Proofs.Ytmckmagdiokhiaa.PFnSchemes Go.Proofs.YtmckmagdiokhiaaW.PrintWords Go.Proofs.YtmckmagdiokhiaaW.PrintLast

theorem FnSchemes : laws_FnSchemes.Pure := PFnSchemes.law

end Go.Proofs.Ytmckmagdiokhiaa.Pure
