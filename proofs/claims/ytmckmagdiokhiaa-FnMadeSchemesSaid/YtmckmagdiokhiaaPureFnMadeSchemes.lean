/- The pure statement of FnMadeSchemes, out of the plain law. Written for this work; no condition. -/
import Derived.Test.YtmckmagdiokhiaaQFnMadeSchemes
namespace Go.Proofs.Ytmckmagdiokhiaa.Pure
open Go.RowKit Go.Proofs.Ytmckmagdiokhiaa.PFnMadeSchemes Go.Proofs.YtmckmagdiokhiaaW.PrintWords Go.Proofs.YtmckmagdiokhiaaW.PrintLast

theorem FnMadeSchemes : laws_FnMadeSchemes.Pure := PFnMadeSchemes.law

end Go.Proofs.Ytmckmagdiokhiaa.Pure
