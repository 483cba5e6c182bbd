/- The pure statement of FnExactRoomOf, out of the plain law. Written for this work; no condition. -/
import Derived.Test.YtamoldckpoengaaQFnExactRoomOf
namespace Go.Proofs.Ytamoldckpoengaa.Pure
open Go.RowKit Go.Proofs.Ytamoldckpoengaa.PFnExactRoomOf Go.Proofs.YtamoldckpoengaaW.PrintWords Go.Proofs.YtamoldckpoengaaW.PrintLast

theorem FnExactRoomOf : laws_FnExactRoomOf.Pure := PFnExactRoomOf.law

end Go.Proofs.Ytamoldckpoengaa.Pure
