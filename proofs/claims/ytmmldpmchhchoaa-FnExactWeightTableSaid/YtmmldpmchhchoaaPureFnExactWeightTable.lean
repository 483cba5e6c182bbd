/- The pure statement of FnExactWeightTable, out of the plain law. Written for this work; no condition. -/
import Derived.Test.YtmmldpmchhchoaaQFnExactWeightTable
namespace Go.Proofs.Ytmmldpmchhchoaa.Pure
open Go.RowKit Go.Proofs.Ytmmldpmchhchoaa.PFnExactWeightTable Go.Proofs.YtmmldpmchhchoaaW.PrintWords Go.Proofs.YtmmldpmchhchoaaW.PrintLast

theorem FnExactWeightTable : laws_FnExactWeightTable.Pure := PFnExactWeightTable.law

end Go.Proofs.Ytmmldpmchhchoaa.Pure
