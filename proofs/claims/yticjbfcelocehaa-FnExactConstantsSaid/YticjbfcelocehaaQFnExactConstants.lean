/- The plain law behind the statement FnExactConstants: what the Go functions' Lean forms come to. Written for this work; no condition. -/
import Derived.Test.YticjbfcelocehaaPFnExactConstantsx
import Derived.Test.YticjbfcelocehaaLib
set_option linter.unusedVariables false
set_option linter.unusedSimpArgs false
namespace Go.Proofs.Yticjbfcelocehaa.PFnExactConstants
open Go.RowKit Go.Proofs.YticjbfcelocehaaW.PrintWords Go.Proofs.YticjbfcelocehaaW.PrintLast Go.Proofs.YticjbfcelocehaaW.PrintMore Go.Proofs.Yticjbfcelocehaa.Lib

theorem law : laws_FnExactConstants.Pure := rfl

end Go.Proofs.Yticjbfcelocehaa.PFnExactConstants
