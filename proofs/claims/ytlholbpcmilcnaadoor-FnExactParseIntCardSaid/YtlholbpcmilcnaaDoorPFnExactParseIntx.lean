/- The Go functions' Lean forms, each with the proof that the function comes to what its form says: for one law, no condition. Written by a program for this work. -/
import Derived.Test.YtlholbpcmilcnaaDoorPFnExactParseIntx0
import Derived.Test.YtlholbpcmilcnaaDoorPFnExactParseIntx1
import Derived.Test.YtlholbpcmilcnaaDoorPFnExactParseIntx2
namespace Go.Proofs.YtlholbpcmilcnaaDoor.PFnExactParseInt
open Go.RowKit Go.Proofs.YtlholbpcmilcnaaDoorW.PrintWords Go.Proofs.YtlholbpcmilcnaaDoorW.PrintLast Go.Proofs.YtlholbpcmilcnaaDoorW.PrintMore
open Go.Proofs.YtlholbpcmilcnaaDoor.Lib
attribute [local go_sem] max2_int min2_int max_two min_two max_three min_three max_four min_four   -- for this text's walks alone
set_option linter.unusedVariables false
set_option linter.unusedSimpArgs false

end Go.Proofs.YtlholbpcmilcnaaDoor.PFnExactParseInt
