/- The Go functions' Lean forms, each with the proof that the function comes to what its form says: for one law, no condition. Written by a program for this work. -/
import Derived.Test.YtmckmagdiokhiaaPFnSchemesx0
import Derived.Test.YtmckmagdiokhiaaPFnSchemesx1
import Derived.Test.YtmckmagdiokhiaaPFnSchemesx2
import Derived.Test.YtmckmagdiokhiaaPFnSchemesx3
import Derived.Test.YtmckmagdiokhiaaPFnSchemesx4
import Derived.Test.YtmckmagdiokhiaaPFnSchemesx5
import Derived.Test.YtmckmagdiokhiaaPFnSchemesx6
import Derived.Test.YtmckmagdiokhiaaPFnSchemesx7
import Derived.Test.YtmckmagdiokhiaaPFnSchemesx8
import Derived.Test.YtmckmagdiokhiaaPFnSchemesx9
import Derived.Test.YtmckmagdiokhiaaPFnSchemesx10
import Derived.Test.YtmckmagdiokhiaaPFnSchemesx11
namespace Go.Proofs.Ytmckmagdiokhiaa.PFnSchemes
open Go.RowKit Go.Proofs.YtmckmagdiokhiaaW.PrintWords Go.Proofs.YtmckmagdiokhiaaW.PrintLast Go.Proofs.YtmckmagdiokhiaaW.PrintMore
open Go.Proofs.Ytmckmagdiokhiaa.Lib
attribute [local go_sem] max2_int min2_int max_two min_two max_three min_three max_four min_four   -- for this text's walks alone
set_option linter.unusedVariables false
set_option linter.unusedSimpArgs false

end Go.Proofs.Ytmckmagdiokhiaa.PFnSchemes
