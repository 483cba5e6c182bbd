/- The Go functions' Lean forms, each with the proof that the function comes to what its form says: for one law, no condition. Written by a program for this work. -/
import Derived.Test.YtmckmagdiokhiaaPFnMadeSchemesx0
import Derived.Test.YtmckmagdiokhiaaPFnMadeSchemesx1
import Derived.Test.YtmckmagdiokhiaaPFnMadeSchemesx2
import Derived.Test.YtmckmagdiokhiaaPFnMadeSchemesx3
import Derived.Test.YtmckmagdiokhiaaPFnMadeSchemesx4
import Derived.Test.YtmckmagdiokhiaaPFnMadeSchemesx5
import Derived.Test.YtmckmagdiokhiaaPFnMadeSchemesx6
import Derived.Test.YtmckmagdiokhiaaPFnMadeSchemesx7
import Derived.Test.YtmckmagdiokhiaaPFnMadeSchemesx8
import Derived.Test.YtmckmagdiokhiaaPFnMadeSchemesx9
import Derived.Test.YtmckmagdiokhiaaPFnMadeSchemesx10
namespace Go.Proofs.Ytmckmagdiokhiaa.PFnMadeSchemes
open Go.RowKit Go.Proofs.YtmckmagdiokhiaaW.PrintWords Go.Proofs.YtmckmagdiokhiaaW.PrintLast Go.Proofs.YtmckmagdiokhiaaW.PrintMore
open Go.Proofs.Ytmckmagdiokhiaa.Lib
attribute [local go_sem] max2_int min2_int max_two min_two max_three min_three max_four min_four   -- for this text's walks alone
set_option linter.unusedVariables false
set_option linter.unusedSimpArgs false

end Go.Proofs.Ytmckmagdiokhiaa.PFnMadeSchemes
