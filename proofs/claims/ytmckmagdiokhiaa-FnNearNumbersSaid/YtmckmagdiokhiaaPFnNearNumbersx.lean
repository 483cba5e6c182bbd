/- The Go functions' Lean forms, each with the proof that the function comes to what its form says: for one law, no condition. Written by a program for this work. -/
import Derived.Test.YtmckmagdiokhiaaPFnNearNumbersx0
import Derived.Test.YtmckmagdiokhiaaPFnNearNumbersx1
import Derived.Test.YtmckmagdiokhiaaPFnNearNumbersx2
import Derived.Test.YtmckmagdiokhiaaPFnNearNumbersx3
import Derived.Test.YtmckmagdiokhiaaPFnNearNumbersx4
import Derived.Test.YtmckmagdiokhiaaPFnNearNumbersx5
import Derived.Test.YtmckmagdiokhiaaPFnNearNumbersx6
import Derived.Test.YtmckmagdiokhiaaPFnNearNumbersx7
import Derived.Test.YtmckmagdiokhiaaPFnNearNumbersx8
import Derived.Test.YtmckmagdiokhiaaPFnNearNumbersx9
namespace Go.Proofs.Ytmckmagdiokhiaa.PFnNearNumbers
open Go.RowKit Go.Proofs.YtmckmagdiokhiaaW.PrintWords Go.Proofs.YtmckmagdiokhiaaW.PrintLast Go.Proofs.YtmckmagdiokhiaaW.PrintMore
open Go.Proofs.Ytmckmagdiokhiaa.Lib
attribute [local go_sem] max2_int min2_int max_two min_two max_three min_three max_four min_four   -- for this text's walks alone
set_option linter.unusedVariables false
set_option linter.unusedSimpArgs false

end Go.Proofs.Ytmckmagdiokhiaa.PFnNearNumbers
