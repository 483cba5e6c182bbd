/- The Go functions' Lean forms, each with the proof that the function comes to what its form says: for one law, no condition. Written by a program for this work. -/
import Derived.Test.YtlholbpcmilcnaaDoorProg
import Derived.Below
import Derived.Deep.Draws
import Derived.Deep.AppendLies
import Derived.Maps.AppendAt
import Derived.OwnWalk
import Derived.Laws.BytesArg
import Derived.Laws.MakeOwn
import Derived.Laws.OwnMore
import Derived.Deep.OwnRows
import Derived.Tactics
import Derived.Lib.ConvBytes
import Derived.Laws.Slices
import Derived.WalkKit
import Derived.KernelRfl
import Derived.RowKit3
import Derived.Deep.LoopGhost
import Derived.Deep.QuietTactic
import Derived.BigQuiet
import Derived.WideLaws
import Derived.Deep.DeepCutAuto
import Derived.Deep.CutBlock
import Derived.Deep.RegionHeld3
import Derived.Laws.Rows
import Derived.Lib.AppendStr
import Derived.ArgAppend
import Derived.Laws.IdiomCopy
import Derived.OrdersHeld
import Derived.Laws.BitsLemmas
import Derived.RowKit
import Derived.Lib.SliceRun
import Derived.Test.YtlholbpcmilcnaaDoorShelf2
import Derived.Lib.AppendIntMem
import Derived.Lib.AtoiErrMem
import Derived.Test.YtlholbpcmilcnaaDoorLib
import Derived.Test.YtlholbpcmilcnaaDoorWWords
import Derived.Test.YtlholbpcmilcnaaDoorWLast
import Derived.Test.YtlholbpcmilcnaaDoorWTab
import Derived.Test.YtlholbpcmilcnaaDoorWFour
import Derived.Test.YtlholbpcmilcnaaDoorWQPut
import Derived.Test.YtlholbpcmilcnaaDoorWApart
import Derived.Test.YtlholbpcmilcnaaDoorWArr
import Derived.Test.YtlholbpcmilcnaaDoorWZeros
import Derived.Test.YtlholbpcmilcnaaDoorWFoot
import Derived.Test.YtlholbpcmilcnaaDoorWKept
import Derived.Test.YtlholbpcmilcnaaDoorWShare
import Derived.Test.YtlholbpcmilcnaaDoorWN
import Derived.Test.YtlholbpcmilcnaaDoorWFootNe
import Derived.Test.YtlholbpcmilcnaaDoorWAt
import Derived.Test.YtlholbpcmilcnaaDoorWEqStruct
import Derived.Test.YtlholbpcmilcnaaDoorWRepsOne
import Derived.Test.YtlholbpcmilcnaaDoorWInv
import Derived.Test.YtlholbpcmilcnaaDoorWInvWords
import Derived.Test.YtlholbpcmilcnaaDoorWGuard
import Derived.Test.YtlholbpcmilcnaaDoorWNEv
import Derived.Test.YtlholbpcmilcnaaDoorWMore
namespace Go.Proofs.YtlholbpcmilcnaaDoor.PFnExactParseInt
open Go.RowKit Go.Proofs.YtlholbpcmilcnaaDoorW.PrintWords Go.Proofs.YtlholbpcmilcnaaDoorW.PrintLast Go.Proofs.YtlholbpcmilcnaaDoorW.PrintMore
open Go.Proofs.YtlholbpcmilcnaaDoor.Lib
attribute [local go_sem] max2_int min2_int max_two min_two max_three min_three max_four min_four   -- for this text's walks alone
set_option linter.unusedVariables false
set_option linter.unusedSimpArgs false



def errW : Option Int → Value
  | none => .nilIface
  | some c => .iface 65 (.int .i64 c)
theorem errW_none : errW none = .nilIface := rfl
theorem errW_some (c : Int) : errW (some c) = .iface 65 (.int .i64 c) := rfl

-- the values' own types

end Go.Proofs.YtlholbpcmilcnaaDoor.PFnExactParseInt
