/- The Go functions' Lean forms, each with the proof that the function comes to what its form says: for one law, no condition. Written by a program for this work. -/
import Derived.Test.YticjbfcelocehaaProg
import Derived.Below
import Derived.Deep.Draws
import Derived.Deep.AppendLies
import Derived.Maps.AppendAt
import Derived.OwnWalk
import Derived.Laws.BytesArg
import Derived.Laws.MakeOwn
import Derived.Laws.OwnMore
import Derived.Deep.OwnRows
import Derived.Tactics
import Derived.Lib.ConvBytes
import Derived.Laws.Slices
import Derived.WalkKit
import Derived.KernelRfl
import Derived.RowKit3
import Derived.Deep.LoopGhost
import Derived.Deep.QuietTactic
import Derived.BigQuiet
import Derived.WideLaws
import Derived.Deep.DeepCutAuto
import Derived.Deep.CutBlock
import Derived.Deep.RegionHeld3
import Derived.Laws.Rows
import Derived.Lib.AppendStr
import Derived.ArgAppend
import Derived.Laws.IdiomCopy
import Derived.OrdersHeld
import Derived.Laws.BitsLemmas
import Derived.RowKit
import Derived.Lib.SliceRun
import Derived.Test.YticjbfcelocehaaLib
import Derived.Test.YticjbfcelocehaaWWords
import Derived.Test.YticjbfcelocehaaWLast
import Derived.Test.YticjbfcelocehaaWTab
import Derived.Test.YticjbfcelocehaaWFour
import Derived.Test.YticjbfcelocehaaWQPut
import Derived.Test.YticjbfcelocehaaWApart
import Derived.Test.YticjbfcelocehaaWArr
import Derived.Test.YticjbfcelocehaaWZeros
import Derived.Test.YticjbfcelocehaaWFoot
import Derived.Test.YticjbfcelocehaaWKept
import Derived.Test.YticjbfcelocehaaWShare
import Derived.Test.YticjbfcelocehaaWN
import Derived.Test.YticjbfcelocehaaWFootNe
import Derived.Test.YticjbfcelocehaaWAt
import Derived.Test.YticjbfcelocehaaWEqStruct
import Derived.Test.YticjbfcelocehaaWRepsOne
import Derived.Test.YticjbfcelocehaaWInv
import Derived.Test.YticjbfcelocehaaWInvWords
import Derived.Test.YticjbfcelocehaaWGuard
import Derived.Test.YticjbfcelocehaaWNEv
import Derived.Test.YticjbfcelocehaaWMore
namespace Go.Proofs.Yticjbfcelocehaa.PFnExactMostByWeight
open Go.RowKit Go.Proofs.YticjbfcelocehaaW.PrintWords Go.Proofs.YticjbfcelocehaaW.PrintLast Go.Proofs.YticjbfcelocehaaW.PrintMore
open Go.Proofs.Yticjbfcelocehaa.Lib
attribute [local go_sem] max2_int min2_int max_two min_two max_three min_three max_four min_four   -- for this text's walks alone
set_option linter.unusedVariables false
set_option linter.unusedSimpArgs false



def errW : Option Int → Value
  | none => .nilIface
  | some c => .iface 0 (.int .i64 c)
theorem errW_none : errW none = .nilIface := rfl
theorem errW_some (c : Int) : errW (some c) = .iface 0 (.int .i64 c) := rfl

-- the values' own types

end Go.Proofs.Yticjbfcelocehaa.PFnExactMostByWeight
