/-
  No cell of these rows narrows 'for every input' (looked for: loops, veiled, ifaces, maps, wideKeys, modest, calm, conditions, laid).
  DERIVED. THE GIVEN ROWS OF THIS SEAT. 12 by the template 'for every input the law returns true; each argument reads behind the call as it read before'; 0 by the template 'total and deterministic' (their statements: YtlmcoaencmfdfaaTotals.lean).
  GIVEN WITH THE SEED: the statements are not yours to turn. If you find one false, say at which input.
  Laid BY PROGRAM, IN A SANDBOX (cutbox-rows.mjs): the forced cells as the released guide's own fill.sh prints them over the translation a5b461557fd61be8… (all of the seat's roots in one cut). By AI agents, Wed Nov 11 2026. No macro, syntax, notation, axiom, sorry.
-/
import Derived.Test.YtlmcoaencmfdfaaChecked
import GoSem.Claim
import GoSem.ClaimJoined
import GoSem.ClaimMapViews
import Derived.JoinedTies
import Derived.KernelRfl
namespace Go.Proofs.Ytlmcoaencmfdfaa
/- THE CELL 'sum', in the pinned program and in every row, IS THE sha256 OF THE DUMP (.gsa) THAT YtlmcoaencmfdfaaProg.lean LOADS. Nothing in Lean hashes anything: it is a label: what it is worth is what the hold of that sum in a sandbox is worth. -/
noncomputable def Try.pinned : Pinned := { name := "ytlmcoaencmfdfaa", sum := "a5b461557fd61be853469efb12908e2021b10d590b2ce2670c7fb07f81c86365", checked := Try.checked }
namespace Rows
def none {H : Type} : Left H := { results := [], args := [] }

/-- 'laws.FnExactGapOf': WHATEVER THE INPUT: true; the input reads as it did. -/
def fnExactGapOfSpec : ChangeSpec := { name := "fnExactGapOf", fn := fun _ => fun
  | [d1, d2] => { results := [.lit (.bool true)], args := [d1, d2] }
  | _ => none }
def fnExactGapOfRow : OpenClaim := { program := "ytlmcoaencmfdfaa", sum := "a5b461557fd61be853469efb12908e2021b10d590b2ce2670c7fb07f81c86365", func := "loop.example/g01269/laws.FnExactGapOf", spec := "fnExactGapOf", unfollowed := true, recurses := true, apart := false }
def FnExactGapOfSaid : Prop := fnExactGapOfRow.holds Try.pinned (OpenSpec.ofChange fnExactGapOfSpec)

/-- ITS FALSE NEIGHBOUR: 'it returns false'. Refute it at one input. -/
def fnExactGapOfWrong : ChangeSpec := { name := "fnExactGapOf", fn := fun _ => fun
  | [d1, d2] => { results := [.lit (.bool false)], args := [d1, d2] }
  | _ => none }
def FnExactGapOfWrongFalsely : Prop := fnExactGapOfRow.holds Try.pinned (OpenSpec.ofChange fnExactGapOfWrong)

/-- 'laws.FnExactUsefulLess': WHATEVER THE INPUT: true; the input reads as it did. -/
def fnExactUsefulLessSpec : ChangeSpec := { name := "fnExactUsefulLess", fn := fun _ => fun
  | [d] => { results := [.lit (.bool true)], args := [d] }
  | _ => none }
def fnExactUsefulLessRow : OpenClaim := { program := "ytlmcoaencmfdfaa", sum := "a5b461557fd61be853469efb12908e2021b10d590b2ce2670c7fb07f81c86365", func := "loop.example/g01269/laws.FnExactUsefulLess", spec := "fnExactUsefulLess", unfollowed := true, recurses := true, apart := false }
def FnExactUsefulLessSaid : Prop := fnExactUsefulLessRow.holds Try.pinned (OpenSpec.ofChange fnExactUsefulLessSpec)

/-- ITS FALSE NEIGHBOUR: 'it returns false'. Refute it at one input. -/
def fnExactUsefulLessWrong : ChangeSpec := { name := "fnExactUsefulLess", fn := fun _ => fun
  | [d] => { results := [.lit (.bool false)], args := [d] }
  | _ => none }
def FnExactUsefulLessWrongFalsely : Prop := fnExactUsefulLessRow.holds Try.pinned (OpenSpec.ofChange fnExactUsefulLessWrong)

/-- 'laws.FnExactGreedyScheme': WHATEVER THE INPUT: true; the input reads as it did. -/
def fnExactGreedySchemeSpec : ChangeSpec := { name := "fnExactGreedyScheme", fn := fun _ => fun
  | [d1, d2] => { results := [.lit (.bool true)], args := [d1, d2] }
  | _ => none }
def fnExactGreedySchemeRow : OpenClaim := { program := "ytlmcoaencmfdfaa", sum := "a5b461557fd61be853469efb12908e2021b10d590b2ce2670c7fb07f81c86365", func := "loop.example/g01269/laws.FnExactGreedyScheme", spec := "fnExactGreedyScheme", unfollowed := true, recurses := true, apart := false }
def FnExactGreedySchemeSaid : Prop := fnExactGreedySchemeRow.holds Try.pinned (OpenSpec.ofChange fnExactGreedySchemeSpec)

/-- ITS FALSE NEIGHBOUR: 'it returns false'. Refute it at one input. -/
def fnExactGreedySchemeWrong : ChangeSpec := { name := "fnExactGreedyScheme", fn := fun _ => fun
  | [d1, d2] => { results := [.lit (.bool false)], args := [d1, d2] }
  | _ => none }
def FnExactGreedySchemeWrongFalsely : Prop := fnExactGreedySchemeRow.holds Try.pinned (OpenSpec.ofChange fnExactGreedySchemeWrong)

/-- 'laws.FnExactAnswerState': WHATEVER THE INPUT: true; the input reads as it did. -/
def fnExactAnswerStateSpec : ChangeSpec := { name := "fnExactAnswerState", fn := fun _ => fun
  | [d1, d2] => { results := [.lit (.bool true)], args := [d1, d2] }
  | _ => none }
def fnExactAnswerStateRow : OpenClaim := { program := "ytlmcoaencmfdfaa", sum := "a5b461557fd61be853469efb12908e2021b10d590b2ce2670c7fb07f81c86365", func := "loop.example/g01269/laws.FnExactAnswerState", spec := "fnExactAnswerState", unfollowed := true, recurses := true, apart := false }
def FnExactAnswerStateSaid : Prop := fnExactAnswerStateRow.holds Try.pinned (OpenSpec.ofChange fnExactAnswerStateSpec)

/-- ITS FALSE NEIGHBOUR: 'it returns false'. Refute it at one input. -/
def fnExactAnswerStateWrong : ChangeSpec := { name := "fnExactAnswerState", fn := fun _ => fun
  | [d1, d2] => { results := [.lit (.bool false)], args := [d1, d2] }
  | _ => none }
def FnExactAnswerStateWrongFalsely : Prop := fnExactAnswerStateRow.holds Try.pinned (OpenSpec.ofChange fnExactAnswerStateWrong)

/-- 'laws.FnExactCountUntold': WHATEVER THE INPUT: true; the input reads as it did. -/
def fnExactCountUntoldSpec : ChangeSpec := { name := "fnExactCountUntold", fn := fun _ => fun
  | [d1, d2, d3] => { results := [.lit (.bool true)], args := [d1, d2, d3] }
  | _ => none }
def fnExactCountUntoldRow : OpenClaim := { program := "ytlmcoaencmfdfaa", sum := "a5b461557fd61be853469efb12908e2021b10d590b2ce2670c7fb07f81c86365", func := "loop.example/g01269/laws.FnExactCountUntold", spec := "fnExactCountUntold", unfollowed := true, recurses := true, apart := false }
def FnExactCountUntoldSaid : Prop := fnExactCountUntoldRow.holds Try.pinned (OpenSpec.ofChange fnExactCountUntoldSpec)

/-- ITS FALSE NEIGHBOUR: 'it returns false'. Refute it at one input. -/
def fnExactCountUntoldWrong : ChangeSpec := { name := "fnExactCountUntold", fn := fun _ => fun
  | [d1, d2, d3] => { results := [.lit (.bool false)], args := [d1, d2, d3] }
  | _ => none }
def FnExactCountUntoldWrongFalsely : Prop := fnExactCountUntoldRow.holds Try.pinned (OpenSpec.ofChange fnExactCountUntoldWrong)

/-- 'laws.FnExactFewestFalse': WHATEVER THE INPUT: true; the input reads as it did. -/
def fnExactFewestFalseSpec : ChangeSpec := { name := "fnExactFewestFalse", fn := fun _ => fun
  | [d1, d2] => { results := [.lit (.bool true)], args := [d1, d2] }
  | _ => none }
def fnExactFewestFalseRow : OpenClaim := { program := "ytlmcoaencmfdfaa", sum := "a5b461557fd61be853469efb12908e2021b10d590b2ce2670c7fb07f81c86365", func := "loop.example/g01269/laws.FnExactFewestFalse", spec := "fnExactFewestFalse", unfollowed := true, recurses := true, apart := false }
def FnExactFewestFalseSaid : Prop := fnExactFewestFalseRow.holds Try.pinned (OpenSpec.ofChange fnExactFewestFalseSpec)

/-- ITS FALSE NEIGHBOUR: 'it returns false'. Refute it at one input. -/
def fnExactFewestFalseWrong : ChangeSpec := { name := "fnExactFewestFalse", fn := fun _ => fun
  | [d1, d2] => { results := [.lit (.bool false)], args := [d1, d2] }
  | _ => none }
def FnExactFewestFalseWrongFalsely : Prop := fnExactFewestFalseRow.holds Try.pinned (OpenSpec.ofChange fnExactFewestFalseWrong)

/-- 'laws.FnExactIsSafe': WHATEVER THE INPUT: true; the input reads as it did. -/
def fnExactIsSafeSpec : ChangeSpec := { name := "fnExactIsSafe", fn := fun _ => fun
  | [d1, d2, d3] => { results := [.lit (.bool true)], args := [d1, d2, d3] }
  | _ => none }
def fnExactIsSafeRow : OpenClaim := { program := "ytlmcoaencmfdfaa", sum := "a5b461557fd61be853469efb12908e2021b10d590b2ce2670c7fb07f81c86365", func := "loop.example/g01269/laws.FnExactIsSafe", spec := "fnExactIsSafe", unfollowed := true, recurses := true, apart := false }
def FnExactIsSafeSaid : Prop := fnExactIsSafeRow.holds Try.pinned (OpenSpec.ofChange fnExactIsSafeSpec)

/-- ITS FALSE NEIGHBOUR: 'it returns false'. Refute it at one input. -/
def fnExactIsSafeWrong : ChangeSpec := { name := "fnExactIsSafe", fn := fun _ => fun
  | [d1, d2, d3] => { results := [.lit (.bool false)], args := [d1, d2, d3] }
  | _ => none }
def FnExactIsSafeWrongFalsely : Prop := fnExactIsSafeRow.holds Try.pinned (OpenSpec.ofChange fnExactIsSafeWrong)

/-- 'laws.FnExactFitNumbers': WHATEVER THE INPUT: true; the input reads as it did. -/
def fnExactFitNumbersSpec : ChangeSpec := { name := "fnExactFitNumbers", fn := fun _ => fun
  | [d1, d2, d3, d4] => { results := [.lit (.bool true)], args := [d1, d2, d3, d4] }
  | _ => none }
def fnExactFitNumbersRow : OpenClaim := { program := "ytlmcoaencmfdfaa", sum := "a5b461557fd61be853469efb12908e2021b10d590b2ce2670c7fb07f81c86365", func := "loop.example/g01269/laws.FnExactFitNumbers", spec := "fnExactFitNumbers", unfollowed := true, recurses := true, apart := false }
def FnExactFitNumbersSaid : Prop := fnExactFitNumbersRow.holds Try.pinned (OpenSpec.ofChange fnExactFitNumbersSpec)

/-- ITS FALSE NEIGHBOUR: 'it returns false'. Refute it at one input. -/
def fnExactFitNumbersWrong : ChangeSpec := { name := "fnExactFitNumbers", fn := fun _ => fun
  | [d1, d2, d3, d4] => { results := [.lit (.bool false)], args := [d1, d2, d3, d4] }
  | _ => none }
def FnExactFitNumbersWrongFalsely : Prop := fnExactFitNumbersRow.holds Try.pinned (OpenSpec.ofChange fnExactFitNumbersWrong)

/-- 'laws.FnExactNearNumbers': WHATEVER THE INPUT: true; the input reads as it did. -/
def fnExactNearNumbersSpec : ChangeSpec := { name := "fnExactNearNumbers", fn := fun _ => fun
  | [d1, d2, d3] => { results := [.lit (.bool true)], args := [d1, d2, d3] }
  | _ => none }
def fnExactNearNumbersRow : OpenClaim := { program := "ytlmcoaencmfdfaa", sum := "a5b461557fd61be853469efb12908e2021b10d590b2ce2670c7fb07f81c86365", func := "loop.example/g01269/laws.FnExactNearNumbers", spec := "fnExactNearNumbers", unfollowed := true, recurses := true, apart := false }
def FnExactNearNumbersSaid : Prop := fnExactNearNumbersRow.holds Try.pinned (OpenSpec.ofChange fnExactNearNumbersSpec)

/-- ITS FALSE NEIGHBOUR: 'it returns false'. Refute it at one input. -/
def fnExactNearNumbersWrong : ChangeSpec := { name := "fnExactNearNumbers", fn := fun _ => fun
  | [d1, d2, d3] => { results := [.lit (.bool false)], args := [d1, d2, d3] }
  | _ => none }
def FnExactNearNumbersWrongFalsely : Prop := fnExactNearNumbersRow.holds Try.pinned (OpenSpec.ofChange fnExactNearNumbersWrong)

/-- 'laws.FnExactAnswerAll': WHATEVER THE INPUT: true; the input reads as it did. -/
def fnExactAnswerAllSpec : ChangeSpec := { name := "fnExactAnswerAll", fn := fun _ => fun
  | [d1, d2, d3] => { results := [.lit (.bool true)], args := [d1, d2, d3] }
  | _ => none }
def fnExactAnswerAllRow : OpenClaim := { program := "ytlmcoaencmfdfaa", sum := "a5b461557fd61be853469efb12908e2021b10d590b2ce2670c7fb07f81c86365", func := "loop.example/g01269/laws.FnExactAnswerAll", spec := "fnExactAnswerAll", unfollowed := true, recurses := true, apart := false }
def FnExactAnswerAllSaid : Prop := fnExactAnswerAllRow.holds Try.pinned (OpenSpec.ofChange fnExactAnswerAllSpec)

/-- ITS FALSE NEIGHBOUR: 'it returns false'. Refute it at one input. -/
def fnExactAnswerAllWrong : ChangeSpec := { name := "fnExactAnswerAll", fn := fun _ => fun
  | [d1, d2, d3] => { results := [.lit (.bool false)], args := [d1, d2, d3] }
  | _ => none }
def FnExactAnswerAllWrongFalsely : Prop := fnExactAnswerAllRow.holds Try.pinned (OpenSpec.ofChange fnExactAnswerAllWrong)

/-- 'laws.FnExactAnswerWeights': WHATEVER THE INPUT: true; the input reads as it did. -/
def fnExactAnswerWeightsSpec : ChangeSpec := { name := "fnExactAnswerWeights", fn := fun _ => fun
  | [d1, d2, d3] => { results := [.lit (.bool true)], args := [d1, d2, d3] }
  | _ => none }
def fnExactAnswerWeightsRow : OpenClaim := { program := "ytlmcoaencmfdfaa", sum := "a5b461557fd61be853469efb12908e2021b10d590b2ce2670c7fb07f81c86365", func := "loop.example/g01269/laws.FnExactAnswerWeights", spec := "fnExactAnswerWeights", unfollowed := true, recurses := true, apart := false }
def FnExactAnswerWeightsSaid : Prop := fnExactAnswerWeightsRow.holds Try.pinned (OpenSpec.ofChange fnExactAnswerWeightsSpec)

/-- ITS FALSE NEIGHBOUR: 'it returns false'. Refute it at one input. -/
def fnExactAnswerWeightsWrong : ChangeSpec := { name := "fnExactAnswerWeights", fn := fun _ => fun
  | [d1, d2, d3] => { results := [.lit (.bool false)], args := [d1, d2, d3] }
  | _ => none }
def FnExactAnswerWeightsWrongFalsely : Prop := fnExactAnswerWeightsRow.holds Try.pinned (OpenSpec.ofChange fnExactAnswerWeightsWrong)

/-- 'laws.FnExactIsBalanced': WHATEVER THE INPUT: true; the input reads as it did. -/
def fnExactIsBalancedSpec : ChangeSpec := { name := "fnExactIsBalanced", fn := fun _ => fun
  | [d1, d2, d3] => { results := [.lit (.bool true)], args := [d1, d2, d3] }
  | _ => none }
def fnExactIsBalancedRow : OpenClaim := { program := "ytlmcoaencmfdfaa", sum := "a5b461557fd61be853469efb12908e2021b10d590b2ce2670c7fb07f81c86365", func := "loop.example/g01269/laws.FnExactIsBalanced", spec := "fnExactIsBalanced", unfollowed := true, recurses := true, apart := false }
def FnExactIsBalancedSaid : Prop := fnExactIsBalancedRow.holds Try.pinned (OpenSpec.ofChange fnExactIsBalancedSpec)

/-- ITS FALSE NEIGHBOUR: 'it returns false'. Refute it at one input. -/
def fnExactIsBalancedWrong : ChangeSpec := { name := "fnExactIsBalanced", fn := fun _ => fun
  | [d1, d2, d3] => { results := [.lit (.bool false)], args := [d1, d2, d3] }
  | _ => none }
def FnExactIsBalancedWrongFalsely : Prop := fnExactIsBalancedRow.holds Try.pinned (OpenSpec.ofChange fnExactIsBalancedWrong)

/- THE SECOND FORM. 'bulk': how many values and letters a reading holds, each counted each time it is reached (what is shared counts as often as it is met; a slice's spare places count too). A statement '..UptoSaid' is the law's where the arguments, and the package variables that the reading takes, are together of bulk at most 1048576: NARROWER than '..Said'. Prove '..Said' where nothing that the law and all that it calls make is longer than what came in: it says more and counts as full. Else prove '..UptoSaid'. A law counts once. -/
mutual
def uptoBulk {H : Type} : DataW H → Nat
  | .lit (.string bytes) => bytes.length + 1
  | .lit _ => 1
  | .nil => 1
  | .ptr d => uptoBulk d + 1
  | .slice elems spare => uptoBulkAll elems + uptoBulkAll spare + 1
  | .agg parts => uptoBulkAll parts + 1
  | .iface _ d => uptoBulk d + 1
  | .map entries => uptoBulkEntries entries + 1
  | .held _ => 1
def uptoBulkAll {H : Type} : List (DataW H) → Nat
  | [] => 0
  | d :: r => uptoBulk d + uptoBulkAll r
def uptoBulkEntries {H : Type} : List (Lit × DataW H) → Nat
  | [] => 0
  | x :: r => uptoBulkEntry x + uptoBulkEntries r
def uptoBulkEntry {H : Type} : Lit × DataW H → Nat
  | (.string bytes, d) => bytes.length + uptoBulk d + 1
  | (_, d) => uptoBulk d + 1
 end
def uptoSmall : (H : Type) → List (DataW H) → Bool := fun _ ds => decide (uptoBulkAll ds ≤ 1048576)
def OpenSpec.upto (s : _root_.Go.ChangeSpec) : _root_.Go.OpenSpec := { _root_.Go.OpenSpec.ofChange s with cond := some uptoSmall }

/-- 'laws.FnExactGapOf', WHERE WHAT IT READS IS OF BULK AT MOST 1048576: true; the input reads as it did. -/
def fnExactGapOfUptoRow : OpenClaim := { program := "ytlmcoaencmfdfaa", sum := "a5b461557fd61be853469efb12908e2021b10d590b2ce2670c7fb07f81c86365", func := "loop.example/g01269/laws.FnExactGapOf", spec := "fnExactGapOf", unfollowed := true, recurses := true, apart := false, narrowed := true }
def FnExactGapOfUptoSaid : Prop := fnExactGapOfUptoRow.holds Try.pinned (OpenSpec.upto fnExactGapOfSpec)

/-- 'laws.FnExactUsefulLess', WHERE WHAT IT READS IS OF BULK AT MOST 1048576: true; the input reads as it did. -/
def fnExactUsefulLessUptoRow : OpenClaim := { program := "ytlmcoaencmfdfaa", sum := "a5b461557fd61be853469efb12908e2021b10d590b2ce2670c7fb07f81c86365", func := "loop.example/g01269/laws.FnExactUsefulLess", spec := "fnExactUsefulLess", unfollowed := true, recurses := true, apart := false, narrowed := true }
def FnExactUsefulLessUptoSaid : Prop := fnExactUsefulLessUptoRow.holds Try.pinned (OpenSpec.upto fnExactUsefulLessSpec)

/-- 'laws.FnExactGreedyScheme', WHERE WHAT IT READS IS OF BULK AT MOST 1048576: true; the input reads as it did. -/
def fnExactGreedySchemeUptoRow : OpenClaim := { program := "ytlmcoaencmfdfaa", sum := "a5b461557fd61be853469efb12908e2021b10d590b2ce2670c7fb07f81c86365", func := "loop.example/g01269/laws.FnExactGreedyScheme", spec := "fnExactGreedyScheme", unfollowed := true, recurses := true, apart := false, narrowed := true }
def FnExactGreedySchemeUptoSaid : Prop := fnExactGreedySchemeUptoRow.holds Try.pinned (OpenSpec.upto fnExactGreedySchemeSpec)

/-- 'laws.FnExactAnswerState', WHERE WHAT IT READS IS OF BULK AT MOST 1048576: true; the input reads as it did. -/
def fnExactAnswerStateUptoRow : OpenClaim := { program := "ytlmcoaencmfdfaa", sum := "a5b461557fd61be853469efb12908e2021b10d590b2ce2670c7fb07f81c86365", func := "loop.example/g01269/laws.FnExactAnswerState", spec := "fnExactAnswerState", unfollowed := true, recurses := true, apart := false, narrowed := true }
def FnExactAnswerStateUptoSaid : Prop := fnExactAnswerStateUptoRow.holds Try.pinned (OpenSpec.upto fnExactAnswerStateSpec)

/-- 'laws.FnExactCountUntold', WHERE WHAT IT READS IS OF BULK AT MOST 1048576: true; the input reads as it did. -/
def fnExactCountUntoldUptoRow : OpenClaim := { program := "ytlmcoaencmfdfaa", sum := "a5b461557fd61be853469efb12908e2021b10d590b2ce2670c7fb07f81c86365", func := "loop.example/g01269/laws.FnExactCountUntold", spec := "fnExactCountUntold", unfollowed := true, recurses := true, apart := false, narrowed := true }
def FnExactCountUntoldUptoSaid : Prop := fnExactCountUntoldUptoRow.holds Try.pinned (OpenSpec.upto fnExactCountUntoldSpec)

/-- 'laws.FnExactFewestFalse', WHERE WHAT IT READS IS OF BULK AT MOST 1048576: true; the input reads as it did. -/
def fnExactFewestFalseUptoRow : OpenClaim := { program := "ytlmcoaencmfdfaa", sum := "a5b461557fd61be853469efb12908e2021b10d590b2ce2670c7fb07f81c86365", func := "loop.example/g01269/laws.FnExactFewestFalse", spec := "fnExactFewestFalse", unfollowed := true, recurses := true, apart := false, narrowed := true }
def FnExactFewestFalseUptoSaid : Prop := fnExactFewestFalseUptoRow.holds Try.pinned (OpenSpec.upto fnExactFewestFalseSpec)

/-- 'laws.FnExactIsSafe', WHERE WHAT IT READS IS OF BULK AT MOST 1048576: true; the input reads as it did. -/
def fnExactIsSafeUptoRow : OpenClaim := { program := "ytlmcoaencmfdfaa", sum := "a5b461557fd61be853469efb12908e2021b10d590b2ce2670c7fb07f81c86365", func := "loop.example/g01269/laws.FnExactIsSafe", spec := "fnExactIsSafe", unfollowed := true, recurses := true, apart := false, narrowed := true }
def FnExactIsSafeUptoSaid : Prop := fnExactIsSafeUptoRow.holds Try.pinned (OpenSpec.upto fnExactIsSafeSpec)

/-- 'laws.FnExactFitNumbers', WHERE WHAT IT READS IS OF BULK AT MOST 1048576: true; the input reads as it did. -/
def fnExactFitNumbersUptoRow : OpenClaim := { program := "ytlmcoaencmfdfaa", sum := "a5b461557fd61be853469efb12908e2021b10d590b2ce2670c7fb07f81c86365", func := "loop.example/g01269/laws.FnExactFitNumbers", spec := "fnExactFitNumbers", unfollowed := true, recurses := true, apart := false, narrowed := true }
def FnExactFitNumbersUptoSaid : Prop := fnExactFitNumbersUptoRow.holds Try.pinned (OpenSpec.upto fnExactFitNumbersSpec)

/-- 'laws.FnExactNearNumbers', WHERE WHAT IT READS IS OF BULK AT MOST 1048576: true; the input reads as it did. -/
def fnExactNearNumbersUptoRow : OpenClaim := { program := "ytlmcoaencmfdfaa", sum := "a5b461557fd61be853469efb12908e2021b10d590b2ce2670c7fb07f81c86365", func := "loop.example/g01269/laws.FnExactNearNumbers", spec := "fnExactNearNumbers", unfollowed := true, recurses := true, apart := false, narrowed := true }
def FnExactNearNumbersUptoSaid : Prop := fnExactNearNumbersUptoRow.holds Try.pinned (OpenSpec.upto fnExactNearNumbersSpec)

/-- 'laws.FnExactAnswerAll', WHERE WHAT IT READS IS OF BULK AT MOST 1048576: true; the input reads as it did. -/
def fnExactAnswerAllUptoRow : OpenClaim := { program := "ytlmcoaencmfdfaa", sum := "a5b461557fd61be853469efb12908e2021b10d590b2ce2670c7fb07f81c86365", func := "loop.example/g01269/laws.FnExactAnswerAll", spec := "fnExactAnswerAll", unfollowed := true, recurses := true, apart := false, narrowed := true }
def FnExactAnswerAllUptoSaid : Prop := fnExactAnswerAllUptoRow.holds Try.pinned (OpenSpec.upto fnExactAnswerAllSpec)

/-- 'laws.FnExactAnswerWeights', WHERE WHAT IT READS IS OF BULK AT MOST 1048576: true; the input reads as it did. -/
def fnExactAnswerWeightsUptoRow : OpenClaim := { program := "ytlmcoaencmfdfaa", sum := "a5b461557fd61be853469efb12908e2021b10d590b2ce2670c7fb07f81c86365", func := "loop.example/g01269/laws.FnExactAnswerWeights", spec := "fnExactAnswerWeights", unfollowed := true, recurses := true, apart := false, narrowed := true }
def FnExactAnswerWeightsUptoSaid : Prop := fnExactAnswerWeightsUptoRow.holds Try.pinned (OpenSpec.upto fnExactAnswerWeightsSpec)

/-- 'laws.FnExactIsBalanced', WHERE WHAT IT READS IS OF BULK AT MOST 1048576: true; the input reads as it did. -/
def fnExactIsBalancedUptoRow : OpenClaim := { program := "ytlmcoaencmfdfaa", sum := "a5b461557fd61be853469efb12908e2021b10d590b2ce2670c7fb07f81c86365", func := "loop.example/g01269/laws.FnExactIsBalanced", spec := "fnExactIsBalanced", unfollowed := true, recurses := true, apart := false, narrowed := true }
def FnExactIsBalancedUptoSaid : Prop := fnExactIsBalancedUptoRow.holds Try.pinned (OpenSpec.upto fnExactIsBalancedSpec)

end Rows
end Go.Proofs.Ytlmcoaencmfdfaa
