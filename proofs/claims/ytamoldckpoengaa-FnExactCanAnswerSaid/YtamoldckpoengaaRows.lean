/-
  No cell of these rows narrows 'for every input' (looked for: loops, veiled, ifaces, maps, wideKeys, modest, calm, conditions, laid).
  DERIVED. THE GIVEN ROWS OF THIS SEAT. 12 by the template 'for every input the law returns true; each argument reads behind the call as it read before'; 0 by the template 'total and deterministic' (their statements: YtamoldckpoengaaTotals.lean).
  GIVEN WITH THE SEED: the statements are not yours to turn. If you find one false, say at which input.
  Laid BY PROGRAM, IN A SANDBOX (cutbox-rows.mjs): the forced cells as the released guide's own fill.sh prints them over the translation e9b6824fa93541bb… (all of the seat's roots in one cut). By AI agents, Wed Nov 11 2026. No macro, syntax, notation, axiom, sorry.
-/
import Derived.Test.YtamoldckpoengaaChecked
import GoSem.Claim
import GoSem.ClaimJoined
import GoSem.ClaimMapViews
import Derived.JoinedTies
import Derived.KernelRfl
namespace Go.Proofs.Ytamoldckpoengaa
/- THE CELL 'sum', in the pinned program and in every row, IS THE sha256 OF THE DUMP (.gsa) THAT YtamoldckpoengaaProg.lean LOADS. Nothing in Lean hashes anything: it is a label: what it is worth is what the hold of that sum in a sandbox is worth. -/
noncomputable def Try.pinned : Pinned := { name := "ytamoldckpoengaa", sum := "e9b6824fa93541bbfd9cd93e65c5ae4566f907c43c09d64288171e35343cccd7", checked := Try.checked }
namespace Rows
def none {H : Type} : Left H := { results := [], args := [] }

/-- 'laws.FnExactCountsOf': WHATEVER THE INPUT: true; the input reads as it did. -/
def fnExactCountsOfSpec : ChangeSpec := { name := "fnExactCountsOf", fn := fun _ => fun
  | [d] => { results := [.lit (.bool true)], args := [d] }
  | _ => none }
def fnExactCountsOfRow : OpenClaim := { program := "ytamoldckpoengaa", sum := "e9b6824fa93541bbfd9cd93e65c5ae4566f907c43c09d64288171e35343cccd7", func := "loop.example/g01269/laws.FnExactCountsOf", spec := "fnExactCountsOf", unfollowed := true, recurses := true, apart := false }
def FnExactCountsOfSaid : Prop := fnExactCountsOfRow.holds Try.pinned (OpenSpec.ofChange fnExactCountsOfSpec)

/-- ITS FALSE NEIGHBOUR: 'it returns false'. Refute it at one input. -/
def fnExactCountsOfWrong : ChangeSpec := { name := "fnExactCountsOf", fn := fun _ => fun
  | [d] => { results := [.lit (.bool false)], args := [d] }
  | _ => none }
def FnExactCountsOfWrongFalsely : Prop := fnExactCountsOfRow.holds Try.pinned (OpenSpec.ofChange fnExactCountsOfWrong)

/-- 'laws.FnExactOpenNumbers': WHATEVER THE INPUT: true; the input reads as it did. -/
def fnExactOpenNumbersSpec : ChangeSpec := { name := "fnExactOpenNumbers", fn := fun _ => fun
  | [d] => { results := [.lit (.bool true)], args := [d] }
  | _ => none }
def fnExactOpenNumbersRow : OpenClaim := { program := "ytamoldckpoengaa", sum := "e9b6824fa93541bbfd9cd93e65c5ae4566f907c43c09d64288171e35343cccd7", func := "loop.example/g01269/laws.FnExactOpenNumbers", spec := "fnExactOpenNumbers", unfollowed := true, recurses := true, apart := false }
def FnExactOpenNumbersSaid : Prop := fnExactOpenNumbersRow.holds Try.pinned (OpenSpec.ofChange fnExactOpenNumbersSpec)

/-- ITS FALSE NEIGHBOUR: 'it returns false'. Refute it at one input. -/
def fnExactOpenNumbersWrong : ChangeSpec := { name := "fnExactOpenNumbers", fn := fun _ => fun
  | [d] => { results := [.lit (.bool false)], args := [d] }
  | _ => none }
def FnExactOpenNumbersWrongFalsely : Prop := fnExactOpenNumbersRow.holds Try.pinned (OpenSpec.ofChange fnExactOpenNumbersWrong)

/-- 'laws.FnExactVainQuestion': WHATEVER THE INPUT: true; the input reads as it did. -/
def fnExactVainQuestionSpec : ChangeSpec := { name := "fnExactVainQuestion", fn := fun _ => fun
  | [d1, d2] => { results := [.lit (.bool true)], args := [d1, d2] }
  | _ => none }
def fnExactVainQuestionRow : OpenClaim := { program := "ytamoldckpoengaa", sum := "e9b6824fa93541bbfd9cd93e65c5ae4566f907c43c09d64288171e35343cccd7", func := "loop.example/g01269/laws.FnExactVainQuestion", spec := "fnExactVainQuestion", unfollowed := true, recurses := true, apart := false }
def FnExactVainQuestionSaid : Prop := fnExactVainQuestionRow.holds Try.pinned (OpenSpec.ofChange fnExactVainQuestionSpec)

/-- ITS FALSE NEIGHBOUR: 'it returns false'. Refute it at one input. -/
def fnExactVainQuestionWrong : ChangeSpec := { name := "fnExactVainQuestion", fn := fun _ => fun
  | [d1, d2] => { results := [.lit (.bool false)], args := [d1, d2] }
  | _ => none }
def FnExactVainQuestionWrongFalsely : Prop := fnExactVainQuestionRow.holds Try.pinned (OpenSpec.ofChange fnExactVainQuestionWrong)

/-- 'laws.FnExactRepeatScheme': WHATEVER THE INPUT: true; the input reads as it did. -/
def fnExactRepeatSchemeSpec : ChangeSpec := { name := "fnExactRepeatScheme", fn := fun _ => fun
  | [d1, d2, d3] => { results := [.lit (.bool true)], args := [d1, d2, d3] }
  | _ => none }
def fnExactRepeatSchemeRow : OpenClaim := { program := "ytamoldckpoengaa", sum := "e9b6824fa93541bbfd9cd93e65c5ae4566f907c43c09d64288171e35343cccd7", func := "loop.example/g01269/laws.FnExactRepeatScheme", spec := "fnExactRepeatScheme", unfollowed := true, recurses := true, apart := false }
def FnExactRepeatSchemeSaid : Prop := fnExactRepeatSchemeRow.holds Try.pinned (OpenSpec.ofChange fnExactRepeatSchemeSpec)

/-- ITS FALSE NEIGHBOUR: 'it returns false'. Refute it at one input. -/
def fnExactRepeatSchemeWrong : ChangeSpec := { name := "fnExactRepeatScheme", fn := fun _ => fun
  | [d1, d2, d3] => { results := [.lit (.bool false)], args := [d1, d2, d3] }
  | _ => none }
def FnExactRepeatSchemeWrongFalsely : Prop := fnExactRepeatSchemeRow.holds Try.pinned (OpenSpec.ofChange fnExactRepeatSchemeWrong)

/-- 'laws.FnExactNumberWeight': WHATEVER THE INPUT: true; the input reads as it did. -/
def fnExactNumberWeightSpec : ChangeSpec := { name := "fnExactNumberWeight", fn := fun _ => fun
  | [d1, d2, d3] => { results := [.lit (.bool true)], args := [d1, d2, d3] }
  | _ => none }
def fnExactNumberWeightRow : OpenClaim := { program := "ytamoldckpoengaa", sum := "e9b6824fa93541bbfd9cd93e65c5ae4566f907c43c09d64288171e35343cccd7", func := "loop.example/g01269/laws.FnExactNumberWeight", spec := "fnExactNumberWeight", unfollowed := true, recurses := true, apart := false }
def FnExactNumberWeightSaid : Prop := fnExactNumberWeightRow.holds Try.pinned (OpenSpec.ofChange fnExactNumberWeightSpec)

/-- ITS FALSE NEIGHBOUR: 'it returns false'. Refute it at one input. -/
def fnExactNumberWeightWrong : ChangeSpec := { name := "fnExactNumberWeight", fn := fun _ => fun
  | [d1, d2, d3] => { results := [.lit (.bool false)], args := [d1, d2, d3] }
  | _ => none }
def FnExactNumberWeightWrongFalsely : Prop := fnExactNumberWeightRow.holds Try.pinned (OpenSpec.ofChange fnExactNumberWeightWrong)

/-- 'laws.FnExactStateWeight': WHATEVER THE INPUT: true; the input reads as it did. -/
def fnExactStateWeightSpec : ChangeSpec := { name := "fnExactStateWeight", fn := fun _ => fun
  | [d1, d2] => { results := [.lit (.bool true)], args := [d1, d2] }
  | _ => none }
def fnExactStateWeightRow : OpenClaim := { program := "ytamoldckpoengaa", sum := "e9b6824fa93541bbfd9cd93e65c5ae4566f907c43c09d64288171e35343cccd7", func := "loop.example/g01269/laws.FnExactStateWeight", spec := "fnExactStateWeight", unfollowed := true, recurses := true, apart := false }
def FnExactStateWeightSaid : Prop := fnExactStateWeightRow.holds Try.pinned (OpenSpec.ofChange fnExactStateWeightSpec)

/-- ITS FALSE NEIGHBOUR: 'it returns false'. Refute it at one input. -/
def fnExactStateWeightWrong : ChangeSpec := { name := "fnExactStateWeight", fn := fun _ => fun
  | [d1, d2] => { results := [.lit (.bool false)], args := [d1, d2] }
  | _ => none }
def FnExactStateWeightWrongFalsely : Prop := fnExactStateWeightRow.holds Try.pinned (OpenSpec.ofChange fnExactStateWeightWrong)

/-- 'laws.FnExactYesCounts': WHATEVER THE INPUT: true; the input reads as it did. -/
def fnExactYesCountsSpec : ChangeSpec := { name := "fnExactYesCounts", fn := fun _ => fun
  | [d1, d2] => { results := [.lit (.bool true)], args := [d1, d2] }
  | _ => none }
def fnExactYesCountsRow : OpenClaim := { program := "ytamoldckpoengaa", sum := "e9b6824fa93541bbfd9cd93e65c5ae4566f907c43c09d64288171e35343cccd7", func := "loop.example/g01269/laws.FnExactYesCounts", spec := "fnExactYesCounts", unfollowed := true, recurses := true, apart := false }
def FnExactYesCountsSaid : Prop := fnExactYesCountsRow.holds Try.pinned (OpenSpec.ofChange fnExactYesCountsSpec)

/-- ITS FALSE NEIGHBOUR: 'it returns false'. Refute it at one input. -/
def fnExactYesCountsWrong : ChangeSpec := { name := "fnExactYesCounts", fn := fun _ => fun
  | [d1, d2] => { results := [.lit (.bool false)], args := [d1, d2] }
  | _ => none }
def FnExactYesCountsWrongFalsely : Prop := fnExactYesCountsRow.holds Try.pinned (OpenSpec.ofChange fnExactYesCountsWrong)

/-- 'laws.FnExactBoundOf': WHATEVER THE INPUT: true; the input reads as it did. -/
def fnExactBoundOfSpec : ChangeSpec := { name := "fnExactBoundOf", fn := fun _ => fun
  | [d] => { results := [.lit (.bool true)], args := [d] }
  | _ => none }
def fnExactBoundOfRow : OpenClaim := { program := "ytamoldckpoengaa", sum := "e9b6824fa93541bbfd9cd93e65c5ae4566f907c43c09d64288171e35343cccd7", func := "loop.example/g01269/laws.FnExactBoundOf", spec := "fnExactBoundOf", unfollowed := true, recurses := true, apart := false }
def FnExactBoundOfSaid : Prop := fnExactBoundOfRow.holds Try.pinned (OpenSpec.ofChange fnExactBoundOfSpec)

/-- ITS FALSE NEIGHBOUR: 'it returns false'. Refute it at one input. -/
def fnExactBoundOfWrong : ChangeSpec := { name := "fnExactBoundOf", fn := fun _ => fun
  | [d] => { results := [.lit (.bool false)], args := [d] }
  | _ => none }
def FnExactBoundOfWrongFalsely : Prop := fnExactBoundOfRow.holds Try.pinned (OpenSpec.ofChange fnExactBoundOfWrong)

/-- 'laws.FnExactNoCounts': WHATEVER THE INPUT: true; the input reads as it did. -/
def fnExactNoCountsSpec : ChangeSpec := { name := "fnExactNoCounts", fn := fun _ => fun
  | [d1, d2] => { results := [.lit (.bool true)], args := [d1, d2] }
  | _ => none }
def fnExactNoCountsRow : OpenClaim := { program := "ytamoldckpoengaa", sum := "e9b6824fa93541bbfd9cd93e65c5ae4566f907c43c09d64288171e35343cccd7", func := "loop.example/g01269/laws.FnExactNoCounts", spec := "fnExactNoCounts", unfollowed := true, recurses := true, apart := false }
def FnExactNoCountsSaid : Prop := fnExactNoCountsRow.holds Try.pinned (OpenSpec.ofChange fnExactNoCountsSpec)

/-- ITS FALSE NEIGHBOUR: 'it returns false'. Refute it at one input. -/
def fnExactNoCountsWrong : ChangeSpec := { name := "fnExactNoCounts", fn := fun _ => fun
  | [d1, d2] => { results := [.lit (.bool false)], args := [d1, d2] }
  | _ => none }
def FnExactNoCountsWrongFalsely : Prop := fnExactNoCountsRow.holds Try.pinned (OpenSpec.ofChange fnExactNoCountsWrong)

/-- 'laws.FnExactRoomOf': WHATEVER THE INPUT: true; the input reads as it did. -/
def fnExactRoomOfSpec : ChangeSpec := { name := "fnExactRoomOf", fn := fun _ => fun
  | [d1, d2] => { results := [.lit (.bool true)], args := [d1, d2] }
  | _ => none }
def fnExactRoomOfRow : OpenClaim := { program := "ytamoldckpoengaa", sum := "e9b6824fa93541bbfd9cd93e65c5ae4566f907c43c09d64288171e35343cccd7", func := "loop.example/g01269/laws.FnExactRoomOf", spec := "fnExactRoomOf", unfollowed := true, recurses := true, apart := false }
def FnExactRoomOfSaid : Prop := fnExactRoomOfRow.holds Try.pinned (OpenSpec.ofChange fnExactRoomOfSpec)

/-- ITS FALSE NEIGHBOUR: 'it returns false'. Refute it at one input. -/
def fnExactRoomOfWrong : ChangeSpec := { name := "fnExactRoomOf", fn := fun _ => fun
  | [d1, d2] => { results := [.lit (.bool false)], args := [d1, d2] }
  | _ => none }
def FnExactRoomOfWrongFalsely : Prop := fnExactRoomOfRow.holds Try.pinned (OpenSpec.ofChange fnExactRoomOfWrong)

/-- 'laws.FnExactJoinStrings': WHATEVER THE INPUT: true; the input reads as it did. -/
def fnExactJoinStringsSpec : ChangeSpec := { name := "fnExactJoinStrings", fn := fun _ => fun
  | [d1, d2] => { results := [.lit (.bool true)], args := [d1, d2] }
  | _ => none }
def fnExactJoinStringsRow : OpenClaim := { program := "ytamoldckpoengaa", sum := "e9b6824fa93541bbfd9cd93e65c5ae4566f907c43c09d64288171e35343cccd7", func := "loop.example/g01269/laws.FnExactJoinStrings", spec := "fnExactJoinStrings", inPlace := ["internal/bytealg.IndexByteString", "internal/abi.NoEscape", "internal/bytealg.MakeNoZero"], apart := false }
def FnExactJoinStringsSaid : Prop := fnExactJoinStringsRow.holds Try.pinned (OpenSpec.ofChange fnExactJoinStringsSpec)

/-- ITS FALSE NEIGHBOUR: 'it returns false'. Refute it at one input. -/
def fnExactJoinStringsWrong : ChangeSpec := { name := "fnExactJoinStrings", fn := fun _ => fun
  | [d1, d2] => { results := [.lit (.bool false)], args := [d1, d2] }
  | _ => none }
def FnExactJoinStringsWrongFalsely : Prop := fnExactJoinStringsRow.holds Try.pinned (OpenSpec.ofChange fnExactJoinStringsWrong)

/-- 'laws.FnExactCanAnswer': WHATEVER THE INPUT: true; the input reads as it did. -/
def fnExactCanAnswerSpec : ChangeSpec := { name := "fnExactCanAnswer", fn := fun _ => fun
  | [d1, d2] => { results := [.lit (.bool true)], args := [d1, d2] }
  | _ => none }
def fnExactCanAnswerRow : OpenClaim := { program := "ytamoldckpoengaa", sum := "e9b6824fa93541bbfd9cd93e65c5ae4566f907c43c09d64288171e35343cccd7", func := "loop.example/g01269/laws.FnExactCanAnswer", spec := "fnExactCanAnswer", unfollowed := true, recurses := true, apart := false }
def FnExactCanAnswerSaid : Prop := fnExactCanAnswerRow.holds Try.pinned (OpenSpec.ofChange fnExactCanAnswerSpec)

/-- ITS FALSE NEIGHBOUR: 'it returns false'. Refute it at one input. -/
def fnExactCanAnswerWrong : ChangeSpec := { name := "fnExactCanAnswer", fn := fun _ => fun
  | [d1, d2] => { results := [.lit (.bool false)], args := [d1, d2] }
  | _ => none }
def FnExactCanAnswerWrongFalsely : Prop := fnExactCanAnswerRow.holds Try.pinned (OpenSpec.ofChange fnExactCanAnswerWrong)

/- THE SECOND FORM. 'bulk': how many values and letters a reading holds, each counted each time it is reached (what is shared counts as often as it is met; a slice's spare places count too). A statement '..UptoSaid' is the law's where the arguments, and the package variables that the reading takes, are together of bulk at most 1048576: NARROWER than '..Said'. Prove '..Said' where nothing that the law and all that it calls make is longer than what came in: it says more and counts as full. Else prove '..UptoSaid'. A law counts once. -/
mutual
def uptoBulk {H : Type} : DataW H → Nat
  | .lit (.string bytes) => bytes.length + 1
  | .lit _ => 1
  | .nil => 1
  | .ptr d => uptoBulk d + 1
  | .slice elems spare => uptoBulkAll elems + uptoBulkAll spare + 1
  | .agg parts => uptoBulkAll parts + 1
  | .iface _ d => uptoBulk d + 1
  | .map entries => uptoBulkEntries entries + 1
  | .held _ => 1
def uptoBulkAll {H : Type} : List (DataW H) → Nat
  | [] => 0
  | d :: r => uptoBulk d + uptoBulkAll r
def uptoBulkEntries {H : Type} : List (Lit × DataW H) → Nat
  | [] => 0
  | x :: r => uptoBulkEntry x + uptoBulkEntries r
def uptoBulkEntry {H : Type} : Lit × DataW H → Nat
  | (.string bytes, d) => bytes.length + uptoBulk d + 1
  | (_, d) => uptoBulk d + 1
 end
def uptoSmall : (H : Type) → List (DataW H) → Bool := fun _ ds => decide (uptoBulkAll ds ≤ 1048576)
def OpenSpec.upto (s : _root_.Go.ChangeSpec) : _root_.Go.OpenSpec := { _root_.Go.OpenSpec.ofChange s with cond := some uptoSmall }

/-- 'laws.FnExactCountsOf', WHERE WHAT IT READS IS OF BULK AT MOST 1048576: true; the input reads as it did. -/
def fnExactCountsOfUptoRow : OpenClaim := { program := "ytamoldckpoengaa", sum := "e9b6824fa93541bbfd9cd93e65c5ae4566f907c43c09d64288171e35343cccd7", func := "loop.example/g01269/laws.FnExactCountsOf", spec := "fnExactCountsOf", unfollowed := true, recurses := true, apart := false, narrowed := true }
def FnExactCountsOfUptoSaid : Prop := fnExactCountsOfUptoRow.holds Try.pinned (OpenSpec.upto fnExactCountsOfSpec)

/-- 'laws.FnExactOpenNumbers', WHERE WHAT IT READS IS OF BULK AT MOST 1048576: true; the input reads as it did. -/
def fnExactOpenNumbersUptoRow : OpenClaim := { program := "ytamoldckpoengaa", sum := "e9b6824fa93541bbfd9cd93e65c5ae4566f907c43c09d64288171e35343cccd7", func := "loop.example/g01269/laws.FnExactOpenNumbers", spec := "fnExactOpenNumbers", unfollowed := true, recurses := true, apart := false, narrowed := true }
def FnExactOpenNumbersUptoSaid : Prop := fnExactOpenNumbersUptoRow.holds Try.pinned (OpenSpec.upto fnExactOpenNumbersSpec)

/-- 'laws.FnExactVainQuestion', WHERE WHAT IT READS IS OF BULK AT MOST 1048576: true; the input reads as it did. -/
def fnExactVainQuestionUptoRow : OpenClaim := { program := "ytamoldckpoengaa", sum := "e9b6824fa93541bbfd9cd93e65c5ae4566f907c43c09d64288171e35343cccd7", func := "loop.example/g01269/laws.FnExactVainQuestion", spec := "fnExactVainQuestion", unfollowed := true, recurses := true, apart := false, narrowed := true }
def FnExactVainQuestionUptoSaid : Prop := fnExactVainQuestionUptoRow.holds Try.pinned (OpenSpec.upto fnExactVainQuestionSpec)

/-- 'laws.FnExactRepeatScheme', WHERE WHAT IT READS IS OF BULK AT MOST 1048576: true; the input reads as it did. -/
def fnExactRepeatSchemeUptoRow : OpenClaim := { program := "ytamoldckpoengaa", sum := "e9b6824fa93541bbfd9cd93e65c5ae4566f907c43c09d64288171e35343cccd7", func := "loop.example/g01269/laws.FnExactRepeatScheme", spec := "fnExactRepeatScheme", unfollowed := true, recurses := true, apart := false, narrowed := true }
def FnExactRepeatSchemeUptoSaid : Prop := fnExactRepeatSchemeUptoRow.holds Try.pinned (OpenSpec.upto fnExactRepeatSchemeSpec)

/-- 'laws.FnExactNumberWeight', WHERE WHAT IT READS IS OF BULK AT MOST 1048576: true; the input reads as it did. -/
def fnExactNumberWeightUptoRow : OpenClaim := { program := "ytamoldckpoengaa", sum := "e9b6824fa93541bbfd9cd93e65c5ae4566f907c43c09d64288171e35343cccd7", func := "loop.example/g01269/laws.FnExactNumberWeight", spec := "fnExactNumberWeight", unfollowed := true, recurses := true, apart := false, narrowed := true }
def FnExactNumberWeightUptoSaid : Prop := fnExactNumberWeightUptoRow.holds Try.pinned (OpenSpec.upto fnExactNumberWeightSpec)

/-- 'laws.FnExactStateWeight', WHERE WHAT IT READS IS OF BULK AT MOST 1048576: true; the input reads as it did. -/
def fnExactStateWeightUptoRow : OpenClaim := { program := "ytamoldckpoengaa", sum := "e9b6824fa93541bbfd9cd93e65c5ae4566f907c43c09d64288171e35343cccd7", func := "loop.example/g01269/laws.FnExactStateWeight", spec := "fnExactStateWeight", unfollowed := true, recurses := true, apart := false, narrowed := true }
def FnExactStateWeightUptoSaid : Prop := fnExactStateWeightUptoRow.holds Try.pinned (OpenSpec.upto fnExactStateWeightSpec)

/-- 'laws.FnExactYesCounts', WHERE WHAT IT READS IS OF BULK AT MOST 1048576: true; the input reads as it did. -/
def fnExactYesCountsUptoRow : OpenClaim := { program := "ytamoldckpoengaa", sum := "e9b6824fa93541bbfd9cd93e65c5ae4566f907c43c09d64288171e35343cccd7", func := "loop.example/g01269/laws.FnExactYesCounts", spec := "fnExactYesCounts", unfollowed := true, recurses := true, apart := false, narrowed := true }
def FnExactYesCountsUptoSaid : Prop := fnExactYesCountsUptoRow.holds Try.pinned (OpenSpec.upto fnExactYesCountsSpec)

/-- 'laws.FnExactBoundOf', WHERE WHAT IT READS IS OF BULK AT MOST 1048576: true; the input reads as it did. -/
def fnExactBoundOfUptoRow : OpenClaim := { program := "ytamoldckpoengaa", sum := "e9b6824fa93541bbfd9cd93e65c5ae4566f907c43c09d64288171e35343cccd7", func := "loop.example/g01269/laws.FnExactBoundOf", spec := "fnExactBoundOf", unfollowed := true, recurses := true, apart := false, narrowed := true }
def FnExactBoundOfUptoSaid : Prop := fnExactBoundOfUptoRow.holds Try.pinned (OpenSpec.upto fnExactBoundOfSpec)

/-- 'laws.FnExactNoCounts', WHERE WHAT IT READS IS OF BULK AT MOST 1048576: true; the input reads as it did. -/
def fnExactNoCountsUptoRow : OpenClaim := { program := "ytamoldckpoengaa", sum := "e9b6824fa93541bbfd9cd93e65c5ae4566f907c43c09d64288171e35343cccd7", func := "loop.example/g01269/laws.FnExactNoCounts", spec := "fnExactNoCounts", unfollowed := true, recurses := true, apart := false, narrowed := true }
def FnExactNoCountsUptoSaid : Prop := fnExactNoCountsUptoRow.holds Try.pinned (OpenSpec.upto fnExactNoCountsSpec)

/-- 'laws.FnExactRoomOf', WHERE WHAT IT READS IS OF BULK AT MOST 1048576: true; the input reads as it did. -/
def fnExactRoomOfUptoRow : OpenClaim := { program := "ytamoldckpoengaa", sum := "e9b6824fa93541bbfd9cd93e65c5ae4566f907c43c09d64288171e35343cccd7", func := "loop.example/g01269/laws.FnExactRoomOf", spec := "fnExactRoomOf", unfollowed := true, recurses := true, apart := false, narrowed := true }
def FnExactRoomOfUptoSaid : Prop := fnExactRoomOfUptoRow.holds Try.pinned (OpenSpec.upto fnExactRoomOfSpec)

/-- 'laws.FnExactJoinStrings', WHERE WHAT IT READS IS OF BULK AT MOST 1048576: true; the input reads as it did. -/
def fnExactJoinStringsUptoRow : OpenClaim := { program := "ytamoldckpoengaa", sum := "e9b6824fa93541bbfd9cd93e65c5ae4566f907c43c09d64288171e35343cccd7", func := "loop.example/g01269/laws.FnExactJoinStrings", spec := "fnExactJoinStrings", inPlace := ["internal/bytealg.IndexByteString", "internal/abi.NoEscape", "internal/bytealg.MakeNoZero"], apart := false, narrowed := true }
def FnExactJoinStringsUptoSaid : Prop := fnExactJoinStringsUptoRow.holds Try.pinned (OpenSpec.upto fnExactJoinStringsSpec)

/-- 'laws.FnExactCanAnswer', WHERE WHAT IT READS IS OF BULK AT MOST 1048576: true; the input reads as it did. -/
def fnExactCanAnswerUptoRow : OpenClaim := { program := "ytamoldckpoengaa", sum := "e9b6824fa93541bbfd9cd93e65c5ae4566f907c43c09d64288171e35343cccd7", func := "loop.example/g01269/laws.FnExactCanAnswer", spec := "fnExactCanAnswer", unfollowed := true, recurses := true, apart := false, narrowed := true }
def FnExactCanAnswerUptoSaid : Prop := fnExactCanAnswerUptoRow.holds Try.pinned (OpenSpec.upto fnExactCanAnswerSpec)

end Rows
end Go.Proofs.Ytamoldckpoengaa
