/-
  No cell of these rows narrows 'for every input' (looked for: loops, veiled, ifaces, maps, wideKeys, modest, calm, conditions, laid).
  DERIVED. THE GIVEN ROWS OF THIS SEAT. 12 by the template 'for every input the law returns true; each argument reads behind the call as it read before'; 0 by the template 'total and deterministic' (their statements: YticjbfcelocehaaTotals.lean).
  GIVEN WITH THE SEED: the statements are not yours to turn. If you find one false, say at which input.
  Laid BY PROGRAM, IN A SANDBOX (cutbox-rows.mjs): the forced cells as the released guide's own fill.sh prints them over the translation 999d22f6fd61e227… (all of the seat's roots in one cut). By AI agents, Wed Nov 11 2026. No macro, syntax, notation, axiom, sorry.
-/
import Derived.Test.YticjbfcelocehaaChecked
import GoSem.Claim
import GoSem.ClaimJoined
import GoSem.ClaimMapViews
import Derived.JoinedTies
import Derived.KernelRfl
namespace Go.Proofs.Yticjbfcelocehaa
/- THE CELL 'sum', in the pinned program and in every row, IS THE sha256 OF THE DUMP (.gsa) THAT YticjbfcelocehaaProg.lean LOADS. Nothing in Lean hashes anything: it is a label: what it is worth is what the hold of that sum in a sandbox is worth. -/
noncomputable def Try.pinned : Pinned := { name := "yticjbfcelocehaa", sum := "999d22f6fd61e227abd1e2c231f908308348b50083ae6f4544513fa3da3b6dfe", checked := Try.checked }
namespace Rows
def none {H : Type} : Left H := { results := [], args := [] }

/-- 'laws.FnExactConstants': WHATEVER THE INPUT: true; the input reads as it did. -/
def fnExactConstantsSpec : ChangeSpec := { name := "fnExactConstants", fn := fun _ => fun
  | [] => { results := [.lit (.bool true)], args := [] }
  | _ => none }
def fnExactConstantsRow : OpenClaim := { program := "yticjbfcelocehaa", sum := "999d22f6fd61e227abd1e2c231f908308348b50083ae6f4544513fa3da3b6dfe", func := "loop.example/g01269/laws.FnExactConstants", spec := "fnExactConstants", apart := false }
def FnExactConstantsSaid : Prop := fnExactConstantsRow.holds Try.pinned (OpenSpec.ofChange fnExactConstantsSpec)

/-- ITS FALSE NEIGHBOUR: 'it returns false'. Refute it at one input. -/
def fnExactConstantsWrong : ChangeSpec := { name := "fnExactConstants", fn := fun _ => fun
  | [] => { results := [.lit (.bool false)], args := [] }
  | _ => none }
def FnExactConstantsWrongFalsely : Prop := fnExactConstantsRow.holds Try.pinned (OpenSpec.ofChange fnExactConstantsWrong)

/-- 'laws.FnExactLessString': WHATEVER THE INPUT: true; the input reads as it did. -/
def fnExactLessStringSpec : ChangeSpec := { name := "fnExactLessString", fn := fun _ => fun
  | [d1, d2] => { results := [.lit (.bool true)], args := [d1, d2] }
  | _ => none }
def fnExactLessStringRow : OpenClaim := { program := "yticjbfcelocehaa", sum := "999d22f6fd61e227abd1e2c231f908308348b50083ae6f4544513fa3da3b6dfe", func := "loop.example/g01269/laws.FnExactLessString", spec := "fnExactLessString", apart := false }
def FnExactLessStringSaid : Prop := fnExactLessStringRow.holds Try.pinned (OpenSpec.ofChange fnExactLessStringSpec)

/-- ITS FALSE NEIGHBOUR: 'it returns false'. Refute it at one input. -/
def fnExactLessStringWrong : ChangeSpec := { name := "fnExactLessString", fn := fun _ => fun
  | [d1, d2] => { results := [.lit (.bool false)], args := [d1, d2] }
  | _ => none }
def FnExactLessStringWrongFalsely : Prop := fnExactLessStringRow.holds Try.pinned (OpenSpec.ofChange fnExactLessStringWrong)

/-- 'laws.FnExactLessQuestion': WHATEVER THE INPUT: true; the input reads as it did. -/
def fnExactLessQuestionSpec : ChangeSpec := { name := "fnExactLessQuestion", fn := fun _ => fun
  | [d1, d2] => { results := [.lit (.bool true)], args := [d1, d2] }
  | _ => none }
def fnExactLessQuestionRow : OpenClaim := { program := "yticjbfcelocehaa", sum := "999d22f6fd61e227abd1e2c231f908308348b50083ae6f4544513fa3da3b6dfe", func := "loop.example/g01269/laws.FnExactLessQuestion", spec := "fnExactLessQuestion", apart := false }
def FnExactLessQuestionSaid : Prop := fnExactLessQuestionRow.holds Try.pinned (OpenSpec.ofChange fnExactLessQuestionSpec)

/-- ITS FALSE NEIGHBOUR: 'it returns false'. Refute it at one input. -/
def fnExactLessQuestionWrong : ChangeSpec := { name := "fnExactLessQuestion", fn := fun _ => fun
  | [d1, d2] => { results := [.lit (.bool false)], args := [d1, d2] }
  | _ => none }
def FnExactLessQuestionWrongFalsely : Prop := fnExactLessQuestionRow.holds Try.pinned (OpenSpec.ofChange fnExactLessQuestionWrong)

/-- 'laws.FnExactOtherQuestion': WHATEVER THE INPUT: true; the input reads as it did. -/
def fnExactOtherQuestionSpec : ChangeSpec := { name := "fnExactOtherQuestion", fn := fun _ => fun
  | [d1, d2] => { results := [.lit (.bool true)], args := [d1, d2] }
  | _ => none }
def fnExactOtherQuestionRow : OpenClaim := { program := "yticjbfcelocehaa", sum := "999d22f6fd61e227abd1e2c231f908308348b50083ae6f4544513fa3da3b6dfe", func := "loop.example/g01269/laws.FnExactOtherQuestion", spec := "fnExactOtherQuestion", apart := false }
def FnExactOtherQuestionSaid : Prop := fnExactOtherQuestionRow.holds Try.pinned (OpenSpec.ofChange fnExactOtherQuestionSpec)

/-- ITS FALSE NEIGHBOUR: 'it returns false'. Refute it at one input. -/
def fnExactOtherQuestionWrong : ChangeSpec := { name := "fnExactOtherQuestion", fn := fun _ => fun
  | [d1, d2] => { results := [.lit (.bool false)], args := [d1, d2] }
  | _ => none }
def FnExactOtherQuestionWrongFalsely : Prop := fnExactOtherQuestionRow.holds Try.pinned (OpenSpec.ofChange fnExactOtherQuestionWrong)

/-- 'laws.FnExactChecksum': WHATEVER THE INPUT: true; the input reads as it did. -/
def fnExactChecksumSpec : ChangeSpec := { name := "fnExactChecksum", fn := fun _ => fun
  | [d] => { results := [.lit (.bool true)], args := [d] }
  | _ => none }
def fnExactChecksumRow : OpenClaim := { program := "yticjbfcelocehaa", sum := "999d22f6fd61e227abd1e2c231f908308348b50083ae6f4544513fa3da3b6dfe", func := "loop.example/g01269/laws.FnExactChecksum", spec := "fnExactChecksum", apart := false }
def FnExactChecksumSaid : Prop := fnExactChecksumRow.holds Try.pinned (OpenSpec.ofChange fnExactChecksumSpec)

/-- ITS FALSE NEIGHBOUR: 'it returns false'. Refute it at one input. -/
def fnExactChecksumWrong : ChangeSpec := { name := "fnExactChecksum", fn := fun _ => fun
  | [d] => { results := [.lit (.bool false)], args := [d] }
  | _ => none }
def FnExactChecksumWrongFalsely : Prop := fnExactChecksumRow.holds Try.pinned (OpenSpec.ofChange fnExactChecksumWrong)

/-- 'laws.FnExactWaysOf': WHATEVER THE INPUT: true; the input reads as it did. -/
def fnExactWaysOfSpec : ChangeSpec := { name := "fnExactWaysOf", fn := fun _ => fun
  | [d1, d2] => { results := [.lit (.bool true)], args := [d1, d2] }
  | _ => none }
def fnExactWaysOfRow : OpenClaim := { program := "yticjbfcelocehaa", sum := "999d22f6fd61e227abd1e2c231f908308348b50083ae6f4544513fa3da3b6dfe", func := "loop.example/g01269/laws.FnExactWaysOf", spec := "fnExactWaysOf", apart := false }
def FnExactWaysOfSaid : Prop := fnExactWaysOfRow.holds Try.pinned (OpenSpec.ofChange fnExactWaysOfSpec)

/-- ITS FALSE NEIGHBOUR: 'it returns false'. Refute it at one input. -/
def fnExactWaysOfWrong : ChangeSpec := { name := "fnExactWaysOf", fn := fun _ => fun
  | [d1, d2] => { results := [.lit (.bool false)], args := [d1, d2] }
  | _ => none }
def FnExactWaysOfWrongFalsely : Prop := fnExactWaysOfRow.holds Try.pinned (OpenSpec.ofChange fnExactWaysOfWrong)

/-- 'laws.FnExactBallOf': WHATEVER THE INPUT: true; the input reads as it did. -/
def fnExactBallOfSpec : ChangeSpec := { name := "fnExactBallOf", fn := fun _ => fun
  | [d1, d2] => { results := [.lit (.bool true)], args := [d1, d2] }
  | _ => none }
def fnExactBallOfRow : OpenClaim := { program := "yticjbfcelocehaa", sum := "999d22f6fd61e227abd1e2c231f908308348b50083ae6f4544513fa3da3b6dfe", func := "loop.example/g01269/laws.FnExactBallOf", spec := "fnExactBallOf", apart := false }
def FnExactBallOfSaid : Prop := fnExactBallOfRow.holds Try.pinned (OpenSpec.ofChange fnExactBallOfSpec)

/-- ITS FALSE NEIGHBOUR: 'it returns false'. Refute it at one input. -/
def fnExactBallOfWrong : ChangeSpec := { name := "fnExactBallOf", fn := fun _ => fun
  | [d1, d2] => { results := [.lit (.bool false)], args := [d1, d2] }
  | _ => none }
def FnExactBallOfWrongFalsely : Prop := fnExactBallOfRow.holds Try.pinned (OpenSpec.ofChange fnExactBallOfWrong)

/-- 'laws.FnExactIsScheme': WHATEVER THE INPUT: true; the input reads as it did. -/
def fnExactIsSchemeSpec : ChangeSpec := { name := "fnExactIsScheme", fn := fun _ => fun
  | [d1, d2] => { results := [.lit (.bool true)], args := [d1, d2] }
  | _ => none }
def fnExactIsSchemeRow : OpenClaim := { program := "yticjbfcelocehaa", sum := "999d22f6fd61e227abd1e2c231f908308348b50083ae6f4544513fa3da3b6dfe", func := "loop.example/g01269/laws.FnExactIsScheme", spec := "fnExactIsScheme", unfollowed := true, recurses := true, apart := false }
def FnExactIsSchemeSaid : Prop := fnExactIsSchemeRow.holds Try.pinned (OpenSpec.ofChange fnExactIsSchemeSpec)

/-- ITS FALSE NEIGHBOUR: 'it returns false'. Refute it at one input. -/
def fnExactIsSchemeWrong : ChangeSpec := { name := "fnExactIsScheme", fn := fun _ => fun
  | [d1, d2] => { results := [.lit (.bool false)], args := [d1, d2] }
  | _ => none }
def FnExactIsSchemeWrongFalsely : Prop := fnExactIsSchemeRow.holds Try.pinned (OpenSpec.ofChange fnExactIsSchemeWrong)

/-- 'laws.FnExactQuestionOf': WHATEVER THE INPUT: true; the input reads as it did. -/
def fnExactQuestionOfSpec : ChangeSpec := { name := "fnExactQuestionOf", fn := fun _ => fun
  | [d1, d2] => { results := [.lit (.bool true)], args := [d1, d2] }
  | _ => none }
def fnExactQuestionOfRow : OpenClaim := { program := "yticjbfcelocehaa", sum := "999d22f6fd61e227abd1e2c231f908308348b50083ae6f4544513fa3da3b6dfe", func := "loop.example/g01269/laws.FnExactQuestionOf", spec := "fnExactQuestionOf", apart := false }
def FnExactQuestionOfSaid : Prop := fnExactQuestionOfRow.holds Try.pinned (OpenSpec.ofChange fnExactQuestionOfSpec)

/-- ITS FALSE NEIGHBOUR: 'it returns false'. Refute it at one input. -/
def fnExactQuestionOfWrong : ChangeSpec := { name := "fnExactQuestionOf", fn := fun _ => fun
  | [d1, d2] => { results := [.lit (.bool false)], args := [d1, d2] }
  | _ => none }
def FnExactQuestionOfWrongFalsely : Prop := fnExactQuestionOfRow.holds Try.pinned (OpenSpec.ofChange fnExactQuestionOfWrong)

/-- 'laws.FnExactMostByWeight': WHATEVER THE INPUT: true; the input reads as it did. -/
def fnExactMostByWeightSpec : ChangeSpec := { name := "fnExactMostByWeight", fn := fun _ => fun
  | [d1, d2] => { results := [.lit (.bool true)], args := [d1, d2] }
  | _ => none }
def fnExactMostByWeightRow : OpenClaim := { program := "yticjbfcelocehaa", sum := "999d22f6fd61e227abd1e2c231f908308348b50083ae6f4544513fa3da3b6dfe", func := "loop.example/g01269/laws.FnExactMostByWeight", spec := "fnExactMostByWeight", apart := false }
def FnExactMostByWeightSaid : Prop := fnExactMostByWeightRow.holds Try.pinned (OpenSpec.ofChange fnExactMostByWeightSpec)

/-- ITS FALSE NEIGHBOUR: 'it returns false'. Refute it at one input. -/
def fnExactMostByWeightWrong : ChangeSpec := { name := "fnExactMostByWeight", fn := fun _ => fun
  | [d1, d2] => { results := [.lit (.bool false)], args := [d1, d2] }
  | _ => none }
def FnExactMostByWeightWrongFalsely : Prop := fnExactMostByWeightRow.holds Try.pinned (OpenSpec.ofChange fnExactMostByWeightWrong)

/-- 'laws.FnExactAreCounts': WHATEVER THE INPUT: true; the input reads as it did. -/
def fnExactAreCountsSpec : ChangeSpec := { name := "fnExactAreCounts", fn := fun _ => fun
  | [d] => { results := [.lit (.bool true)], args := [d] }
  | _ => none }
def fnExactAreCountsRow : OpenClaim := { program := "yticjbfcelocehaa", sum := "999d22f6fd61e227abd1e2c231f908308348b50083ae6f4544513fa3da3b6dfe", func := "loop.example/g01269/laws.FnExactAreCounts", spec := "fnExactAreCounts", unfollowed := true, recurses := true, apart := false }
def FnExactAreCountsSaid : Prop := fnExactAreCountsRow.holds Try.pinned (OpenSpec.ofChange fnExactAreCountsSpec)

/-- ITS FALSE NEIGHBOUR: 'it returns false'. Refute it at one input. -/
def fnExactAreCountsWrong : ChangeSpec := { name := "fnExactAreCounts", fn := fun _ => fun
  | [d] => { results := [.lit (.bool false)], args := [d] }
  | _ => none }
def FnExactAreCountsWrongFalsely : Prop := fnExactAreCountsRow.holds Try.pinned (OpenSpec.ofChange fnExactAreCountsWrong)

/-- 'laws.FnExactNumbersOf': WHATEVER THE INPUT: true; the input reads as it did. -/
def fnExactNumbersOfSpec : ChangeSpec := { name := "fnExactNumbersOf", fn := fun _ => fun
  | [d1, d2] => { results := [.lit (.bool true)], args := [d1, d2] }
  | _ => none }
def fnExactNumbersOfRow : OpenClaim := { program := "yticjbfcelocehaa", sum := "999d22f6fd61e227abd1e2c231f908308348b50083ae6f4544513fa3da3b6dfe", func := "loop.example/g01269/laws.FnExactNumbersOf", spec := "fnExactNumbersOf", apart := false }
def FnExactNumbersOfSaid : Prop := fnExactNumbersOfRow.holds Try.pinned (OpenSpec.ofChange fnExactNumbersOfSpec)

/-- ITS FALSE NEIGHBOUR: 'it returns false'. Refute it at one input. -/
def fnExactNumbersOfWrong : ChangeSpec := { name := "fnExactNumbersOf", fn := fun _ => fun
  | [d1, d2] => { results := [.lit (.bool false)], args := [d1, d2] }
  | _ => none }
def FnExactNumbersOfWrongFalsely : Prop := fnExactNumbersOfRow.holds Try.pinned (OpenSpec.ofChange fnExactNumbersOfWrong)

/- THE SECOND FORM. 'bulk': how many values and letters a reading holds, each counted each time it is reached (what is shared counts as often as it is met; a slice's spare places count too). A statement '..UptoSaid' is the law's where the arguments, and the package variables that the reading takes, are together of bulk at most 1048576: NARROWER than '..Said'. Prove '..Said' where nothing that the law and all that it calls make is longer than what came in: it says more and counts as full. Else prove '..UptoSaid'. A law counts once. -/
mutual
def uptoBulk {H : Type} : DataW H → Nat
  | .lit (.string bytes) => bytes.length + 1
  | .lit _ => 1
  | .nil => 1
  | .ptr d => uptoBulk d + 1
  | .slice elems spare => uptoBulkAll elems + uptoBulkAll spare + 1
  | .agg parts => uptoBulkAll parts + 1
  | .iface _ d => uptoBulk d + 1
  | .map entries => uptoBulkEntries entries + 1
  | .held _ => 1
def uptoBulkAll {H : Type} : List (DataW H) → Nat
  | [] => 0
  | d :: r => uptoBulk d + uptoBulkAll r
def uptoBulkEntries {H : Type} : List (Lit × DataW H) → Nat
  | [] => 0
  | x :: r => uptoBulkEntry x + uptoBulkEntries r
def uptoBulkEntry {H : Type} : Lit × DataW H → Nat
  | (.string bytes, d) => bytes.length + uptoBulk d + 1
  | (_, d) => uptoBulk d + 1
 end
def uptoSmall : (H : Type) → List (DataW H) → Bool := fun _ ds => decide (uptoBulkAll ds ≤ 1048576)
def OpenSpec.upto (s : _root_.Go.ChangeSpec) : _root_.Go.OpenSpec := { _root_.Go.OpenSpec.ofChange s with cond := some uptoSmall }

/-- 'laws.FnExactConstants', WHERE WHAT IT READS IS OF BULK AT MOST 1048576: true; the input reads as it did. -/
def fnExactConstantsUptoRow : OpenClaim := { program := "yticjbfcelocehaa", sum := "999d22f6fd61e227abd1e2c231f908308348b50083ae6f4544513fa3da3b6dfe", func := "loop.example/g01269/laws.FnExactConstants", spec := "fnExactConstants", apart := false, narrowed := true }
def FnExactConstantsUptoSaid : Prop := fnExactConstantsUptoRow.holds Try.pinned (OpenSpec.upto fnExactConstantsSpec)

/-- 'laws.FnExactLessString', WHERE WHAT IT READS IS OF BULK AT MOST 1048576: true; the input reads as it did. -/
def fnExactLessStringUptoRow : OpenClaim := { program := "yticjbfcelocehaa", sum := "999d22f6fd61e227abd1e2c231f908308348b50083ae6f4544513fa3da3b6dfe", func := "loop.example/g01269/laws.FnExactLessString", spec := "fnExactLessString", apart := false, narrowed := true }
def FnExactLessStringUptoSaid : Prop := fnExactLessStringUptoRow.holds Try.pinned (OpenSpec.upto fnExactLessStringSpec)

/-- 'laws.FnExactLessQuestion', WHERE WHAT IT READS IS OF BULK AT MOST 1048576: true; the input reads as it did. -/
def fnExactLessQuestionUptoRow : OpenClaim := { program := "yticjbfcelocehaa", sum := "999d22f6fd61e227abd1e2c231f908308348b50083ae6f4544513fa3da3b6dfe", func := "loop.example/g01269/laws.FnExactLessQuestion", spec := "fnExactLessQuestion", apart := false, narrowed := true }
def FnExactLessQuestionUptoSaid : Prop := fnExactLessQuestionUptoRow.holds Try.pinned (OpenSpec.upto fnExactLessQuestionSpec)

/-- 'laws.FnExactOtherQuestion', WHERE WHAT IT READS IS OF BULK AT MOST 1048576: true; the input reads as it did. -/
def fnExactOtherQuestionUptoRow : OpenClaim := { program := "yticjbfcelocehaa", sum := "999d22f6fd61e227abd1e2c231f908308348b50083ae6f4544513fa3da3b6dfe", func := "loop.example/g01269/laws.FnExactOtherQuestion", spec := "fnExactOtherQuestion", apart := false, narrowed := true }
def FnExactOtherQuestionUptoSaid : Prop := fnExactOtherQuestionUptoRow.holds Try.pinned (OpenSpec.upto fnExactOtherQuestionSpec)

/-- 'laws.FnExactChecksum', WHERE WHAT IT READS IS OF BULK AT MOST 1048576: true; the input reads as it did. -/
def fnExactChecksumUptoRow : OpenClaim := { program := "yticjbfcelocehaa", sum := "999d22f6fd61e227abd1e2c231f908308348b50083ae6f4544513fa3da3b6dfe", func := "loop.example/g01269/laws.FnExactChecksum", spec := "fnExactChecksum", apart := false, narrowed := true }
def FnExactChecksumUptoSaid : Prop := fnExactChecksumUptoRow.holds Try.pinned (OpenSpec.upto fnExactChecksumSpec)

/-- 'laws.FnExactWaysOf', WHERE WHAT IT READS IS OF BULK AT MOST 1048576: true; the input reads as it did. -/
def fnExactWaysOfUptoRow : OpenClaim := { program := "yticjbfcelocehaa", sum := "999d22f6fd61e227abd1e2c231f908308348b50083ae6f4544513fa3da3b6dfe", func := "loop.example/g01269/laws.FnExactWaysOf", spec := "fnExactWaysOf", apart := false, narrowed := true }
def FnExactWaysOfUptoSaid : Prop := fnExactWaysOfUptoRow.holds Try.pinned (OpenSpec.upto fnExactWaysOfSpec)

/-- 'laws.FnExactBallOf', WHERE WHAT IT READS IS OF BULK AT MOST 1048576: true; the input reads as it did. -/
def fnExactBallOfUptoRow : OpenClaim := { program := "yticjbfcelocehaa", sum := "999d22f6fd61e227abd1e2c231f908308348b50083ae6f4544513fa3da3b6dfe", func := "loop.example/g01269/laws.FnExactBallOf", spec := "fnExactBallOf", apart := false, narrowed := true }
def FnExactBallOfUptoSaid : Prop := fnExactBallOfUptoRow.holds Try.pinned (OpenSpec.upto fnExactBallOfSpec)

/-- 'laws.FnExactIsScheme', WHERE WHAT IT READS IS OF BULK AT MOST 1048576: true; the input reads as it did. -/
def fnExactIsSchemeUptoRow : OpenClaim := { program := "yticjbfcelocehaa", sum := "999d22f6fd61e227abd1e2c231f908308348b50083ae6f4544513fa3da3b6dfe", func := "loop.example/g01269/laws.FnExactIsScheme", spec := "fnExactIsScheme", unfollowed := true, recurses := true, apart := false, narrowed := true }
def FnExactIsSchemeUptoSaid : Prop := fnExactIsSchemeUptoRow.holds Try.pinned (OpenSpec.upto fnExactIsSchemeSpec)

/-- 'laws.FnExactQuestionOf', WHERE WHAT IT READS IS OF BULK AT MOST 1048576: true; the input reads as it did. -/
def fnExactQuestionOfUptoRow : OpenClaim := { program := "yticjbfcelocehaa", sum := "999d22f6fd61e227abd1e2c231f908308348b50083ae6f4544513fa3da3b6dfe", func := "loop.example/g01269/laws.FnExactQuestionOf", spec := "fnExactQuestionOf", apart := false, narrowed := true }
def FnExactQuestionOfUptoSaid : Prop := fnExactQuestionOfUptoRow.holds Try.pinned (OpenSpec.upto fnExactQuestionOfSpec)

/-- 'laws.FnExactMostByWeight', WHERE WHAT IT READS IS OF BULK AT MOST 1048576: true; the input reads as it did. -/
def fnExactMostByWeightUptoRow : OpenClaim := { program := "yticjbfcelocehaa", sum := "999d22f6fd61e227abd1e2c231f908308348b50083ae6f4544513fa3da3b6dfe", func := "loop.example/g01269/laws.FnExactMostByWeight", spec := "fnExactMostByWeight", apart := false, narrowed := true }
def FnExactMostByWeightUptoSaid : Prop := fnExactMostByWeightUptoRow.holds Try.pinned (OpenSpec.upto fnExactMostByWeightSpec)

/-- 'laws.FnExactAreCounts', WHERE WHAT IT READS IS OF BULK AT MOST 1048576: true; the input reads as it did. -/
def fnExactAreCountsUptoRow : OpenClaim := { program := "yticjbfcelocehaa", sum := "999d22f6fd61e227abd1e2c231f908308348b50083ae6f4544513fa3da3b6dfe", func := "loop.example/g01269/laws.FnExactAreCounts", spec := "fnExactAreCounts", unfollowed := true, recurses := true, apart := false, narrowed := true }
def FnExactAreCountsUptoSaid : Prop := fnExactAreCountsUptoRow.holds Try.pinned (OpenSpec.upto fnExactAreCountsSpec)

/-- 'laws.FnExactNumbersOf', WHERE WHAT IT READS IS OF BULK AT MOST 1048576: true; the input reads as it did. -/
def fnExactNumbersOfUptoRow : OpenClaim := { program := "yticjbfcelocehaa", sum := "999d22f6fd61e227abd1e2c231f908308348b50083ae6f4544513fa3da3b6dfe", func := "loop.example/g01269/laws.FnExactNumbersOf", spec := "fnExactNumbersOf", apart := false, narrowed := true }
def FnExactNumbersOfUptoSaid : Prop := fnExactNumbersOfUptoRow.holds Try.pinned (OpenSpec.upto fnExactNumbersOfSpec)

end Rows
end Go.Proofs.Yticjbfcelocehaa
