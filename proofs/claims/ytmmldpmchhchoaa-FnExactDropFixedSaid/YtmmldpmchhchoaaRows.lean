/-
  No cell of these rows narrows 'for every input' (looked for: loops, veiled, ifaces, maps, wideKeys, modest, calm, conditions, laid).
  DERIVED. THE GIVEN ROWS OF THIS SEAT. 12 by the template 'for every input the law returns true; each argument reads behind the call as it read before'; 0 by the template 'total and deterministic' (their statements: YtmmldpmchhchoaaTotals.lean).
  GIVEN WITH THE SEED: the statements are not yours to turn. If you find one false, say at which input.
  Laid BY PROGRAM, IN A SANDBOX (cutbox-rows.mjs): the forced cells as the released guide's own fill.sh prints them over the translation 5a9f0c453a64ae3b… (all of the seat's roots in one cut). By AI agents, Wed Nov 11 2026. No macro, syntax, notation, axiom, sorry.
-/
import Derived.Test.YtmmldpmchhchoaaChecked
import GoSem.Claim
import GoSem.ClaimJoined
import GoSem.ClaimMapViews
import Derived.JoinedTies
import Derived.KernelRfl
namespace Go.Proofs.Ytmmldpmchhchoaa
/- THE CELL 'sum', in the pinned program and in every row, IS THE sha256 OF THE DUMP (.gsa) THAT YtmmldpmchhchoaaProg.lean LOADS. Nothing in Lean hashes anything: it is a label: what it is worth is what the hold of that sum in a sandbox is worth. -/
noncomputable def Try.pinned : Pinned := { name := "ytmmldpmchhchoaa", sum := "5a9f0c453a64ae3b20269d04fed49c2c4929e6de58cb38c5dcac8d6de3203bb4", checked := Try.checked }
namespace Rows
def none {H : Type} : Left H := { results := [], args := [] }

/-- 'laws.FnExactStartState': WHATEVER THE INPUT: true; the input reads as it did. -/
def fnExactStartStateSpec : ChangeSpec := { name := "fnExactStartState", fn := fun _ => fun
  | [d1, d2] => { results := [.lit (.bool true)], args := [d1, d2] }
  | _ => none }
def fnExactStartStateRow : OpenClaim := { program := "ytmmldpmchhchoaa", sum := "5a9f0c453a64ae3b20269d04fed49c2c4929e6de58cb38c5dcac8d6de3203bb4", func := "loop.example/g01269/laws.FnExactStartState", spec := "fnExactStartState", apart := false }
def FnExactStartStateSaid : Prop := fnExactStartStateRow.holds Try.pinned (OpenSpec.ofChange fnExactStartStateSpec)

/-- ITS FALSE NEIGHBOUR: 'it returns false'. Refute it at one input. -/
def fnExactStartStateWrong : ChangeSpec := { name := "fnExactStartState", fn := fun _ => fun
  | [d1, d2] => { results := [.lit (.bool false)], args := [d1, d2] }
  | _ => none }
def FnExactStartStateWrongFalsely : Prop := fnExactStartStateRow.holds Try.pinned (OpenSpec.ofChange fnExactStartStateWrong)

/-- 'laws.FnExactSplitString': WHATEVER THE INPUT: true; the input reads as it did. -/
def fnExactSplitStringSpec : ChangeSpec := { name := "fnExactSplitString", fn := fun _ => fun
  | [d1, d2] => { results := [.lit (.bool true)], args := [d1, d2] }
  | _ => none }
def fnExactSplitStringRow : OpenClaim := { program := "ytmmldpmchhchoaa", sum := "5a9f0c453a64ae3b20269d04fed49c2c4929e6de58cb38c5dcac8d6de3203bb4", func := "loop.example/g01269/laws.FnExactSplitString", spec := "fnExactSplitString", apart := false }
def FnExactSplitStringSaid : Prop := fnExactSplitStringRow.holds Try.pinned (OpenSpec.ofChange fnExactSplitStringSpec)

/-- ITS FALSE NEIGHBOUR: 'it returns false'. Refute it at one input. -/
def fnExactSplitStringWrong : ChangeSpec := { name := "fnExactSplitString", fn := fun _ => fun
  | [d1, d2] => { results := [.lit (.bool false)], args := [d1, d2] }
  | _ => none }
def FnExactSplitStringWrongFalsely : Prop := fnExactSplitStringRow.holds Try.pinned (OpenSpec.ofChange fnExactSplitStringWrong)

/-- 'laws.FnExactIsState': WHATEVER THE INPUT: true; the input reads as it did. -/
def fnExactIsStateSpec : ChangeSpec := { name := "fnExactIsState", fn := fun _ => fun
  | [d] => { results := [.lit (.bool true)], args := [d] }
  | _ => none }
def fnExactIsStateRow : OpenClaim := { program := "ytmmldpmchhchoaa", sum := "5a9f0c453a64ae3b20269d04fed49c2c4929e6de58cb38c5dcac8d6de3203bb4", func := "loop.example/g01269/laws.FnExactIsState", spec := "fnExactIsState", unfollowed := true, recurses := true, apart := false }
def FnExactIsStateSaid : Prop := fnExactIsStateRow.holds Try.pinned (OpenSpec.ofChange fnExactIsStateSpec)

/-- ITS FALSE NEIGHBOUR: 'it returns false'. Refute it at one input. -/
def fnExactIsStateWrong : ChangeSpec := { name := "fnExactIsState", fn := fun _ => fun
  | [d] => { results := [.lit (.bool false)], args := [d] }
  | _ => none }
def FnExactIsStateWrongFalsely : Prop := fnExactIsStateRow.holds Try.pinned (OpenSpec.ofChange fnExactIsStateWrong)

/-- 'laws.FnExactTrueWord': WHATEVER THE INPUT: true; the input reads as it did. -/
def fnExactTrueWordSpec : ChangeSpec := { name := "fnExactTrueWord", fn := fun _ => fun
  | [d1, d2, d3] => { results := [.lit (.bool true)], args := [d1, d2, d3] }
  | _ => none }
def fnExactTrueWordRow : OpenClaim := { program := "ytmmldpmchhchoaa", sum := "5a9f0c453a64ae3b20269d04fed49c2c4929e6de58cb38c5dcac8d6de3203bb4", func := "loop.example/g01269/laws.FnExactTrueWord", spec := "fnExactTrueWord", unfollowed := true, recurses := true, apart := false }
def FnExactTrueWordSaid : Prop := fnExactTrueWordRow.holds Try.pinned (OpenSpec.ofChange fnExactTrueWordSpec)

/-- ITS FALSE NEIGHBOUR: 'it returns false'. Refute it at one input. -/
def fnExactTrueWordWrong : ChangeSpec := { name := "fnExactTrueWord", fn := fun _ => fun
  | [d1, d2, d3] => { results := [.lit (.bool false)], args := [d1, d2, d3] }
  | _ => none }
def FnExactTrueWordWrongFalsely : Prop := fnExactTrueWordRow.holds Try.pinned (OpenSpec.ofChange fnExactTrueWordWrong)

/-- 'laws.FnExactWeightTable': WHATEVER THE INPUT: true; the input reads as it did. -/
def fnExactWeightTableSpec : ChangeSpec := { name := "fnExactWeightTable", fn := fun _ => fun
  | [d1, d2] => { results := [.lit (.bool true)], args := [d1, d2] }
  | _ => none }
def fnExactWeightTableRow : OpenClaim := { program := "ytmmldpmchhchoaa", sum := "5a9f0c453a64ae3b20269d04fed49c2c4929e6de58cb38c5dcac8d6de3203bb4", func := "loop.example/g01269/laws.FnExactWeightTable", spec := "fnExactWeightTable", apart := false }
def FnExactWeightTableSaid : Prop := fnExactWeightTableRow.holds Try.pinned (OpenSpec.ofChange fnExactWeightTableSpec)

/-- ITS FALSE NEIGHBOUR: 'it returns false'. Refute it at one input. -/
def fnExactWeightTableWrong : ChangeSpec := { name := "fnExactWeightTable", fn := fun _ => fun
  | [d1, d2] => { results := [.lit (.bool false)], args := [d1, d2] }
  | _ => none }
def FnExactWeightTableWrongFalsely : Prop := fnExactWeightTableRow.holds Try.pinned (OpenSpec.ofChange fnExactWeightTableWrong)

/-- 'laws.FnExactSchemeOf': WHATEVER THE INPUT: true; the input reads as it did. -/
def fnExactSchemeOfSpec : ChangeSpec := { name := "fnExactSchemeOf", fn := fun _ => fun
  | [d1, d2] => { results := [.lit (.bool true)], args := [d1, d2] }
  | _ => none }
def fnExactSchemeOfRow : OpenClaim := { program := "ytmmldpmchhchoaa", sum := "5a9f0c453a64ae3b20269d04fed49c2c4929e6de58cb38c5dcac8d6de3203bb4", func := "loop.example/g01269/laws.FnExactSchemeOf", spec := "fnExactSchemeOf", unfollowed := true, recurses := true, apart := false }
def FnExactSchemeOfSaid : Prop := fnExactSchemeOfRow.holds Try.pinned (OpenSpec.ofChange fnExactSchemeOfSpec)

/-- ITS FALSE NEIGHBOUR: 'it returns false'. Refute it at one input. -/
def fnExactSchemeOfWrong : ChangeSpec := { name := "fnExactSchemeOf", fn := fun _ => fun
  | [d1, d2] => { results := [.lit (.bool false)], args := [d1, d2] }
  | _ => none }
def FnExactSchemeOfWrongFalsely : Prop := fnExactSchemeOfRow.holds Try.pinned (OpenSpec.ofChange fnExactSchemeOfWrong)

/-- 'laws.FnExactDropFixed': WHATEVER THE INPUT: true; the input reads as it did. -/
def fnExactDropFixedSpec : ChangeSpec := { name := "fnExactDropFixed", fn := fun _ => fun
  | [d1, d2, d3] => { results := [.lit (.bool true)], args := [d1, d2, d3] }
  | _ => none }
def fnExactDropFixedRow : OpenClaim := { program := "ytmmldpmchhchoaa", sum := "5a9f0c453a64ae3b20269d04fed49c2c4929e6de58cb38c5dcac8d6de3203bb4", func := "loop.example/g01269/laws.FnExactDropFixed", spec := "fnExactDropFixed", unfollowed := true, recurses := true, apart := false }
def FnExactDropFixedSaid : Prop := fnExactDropFixedRow.holds Try.pinned (OpenSpec.ofChange fnExactDropFixedSpec)

/-- ITS FALSE NEIGHBOUR: 'it returns false'. Refute it at one input. -/
def fnExactDropFixedWrong : ChangeSpec := { name := "fnExactDropFixed", fn := fun _ => fun
  | [d1, d2, d3] => { results := [.lit (.bool false)], args := [d1, d2, d3] }
  | _ => none }
def FnExactDropFixedWrongFalsely : Prop := fnExactDropFixedRow.holds Try.pinned (OpenSpec.ofChange fnExactDropFixedWrong)

/-- 'laws.FnExactFalseFor': WHATEVER THE INPUT: true; the input reads as it did. -/
def fnExactFalseForSpec : ChangeSpec := { name := "fnExactFalseFor", fn := fun _ => fun
  | [d1, d2, d3] => { results := [.lit (.bool true)], args := [d1, d2, d3] }
  | _ => none }
def fnExactFalseForRow : OpenClaim := { program := "ytmmldpmchhchoaa", sum := "5a9f0c453a64ae3b20269d04fed49c2c4929e6de58cb38c5dcac8d6de3203bb4", func := "loop.example/g01269/laws.FnExactFalseFor", spec := "fnExactFalseFor", unfollowed := true, recurses := true, apart := false }
def FnExactFalseForSaid : Prop := fnExactFalseForRow.holds Try.pinned (OpenSpec.ofChange fnExactFalseForSpec)

/-- ITS FALSE NEIGHBOUR: 'it returns false'. Refute it at one input. -/
def fnExactFalseForWrong : ChangeSpec := { name := "fnExactFalseFor", fn := fun _ => fun
  | [d1, d2, d3] => { results := [.lit (.bool false)], args := [d1, d2, d3] }
  | _ => none }
def FnExactFalseForWrongFalsely : Prop := fnExactFalseForRow.holds Try.pinned (OpenSpec.ofChange fnExactFalseForWrong)

/-- 'laws.FnExactTrueWords': WHATEVER THE INPUT: true; the input reads as it did. -/
def fnExactTrueWordsSpec : ChangeSpec := { name := "fnExactTrueWords", fn := fun _ => fun
  | [d1, d2] => { results := [.lit (.bool true)], args := [d1, d2] }
  | _ => none }
def fnExactTrueWordsRow : OpenClaim := { program := "ytmmldpmchhchoaa", sum := "5a9f0c453a64ae3b20269d04fed49c2c4929e6de58cb38c5dcac8d6de3203bb4", func := "loop.example/g01269/laws.FnExactTrueWords", spec := "fnExactTrueWords", unfollowed := true, recurses := true, apart := false }
def FnExactTrueWordsSaid : Prop := fnExactTrueWordsRow.holds Try.pinned (OpenSpec.ofChange fnExactTrueWordsSpec)

/-- ITS FALSE NEIGHBOUR: 'it returns false'. Refute it at one input. -/
def fnExactTrueWordsWrong : ChangeSpec := { name := "fnExactTrueWords", fn := fun _ => fun
  | [d1, d2] => { results := [.lit (.bool false)], args := [d1, d2] }
  | _ => none }
def FnExactTrueWordsWrongFalsely : Prop := fnExactTrueWordsRow.holds Try.pinned (OpenSpec.ofChange fnExactTrueWordsWrong)

/-- 'laws.FnExactBitScheme': WHATEVER THE INPUT: true; the input reads as it did. -/
def fnExactBitSchemeSpec : ChangeSpec := { name := "fnExactBitScheme", fn := fun _ => fun
  | [d] => { results := [.lit (.bool true)], args := [d] }
  | _ => none }
def fnExactBitSchemeRow : OpenClaim := { program := "ytmmldpmchhchoaa", sum := "5a9f0c453a64ae3b20269d04fed49c2c4929e6de58cb38c5dcac8d6de3203bb4", func := "loop.example/g01269/laws.FnExactBitScheme", spec := "fnExactBitScheme", apart := false }
def FnExactBitSchemeSaid : Prop := fnExactBitSchemeRow.holds Try.pinned (OpenSpec.ofChange fnExactBitSchemeSpec)

/-- ITS FALSE NEIGHBOUR: 'it returns false'. Refute it at one input. -/
def fnExactBitSchemeWrong : ChangeSpec := { name := "fnExactBitScheme", fn := fun _ => fun
  | [d] => { results := [.lit (.bool false)], args := [d] }
  | _ => none }
def FnExactBitSchemeWrongFalsely : Prop := fnExactBitSchemeRow.holds Try.pinned (OpenSpec.ofChange fnExactBitSchemeWrong)

/-- 'laws.FnExactOpenSpan': WHATEVER THE INPUT: true; the input reads as it did. -/
def fnExactOpenSpanSpec : ChangeSpec := { name := "fnExactOpenSpan", fn := fun _ => fun
  | [d] => { results := [.lit (.bool true)], args := [d] }
  | _ => none }
def fnExactOpenSpanRow : OpenClaim := { program := "ytmmldpmchhchoaa", sum := "5a9f0c453a64ae3b20269d04fed49c2c4929e6de58cb38c5dcac8d6de3203bb4", func := "loop.example/g01269/laws.FnExactOpenSpan", spec := "fnExactOpenSpan", unfollowed := true, recurses := true, apart := false }
def FnExactOpenSpanSaid : Prop := fnExactOpenSpanRow.holds Try.pinned (OpenSpec.ofChange fnExactOpenSpanSpec)

/-- ITS FALSE NEIGHBOUR: 'it returns false'. Refute it at one input. -/
def fnExactOpenSpanWrong : ChangeSpec := { name := "fnExactOpenSpan", fn := fun _ => fun
  | [d] => { results := [.lit (.bool false)], args := [d] }
  | _ => none }
def FnExactOpenSpanWrongFalsely : Prop := fnExactOpenSpanRow.holds Try.pinned (OpenSpec.ofChange fnExactOpenSpanWrong)

/-- 'laws.FnExactToldNumber': WHATEVER THE INPUT: true; the input reads as it did. -/
def fnExactToldNumberSpec : ChangeSpec := { name := "fnExactToldNumber", fn := fun _ => fun
  | [d] => { results := [.lit (.bool true)], args := [d] }
  | _ => none }
def fnExactToldNumberRow : OpenClaim := { program := "ytmmldpmchhchoaa", sum := "5a9f0c453a64ae3b20269d04fed49c2c4929e6de58cb38c5dcac8d6de3203bb4", func := "loop.example/g01269/laws.FnExactToldNumber", spec := "fnExactToldNumber", unfollowed := true, recurses := true, apart := false }
def FnExactToldNumberSaid : Prop := fnExactToldNumberRow.holds Try.pinned (OpenSpec.ofChange fnExactToldNumberSpec)

/-- ITS FALSE NEIGHBOUR: 'it returns false'. Refute it at one input. -/
def fnExactToldNumberWrong : ChangeSpec := { name := "fnExactToldNumber", fn := fun _ => fun
  | [d] => { results := [.lit (.bool false)], args := [d] }
  | _ => none }
def FnExactToldNumberWrongFalsely : Prop := fnExactToldNumberRow.holds Try.pinned (OpenSpec.ofChange fnExactToldNumberWrong)

/- THE SECOND FORM. 'bulk': how many values and letters a reading holds, each counted each time it is reached (what is shared counts as often as it is met; a slice's spare places count too). A statement '..UptoSaid' is the law's where the arguments, and the package variables that the reading takes, are together of bulk at most 1048576: NARROWER than '..Said'. Prove '..Said' where nothing that the law and all that it calls make is longer than what came in: it says more and counts as full. Else prove '..UptoSaid'. A law counts once. -/
mutual
def uptoBulk {H : Type} : DataW H → Nat
  | .lit (.string bytes) => bytes.length + 1
  | .lit _ => 1
  | .nil => 1
  | .ptr d => uptoBulk d + 1
  | .slice elems spare => uptoBulkAll elems + uptoBulkAll spare + 1
  | .agg parts => uptoBulkAll parts + 1
  | .iface _ d => uptoBulk d + 1
  | .map entries => uptoBulkEntries entries + 1
  | .held _ => 1
def uptoBulkAll {H : Type} : List (DataW H) → Nat
  | [] => 0
  | d :: r => uptoBulk d + uptoBulkAll r
def uptoBulkEntries {H : Type} : List (Lit × DataW H) → Nat
  | [] => 0
  | x :: r => uptoBulkEntry x + uptoBulkEntries r
def uptoBulkEntry {H : Type} : Lit × DataW H → Nat
  | (.string bytes, d) => bytes.length + uptoBulk d + 1
  | (_, d) => uptoBulk d + 1
 end
def uptoSmall : (H : Type) → List (DataW H) → Bool := fun _ ds => decide (uptoBulkAll ds ≤ 1048576)
def OpenSpec.upto (s : _root_.Go.ChangeSpec) : _root_.Go.OpenSpec := { _root_.Go.OpenSpec.ofChange s with cond := some uptoSmall }

/-- 'laws.FnExactStartState', WHERE WHAT IT READS IS OF BULK AT MOST 1048576: true; the input reads as it did. -/
def fnExactStartStateUptoRow : OpenClaim := { program := "ytmmldpmchhchoaa", sum := "5a9f0c453a64ae3b20269d04fed49c2c4929e6de58cb38c5dcac8d6de3203bb4", func := "loop.example/g01269/laws.FnExactStartState", spec := "fnExactStartState", apart := false, narrowed := true }
def FnExactStartStateUptoSaid : Prop := fnExactStartStateUptoRow.holds Try.pinned (OpenSpec.upto fnExactStartStateSpec)

/-- 'laws.FnExactSplitString', WHERE WHAT IT READS IS OF BULK AT MOST 1048576: true; the input reads as it did. -/
def fnExactSplitStringUptoRow : OpenClaim := { program := "ytmmldpmchhchoaa", sum := "5a9f0c453a64ae3b20269d04fed49c2c4929e6de58cb38c5dcac8d6de3203bb4", func := "loop.example/g01269/laws.FnExactSplitString", spec := "fnExactSplitString", apart := false, narrowed := true }
def FnExactSplitStringUptoSaid : Prop := fnExactSplitStringUptoRow.holds Try.pinned (OpenSpec.upto fnExactSplitStringSpec)

/-- 'laws.FnExactIsState', WHERE WHAT IT READS IS OF BULK AT MOST 1048576: true; the input reads as it did. -/
def fnExactIsStateUptoRow : OpenClaim := { program := "ytmmldpmchhchoaa", sum := "5a9f0c453a64ae3b20269d04fed49c2c4929e6de58cb38c5dcac8d6de3203bb4", func := "loop.example/g01269/laws.FnExactIsState", spec := "fnExactIsState", unfollowed := true, recurses := true, apart := false, narrowed := true }
def FnExactIsStateUptoSaid : Prop := fnExactIsStateUptoRow.holds Try.pinned (OpenSpec.upto fnExactIsStateSpec)

/-- 'laws.FnExactTrueWord', WHERE WHAT IT READS IS OF BULK AT MOST 1048576: true; the input reads as it did. -/
def fnExactTrueWordUptoRow : OpenClaim := { program := "ytmmldpmchhchoaa", sum := "5a9f0c453a64ae3b20269d04fed49c2c4929e6de58cb38c5dcac8d6de3203bb4", func := "loop.example/g01269/laws.FnExactTrueWord", spec := "fnExactTrueWord", unfollowed := true, recurses := true, apart := false, narrowed := true }
def FnExactTrueWordUptoSaid : Prop := fnExactTrueWordUptoRow.holds Try.pinned (OpenSpec.upto fnExactTrueWordSpec)

/-- 'laws.FnExactWeightTable', WHERE WHAT IT READS IS OF BULK AT MOST 1048576: true; the input reads as it did. -/
def fnExactWeightTableUptoRow : OpenClaim := { program := "ytmmldpmchhchoaa", sum := "5a9f0c453a64ae3b20269d04fed49c2c4929e6de58cb38c5dcac8d6de3203bb4", func := "loop.example/g01269/laws.FnExactWeightTable", spec := "fnExactWeightTable", apart := false, narrowed := true }
def FnExactWeightTableUptoSaid : Prop := fnExactWeightTableUptoRow.holds Try.pinned (OpenSpec.upto fnExactWeightTableSpec)

/-- 'laws.FnExactSchemeOf', WHERE WHAT IT READS IS OF BULK AT MOST 1048576: true; the input reads as it did. -/
def fnExactSchemeOfUptoRow : OpenClaim := { program := "ytmmldpmchhchoaa", sum := "5a9f0c453a64ae3b20269d04fed49c2c4929e6de58cb38c5dcac8d6de3203bb4", func := "loop.example/g01269/laws.FnExactSchemeOf", spec := "fnExactSchemeOf", unfollowed := true, recurses := true, apart := false, narrowed := true }
def FnExactSchemeOfUptoSaid : Prop := fnExactSchemeOfUptoRow.holds Try.pinned (OpenSpec.upto fnExactSchemeOfSpec)

/-- 'laws.FnExactDropFixed', WHERE WHAT IT READS IS OF BULK AT MOST 1048576: true; the input reads as it did. -/
def fnExactDropFixedUptoRow : OpenClaim := { program := "ytmmldpmchhchoaa", sum := "5a9f0c453a64ae3b20269d04fed49c2c4929e6de58cb38c5dcac8d6de3203bb4", func := "loop.example/g01269/laws.FnExactDropFixed", spec := "fnExactDropFixed", unfollowed := true, recurses := true, apart := false, narrowed := true }
def FnExactDropFixedUptoSaid : Prop := fnExactDropFixedUptoRow.holds Try.pinned (OpenSpec.upto fnExactDropFixedSpec)

/-- 'laws.FnExactFalseFor', WHERE WHAT IT READS IS OF BULK AT MOST 1048576: true; the input reads as it did. -/
def fnExactFalseForUptoRow : OpenClaim := { program := "ytmmldpmchhchoaa", sum := "5a9f0c453a64ae3b20269d04fed49c2c4929e6de58cb38c5dcac8d6de3203bb4", func := "loop.example/g01269/laws.FnExactFalseFor", spec := "fnExactFalseFor", unfollowed := true, recurses := true, apart := false, narrowed := true }
def FnExactFalseForUptoSaid : Prop := fnExactFalseForUptoRow.holds Try.pinned (OpenSpec.upto fnExactFalseForSpec)

/-- 'laws.FnExactTrueWords', WHERE WHAT IT READS IS OF BULK AT MOST 1048576: true; the input reads as it did. -/
def fnExactTrueWordsUptoRow : OpenClaim := { program := "ytmmldpmchhchoaa", sum := "5a9f0c453a64ae3b20269d04fed49c2c4929e6de58cb38c5dcac8d6de3203bb4", func := "loop.example/g01269/laws.FnExactTrueWords", spec := "fnExactTrueWords", unfollowed := true, recurses := true, apart := false, narrowed := true }
def FnExactTrueWordsUptoSaid : Prop := fnExactTrueWordsUptoRow.holds Try.pinned (OpenSpec.upto fnExactTrueWordsSpec)

/-- 'laws.FnExactBitScheme', WHERE WHAT IT READS IS OF BULK AT MOST 1048576: true; the input reads as it did. -/
def fnExactBitSchemeUptoRow : OpenClaim := { program := "ytmmldpmchhchoaa", sum := "5a9f0c453a64ae3b20269d04fed49c2c4929e6de58cb38c5dcac8d6de3203bb4", func := "loop.example/g01269/laws.FnExactBitScheme", spec := "fnExactBitScheme", apart := false, narrowed := true }
def FnExactBitSchemeUptoSaid : Prop := fnExactBitSchemeUptoRow.holds Try.pinned (OpenSpec.upto fnExactBitSchemeSpec)

/-- 'laws.FnExactOpenSpan', WHERE WHAT IT READS IS OF BULK AT MOST 1048576: true; the input reads as it did. -/
def fnExactOpenSpanUptoRow : OpenClaim := { program := "ytmmldpmchhchoaa", sum := "5a9f0c453a64ae3b20269d04fed49c2c4929e6de58cb38c5dcac8d6de3203bb4", func := "loop.example/g01269/laws.FnExactOpenSpan", spec := "fnExactOpenSpan", unfollowed := true, recurses := true, apart := false, narrowed := true }
def FnExactOpenSpanUptoSaid : Prop := fnExactOpenSpanUptoRow.holds Try.pinned (OpenSpec.upto fnExactOpenSpanSpec)

/-- 'laws.FnExactToldNumber', WHERE WHAT IT READS IS OF BULK AT MOST 1048576: true; the input reads as it did. -/
def fnExactToldNumberUptoRow : OpenClaim := { program := "ytmmldpmchhchoaa", sum := "5a9f0c453a64ae3b20269d04fed49c2c4929e6de58cb38c5dcac8d6de3203bb4", func := "loop.example/g01269/laws.FnExactToldNumber", spec := "fnExactToldNumber", unfollowed := true, recurses := true, apart := false, narrowed := true }
def FnExactToldNumberUptoSaid : Prop := fnExactToldNumberUptoRow.holds Try.pinned (OpenSpec.upto fnExactToldNumberSpec)

end Rows
end Go.Proofs.Ytmmldpmchhchoaa
