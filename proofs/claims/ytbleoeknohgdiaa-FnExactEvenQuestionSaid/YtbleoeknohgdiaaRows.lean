/-
  No cell of these rows narrows 'for every input' (looked for: loops, veiled, ifaces, maps, wideKeys, modest, calm, conditions, laid).
  DERIVED. THE GIVEN ROWS OF THIS SEAT. 3 by the template 'for every input the law returns true; each argument reads behind the call as it read before'; 0 by the template 'total and deterministic' (their statements: YtbleoeknohgdiaaTotals.lean).
  GIVEN WITH THE SEED: the statements are not yours to turn. If you find one false, say at which input.
  Laid BY PROGRAM, IN A SANDBOX (cutbox-rows.mjs): the forced cells as the released guide's own fill.sh prints them over the translation 208755ae6f2c2d79… (all of the seat's roots in one cut). By AI agents, Wed Nov 11 2026. No macro, syntax, notation, axiom, sorry.
-/
import Derived.Test.YtbleoeknohgdiaaChecked
import GoSem.Claim
import GoSem.ClaimJoined
import GoSem.ClaimMapViews
import Derived.JoinedTies
import Derived.KernelRfl
namespace Go.Proofs.Ytbleoeknohgdiaa
/- THE CELL 'sum', in the pinned program and in every row, IS THE sha256 OF THE DUMP (.gsa) THAT YtbleoeknohgdiaaProg.lean LOADS. Nothing in Lean hashes anything: it is a label: what it is worth is what the hold of that sum in a sandbox is worth. -/
noncomputable def Try.pinned : Pinned := { name := "ytbleoeknohgdiaa", sum := "208755ae6f2c2d79e7fae3f256d944cb222d6f034ab376daf6a97f45a3c8cccd", checked := Try.checked }
namespace Rows
def none {H : Type} : Left H := { results := [], args := [] }

/-- 'laws.FnExactCountBalanced': WHATEVER THE INPUT: true; the input reads as it did. -/
def fnExactCountBalancedSpec : ChangeSpec := { name := "fnExactCountBalanced", fn := fun _ => fun
  | [d1, d2] => { results := [.lit (.bool true)], args := [d1, d2] }
  | _ => none }
def fnExactCountBalancedRow : OpenClaim := { program := "ytbleoeknohgdiaa", sum := "208755ae6f2c2d79e7fae3f256d944cb222d6f034ab376daf6a97f45a3c8cccd", func := "loop.example/g01269/laws.FnExactCountBalanced", spec := "fnExactCountBalanced", unfollowed := true, recurses := true, apart := false }
def FnExactCountBalancedSaid : Prop := fnExactCountBalancedRow.holds Try.pinned (OpenSpec.ofChange fnExactCountBalancedSpec)

/-- ITS FALSE NEIGHBOUR: 'it returns false'. Refute it at one input. -/
def fnExactCountBalancedWrong : ChangeSpec := { name := "fnExactCountBalanced", fn := fun _ => fun
  | [d1, d2] => { results := [.lit (.bool false)], args := [d1, d2] }
  | _ => none }
def FnExactCountBalancedWrongFalsely : Prop := fnExactCountBalancedRow.holds Try.pinned (OpenSpec.ofChange fnExactCountBalancedWrong)

/-- 'laws.FnExactEvenQuestion': WHATEVER THE INPUT: true; the input reads as it did. -/
def fnExactEvenQuestionSpec : ChangeSpec := { name := "fnExactEvenQuestion", fn := fun _ => fun
  | [d1, d2] => { results := [.lit (.bool true)], args := [d1, d2] }
  | _ => none }
def fnExactEvenQuestionRow : OpenClaim := { program := "ytbleoeknohgdiaa", sum := "208755ae6f2c2d79e7fae3f256d944cb222d6f034ab376daf6a97f45a3c8cccd", func := "loop.example/g01269/laws.FnExactEvenQuestion", spec := "fnExactEvenQuestion", unfollowed := true, recurses := true, apart := false }
def FnExactEvenQuestionSaid : Prop := fnExactEvenQuestionRow.holds Try.pinned (OpenSpec.ofChange fnExactEvenQuestionSpec)

/-- ITS FALSE NEIGHBOUR: 'it returns false'. Refute it at one input. -/
def fnExactEvenQuestionWrong : ChangeSpec := { name := "fnExactEvenQuestion", fn := fun _ => fun
  | [d1, d2] => { results := [.lit (.bool false)], args := [d1, d2] }
  | _ => none }
def FnExactEvenQuestionWrongFalsely : Prop := fnExactEvenQuestionRow.holds Try.pinned (OpenSpec.ofChange fnExactEvenQuestionWrong)

/-- 'laws.FnExactVainFixed': WHATEVER THE INPUT: true; the input reads as it did. -/
def fnExactVainFixedSpec : ChangeSpec := { name := "fnExactVainFixed", fn := fun _ => fun
  | [d1, d2, d3] => { results := [.lit (.bool true)], args := [d1, d2, d3] }
  | _ => none }
def fnExactVainFixedRow : OpenClaim := { program := "ytbleoeknohgdiaa", sum := "208755ae6f2c2d79e7fae3f256d944cb222d6f034ab376daf6a97f45a3c8cccd", func := "loop.example/g01269/laws.FnExactVainFixed", spec := "fnExactVainFixed", unfollowed := true, recurses := true, apart := false }
def FnExactVainFixedSaid : Prop := fnExactVainFixedRow.holds Try.pinned (OpenSpec.ofChange fnExactVainFixedSpec)

/-- ITS FALSE NEIGHBOUR: 'it returns false'. Refute it at one input. -/
def fnExactVainFixedWrong : ChangeSpec := { name := "fnExactVainFixed", fn := fun _ => fun
  | [d1, d2, d3] => { results := [.lit (.bool false)], args := [d1, d2, d3] }
  | _ => none }
def FnExactVainFixedWrongFalsely : Prop := fnExactVainFixedRow.holds Try.pinned (OpenSpec.ofChange fnExactVainFixedWrong)

/- THE SECOND FORM. 'bulk': how many values and letters a reading holds, each counted each time it is reached (what is shared counts as often as it is met; a slice's spare places count too). A statement '..UptoSaid' is the law's where the arguments, and the package variables that the reading takes, are together of bulk at most 1048576: NARROWER than '..Said'. Prove '..Said' where nothing that the law and all that it calls make is longer than what came in: it says more and counts as full. Else prove '..UptoSaid'. A law counts once. -/
mutual
def uptoBulk {H : Type} : DataW H → Nat
  | .lit (.string bytes) => bytes.length + 1
  | .lit _ => 1
  | .nil => 1
  | .ptr d => uptoBulk d + 1
  | .slice elems spare => uptoBulkAll elems + uptoBulkAll spare + 1
  | .agg parts => uptoBulkAll parts + 1
  | .iface _ d => uptoBulk d + 1
  | .map entries => uptoBulkEntries entries + 1
  | .held _ => 1
def uptoBulkAll {H : Type} : List (DataW H) → Nat
  | [] => 0
  | d :: r => uptoBulk d + uptoBulkAll r
def uptoBulkEntries {H : Type} : List (Lit × DataW H) → Nat
  | [] => 0
  | x :: r => uptoBulkEntry x + uptoBulkEntries r
def uptoBulkEntry {H : Type} : Lit × DataW H → Nat
  | (.string bytes, d) => bytes.length + uptoBulk d + 1
  | (_, d) => uptoBulk d + 1
 end
def uptoSmall : (H : Type) → List (DataW H) → Bool := fun _ ds => decide (uptoBulkAll ds ≤ 1048576)
def OpenSpec.upto (s : _root_.Go.ChangeSpec) : _root_.Go.OpenSpec := { _root_.Go.OpenSpec.ofChange s with cond := some uptoSmall }

/-- 'laws.FnExactCountBalanced', WHERE WHAT IT READS IS OF BULK AT MOST 1048576: true; the input reads as it did. -/
def fnExactCountBalancedUptoRow : OpenClaim := { program := "ytbleoeknohgdiaa", sum := "208755ae6f2c2d79e7fae3f256d944cb222d6f034ab376daf6a97f45a3c8cccd", func := "loop.example/g01269/laws.FnExactCountBalanced", spec := "fnExactCountBalanced", unfollowed := true, recurses := true, apart := false, narrowed := true }
def FnExactCountBalancedUptoSaid : Prop := fnExactCountBalancedUptoRow.holds Try.pinned (OpenSpec.upto fnExactCountBalancedSpec)

/-- 'laws.FnExactEvenQuestion', WHERE WHAT IT READS IS OF BULK AT MOST 1048576: true; the input reads as it did. -/
def fnExactEvenQuestionUptoRow : OpenClaim := { program := "ytbleoeknohgdiaa", sum := "208755ae6f2c2d79e7fae3f256d944cb222d6f034ab376daf6a97f45a3c8cccd", func := "loop.example/g01269/laws.FnExactEvenQuestion", spec := "fnExactEvenQuestion", unfollowed := true, recurses := true, apart := false, narrowed := true }
def FnExactEvenQuestionUptoSaid : Prop := fnExactEvenQuestionUptoRow.holds Try.pinned (OpenSpec.upto fnExactEvenQuestionSpec)

/-- 'laws.FnExactVainFixed', WHERE WHAT IT READS IS OF BULK AT MOST 1048576: true; the input reads as it did. -/
def fnExactVainFixedUptoRow : OpenClaim := { program := "ytbleoeknohgdiaa", sum := "208755ae6f2c2d79e7fae3f256d944cb222d6f034ab376daf6a97f45a3c8cccd", func := "loop.example/g01269/laws.FnExactVainFixed", spec := "fnExactVainFixed", unfollowed := true, recurses := true, apart := false, narrowed := true }
def FnExactVainFixedUptoSaid : Prop := fnExactVainFixedUptoRow.holds Try.pinned (OpenSpec.upto fnExactVainFixedSpec)

end Rows
end Go.Proofs.Ytbleoeknohgdiaa
