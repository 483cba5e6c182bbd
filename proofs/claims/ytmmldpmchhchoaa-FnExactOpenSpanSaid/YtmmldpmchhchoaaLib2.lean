/- General lemmas for the plain laws, the second part: no program in sight. Written for this work. -/
import Derived.Test.YtmmldpmchhchoaaLib
set_option linter.unusedVariables false
namespace Go.Proofs.Ytmmldpmchhchoaa.Lib
open Go.RowKit Go.Proofs.YtmmldpmchhchoaaW.PrintWords Go.Proofs.YtmmldpmchhchoaaW.PrintLast Go.Proofs.YtmmldpmchhchoaaW.PrintMore

variable {α β : Type}

/-- The weights of 0, .., n - 1 false answers so far. -/
def wtV (q most : Int) : Nat → List Int
  | 0 => []
  | i + 1 => wtV q most i ++ [ballV q ((mn q (wrap64 (most - i))) + 1).toNat]
theorem wtV_length (q most : Int) (n : Nat) : (wtV q most n).length = n := by
  induction n with
  | zero => rfl
  | succ n ih => simp [wtV, ih]
/-- The true words of the numbers 0, .., n - 1. -/
def wordsV (l : List Int) : Nat → List Int
  | 0 => []
  | i + 1 => wordsV l i ++ [twV l i l.length]
theorem wordsV_length (l : List Int) (n : Nat) : (wordsV l n).length = n := by
  induction n with
  | zero => rfl
  | succ n ih => simp [wordsV, ih]
/-- The numbers that are open. -/
def openV (l : List Int) : Nat → List Int := numsTo fun k => decide (rd l k ≥ 0)
theorem openV_length (l : List Int) (n : Nat) : (openV l n).length ≤ n := numsTo_length _ n
theorem numsTo_mem (p : Int → Bool) (n : Nat) : ∀ x ∈ numsTo p n, 0 ≤ x ∧ x < n ∧ p x = true := by
  induction n with
  | zero => intro x hx; simp [numsTo] at hx
  | succ n ih =>
    intro x hx
    unfold numsTo at hx
    split at hx
    · rename_i hp
      rw [List.mem_append, List.mem_singleton] at hx
      rcases hx with hx | rfl
      · have := ih x hx
        exact ⟨this.1, by omega, this.2.2⟩
      · exact ⟨by omega, by omega, hp⟩
    · have := ih x hx
      exact ⟨this.1, by omega, this.2.2⟩
theorem isSch_bd {n : Int} {l : List Int} (h : isSch n l = true) : 1 ≤ n ∧ n ≤ 12 ∧ l.length ≤ 14 ∧ isN n = true := by
  unfold isSch at h
  simp only [Bool.and_eq_true, decide_eq_true_eq] at h
  have := isN_bd h.1.1
  exact ⟨this.1, this.2, h.1.2, h.1.1⟩
theorem isSt_len {l : List Int} {m : Int} (h : isSt l m = true) : l.length ≤ 12 := by
  unfold isSt at h
  simp only [Bool.and_eq_true] at h
  have := isN_bd h.1.1
  omega

end Go.Proofs.Ytmmldpmchhchoaa.Lib
