/- General lemmas for the plain laws, the second part: no program in sight. Written for this work. -/
import Derived.Test.YtmmldpmchhchoaaLib
set_option linter.unusedVariables false
namespace Go.Proofs.Ytmmldpmchhchoaa.Lib
open Go.RowKit Go.Proofs.YtmmldpmchhchoaaW.PrintWords Go.Proofs.YtmmldpmchhchoaaW.PrintLast Go.Proofs.YtmmldpmchhchoaaW.PrintMore

variable {α β : Type}

/-- The weights of 0, .., n - 1 false answers so far. -/
def wtV (q most : Int) : Nat → List Int
  | 0 => []
  | i + 1 => wtV q most i ++ [ballV q ((mn q (wrap64 (most - i))) + 1).toNat]
theorem wtV_length (q most : Int) (n : Nat) : (wtV q most n).length = n := by
  induction n with
  | zero => rfl
  | succ n ih => simp [wtV, ih]
/-- The true words of the numbers 0, .., n - 1. -/
def wordsV (l : List Int) : Nat → List Int
  | 0 => []
  | i + 1 => wordsV l i ++ [twV l i l.length]
theorem wordsV_length (l : List Int) (n : Nat) : (wordsV l n).length = n := by
  induction n with
  | zero => rfl
  | succ n ih => simp [wordsV, ih]
/-- The numbers that are open. -/
def openV (l : List Int) : Nat → List Int := numsTo fun k => decide (rd l k ≥ 0)
theorem openV_length (l : List Int) (n : Nat) : (openV l n).length ≤ n := numsTo_length _ n
theorem numsTo_mem (p : Int → Bool) (n : Nat) : ∀ x ∈ numsTo p n, 0 ≤ x ∧ x < n ∧ p x = true := by
  induction n with
  | zero => intro x hx; simp [numsTo] at hx
  | succ n ih =>
    intro x hx
    unfold numsTo at hx
    split at hx
    · rename_i hp
      rw [List.mem_append, List.mem_singleton] at hx
      rcases hx with hx | rfl
      · have := ih x hx
        exact ⟨this.1, by omega, this.2.2⟩
      · exact ⟨by omega, by omega, hp⟩
    · have := ih x hx
      exact ⟨this.1, by omega, this.2.2⟩
theorem isSt_bd {l : List Int} {m : Int} (h : isSt l m = true) : 1 ≤ l.length ∧ l.length ≤ 12 ∧ (0 ≤ m ∧ m ≤ 2) ∧ ∀ i : Nat, i < l.length → -1 ≤ rd l (i : Int) ∧ rd l (i : Int) ≤ m := by
  unfold isSt at h
  simp only [Bool.and_eq_true] at h
  have h1 := isN_bd h.1.1
  have h2 := isM_bd h.1.2
  refine ⟨by omega, by omega, h2, fun i hi => ?_⟩
  have h3 := h.2
  rw [Bool.not_eq_true', List.any_eq_false] at h3
  have h4 := h3 l[i] (List.getElem_mem hi)
  rw [rd_at l i hi]
  simpa using h4
def cntV (l : List Int) (n : Nat) : Nat → List Int
  | 0 => List.replicate n 0
  | i + 1 => if rd l (i : Int) ≥ 0 then (cntV l n i).set (rd l (i : Int)).toNat (wrap64 (rd (cntV l n i) (rd l (i : Int)) + 1)) else cntV l n i
theorem cntV_length (l : List Int) (n i : Nat) : (cntV l n i).length = n := by
  induction i with
  | zero => simp [cntV]
  | succ i ih => unfold cntV; split <;> simp [ih]
def vainV (s : Int) (n : Nat) : Bool := decide (s = 0) || s == (n : Int)
def numW (l : List Int) (m q k : Int) : Int := if rd l k < 0 then 0 else ballV q ((mn q (m - rd l k)) + 1).toNat
def sumW (l : List Int) (m q : Int) : Nat → Int
  | 0 => 0
  | i + 1 => wrap64 (sumW l m q i + numW l m q i)
def boundV (l : List Int) (m : Int) : Nat → Int → Int × Bool
  | 0, q => (q, true)
  | d + 1, q => if sumW l m q l.length > shl .i64 1 q then boundV l m d (q + 1) else (q, true)
theorem ballV_ten (k : Int) (h0 : 0 ≤ k) (h1 : k ≤ 2) : 0 ≤ ballV 10 ((mn 10 k) + 1).toNat ∧ ballV 10 ((mn 10 k) + 1).toNat ≤ 56 := by
  have h : ∀ k : Fin 3, 0 ≤ ballV 10 ((mn 10 (k.val : Int)) + 1).toNat ∧ ballV 10 ((mn 10 (k.val : Int)) + 1).toNat ≤ 56 := by decide +kernel
  obtain ⟨k, rfl⟩ := Int.eq_ofNat_of_zero_le h0
  exact h ⟨k, by omega⟩
theorem bound_ten (l : List Int) (m : Int) (hs : isSt l m = true) : ¬ sumW l m 10 l.length > shl .i64 1 10 := by
  have hb := isSt_bd hs
  have h : ∀ i : Nat, i ≤ l.length → 0 ≤ sumW l m 10 i ∧ sumW l m 10 i ≤ 56 * i := by
    intro i
    induction i with
    | zero => intro _; simp [sumW]
    | succ i ih =>
      intro hi
      have hx := hb.2.2.2 i (by omega)
      have h1 := ih (by omega)
      have h2 : 0 ≤ numW l m 10 i ∧ numW l m 10 i ≤ 56 := by
        unfold numW
        split
        · omega
        · exact ballV_ten _ (by omega) (by omega)
      unfold sumW
      rw [w64 (by omega) (by omega)]
      push_cast
      omega
  have h1 := h l.length (by omega)
  have h2 : shl .i64 1 10 = 1024 := by rw [shl_one (by omega) (by omega)]; rfl
  rw [h2]
  omega
/-- How many, as the program counts them. -/
def manyV {γ : Type} (p : γ → Bool) : List γ → Int → Int
  | [], s => s
  | x :: t, s => if p x = true then manyV p t (wrap64 (s + 1)) else manyV p t s
def manyB (f : Int → Int) : List Int → Int → Int
  | [], s => s
  | x :: t, s => manyB f t (wrap64 (s + f x))
theorem manyB_eq (p : Int → Bool) (f : Int → Int) (hf : ∀ x, f x = if p x = true then 1 else 0) (l : List Int) : ∀ s : Int, 0 ≤ s → s + l.length ≤ 1000000000000000000 → manyB f l s = manyV p l s := by
  induction l with
  | nil => intro s _ _; rfl
  | cons x t ih =>
    intro s h0 h1
    rw [List.length_cons] at h1
    unfold manyB manyV
    rw [hf x]
    by_cases hp : p x = true
    · rw [if_pos hp, if_pos hp, w64 (by omega) (by omega)]
      exact ih _ (by omega) (by push_cast at h1; omega)
    · rw [if_neg hp, if_neg hp, w64 (by omega) (by omega), Int.add_zero]
      exact ih _ (by omega) (by push_cast at h1; omega)
theorem isSch_bd {n : Int} {l : List Int} (h : isSch n l = true) : 1 ≤ n ∧ n ≤ 12 ∧ l.length ≤ 14 ∧ isN n = true := by
  unfold isSch at h
  simp only [Bool.and_eq_true, decide_eq_true_eq] at h
  have := isN_bd h.1.1
  exact ⟨this.1, this.2, h.1.2, h.1.1⟩
theorem isSt_len {l : List Int} {m : Int} (h : isSt l m = true) : l.length ≤ 12 := by
  unfold isSt at h
  simp only [Bool.and_eq_true] at h
  have := isN_bd h.1.1
  omega

/-- A State's rows behind an answer: number i's place, then all places. -/
def aft1 (p : Int → Bool) (m : Int) (i : Nat) (xs : List Int) : List Int :=
  if (decide (rd xs i ≥ 0) && p i) = true then
    (if rd (xs.set i (wrap64 (rd xs i + 1))) i > m then (xs.set i (wrap64 (rd xs i + 1))).set i (-1) else xs.set i (wrap64 (rd xs i + 1)))
  else xs
theorem aft1_length (p : Int → Bool) (m : Int) (i : Nat) (xs : List Int) : (aft1 p m i xs).length = xs.length := by
  unfold aft1
  split
  · split <;> simp
  · rfl
def aftN (p : Int → Bool) (m : Int) (l : List Int) : Nat → List Int
  | 0 => l
  | i + 1 => aft1 p m i (aftN p m l i)
theorem aftN_length (p : Int → Bool) (m : Int) (l : List Int) (n : Nat) : (aftN p m l n).length = l.length := by
  induction n with
  | zero => rfl
  | succ n ih => rw [aftN, aft1_length, ih]
def aftV (q : Int) (y : Bool) (m : Int) (l : List Int) : List Int := aftN (fun k => y != hasB q k) m l l.length
theorem aftV_length (q : Int) (y : Bool) (m : Int) (l : List Int) : (aftV q y m l).length = l.length := aftN_length _ _ _ _

end Go.Proofs.Ytmmldpmchhchoaa.Lib
