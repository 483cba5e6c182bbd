/- General lemmas for the plain laws, the second part: no program in sight. Written for this work. -/
import Derived.Test.YtmckmagdiokhiaaLib
import Derived.Lib.ItoaNum
set_option linter.unusedVariables false
namespace Go.Proofs.Ytmckmagdiokhiaa.Lib
open Go.RowKit Go.Proofs.YtmckmagdiokhiaaW.PrintWords Go.Proofs.YtmckmagdiokhiaaW.PrintLast Go.Proofs.YtmckmagdiokhiaaW.PrintMore

variable {α β : Type}

/-- The weights of 0, .., n - 1 false answers so far. -/
def wtV (q most : Int) : Nat → List Int
  | 0 => []
  | i + 1 => wtV q most i ++ [ballV q ((mn q (wrap64 (most - i))) + 1).toNat]
theorem wtV_length (q most : Int) (n : Nat) : (wtV q most n).length = n := by
  induction n with
  | zero => rfl
  | succ n ih => simp [wtV, ih]
/-- The true words of the numbers 0, .., n - 1. -/
def wordsV (l : List Int) : Nat → List Int
  | 0 => []
  | i + 1 => wordsV l i ++ [twV l i l.length]
theorem wordsV_length (l : List Int) (n : Nat) : (wordsV l n).length = n := by
  induction n with
  | zero => rfl
  | succ n ih => simp [wordsV, ih]
/-- The numbers that are open. -/
def openV (l : List Int) : Nat → List Int := numsTo fun k => decide (rd l k ≥ 0)
theorem openV_length (l : List Int) (n : Nat) : (openV l n).length ≤ n := numsTo_length _ n
theorem numsTo_mem (p : Int → Bool) (n : Nat) : ∀ x ∈ numsTo p n, 0 ≤ x ∧ x < n ∧ p x = true := by
  induction n with
  | zero => intro x hx; simp [numsTo] at hx
  | succ n ih =>
    intro x hx
    unfold numsTo at hx
    split at hx
    · rename_i hp
      rw [List.mem_append, List.mem_singleton] at hx
      rcases hx with hx | rfl
      · have := ih x hx
        exact ⟨this.1, by omega, this.2.2⟩
      · exact ⟨by omega, by omega, hp⟩
    · have := ih x hx
      exact ⟨this.1, by omega, this.2.2⟩
theorem isSt_bd {l : List Int} {m : Int} (h : isSt l m = true) : 1 ≤ l.length ∧ l.length ≤ 12 ∧ (0 ≤ m ∧ m ≤ 2) ∧ ∀ i : Nat, i < l.length → -1 ≤ rd l (i : Int) ∧ rd l (i : Int) ≤ m := by
  unfold isSt at h
  simp only [Bool.and_eq_true] at h
  have h1 := isN_bd h.1.1
  have h2 := isM_bd h.1.2
  refine ⟨by omega, by omega, h2, fun i hi => ?_⟩
  have h3 := h.2
  rw [Bool.not_eq_true', List.any_eq_false] at h3
  have h4 := h3 l[i] (List.getElem_mem hi)
  rw [rd_at l i hi]
  simpa using h4
def cntV (l : List Int) (n : Nat) : Nat → List Int
  | 0 => List.replicate n 0
  | i + 1 => if rd l (i : Int) ≥ 0 then (cntV l n i).set (rd l (i : Int)).toNat (wrap64 (rd (cntV l n i) (rd l (i : Int)) + 1)) else cntV l n i
theorem cntV_length (l : List Int) (n i : Nat) : (cntV l n i).length = n := by
  induction i with
  | zero => simp [cntV]
  | succ i ih => unfold cntV; split <;> simp [ih]
def vainV (s : Int) (n : Nat) : Bool := decide (s = 0) || s == (n : Int)
def numW (l : List Int) (m q k : Int) : Int := if rd l k < 0 then 0 else ballV q ((mn q (m - rd l k)) + 1).toNat
def sumW (l : List Int) (m q : Int) : Nat → Int
  | 0 => 0
  | i + 1 => wrap64 (sumW l m q i + numW l m q i)
def boundV (l : List Int) (m : Int) : Nat → Int → Int × Bool
  | 0, q => (q, true)
  | d + 1, q => if sumW l m q l.length > shl .i64 1 q then boundV l m d (q + 1) else (q, true)
theorem ballV_ten (k : Int) (h0 : 0 ≤ k) (h1 : k ≤ 2) : 0 ≤ ballV 10 ((mn 10 k) + 1).toNat ∧ ballV 10 ((mn 10 k) + 1).toNat ≤ 56 := by
  have h : ∀ k : Fin 3, 0 ≤ ballV 10 ((mn 10 (k.val : Int)) + 1).toNat ∧ ballV 10 ((mn 10 (k.val : Int)) + 1).toNat ≤ 56 := by decide +kernel
  obtain ⟨k, rfl⟩ := Int.eq_ofNat_of_zero_le h0
  exact h ⟨k, by omega⟩
theorem bound_ten (l : List Int) (m : Int) (hs : isSt l m = true) : ¬ sumW l m 10 l.length > shl .i64 1 10 := by
  have hb := isSt_bd hs
  have h : ∀ i : Nat, i ≤ l.length → 0 ≤ sumW l m 10 i ∧ sumW l m 10 i ≤ 56 * i := by
    intro i
    induction i with
    | zero => intro _; simp [sumW]
    | succ i ih =>
      intro hi
      have hx := hb.2.2.2 i (by omega)
      have h1 := ih (by omega)
      have h2 : 0 ≤ numW l m 10 i ∧ numW l m 10 i ≤ 56 := by
        unfold numW
        split
        · omega
        · exact ballV_ten _ (by omega) (by omega)
      unfold sumW
      rw [w64 (by omega) (by omega)]
      push_cast
      omega
  have h1 := h l.length (by omega)
  have h2 : shl .i64 1 10 = 1024 := by rw [shl_one (by omega) (by omega)]; rfl
  rw [h2]
  omega
/-- How many, as the program counts them. -/
def manyV {γ : Type} (p : γ → Bool) : List γ → Int → Int
  | [], s => s
  | x :: t, s => if p x = true then manyV p t (wrap64 (s + 1)) else manyV p t s
def manyB (f : Int → Int) : List Int → Int → Int
  | [], s => s
  | x :: t, s => manyB f t (wrap64 (s + f x))
theorem manyB_eq (p : Int → Bool) (f : Int → Int) (hf : ∀ x, f x = if p x = true then 1 else 0) (l : List Int) : ∀ s : Int, 0 ≤ s → s + l.length ≤ 1000000000000000000 → manyB f l s = manyV p l s := by
  induction l with
  | nil => intro s _ _; rfl
  | cons x t ih =>
    intro s h0 h1
    rw [List.length_cons] at h1
    unfold manyB manyV
    rw [hf x]
    by_cases hp : p x = true
    · rw [if_pos hp, if_pos hp, w64 (by omega) (by omega)]
      exact ih _ (by omega) (by push_cast at h1; omega)
    · rw [if_neg hp, if_neg hp, w64 (by omega) (by omega), Int.add_zero]
      exact ih _ (by omega) (by push_cast at h1; omega)
theorem isSch_bd {n : Int} {l : List Int} (h : isSch n l = true) : 1 ≤ n ∧ n ≤ 12 ∧ l.length ≤ 14 ∧ isN n = true := by
  unfold isSch at h
  simp only [Bool.and_eq_true, decide_eq_true_eq] at h
  have := isN_bd h.1.1
  exact ⟨this.1, this.2, h.1.2, h.1.1⟩
theorem isSt_len {l : List Int} {m : Int} (h : isSt l m = true) : l.length ≤ 12 := by
  unfold isSt at h
  simp only [Bool.and_eq_true] at h
  have := isN_bd h.1.1
  omega

/-- A State's rows behind an answer: number i's place, then all places. -/
def aft1 (p : Int → Bool) (m : Int) (i : Nat) (xs : List Int) : List Int :=
  if (decide (rd xs i ≥ 0) && p i) = true then
    (if rd (xs.set i (wrap64 (rd xs i + 1))) i > m then (xs.set i (wrap64 (rd xs i + 1))).set i (-1) else xs.set i (wrap64 (rd xs i + 1)))
  else xs
theorem aft1_length (p : Int → Bool) (m : Int) (i : Nat) (xs : List Int) : (aft1 p m i xs).length = xs.length := by
  unfold aft1
  split
  · split <;> simp
  · rfl
def aftN (p : Int → Bool) (m : Int) (l : List Int) : Nat → List Int
  | 0 => l
  | i + 1 => aft1 p m i (aftN p m l i)
theorem aftN_length (p : Int → Bool) (m : Int) (l : List Int) (n : Nat) : (aftN p m l n).length = l.length := by
  induction n with
  | zero => rfl
  | succ n ih => rw [aftN, aft1_length, ih]
def aftV (q : Int) (y : Bool) (m : Int) (l : List Int) : List Int := aftN (fun k => y != hasB q k) m l l.length
theorem aftV_length (q : Int) (y : Bool) (m : Int) (l : List Int) : (aftV q y m l).length = l.length := aftN_length _ _ _ _

theorem bv_nat {a : Int} (h0 : 0 ≤ a) (h1 : a < 4611686018427387904) : (BitVec.ofInt 64 a).toNat = a.toNat := by
  rw [BitVec.toNat_ofInt]
  omega
theorem xor_nat {a b : Int} (h0 : 0 ≤ a) (h1 : a < 16384) (g0 : 0 ≤ b) (g1 : b < 16384) : Go.bits .xor .i64 a b = ((a.toNat ^^^ b.toNat : Nat) : Int) ∧ a.toNat ^^^ b.toNat < 16384 := by
  have e0 : Go.bits .xor .i64 a b = IntKind.i64.wrap (((BitVec.ofInt 64 a ^^^ BitVec.ofInt 64 b).toNat : Nat) : Int) := rfl
  have hl : a.toNat ^^^ b.toNat < 2 ^ 14 := Nat.xor_lt_two_pow (by omega) (by omega)
  refine ⟨?_, hl⟩
  rw [e0, BitVec.toNat_xor, bv_nat h0 (by omega), bv_nat g0 (by omega), wrap_i64]
  exact w64 (by omega) (by omega)
theorem or_nat {a b : Int} {n : Nat} (hn : n ≤ 60) (h0 : 0 ≤ a) (h1 : a < 2 ^ n) (g0 : 0 ≤ b) (g1 : b < 2 ^ n) : 0 ≤ Go.bits .or .i64 a b ∧ Go.bits .or .i64 a b < 2 ^ n := by
  have e0 : Go.bits .or .i64 a b = IntKind.i64.wrap (((BitVec.ofInt 64 a ||| BitVec.ofInt 64 b).toNat : Nat) : Int) := rfl
  have hp : (2 : Int) ^ n ≤ 2 ^ 60 := pow_le' hn
  have ha : a.toNat < 2 ^ n := by
    have : ((a.toNat : Nat) : Int) < ((2 ^ n : Nat) : Int) := by rw [Int.toNat_of_nonneg h0]; push_cast; exact h1
    exact_mod_cast this
  have hb : b.toNat < 2 ^ n := by
    have : ((b.toNat : Nat) : Int) < ((2 ^ n : Nat) : Int) := by rw [Int.toNat_of_nonneg g0]; push_cast; exact g1
    exact_mod_cast this
  have hl : a.toNat ||| b.toNat < 2 ^ n := Nat.or_lt_two_pow ha hb
  have hl2 : ((a.toNat ||| b.toNat : Nat) : Int) < 2 ^ n := by
    have : ((a.toNat ||| b.toNat : Nat) : Int) < ((2 ^ n : Nat) : Int) := by exact_mod_cast hl
    push_cast at this
    exact this
  rw [e0, BitVec.toNat_or, bv_nat h0 (by omega), bv_nat g0 (by omega), wrap_i64, w64 (by omega) (by omega)]
  exact ⟨by omega, hl2⟩
theorem twV_bd (l : List Int) (k : Int) (n : Nat) (hn : n ≤ 60) : 0 ≤ twV l k n ∧ twV l k n < 2 ^ n := by
  induction n with
  | zero => simp [twV]
  | succ n ih =>
    have ih := ih (by omega)
    have hp : (2 : Int) ^ (n + 1) = 2 * 2 ^ n := by rw [Int.pow_succ]; omega
    unfold twV
    split
    · have hs : shl .i64 1 (n : Int) = 2 ^ n := by rw [shl_one (by omega) (by omega), Int.toNat_natCast]
      have := pow_pos' n
      refine or_nat hn (by omega) (by omega) (by rw [hs]; omega) (by rw [hs]; omega)
    · omega
/-- How many bits are set. -/
def popN : Nat → Nat → Nat
  | 0, _ => 0
  | f + 1, x => x % 2 + popN f (x / 2)
theorem popN_le (f : Nat) : ∀ x, popN f x ≤ f := by
  induction f with
  | zero => intro x; exact Nat.le_refl _
  | succ f ih => intro x; unfold popN; have := ih (x / 2); omega
def apI (a b : Int) : Int := (popN 14 (a.toNat ^^^ b.toNat) : Int)
theorem apI_bd (a b : Int) : 0 ≤ apI a b ∧ apI a b ≤ 14 := by
  have := popN_le 14 (a.toNat ^^^ b.toNat)
  unfold apI
  omega
theorem and1 (x : Nat) (h : x < 4611686018427387904) : Go.bits .and .i64 (x : Int) 1 = ((x % 2 : Nat) : Int) := by
  have h1 : ((BitVec.ofInt 64 (x : Int)) &&& (BitVec.ofInt 64 1)).toNat = x % 2 := by
    rw [BitVec.toNat_and, bv_nat (by omega) (by omega), Int.toNat_natCast]
    exact Nat.and_one_is_mod _
  have e0 : Go.bits .and .i64 (x : Int) 1 = IntKind.i64.wrap (((BitVec.ofInt 64 (x : Int) &&& BitVec.ofInt 64 1).toNat : Nat) : Int) := rfl
  rw [e0, h1, wrap_i64]
  exact w64 (by omega) (by omega)
/-- The words of a scheme: all of them small. -/
def smallW (ws : List Int) : Prop := ∀ x ∈ ws, 0 ≤ x ∧ x < 16384
theorem smallW_at {ws : List Int} (h : smallW ws) (i : Nat) (hi : i < ws.length) : 0 ≤ rd ws i ∧ rd ws i < 16384 := by
  rw [rd_at ws i hi]
  exact h _ (List.getElem_mem hi)
theorem wordsV_small (l : List Int) (hl : l.length ≤ 14) (n : Nat) : smallW (wordsV l n) := by
  induction n with
  | zero => intro x hx; simp [wordsV] at hx
  | succ n ih =>
    intro x hx
    rw [wordsV, List.mem_append, List.mem_singleton] at hx
    rcases hx with hx | rfl
    · exact ih x hx
    · have := twV_bd l n l.length (by omega)
      have h2 : (2 : Int) ^ l.length ≤ 2 ^ 14 := pow_le' hl
      omega
/-- The gap of words: the inner loop's and the outer loop's values. -/
def gap1 (ws : List Int) (i : Nat) (s : Int) : Nat → Int
  | 0 => s
  | j + 1 => if (i = 1 ∧ j = 0) ∨ apI (rd ws i) (rd ws j) < gap1 ws i s j then apI (rd ws i) (rd ws j) else gap1 ws i s j
def gap0 (ws : List Int) : Nat → Int
  | 0 => 0
  | i + 1 => gap1 ws i (gap0 ws i) i
def fitV (ws : List Int) (w m : Int) : Nat → List Int := numsTo fun k => decide (apI (rd ws k) w ≤ m)

/-! texts of States -/
/-- A digit's text. -/
def dgB (a : Int) : ByteArray := ⟨#[UInt8.ofNat (48 + a.toNat)]⟩
/-- The text of a State, number by number. -/
def stT (m : Int) (l : List Int) : Nat → ByteArray
  | 0 => dgB m ++ ⟨#[58]⟩
  | i + 1 => if rd l (i : Int) < 0 then stT m l i ++ ⟨#[45]⟩ else stT m l i ++ dgB (rd l (i : Int))
theorem dgB_size (a : Int) : (dgB a).size = 1 := rfl
theorem stT_size (m : Int) (l : List Int) (i : Nat) : (stT m l i).size = i + 2 := by
  induction i with
  | zero => rfl
  | succ i ih =>
    unfold stT
    split
    · rw [ByteArray.size_append, ih]; rfl
    · rw [ByteArray.size_append, ih, dgB_size]
def ttV (l : List Int) (m : Int) : ByteArray × Bool := if isSt l m = true then (stT m l l.length, true) else (⟨#[]⟩, false)

/-! bytes, numbers as texts, sealed texts -/
theorem size_list (s : ByteArray) : s.size = s.data.toList.length := by rw [Array.length_toList]; rfl
theorem bt_list (s : ByteArray) (i : Nat) (hi : i < s.data.toList.length) : bt s (i : Int) = ((s.data.toList[i]).toNat : Int) := by
  have hs : (i : Int).toNat < s.size := by rw [Int.toNat_natCast, size_list]; exact hi
  rw [← bt_at s (i : Int) hs]
  rfl
/-- Does a byte stand in a text? -/
def stB (s : ByteArray) (b : Int) : Bool := s.data.toList.any fun x => decide ((x.toNat : Int) = b)
/-- A list of bytes as a text. -/
def btx (l : List UInt8) : ByteArray := ⟨l.toArray⟩
theorem btx_append (a b : List UInt8) : btx a ++ btx b = btx (a ++ b) := by
  have h : (btx a ++ btx b).data = (btx (a ++ b)).data := by
    rw [ByteArray.data_append]
    show a.toArray ++ b.toArray = (a ++ b).toArray
    simp
  generalize btx a ++ btx b = x at h
  generalize btx (a ++ b) = y at h
  cases x; cases y
  simp only at h
  rw [h]
theorem btx_size (a : List UInt8) : (btx a).size = a.length := by
  show a.toArray.size = _
  simp
theorem dec_len (n : Nat) : (_root_.Go.Lib.decDigits n).length ≤ n + 1 := by
  induction n using Nat.strongRecOn with
  | _ n ih =>
    rw [_root_.Go.Lib.decDigits]
    split
    · simp
    · have := ih (n / 10) (by omega)
      rw [List.length_append, List.length_singleton]
      omega
theorem sumV_bd (s : ByteArray) (i : Nat) : -999979 ≤ sumV s i ∧ sumV s i ≤ 999979 := by
  cases i with
  | zero => rw [sumV]; omega
  | succ i =>
    rw [sumV]
    generalize wrap64 (wrap64 (wrap64 (41 * sumV s i) + wrap64 (bt s i)) + 1) = x
    rcases Int.le_total 0 x with h | h
    · rw [Int.tmod_eq_emod_of_nonneg h]; omega
    · obtain ⟨y, hy, rfl⟩ : ∃ y : Int, 0 ≤ y ∧ x = -y := ⟨-x, by omega, by omega⟩
      rw [Int.neg_tmod, Int.tmod_eq_emod_of_nonneg hy]; omega
theorem itoa_len (n : Int) (h : -100000000 ≤ n ∧ n ≤ 100000000) : (_root_.Go.Lib.itoa n).length ≤ 100000002 := by
  unfold _root_.Go.Lib.itoa
  split
  · have := dec_len n.natAbs
    rw [List.length_cons]; omega
  · have := dec_len n.toNat
    omega
def sealV (a : ByteArray) : ByteArray := (a ++ (⟨#[35]⟩ : ByteArray)) ++ btx (_root_.Go.Lib.itoa (sumV a a.size))
theorem sealV_sz (a : ByteArray) (h : a.size ≤ 140737488351232) : (a ++ (⟨#[35]⟩ : ByteArray)).size + (btx (_root_.Go.Lib.itoa (sumV a a.size))).size ≤ 9223372036854775807 := by
  have hb := sumV_bd a a.size
  have hl := itoa_len (sumV a a.size) (by omega)
  rw [ByteArray.size_append, btx_size, show (⟨#[35]⟩ : ByteArray).size = 1 from rfl]
  omega
def acV (a : ByteArray) : ByteArray × Bool := if (a.size : Int) > 4000 ∨ stB a 35 = true ∨ ((sealV a).size : Int) > 4000 then (⟨#[]⟩, false) else (sealV a, true)

def fiV (n : Int) : ByteArray × Bool := if -999999 ≤ n ∧ n ≤ 999999 then (btx (_root_.Go.Lib.itoa n), true) else (⟨#[]⟩, false)
end Go.Proofs.Ytmckmagdiokhiaa.Lib
