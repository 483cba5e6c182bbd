/- Words as bits, what is known of how far apart words are, and of lists of places: no program in sight; no condition. Written for this work. -/
import Derived.Test.YtmckmagdiokhiaaLib2
set_option linter.unusedVariables false
namespace Go.Proofs.Ytmckmagdiokhiaa.Lib
open Go.RowKit Go.Proofs.YtmckmagdiokhiaaW.PrintWords Go.Proofs.YtmckmagdiokhiaaW.PrintLast Go.Proofs.YtmckmagdiokhiaaW.PrintMore

/-! bits of whole numbers -/
theorem shr_nat (q k : Nat) (hk : k ≤ 64) : shr .i64 (q : Int) (k : Int) = ((q / 2 ^ k : Nat) : Int) := by
  unfold shr
  rw [Int.toNat_natCast, show IntKind.i64.bits = 64 from rfl, Nat.min_eq_left hk]
  push_cast
  rfl
theorem hasB_nat (q k : Nat) (hk : k ≤ 64) (h1 : q < 4611686018427387904) : hasB (q : Int) (k : Int) = q.testBit k := by
  unfold hasB
  have hq : q / 2 ^ k ≤ q := Nat.div_le_self _ _
  rw [shr_nat q k hk, and1 _ (by omega), Nat.testBit_eq_decide_div_mod_eq]
  by_cases h : q / 2 ^ k % 2 = 1
  · rw [decide_eq_true h, h]; rfl
  · rw [decide_eq_false h]
    have : q / 2 ^ k % 2 = 0 := by omega
    rw [this]; rfl
theorem or_natc (a b : Nat) (ha : a < 2 ^ 60) (hb : b < 2 ^ 60) : Go.bits .or .i64 (a : Int) (b : Int) = ((a ||| b : Nat) : Int) := by
  have e0 : Go.bits .or .i64 (a : Int) (b : Int) = IntKind.i64.wrap (((BitVec.ofInt 64 (a : Int) ||| BitVec.ofInt 64 (b : Int)).toNat : Nat) : Int) := rfl
  have hl : a ||| b < 2 ^ 60 := Nat.or_lt_two_pow ha hb
  rw [e0, BitVec.toNat_or, bv_nat (by omega) (by omega), bv_nat (by omega) (by omega), wrap_i64, Int.toNat_natCast, Int.toNat_natCast]
  exact w64 (by omega) (by omega)
/-- A number whose low n bits are told. -/
def ofBits (f : Nat → Bool) : Nat → Nat
  | 0 => 0
  | n + 1 => if f n = true then ofBits f n ||| 2 ^ n else ofBits f n
theorem ofBits_lt (f : Nat → Bool) (n : Nat) : ofBits f n < 2 ^ n := by
  induction n with
  | zero => simp [ofBits]
  | succ n ih =>
    have hp : 2 ^ (n + 1) = 2 * 2 ^ n := by rw [Nat.pow_succ]; omega
    unfold ofBits
    split
    · exact Nat.or_lt_two_pow (by omega) (by have := Nat.two_pow_pos n; omega)
    · omega
theorem ofBits_bit (f : Nat → Bool) (n j : Nat) : (ofBits f n).testBit j = (decide (j < n) && f j) := by
  induction n with
  | zero => simp [ofBits]
  | succ n ih =>
    unfold ofBits
    split
    · rename_i h
      rw [Nat.testBit_or, ih, Nat.testBit_two_pow]
      by_cases e : n = j
      · subst e; simp [h]
      · by_cases g : j < n
        · simp [g, e, show j < n + 1 by omega]
        · simp [g, e, show ¬ j < n + 1 by omega]
    · rename_i h
      rw [ih]
      by_cases e : n = j
      · subst e; simp [h]
      · by_cases g : j < n
        · simp [g, show j < n + 1 by omega]
        · simp [g, show ¬ j < n + 1 by omega]
theorem colV_nat (l : List Int) (i : Int) (n : Nat) (hn : n ≤ 50) : colV l i n = ((ofBits (fun k => hasB (l.getD k 0) i) n : Nat) : Int) := by
  induction n with
  | zero => rfl
  | succ n ih =>
    unfold colV ofBits
    rw [ih (by omega)]
    by_cases h : hasB (l.getD n 0) i = true
    · rw [if_pos h, if_pos h]
      have hp : 2 ^ n ≤ 2 ^ 50 := Nat.pow_le_pow_right (by omega) (by omega)
      have hb := ofBits_lt (fun k => hasB (l.getD k 0) i) n
      rw [shl_one (by omega) (by omega), Int.toNat_natCast, show (2 : Int) ^ n = ((2 ^ n : Nat) : Int) by push_cast; rfl, or_natc _ _ (by omega) (by omega)]
    · rw [if_neg h, if_neg h]
theorem twV_nat (l : List Int) (k : Int) (n : Nat) (hn : n ≤ 50) : twV l k n = ((ofBits (fun i => hasB (l.getD i 0) k) n : Nat) : Int) := by rw [twV_col, colV_nat l k n hn]
theorem twV_lt (l : List Int) (k : Int) (n : Nat) (hn : n ≤ 50) : 0 ≤ twV l k n ∧ twV l k n < ((2 ^ n : Nat) : Int) := by
  rw [twV_nat l k n hn]
  have := ofBits_lt (fun i => hasB (l.getD i 0) k) n
  omega
theorem colV_lt (l : List Int) (k : Int) (n : Nat) (hn : n ≤ 50) : 0 ≤ colV l k n ∧ colV l k n < ((2 ^ n : Nat) : Int) := by rw [← twV_col]; exact twV_lt l k n hn
/-- Bit j of a column is told by row j. -/
theorem colV_bit (l : List Int) (i : Int) (n j : Nat) (hn : n ≤ 50) (hj : j ≤ 64) : hasB (colV l i n) (j : Int) = (decide (j < n) && hasB (l.getD j 0) i) := by
  have hb := ofBits_lt (fun k => hasB (l.getD k 0) i) n
  have hp : 2 ^ n ≤ 2 ^ 50 := Nat.pow_le_pow_right (by omega) hn
  rw [colV_nat l i n hn, hasB_nat _ _ hj (by omega), ofBits_bit]
theorem twV_bit (l : List Int) (k : Int) (n i : Nat) (hn : n ≤ 50) (hi : i ≤ 64) : hasB (twV l k n) (i : Int) = (decide (i < n) && hasB (l.getD i 0) k) := by rw [twV_col, colV_bit l k n i hn hi]
/-- Numbers of n bits that agree in all of them are equal. -/
theorem bits_ext (x y : Int) (n : Nat) (hn : n ≤ 50) (hx : 0 ≤ x ∧ x < ((2 ^ n : Nat) : Int)) (hy : 0 ≤ y ∧ y < ((2 ^ n : Nat) : Int)) (h : ∀ j : Nat, j < n → hasB x (j : Int) = hasB y (j : Int)) : x = y := by
  obtain ⟨x, rfl⟩ := Int.eq_ofNat_of_zero_le hx.1
  obtain ⟨y, rfl⟩ := Int.eq_ofNat_of_zero_le hy.1
  have hp : 2 ^ n ≤ 2 ^ 50 := Nat.pow_le_pow_right (by omega) hn
  congr 1
  apply Nat.eq_of_testBit_eq
  intro j
  by_cases hj : j < n
  · have := h j hj
    rwa [hasB_nat _ _ (by omega) (by omega), hasB_nat _ _ (by omega) (by omega)] at this
  · have h1 : 2 ^ n ≤ 2 ^ j := Nat.pow_le_pow_right (by omega) (by omega)
    rw [Nat.testBit_lt_two_pow (by omega), Nat.testBit_lt_two_pow (by omega)]

/-! lists of rows and columns -/
theorem wordsV_at (l : List Int) (n : Nat) : ∀ x : Nat, x < n → (wordsV l n).getD x 0 = twV l (x : Int) l.length := by
  induction n with
  | zero => intro x hx; omega
  | succ n ih =>
    intro x hx
    rw [wordsV, List.getD_eq_getElem?_getD]
    by_cases h : x < n
    · rw [List.getElem?_append_left (by rw [wordsV_length]; exact h), ← List.getD_eq_getElem?_getD]
      exact ih x h
    · obtain rfl : x = n := by omega
      rw [List.getElem?_append_right (by rw [wordsV_length]; exact Nat.le_refl _), wordsV_length]
      simp
theorem getD_ext (a b : List Int) (hl : a.length = b.length) (h : ∀ i : Nat, i < a.length → a.getD i 0 = b.getD i 0) : a = b := by
  apply List.ext_getElem hl
  intro i h1 h2
  have := h i h1
  rwa [List.getD_eq_getElem?_getD, List.getD_eq_getElem?_getD, List.getElem?_eq_getElem h1, List.getElem?_eq_getElem h2] at this
theorem getD_mem' (l : List Int) (i : Nat) (hi : i < l.length) : l.getD i 0 ∈ l := by
  rw [List.getD_eq_getElem?_getD, List.getElem?_eq_getElem hi]
  exact List.getElem_mem hi
/-- The scheme of a scheme's true words is the scheme. -/
theorem cols_words (l : List Int) (n : Nat) (hn : n ≤ 50) (hl : l.length ≤ 50) (hr : ∀ x ∈ l, 0 ≤ x ∧ x < ((2 ^ n : Nat) : Int)) : colsV (wordsV l n) l.length n = l := by
  apply getD_ext _ _ (colsV_length _ _ _)
  intro i hi
  rw [colsV_length] at hi
  rw [colsV_getD _ _ _ _ hi]
  refine bits_ext _ _ n hn (colV_lt _ _ n hn) (hr _ (getD_mem' l i hi)) fun j hj => ?_
  rw [colV_bit _ _ n j hn (by omega), wordsV_at l n j hj, twV_bit l _ _ i hl (by omega), decide_eq_true hj, decide_eq_true hi, Bool.true_and, Bool.true_and]
/-- The true words of the scheme of some words are the words. -/
theorem words_cols (u : List Int) (q : Nat) (hq : q ≤ 50) (hu : u.length ≤ 50) (hr : ∀ x ∈ u, 0 ≤ x ∧ x < ((2 ^ q : Nat) : Int)) : wordsV (colsV u q u.length) u.length = u := by
  apply getD_ext _ _ (wordsV_length _ _)
  intro i hi
  rw [wordsV_length] at hi
  rw [wordsV_at _ _ _ hi, colsV_length]
  refine bits_ext _ _ q hq (twV_lt _ _ q hq) (hr _ (getD_mem' u i hi)) fun j hj => ?_
  rw [twV_bit _ _ q j hq (by omega), colsV_getD u q _ j hj, colV_bit u _ _ i hu (by omega), decide_eq_true hj, decide_eq_true hi, Bool.true_and, Bool.true_and]
theorem colsV_mem (u : List Int) (q n : Nat) (hn : n ≤ 50) : ∀ x ∈ colsV u q n, 0 ≤ x ∧ x < ((2 ^ n : Nat) : Int) := by
  intro x hx
  unfold colsV at hx
  rw [List.mem_map] at hx
  obtain ⟨i, _, rfl⟩ := hx
  exact colV_lt u _ n hn
theorem wordsV_mem (l : List Int) (n : Nat) (hl : l.length ≤ 50) : ∀ x ∈ wordsV l n, 0 ≤ x ∧ x < ((2 ^ l.length : Nat) : Int) := by
  induction n with
  | zero => intro x hx; simp [wordsV] at hx
  | succ n ih =>
    intro x hx
    rw [wordsV, List.mem_append, List.mem_singleton] at hx
    rcases hx with hx | rfl
    · exact ih x hx
    · exact twV_lt l _ _ hl

/-! how far apart -/
theorem popN_xor_zero (f a : Nat) : popN f (a ^^^ a) = 0 := by
  rw [Nat.xor_self]
  induction f with
  | zero => rfl
  | succ f ih => simp [popN, ih]
theorem xor_mod2 (x y : Nat) : (x ^^^ y) % 2 = (x % 2 + y % 2) % 2 := by
  have h := Nat.testBit_xor x y 0
  simp only [Nat.testBit_zero] at h
  rcases Nat.mod_two_eq_zero_or_one x with a | a <;> rcases Nat.mod_two_eq_zero_or_one y with b | b <;> rcases Nat.mod_two_eq_zero_or_one (x ^^^ y) with c | c <;> simp [a, b, c] at h ⊢
theorem popN_tri (f : Nat) : ∀ a b c : Nat, popN f (a ^^^ b) ≤ popN f (a ^^^ c) + popN f (b ^^^ c) := by
  induction f with
  | zero => intro a b c; simp [popN]
  | succ f ih =>
    intro a b c
    simp only [popN]
    have h := ih (a / 2) (b / 2) (c / 2)
    have e : ∀ x y : Nat, (x ^^^ y) / 2 = x / 2 ^^^ y / 2 := fun x y => Nat.xor_div_two
    have m : ∀ x y : Nat, (x ^^^ y) % 2 = (x % 2 + y % 2) % 2 := xor_mod2
    rw [e, e, e, m, m, m]
    omega
theorem popN_pos (f : Nat) : ∀ a b : Nat, a < 2 ^ f → b < 2 ^ f → popN f (a ^^^ b) = 0 → a = b := by
  induction f with
  | zero => intro a b ha hb _; simp at ha hb; omega
  | succ f ih =>
    intro a b ha hb h
    have hp : 2 ^ (f + 1) = 2 * 2 ^ f := by rw [Nat.pow_succ]; omega
    simp only [popN] at h
    have e : (a ^^^ b) / 2 = a / 2 ^^^ b / 2 := Nat.xor_div_two
    have m : (a ^^^ b) % 2 = (a % 2 + b % 2) % 2 := xor_mod2 _ _
    rw [e, m] at h
    have := ih (a / 2) (b / 2) (by omega) (by omega) (by omega)
    omega
/-- Between two words lies one that shares the way as one likes. -/
theorem popN_mid (f : Nat) : ∀ (L a b p q : Nat), a < 2 ^ L → b < 2 ^ L → popN f (a ^^^ b) ≤ p + q → ∃ c, c < 2 ^ L ∧ popN f (a ^^^ c) ≤ p ∧ popN f (b ^^^ c) ≤ q := by
  induction f with
  | zero => intro L a b p q ha _ _; exact ⟨a, ha, by simp [popN], by simp [popN]⟩
  | succ f ih =>
    intro L a b p q ha hb h
    have e : ∀ x y : Nat, (x ^^^ y) / 2 = x / 2 ^^^ y / 2 := fun x y => Nat.xor_div_two
    have m : ∀ x y : Nat, (x ^^^ y) % 2 = (x % 2 + y % 2) % 2 := xor_mod2
    simp only [popN] at h ⊢
    simp only [e, m] at h ⊢
    cases L with
    | zero =>
      simp at ha hb
      subst ha; subst hb
      refine ⟨0, by simp, ?_, ?_⟩ <;> (have := popN_xor_zero f 0; simp at this ⊢; omega)
    | succ L =>
      have hp : 2 ^ (L + 1) = 2 * 2 ^ L := by rw [Nat.pow_succ]; omega
      by_cases g : a % 2 = b % 2
      · obtain ⟨c, h0, h1, h2⟩ := ih L (a / 2) (b / 2) p q (by omega) (by omega) (by omega)
        refine ⟨2 * c + a % 2, by omega, ?_, ?_⟩
        · rw [show (2 * c + a % 2) / 2 = c by omega]; omega
        · rw [show (2 * c + a % 2) / 2 = c by omega]; omega
      · by_cases hp0 : p = 0
        · obtain ⟨c, h0, h1, h2⟩ := ih L (a / 2) (b / 2) p (q - 1) (by omega) (by omega) (by omega)
          refine ⟨2 * c + a % 2, by omega, ?_, ?_⟩
          · rw [show (2 * c + a % 2) / 2 = c by omega]; omega
          · rw [show (2 * c + a % 2) / 2 = c by omega]; omega
        · obtain ⟨c, h0, h1, h2⟩ := ih L (a / 2) (b / 2) (p - 1) q (by omega) (by omega) (by omega)
          refine ⟨2 * c + b % 2, by omega, ?_, ?_⟩
          · rw [show (2 * c + b % 2) / 2 = c by omega]; omega
          · rw [show (2 * c + b % 2) / 2 = c by omega]; omega
theorem apI_comm (a b : Int) : apI a b = apI b a := by unfold apI; rw [Nat.xor_comm]
theorem apI_self (a : Int) : apI a a = 0 := by unfold apI; rw [popN_xor_zero]; rfl
theorem apI_tri (a b c : Int) : apI a b ≤ apI a c + apI b c := by
  have := popN_tri 14 a.toNat b.toNat c.toNat
  unfold apI; omega
theorem apI_zero (a b : Int) (ha : 0 ≤ a ∧ a < 16384) (hb : 0 ≤ b ∧ b < 16384) (h : apI a b = 0) : a = b := by
  have := popN_pos 14 a.toNat b.toNat (by omega) (by omega) (by unfold apI at h; omega)
  omega
theorem apI_mid (a b : Int) (L : Nat) (m : Int) (hm : 0 ≤ m) (ha : 0 ≤ a ∧ a < ((2 ^ L : Nat) : Int)) (hb : 0 ≤ b ∧ b < ((2 ^ L : Nat) : Int)) (h : apI a b ≤ 2 * m) : ∃ c : Nat, c < 2 ^ L ∧ apI a (c : Int) ≤ m ∧ apI b (c : Int) ≤ m := by
  obtain ⟨c, h0, h1, h2⟩ := popN_mid 14 L a.toNat b.toNat m.toNat m.toNat (by omega) (by omega) (by unfold apI at h; omega)
  refine ⟨c, h0, ?_, ?_⟩ <;> (unfold apI; rw [Int.toNat_natCast]; omega)
/-- How many questions tell two numbers apart. -/
def dfL (i k : Int) : List Int → Nat
  | [] => 0
  | x :: t => (if (hasB x i != hasB x k) = true then 1 else 0) + dfL i k t
def pwL (k : Int) : List Int → Nat
  | [] => 0
  | x :: t => (if hasB x k = true then 1 else 0) + 2 * pwL k t
theorem pwL_bit (k : Int) (l : List Int) : ∀ j : Nat, (pwL k l).testBit j = (decide (j < l.length) && hasB (l.getD j 0) k) := by
  induction l with
  | nil => intro j; simp [pwL]
  | cons x t ih =>
    intro j
    unfold pwL
    cases j with
    | zero =>
      rw [Nat.testBit_zero]
      by_cases h : hasB x k = true
      · rw [if_pos h]; simp [h]
      · rw [if_neg h]; simp [h]
    | succ j =>
      rw [Nat.testBit_succ]
      have e : ((if hasB x k = true then 1 else 0) + 2 * pwL k t) / 2 = pwL k t := by split <;> omega
      rw [e, ih j]
      simp
theorem twV_pw (l : List Int) (k : Int) (hl : l.length ≤ 50) : twV l k l.length = ((pwL k l : Nat) : Int) := by
  rw [twV_nat l k _ hl]
  congr 1
  apply Nat.eq_of_testBit_eq
  intro j
  rw [ofBits_bit, pwL_bit]
theorem popN_df (i k : Int) (f : Nat) : ∀ l : List Int, l.length ≤ f → popN f (pwL i l ^^^ pwL k l) = dfL i k l := by
  induction f with
  | zero =>
    intro l hl
    obtain rfl : l = [] := List.length_eq_zero_iff.mp (by omega)
    rfl
  | succ f ih =>
    intro l hl
    cases l with
    | nil => show popN (f + 1) (0 ^^^ 0) = 0; exact popN_xor_zero _ _
    | cons x t =>
      have h := ih t (by simpa using hl)
      have e : ∀ x y : Nat, (x ^^^ y) / 2 = x / 2 ^^^ y / 2 := fun x y => Nat.xor_div_two
      have m : ∀ x y : Nat, (x ^^^ y) % 2 = (x % 2 + y % 2) % 2 := xor_mod2
      simp only [popN, pwL, dfL, e, m]
      rw [show ((if hasB x i = true then 1 else 0) + 2 * pwL i t) / 2 = pwL i t by split <;> omega, show ((if hasB x k = true then 1 else 0) + 2 * pwL k t) / 2 = pwL k t by split <;> omega, h]
      congr 1
      cases hasB x i <;> cases hasB x k <;> simp <;> omega
theorem apI_df (l : List Int) (i k : Int) (hl : l.length ≤ 14) : apI (twV l i l.length) (twV l k l.length) = ((dfL i k l : Nat) : Int) := by
  unfold apI
  rw [twV_pw l i (by omega), twV_pw l k (by omega), Int.toNat_natCast, Int.toNat_natCast, popN_df i k 14 l hl]
theorem dfL_append (i k : Int) (a b : List Int) : dfL i k (a ++ b) = dfL i k a + dfL i k b := by
  induction a with
  | nil => simp [dfL]
  | cons x t ih => simp [dfL, ih]; omega
theorem dfL_rep (i k x : Int) (T : Nat) : dfL i k (List.replicate T x) = T * dfL i k [x] := by
  induction T with
  | zero => simp [dfL]
  | succ T ih => rw [List.replicate_succ, show x :: List.replicate T x = [x] ++ List.replicate T x from rfl, dfL_append, ih, Nat.succ_mul]; omega
theorem dfL_erase (i k : Int) : ∀ (l : List Int) (j : Nat), dfL i k (l.eraseIdx j) ≤ dfL i k l := by
  intro l
  induction l with
  | nil => intro j; simp
  | cons x t ih =>
    intro j
    cases j with
    | zero => simp only [List.eraseIdx_cons_zero, dfL]; omega
    | succ j =>
      have := ih j
      simp only [List.eraseIdx_cons_succ, dfL]; omega

/-! the gap -/
theorem gap1_pair (ws : List Int) (i : Nat) (s : Int) : ∀ j : Nat, (i = 1 → 1 ≤ j → (∀ k, k < j → gap1 ws i s j ≤ apI (rd ws i) (rd ws (k : Nat))) ∧ ∃ k, k < j ∧ gap1 ws i s j = apI (rd ws i) (rd ws (k : Nat))) ∧
    (i ≠ 1 → gap1 ws i s j ≤ s ∧ (∀ k, k < j → gap1 ws i s j ≤ apI (rd ws i) (rd ws (k : Nat))) ∧ (gap1 ws i s j = s ∨ ∃ k, k < j ∧ gap1 ws i s j = apI (rd ws i) (rd ws (k : Nat)))) := by
  intro j
  induction j with
  | zero => exact ⟨fun _ h => by omega, fun _ => ⟨by simp [gap1], fun k hk => by omega, Or.inl rfl⟩⟩
  | succ j ih =>
    refine ⟨fun h1 _ => ?_, fun h1 => ?_⟩
    · by_cases hj : j = 0
      · subst hj
        rw [gap1, if_pos (Or.inl ⟨h1, rfl⟩)]
        exact ⟨fun k hk => by obtain rfl : k = 0 := by omega
                              exact Int.le_refl _, 0, by omega, rfl⟩
      · obtain ⟨a, k0, b0, b⟩ := ih.1 h1 (by omega)
        rw [gap1]
        by_cases h3 : apI (rd ws i) (rd ws (j : Nat)) < gap1 ws i s j
        · rw [if_pos (Or.inr h3)]
          refine ⟨fun k hk => ?_, j, by omega, rfl⟩
          by_cases e : k = j
          · subst e; exact Int.le_refl _
          · have := a k (by omega); omega
        · rw [if_neg (by rintro (g | g); exact hj g.2; exact h3 g)]
          refine ⟨fun k hk => ?_, k0, by omega, b⟩
          by_cases e : k = j
          · subst e; omega
          · exact a k (by omega)
    · obtain ⟨c, a, b⟩ := ih.2 h1
      rw [gap1]
      by_cases h3 : apI (rd ws i) (rd ws (j : Nat)) < gap1 ws i s j
      · rw [if_pos (Or.inr h3)]
        refine ⟨by omega, fun k hk => ?_, Or.inr ⟨j, by omega, rfl⟩⟩
        by_cases e : k = j
        · subst e; exact Int.le_refl _
        · have := a k (by omega); omega
      · rw [if_neg (by rintro (g | g); exact h1 g.1; exact h3 g)]
        refine ⟨c, fun k hk => ?_, ?_⟩
        · by_cases e : k = j
          · subst e; omega
          · exact a k (by omega)
        · rcases b with b | ⟨k0, b0, b⟩
          · exact Or.inl b
          · exact Or.inr ⟨k0, by omega, b⟩
theorem gap0_one (ws : List Int) : gap0 ws 1 = 0 := by simp [gap0, gap1]
/-- Of two words or more the gap is the least of all. -/
theorem gap0_pair (ws : List Int) (n : Nat) : 2 ≤ n → (∀ i k : Nat, k < i → i < n → gap0 ws n ≤ apI (rd ws (i : Nat)) (rd ws (k : Nat))) ∧ ∃ i k : Nat, k < i ∧ i < n ∧ gap0 ws n = apI (rd ws (i : Nat)) (rd ws (k : Nat)) := by
  induction n with
  | zero => intro h; omega
  | succ n ih =>
    intro hn
    rw [gap0]
    have g := gap1_pair ws n (gap0 ws n) n
    by_cases h1 : n = 1
    · subst h1
      obtain ⟨a, k, b0, b⟩ := g.1 rfl (Nat.le_refl _)
      refine ⟨fun i k' hk hi => ?_, 1, k, b0, by omega, b⟩
      obtain rfl : i = 1 := by omega
      exact a k' hk
    · obtain ⟨c, a, b⟩ := g.2 h1
      obtain ⟨p, i0, k0, q0, q1, q⟩ := ih (by omega)
      refine ⟨fun i k hk hi => ?_, ?_⟩
      · by_cases e : i = n
        · subst e; exact a k hk
        · have := p i k hk (by omega); omega
      · rcases b with b | ⟨k, b0, b⟩
        · exact ⟨i0, k0, q0, by omega, by omega⟩
        · exact ⟨n, k, b0, by omega, b⟩
theorem gap0_nn (ws : List Int) (n : Nat) : 0 ≤ gap0 ws n := by
  by_cases h : 2 ≤ n
  · obtain ⟨_, i, k, _, _, e⟩ := gap0_pair ws n h
    rw [e]; exact (apI_bd _ _).1
  · rcases (show n = 0 ∨ n = 1 by omega) with rfl | rfl
    · simp [gap0]
    · rw [gap0_one]; exact Int.le_refl _
/-- The gap is at least what all pairs are apart. -/
theorem gap0_ge (ws : List Int) (n : Nat) (hn : 2 ≤ n) (d : Int) (h : ∀ i k : Nat, k < i → i < n → d ≤ apI (rd ws (i : Nat)) (rd ws (k : Nat))) : d ≤ gap0 ws n := by
  obtain ⟨_, i, k, a, b, e⟩ := gap0_pair ws n hn
  rw [e]; exact h i k a b
theorem rd_getD (l : List Int) (i : Nat) : rd l (i : Nat) = l.getD i 0 := rd_nat l i
/-- What is told of all pairs' distances, by the same factor, is told of the gap. -/
theorem gap0_mul (ws vs : List Int) (n : Nat) (T : Int) (hT : 0 ≤ T) (h : ∀ i k : Nat, k < i → i < n → apI (rd vs (i : Nat)) (rd vs (k : Nat)) = T * apI (rd ws (i : Nat)) (rd ws (k : Nat))) : gap0 vs n = T * gap0 ws n := by
  by_cases hn : 2 ≤ n
  · obtain ⟨a, i, k, b0, b1, b⟩ := gap0_pair ws n hn
    obtain ⟨a', i', k', b0', b1', b'⟩ := gap0_pair vs n hn
    have h1 := a' i k b0 b1
    rw [h i k b0 b1, ← b] at h1
    have h2 := a i' k' b0' b1'
    rw [h i' k' b0' b1'] at b'
    have h3 : T * gap0 ws n ≤ T * apI (rd ws (i' : Nat)) (rd ws (k' : Nat)) := Int.mul_le_mul_of_nonneg_left h2 hT
    omega
  · rcases (show n = 0 ∨ n = 1 by omega) with rfl | rfl
    · simp [gap0]
    · rw [gap0_one, gap0_one]; simp

/-! places that are told by a test -/
theorem numsTo_has (p : Int → Bool) (n : Nat) (x : Int) : x ∈ numsTo p n ↔ 0 ≤ x ∧ x < (n : Int) ∧ p x = true := by
  constructor
  · exact numsTo_mem p n x
  · rintro ⟨h0, h1, h2⟩
    induction n with
    | zero => omega
    | succ n ih =>
      unfold numsTo
      by_cases e : x = (n : Int)
      · subst e; rw [if_pos h2]; simp
      · have := ih (by omega)
        split
        · rw [List.mem_append]; exact Or.inl this
        · exact this
theorem numsTo_congr (p q : Int → Bool) (n : Nat) (h : ∀ x : Nat, x < n → p (x : Int) = q (x : Int)) : numsTo p n = numsTo q n := by
  induction n with
  | zero => rfl
  | succ n ih => unfold numsTo; rw [h n (by omega), ih fun x hx => h x (by omega)]
theorem numsTo_none (p : Int → Bool) (n : Nat) : numsTo p n = [] ↔ ∀ x : Nat, x < n → p (x : Int) = false := by
  constructor
  · intro h x hx
    cases e : p (x : Int)
    · rfl
    · have := (numsTo_has p n (x : Int)).2 ⟨by omega, by omega, e⟩
      rw [h] at this; simp at this
  · intro h
    rw [List.eq_nil_iff_forall_not_mem]
    intro x hx
    obtain ⟨h0, h1, h2⟩ := (numsTo_has p n x).1 hx
    obtain ⟨x, rfl⟩ := Int.eq_ofNat_of_zero_le h0
    have h3 := h x (by omega)
    rw [show p ((x : Nat) : Int) = true from h2] at h3
    cases h3
/-- Two places or more. -/
theorem numsTo_two (p : Int → Bool) (n : Nat) : 1 < (numsTo p n).length ↔ ∃ i k : Nat, k < i ∧ i < n ∧ p (i : Int) = true ∧ p (k : Int) = true := by
  induction n with
  | zero => simp [numsTo]
  | succ n ih =>
    unfold numsTo
    by_cases hp : p (n : Int) = true
    · rw [if_pos hp, List.length_append, List.length_singleton]
      constructor
      · intro h
        have hne : numsTo p n ≠ [] := by intro e; rw [e] at h; simp at h
        obtain ⟨x, hx⟩ := List.exists_mem_of_ne_nil _ hne
        obtain ⟨h0, h1, h2⟩ := (numsTo_has p n x).1 hx
        obtain ⟨x, rfl⟩ := Int.eq_ofNat_of_zero_le h0
        exact ⟨n, x, by omega, by omega, hp, h2⟩
      · rintro ⟨i, k, hk, hi, h1, h2⟩
        have : (k : Int) ∈ numsTo p n := (numsTo_has p n (k : Int)).2 ⟨by omega, by omega, h2⟩
        have := List.length_pos_of_mem this
        omega
    · rw [if_neg hp, ih]
      constructor
      · rintro ⟨i, k, hk, hi, h1, h2⟩; exact ⟨i, k, hk, by omega, h1, h2⟩
      · rintro ⟨i, k, hk, hi, h1, h2⟩
        refine ⟨i, k, hk, ?_, h1, h2⟩
        by_cases e : i = n
        · subst e; exact absurd h1 hp
        · omega
end Go.Proofs.Ytmckmagdiokhiaa.Lib
