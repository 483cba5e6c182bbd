/- The plain law behind the statement FnSchemes: what the Go functions' Lean forms come to. Written for this work; no condition. -/
import Derived.Test.YtmckmagdiokhiaaPFnSchemesx
set_option linter.unusedVariables false
set_option linter.unusedSimpArgs false
namespace Go.Proofs.Ytmckmagdiokhiaa.PFnSchemes
open Go.RowKit Go.Proofs.YtmckmagdiokhiaaW.PrintWords Go.Proofs.YtmckmagdiokhiaaW.PrintLast Go.Proofs.YtmckmagdiokhiaaW.PrintMore Go.Proofs.Ytmckmagdiokhiaa.Lib

/-- How many bits are set. -/
def popN : Nat → Nat → Nat
  | 0, _ => 0
  | f + 1, x => x % 2 + popN f (x / 2)
def apI (a b : Int) : Int := (popN 14 (a.toNat ^^^ b.toNat) : Int)
def fitV (ws : List Int) (w m : Int) : Nat → List Int := numsTo fun k => decide (apI (rd ws k) w ≤ m)
def untV (ws : List Int) (m : Int) : Nat → Int
  | 0 => 0
  | i + 1 => if ((fitV ws (i : Int) m ws.length).length : Int) > 1 then wrap64 (untV ws m i + 1) else untV ws m i
theorem unt_bd (ws : List Int) (m : Int) (N : Nat) : N ≤ 16384 → 0 ≤ untV ws m N ∧ untV ws m N ≤ (N : Int) := by
  induction N with
  | zero => intro _; simp [untV]
  | succ N ih =>
    intro h
    have ih := ih (by omega)
    unfold untV
    split
    · rw [w64 (by omega) (by omega)]; omega
    · omega
theorem unt_zero (ws : List Int) (m : Int) (N : Nat) : N ≤ 16384 → (untV ws m N = 0 ↔ ∀ w : Nat, w < N → ¬ 1 < (fitV ws (w : Int) m ws.length).length) := by
  induction N with
  | zero => intro _; simp [untV]
  | succ N ih =>
    intro h
    have hb := unt_bd ws m N (by omega)
    have ih := ih (by omega)
    unfold untV
    by_cases hc : ((fitV ws (N : Int) m ws.length).length : Int) > 1
    · rw [if_pos hc, w64 (by omega) (by omega)]
      refine ⟨fun e => by omega, fun g => absurd ?_ (g N (by omega))⟩
      omega
    · rw [if_neg hc, ih]
      refine ⟨fun g w hw => ?_, fun g w hw => g w (by omega)⟩
      by_cases e : w = N
      · subst e; omega
      · exact g w (by omega)
/-- The gap of words: the inner loop's and the outer loop's values. -/
def gap1 (ws : List Int) (i : Nat) (s : Int) : Nat → Int
  | 0 => s
  | j + 1 => if (i = 1 ∧ j = 0) ∨ apI (rd ws i) (rd ws j) < gap1 ws i s j then apI (rd ws i) (rd ws j) else gap1 ws i s j
def gap0 (ws : List Int) : Nat → Int
  | 0 => 0
  | i + 1 => gap1 ws i (gap0 ws i) i
/-- The true words of the numbers 0, .., n - 1. -/
def wordsV (l : List Int) : Nat → List Int
  | 0 => []
  | i + 1 => wordsV l i ++ [twV l i l.length]
def safeV (n : Int) (l : List Int) (m : Int) : Bool := decide (n = 1) || decide (gap0 (wordsV l n.toNat) n.toNat > wrap64 (2 * m))
theorem isSch_bd {n : Int} {l : List Int} (h : isSch n l = true) : 1 ≤ n ∧ n ≤ 12 ∧ l.length ≤ 14 ∧ isN n = true := by
  unfold isSch at h
  simp only [Bool.and_eq_true, decide_eq_true_eq] at h
  have := isN_bd h.1.1
  exact ⟨this.1, this.2, h.1.2, h.1.1⟩
theorem wordsV_length (l : List Int) (n : Nat) : (wordsV l n).length = n := by
  induction n with
  | zero => rfl
  | succ n ih => simp [wordsV, ih]
theorem numsTo_mem (p : Int → Bool) (n : Nat) : ∀ x ∈ numsTo p n, 0 ≤ x ∧ x < n ∧ p x = true := by
  induction n with
  | zero => intro x hx; simp [numsTo] at hx
  | succ n ih =>
    intro x hx
    unfold numsTo at hx
    split at hx
    · rename_i hp
      rw [List.mem_append, List.mem_singleton] at hx
      rcases hx with hx | rfl
      · have := ih x hx
        exact ⟨this.1, by omega, this.2.2⟩
      · exact ⟨by omega, by omega, hp⟩
    · have := ih x hx
      exact ⟨this.1, by omega, this.2.2⟩
theorem numsTo_has (p : Int → Bool) (n : Nat) (x : Int) : x ∈ numsTo p n ↔ 0 ≤ x ∧ x < (n : Int) ∧ p x = true := by
  constructor
  · exact numsTo_mem p n x
  · rintro ⟨h0, h1, h2⟩
    induction n with
    | zero => omega
    | succ n ih =>
      unfold numsTo
      by_cases e : x = (n : Int)
      · subst e; rw [if_pos h2]; simp
      · have := ih (by omega)
        split
        · rw [List.mem_append]; exact Or.inl this
        · exact this
/-- Two places or more. -/
theorem numsTo_two (p : Int → Bool) (n : Nat) : 1 < (numsTo p n).length ↔ ∃ i k : Nat, k < i ∧ i < n ∧ p (i : Int) = true ∧ p (k : Int) = true := by
  induction n with
  | zero => simp [numsTo]
  | succ n ih =>
    unfold numsTo
    by_cases hp : p (n : Int) = true
    · rw [if_pos hp, List.length_append, List.length_singleton]
      constructor
      · intro h
        have hne : numsTo p n ≠ [] := by intro e; rw [e] at h; simp at h
        obtain ⟨x, hx⟩ := List.exists_mem_of_ne_nil _ hne
        obtain ⟨h0, h1, h2⟩ := (numsTo_has p n x).1 hx
        obtain ⟨x, rfl⟩ := Int.eq_ofNat_of_zero_le h0
        exact ⟨n, x, by omega, by omega, hp, h2⟩
      · rintro ⟨i, k, hk, hi, h1, h2⟩
        have : (k : Int) ∈ numsTo p n := (numsTo_has p n (k : Int)).2 ⟨by omega, by omega, h2⟩
        have := List.length_pos_of_mem this
        omega
    · rw [if_neg hp, ih]
      constructor
      · rintro ⟨i, k, hk, hi, h1, h2⟩; exact ⟨i, k, hk, by omega, h1, h2⟩
      · rintro ⟨i, k, hk, hi, h1, h2⟩
        refine ⟨i, k, hk, ?_, h1, h2⟩
        by_cases e : i = n
        · subst e; exact absurd h1 hp
        · omega
theorem wordsV_at (l : List Int) (n : Nat) : ∀ x : Nat, x < n → (wordsV l n).getD x 0 = twV l (x : Int) l.length := by
  induction n with
  | zero => intro x hx; omega
  | succ n ih =>
    intro x hx
    rw [wordsV, List.getD_eq_getElem?_getD]
    by_cases h : x < n
    · rw [List.getElem?_append_left (by rw [wordsV_length]; exact h), ← List.getD_eq_getElem?_getD]
      exact ih x h
    · obtain rfl : x = n := by omega
      rw [List.getElem?_append_right (by rw [wordsV_length]; exact Nat.le_refl _), wordsV_length]
      simp
theorem rd_words (l : List Int) (n i : Nat) (h : i < n) : rd (wordsV l n) (i : Nat) = twV l (i : Int) l.length := by rw [rd_nat, wordsV_at l n i h]
/-- A number whose low n bits are told. -/
def ofBits (f : Nat → Bool) : Nat → Nat
  | 0 => 0
  | n + 1 => if f n = true then ofBits f n ||| 2 ^ n else ofBits f n
theorem ofBits_lt (f : Nat → Bool) (n : Nat) : ofBits f n < 2 ^ n := by
  induction n with
  | zero => simp [ofBits]
  | succ n ih =>
    have hp : 2 ^ (n + 1) = 2 * 2 ^ n := by rw [Nat.pow_succ]; omega
    unfold ofBits
    split
    · exact Nat.or_lt_two_pow (by omega) (by have := Nat.two_pow_pos n; omega)
    · omega
theorem bv_nat {a : Int} (h0 : 0 ≤ a) (h1 : a < 4611686018427387904) : (BitVec.ofInt 64 a).toNat = a.toNat := by
  rw [BitVec.toNat_ofInt]
  omega
theorem or_natc (a b : Nat) (ha : a < 2 ^ 60) (hb : b < 2 ^ 60) : Go.bits .or .i64 (a : Int) (b : Int) = ((a ||| b : Nat) : Int) := by
  have e0 : Go.bits .or .i64 (a : Int) (b : Int) = IntKind.i64.wrap (((BitVec.ofInt 64 (a : Int) ||| BitVec.ofInt 64 (b : Int)).toNat : Nat) : Int) := rfl
  have hl : a ||| b < 2 ^ 60 := Nat.or_lt_two_pow ha hb
  rw [e0, BitVec.toNat_or, bv_nat (by omega) (by omega), bv_nat (by omega) (by omega), wrap_i64, Int.toNat_natCast, Int.toNat_natCast]
  exact w64 (by omega) (by omega)
theorem colV_nat (l : List Int) (i : Int) (n : Nat) (hn : n ≤ 50) : colV l i n = ((ofBits (fun k => hasB (l.getD k 0) i) n : Nat) : Int) := by
  induction n with
  | zero => rfl
  | succ n ih =>
    unfold colV ofBits
    rw [ih (by omega)]
    by_cases h : hasB (l.getD n 0) i = true
    · rw [if_pos h, if_pos h]
      have hp : 2 ^ n ≤ 2 ^ 50 := Nat.pow_le_pow_right (by omega) (by omega)
      have hb := ofBits_lt (fun k => hasB (l.getD k 0) i) n
      rw [shl_one (by omega) (by omega), Int.toNat_natCast, show (2 : Int) ^ n = ((2 ^ n : Nat) : Int) by push_cast; rfl, or_natc _ _ (by omega) (by omega)]
    · rw [if_neg h, if_neg h]
theorem twV_nat (l : List Int) (k : Int) (n : Nat) (hn : n ≤ 50) : twV l k n = ((ofBits (fun i => hasB (l.getD i 0) k) n : Nat) : Int) := by rw [twV_col, colV_nat l k n hn]
theorem twV_lt (l : List Int) (k : Int) (n : Nat) (hn : n ≤ 50) : 0 ≤ twV l k n ∧ twV l k n < ((2 ^ n : Nat) : Int) := by
  rw [twV_nat l k n hn]
  have := ofBits_lt (fun i => hasB (l.getD i 0) k) n
  omega
theorem gap1_pair (ws : List Int) (i : Nat) (s : Int) : ∀ j : Nat, (i = 1 → 1 ≤ j → (∀ k, k < j → gap1 ws i s j ≤ apI (rd ws i) (rd ws (k : Nat))) ∧ ∃ k, k < j ∧ gap1 ws i s j = apI (rd ws i) (rd ws (k : Nat))) ∧
    (i ≠ 1 → gap1 ws i s j ≤ s ∧ (∀ k, k < j → gap1 ws i s j ≤ apI (rd ws i) (rd ws (k : Nat))) ∧ (gap1 ws i s j = s ∨ ∃ k, k < j ∧ gap1 ws i s j = apI (rd ws i) (rd ws (k : Nat)))) := by
  intro j
  induction j with
  | zero => exact ⟨fun _ h => by omega, fun _ => ⟨by simp [gap1], fun k hk => by omega, Or.inl rfl⟩⟩
  | succ j ih =>
    refine ⟨fun h1 _ => ?_, fun h1 => ?_⟩
    · by_cases hj : j = 0
      · subst hj
        rw [gap1, if_pos (Or.inl ⟨h1, rfl⟩)]
        exact ⟨fun k hk => by obtain rfl : k = 0 := by omega
                              exact Int.le_refl _, 0, by omega, rfl⟩
      · obtain ⟨a, k0, b0, b⟩ := ih.1 h1 (by omega)
        rw [gap1]
        by_cases h3 : apI (rd ws i) (rd ws (j : Nat)) < gap1 ws i s j
        · rw [if_pos (Or.inr h3)]
          refine ⟨fun k hk => ?_, j, by omega, rfl⟩
          by_cases e : k = j
          · subst e; exact Int.le_refl _
          · have := a k (by omega); omega
        · rw [if_neg (by rintro (g | g); exact hj g.2; exact h3 g)]
          refine ⟨fun k hk => ?_, k0, by omega, b⟩
          by_cases e : k = j
          · subst e; omega
          · exact a k (by omega)
    · obtain ⟨c, a, b⟩ := ih.2 h1
      rw [gap1]
      by_cases h3 : apI (rd ws i) (rd ws (j : Nat)) < gap1 ws i s j
      · rw [if_pos (Or.inr h3)]
        refine ⟨by omega, fun k hk => ?_, Or.inr ⟨j, by omega, rfl⟩⟩
        by_cases e : k = j
        · subst e; exact Int.le_refl _
        · have := a k (by omega); omega
      · rw [if_neg (by rintro (g | g); exact h1 g.1; exact h3 g)]
        refine ⟨c, fun k hk => ?_, ?_⟩
        · by_cases e : k = j
          · subst e; omega
          · exact a k (by omega)
        · rcases b with b | ⟨k0, b0, b⟩
          · exact Or.inl b
          · exact Or.inr ⟨k0, by omega, b⟩
/-- Of two words or more the gap is the least of all. -/
theorem gap0_pair (ws : List Int) (n : Nat) : 2 ≤ n → (∀ i k : Nat, k < i → i < n → gap0 ws n ≤ apI (rd ws (i : Nat)) (rd ws (k : Nat))) ∧ ∃ i k : Nat, k < i ∧ i < n ∧ gap0 ws n = apI (rd ws (i : Nat)) (rd ws (k : Nat)) := by
  induction n with
  | zero => intro h; omega
  | succ n ih =>
    intro hn
    rw [gap0]
    have g := gap1_pair ws n (gap0 ws n) n
    by_cases h1 : n = 1
    · subst h1
      obtain ⟨a, k, b0, b⟩ := g.1 rfl (Nat.le_refl _)
      refine ⟨fun i k' hk hi => ?_, 1, k, b0, by omega, b⟩
      obtain rfl : i = 1 := by omega
      exact a k' hk
    · obtain ⟨c, a, b⟩ := g.2 h1
      obtain ⟨p, i0, k0, q0, q1, q⟩ := ih (by omega)
      refine ⟨fun i k hk hi => ?_, ?_⟩
      · by_cases e : i = n
        · subst e; exact a k hk
        · have := p i k hk (by omega); omega
      · rcases b with b | ⟨k, b0, b⟩
        · exact ⟨i0, k0, q0, by omega, by omega⟩
        · exact ⟨n, k, b0, by omega, b⟩
theorem xor_mod2 (x y : Nat) : (x ^^^ y) % 2 = (x % 2 + y % 2) % 2 := by
  have h := Nat.testBit_xor x y 0
  simp only [Nat.testBit_zero] at h
  rcases Nat.mod_two_eq_zero_or_one x with a | a <;> rcases Nat.mod_two_eq_zero_or_one y with b | b <;> rcases Nat.mod_two_eq_zero_or_one (x ^^^ y) with c | c <;> simp [a, b, c] at h ⊢
theorem popN_tri (f : Nat) : ∀ a b c : Nat, popN f (a ^^^ b) ≤ popN f (a ^^^ c) + popN f (b ^^^ c) := by
  induction f with
  | zero => intro a b c; simp [popN]
  | succ f ih =>
    intro a b c
    simp only [popN]
    have h := ih (a / 2) (b / 2) (c / 2)
    have e : ∀ x y : Nat, (x ^^^ y) / 2 = x / 2 ^^^ y / 2 := fun x y => Nat.xor_div_two
    have m : ∀ x y : Nat, (x ^^^ y) % 2 = (x % 2 + y % 2) % 2 := xor_mod2
    rw [e, e, e, m, m, m]
    omega
theorem apI_tri (a b c : Int) : apI a b ≤ apI a c + apI b c := by
  have := popN_tri 14 a.toNat b.toNat c.toNat
  unfold apI; omega
theorem popN_xor_zero (f a : Nat) : popN f (a ^^^ a) = 0 := by
  rw [Nat.xor_self]
  induction f with
  | zero => rfl
  | succ f ih => simp [popN, ih]
/-- Between two words lies one that shares the way as one likes. -/
theorem popN_mid (f : Nat) : ∀ (L a b p q : Nat), a < 2 ^ L → b < 2 ^ L → popN f (a ^^^ b) ≤ p + q → ∃ c, c < 2 ^ L ∧ popN f (a ^^^ c) ≤ p ∧ popN f (b ^^^ c) ≤ q := by
  induction f with
  | zero => intro L a b p q ha _ _; exact ⟨a, ha, by simp [popN], by simp [popN]⟩
  | succ f ih =>
    intro L a b p q ha hb h
    have e : ∀ x y : Nat, (x ^^^ y) / 2 = x / 2 ^^^ y / 2 := fun x y => Nat.xor_div_two
    have m : ∀ x y : Nat, (x ^^^ y) % 2 = (x % 2 + y % 2) % 2 := xor_mod2
    simp only [popN] at h ⊢
    simp only [e, m] at h ⊢
    cases L with
    | zero =>
      simp at ha hb
      subst ha; subst hb
      refine ⟨0, by simp, ?_, ?_⟩ <;> (have := popN_xor_zero f 0; simp at this ⊢; omega)
    | succ L =>
      have hp : 2 ^ (L + 1) = 2 * 2 ^ L := by rw [Nat.pow_succ]; omega
      by_cases g : a % 2 = b % 2
      · obtain ⟨c, h0, h1, h2⟩ := ih L (a / 2) (b / 2) p q (by omega) (by omega) (by omega)
        refine ⟨2 * c + a % 2, by omega, ?_, ?_⟩
        · rw [show (2 * c + a % 2) / 2 = c by omega]; omega
        · rw [show (2 * c + a % 2) / 2 = c by omega]; omega
      · by_cases hp0 : p = 0
        · obtain ⟨c, h0, h1, h2⟩ := ih L (a / 2) (b / 2) p (q - 1) (by omega) (by omega) (by omega)
          refine ⟨2 * c + a % 2, by omega, ?_, ?_⟩
          · rw [show (2 * c + a % 2) / 2 = c by omega]; omega
          · rw [show (2 * c + a % 2) / 2 = c by omega]; omega
        · obtain ⟨c, h0, h1, h2⟩ := ih L (a / 2) (b / 2) (p - 1) q (by omega) (by omega) (by omega)
          refine ⟨2 * c + b % 2, by omega, ?_, ?_⟩
          · rw [show (2 * c + b % 2) / 2 = c by omega]; omega
          · rw [show (2 * c + b % 2) / 2 = c by omega]; omega
theorem apI_mid (a b : Int) (L : Nat) (m : Int) (hm : 0 ≤ m) (ha : 0 ≤ a ∧ a < ((2 ^ L : Nat) : Int)) (hb : 0 ≤ b ∧ b < ((2 ^ L : Nat) : Int)) (h : apI a b ≤ 2 * m) : ∃ c : Nat, c < 2 ^ L ∧ apI a (c : Int) ≤ m ∧ apI b (c : Int) ≤ m := by
  obtain ⟨c, h0, h1, h2⟩ := popN_mid 14 L a.toNat b.toNat m.toNat m.toNat (by omega) (by omega) (by unfold apI at h; omega)
  refine ⟨c, h0, ?_, ?_⟩ <;> (unfold apI; rw [Int.toNat_natCast]; omega)
/-- Safe schemes leave no word untold. -/
theorem safe_unt {n : Int} {l : List Int} {m : Int} (hs : isSch n l = true) (hm : isM m = true) : safeV n l m = (untV (wordsV l n.toNat) m (2 ^ l.length) == 0) := by
  have hb := isSch_bd hs
  have hmb := isM_bd hm
  have hlen := wordsV_length l n.toNat
  have h2 : 2 ^ l.length ≤ 2 ^ 14 := Nat.pow_le_pow_right (by omega) hb.2.2.1
  have uz := unt_zero (wordsV l n.toNat) m (2 ^ l.length) (by omega)
  have two : ∀ w : Nat, 1 < (fitV (wordsV l n.toNat) (w : Int) m (wordsV l n.toNat).length).length ↔ ∃ i k : Nat, k < i ∧ i < n.toNat ∧ apI (rd (wordsV l n.toNat) (i : Nat)) (w : Int) ≤ m ∧ apI (rd (wordsV l n.toNat) (k : Nat)) (w : Int) ≤ m := fun w => by
    unfold fitV
    rw [numsTo_two, hlen]
    simp only [decide_eq_true_eq]
  have mem : ∀ i : Nat, i < n.toNat → 0 ≤ rd (wordsV l n.toNat) (i : Nat) ∧ rd (wordsV l n.toNat) (i : Nat) < ((2 ^ l.length : Nat) : Int) := fun i hi => by
    rw [rd_words l _ i hi]
    exact twV_lt l _ _ (by omega)
  have ew : wrap64 (2 * m) = 2 * m := w64 (by omega) (by omega)
  have key : safeV n l m = true ↔ untV (wordsV l n.toNat) m (2 ^ l.length) = 0 := by
    unfold safeV
    rw [uz, Bool.or_eq_true, decide_eq_true_eq, decide_eq_true_eq, ew]
    constructor
    · rintro (h1 | hg) w hw hf
      · obtain ⟨i, k, hk, hi, _, _⟩ := (two w).1 hf
        omega
      · obtain ⟨i, k, hk, hi, a, b⟩ := (two w).1 hf
        have := (gap0_pair (wordsV l n.toNat) n.toNat (by omega)).1 i k hk hi
        have := apI_tri (rd (wordsV l n.toNat) (i : Nat)) (rd (wordsV l n.toNat) (k : Nat)) (w : Int)
        omega
    · intro g
      by_cases h1 : n = 1
      · exact Or.inl h1
      · refine Or.inr ?_
        obtain ⟨_, i, k, hk, hi, e⟩ := gap0_pair (wordsV l n.toNat) n.toNat (by omega)
        by_cases hg : gap0 (wordsV l n.toNat) n.toNat > 2 * m
        · exact hg
        · exfalso
          obtain ⟨c, c0, c1, c2⟩ := apI_mid _ _ l.length m (by omega) (mem i hi) (mem k (by omega)) (by omega)
          exact g c c0 ((two c).2 ⟨i, k, hk, hi, c1, c2⟩)
  cases h : safeV n l m
  · cases h3 : (untV (wordsV l n.toNat) m (2 ^ l.length) == 0)
    · rfl
    · rw [beq_iff_eq] at h3
      rw [key.2 h3] at h
      exact absurd h (by simp)
  · rw [key.1 h]; rfl
theorem two_i64 {n : Int} (h0 : 0 ≤ n) (h1 : n ≤ 50) : wrap64 (shl .i64 1 n - 1) = ((2 ^ n.toNat : Nat) : Int) - 1 := by
  have hp : 2 ^ n.toNat ≤ 2 ^ 50 := Nat.pow_le_pow_right (by omega) (by omega)
  have e : shl .i64 1 n = ((2 ^ n.toNat : Nat) : Int) := by rw [shl_one h0 (by omega)]; push_cast; rfl
  rw [e]
  generalize 2 ^ n.toNat = P at *
  exact w64 (by omega) (by omega)
theorem isSch_of {n : Int} {l : List Int} (hn : isN n = true) (hl : l.length ≤ 14) (hr : ∀ x ∈ l, 0 ≤ x ∧ x < ((2 ^ n.toNat : Nat) : Int)) : isSch n l = true := by
  have hb := isN_bd hn
  unfold isSch
  rw [hn, decide_eq_true hl]
  simp only [Bool.true_and, Bool.not_eq_true', List.any_eq_false]
  intro x hx
  have := hr x hx
  unfold isQ
  rw [hn, two_i64 (by omega) (by omega)]
  generalize 2 ^ n.toNat = P at *
  rw [decide_eq_true ⟨by omega, by omega⟩]
  simp
theorem erase_le {l : List Int} (i : Nat) (hl : l.length ≤ 14) : (l.eraseIdx i).length ≤ 14 := by
  have := List.length_eraseIdx_le l i
  omega
theorem isSch_mem {n : Int} {l : List Int} (h : isSch n l = true) : ∀ x ∈ l, 0 ≤ x ∧ x < ((2 ^ n.toNat : Nat) : Int) := by
  have hb := isSch_bd h
  intro x hx
  unfold isSch at h
  simp only [Bool.and_eq_true, Bool.not_eq_true', List.any_eq_false] at h
  have h2 := h.2 x hx
  have h3 : isQ n x = true := by
    cases e : isQ n x
    · exact absurd (by rw [e]) h2
    · rfl
  unfold isQ at h3
  rw [hb.2.2.2, Bool.true_and, decide_eq_true_eq, two_i64 (by omega) (by omega)] at h3
  generalize 2 ^ n.toNat = P at *
  omega
theorem erase_sch {n : Int} {l : List Int} (i : Nat) (hs : isSch n l = true) : isSch n (l.eraseIdx i) = true := by
  have hb := isSch_bd hs
  exact isSch_of hb.2.2.2 (erase_le i hb.2.2.1) fun x hx => isSch_mem hs x (List.mem_of_mem_eraseIdx hx)
/-- The gap is at least what all pairs are apart. -/
theorem gap0_ge (ws : List Int) (n : Nat) (hn : 2 ≤ n) (d : Int) (h : ∀ i k : Nat, k < i → i < n → d ≤ apI (rd ws (i : Nat)) (rd ws (k : Nat))) : d ≤ gap0 ws n := by
  obtain ⟨_, i, k, a, b, e⟩ := gap0_pair ws n hn
  rw [e]; exact h i k a b
/-- How many questions tell two numbers apart. -/
def dfL (i k : Int) : List Int → Nat
  | [] => 0
  | x :: t => (if (hasB x i != hasB x k) = true then 1 else 0) + dfL i k t
def pwL (k : Int) : List Int → Nat
  | [] => 0
  | x :: t => (if hasB x k = true then 1 else 0) + 2 * pwL k t
theorem ofBits_bit (f : Nat → Bool) (n j : Nat) : (ofBits f n).testBit j = (decide (j < n) && f j) := by
  induction n with
  | zero => simp [ofBits]
  | succ n ih =>
    unfold ofBits
    split
    · rename_i h
      rw [Nat.testBit_or, ih, Nat.testBit_two_pow]
      by_cases e : n = j
      · subst e; simp [h]
      · by_cases g : j < n
        · simp [g, e, show j < n + 1 by omega]
        · simp [g, e, show ¬ j < n + 1 by omega]
    · rename_i h
      rw [ih]
      by_cases e : n = j
      · subst e; simp [h]
      · by_cases g : j < n
        · simp [g, show j < n + 1 by omega]
        · simp [g, show ¬ j < n + 1 by omega]
theorem pwL_bit (k : Int) (l : List Int) : ∀ j : Nat, (pwL k l).testBit j = (decide (j < l.length) && hasB (l.getD j 0) k) := by
  induction l with
  | nil => intro j; simp [pwL]
  | cons x t ih =>
    intro j
    unfold pwL
    cases j with
    | zero =>
      rw [Nat.testBit_zero]
      by_cases h : hasB x k = true
      · rw [if_pos h]; simp [h]
      · rw [if_neg h]; simp [h]
    | succ j =>
      rw [Nat.testBit_succ]
      have e : ((if hasB x k = true then 1 else 0) + 2 * pwL k t) / 2 = pwL k t := by split <;> omega
      rw [e, ih j]
      simp
theorem twV_pw (l : List Int) (k : Int) (hl : l.length ≤ 50) : twV l k l.length = ((pwL k l : Nat) : Int) := by
  rw [twV_nat l k _ hl]
  congr 1
  apply Nat.eq_of_testBit_eq
  intro j
  rw [ofBits_bit, pwL_bit]
theorem popN_df (i k : Int) (f : Nat) : ∀ l : List Int, l.length ≤ f → popN f (pwL i l ^^^ pwL k l) = dfL i k l := by
  induction f with
  | zero =>
    intro l hl
    obtain rfl : l = [] := List.length_eq_zero_iff.mp (by omega)
    rfl
  | succ f ih =>
    intro l hl
    cases l with
    | nil => show popN (f + 1) (0 ^^^ 0) = 0; exact popN_xor_zero _ _
    | cons x t =>
      have h := ih t (by simpa using hl)
      have e : ∀ x y : Nat, (x ^^^ y) / 2 = x / 2 ^^^ y / 2 := fun x y => Nat.xor_div_two
      have m : ∀ x y : Nat, (x ^^^ y) % 2 = (x % 2 + y % 2) % 2 := xor_mod2
      simp only [popN, pwL, dfL, e, m]
      rw [show ((if hasB x i = true then 1 else 0) + 2 * pwL i t) / 2 = pwL i t by split <;> omega, show ((if hasB x k = true then 1 else 0) + 2 * pwL k t) / 2 = pwL k t by split <;> omega, h]
      congr 1
      cases hasB x i <;> cases hasB x k <;> simp <;> omega
theorem apI_df (l : List Int) (i k : Int) (hl : l.length ≤ 14) : apI (twV l i l.length) (twV l k l.length) = ((dfL i k l : Nat) : Int) := by
  unfold apI
  rw [twV_pw l i (by omega), twV_pw l k (by omega), Int.toNat_natCast, Int.toNat_natCast, popN_df i k 14 l hl]
theorem ap_words (l : List Int) (n i k : Nat) (hl : l.length ≤ 14) (hi : i < n) (hk : k < n) : apI (rd (wordsV l n) (i : Nat)) (rd (wordsV l n) (k : Nat)) = ((dfL (i : Int) (k : Int) l : Nat) : Int) := by
  rw [rd_words l n i hi, rd_words l n k hk, apI_df l _ _ hl]
theorem dfL_erase (i k : Int) : ∀ (l : List Int) (j : Nat), dfL i k (l.eraseIdx j) ≤ dfL i k l := by
  intro l
  induction l with
  | nil => intro j; simp
  | cons x t ih =>
    intro j
    cases j with
    | zero => simp only [List.eraseIdx_cons_zero, dfL]; omega
    | succ j =>
      have := ih j
      simp only [List.eraseIdx_cons_succ, dfL]; omega
theorem safe_erase {n : Int} {l : List Int} {m : Int} (i : Nat) (hs : isSch n l = true) (h : safeV n (l.eraseIdx i) m = true) : safeV n l m = true := by
  have hb := isSch_bd hs
  unfold safeV at h ⊢
  rw [Bool.or_eq_true, decide_eq_true_eq, decide_eq_true_eq] at h ⊢
  rcases h with h | h
  · exact Or.inl h
  · by_cases h1 : n = 1
    · exact Or.inl h1
    · refine Or.inr ?_
      have e := (gap0_pair (wordsV (l.eraseIdx i) n.toNat) n.toNat (by omega)).1
      have := gap0_ge (wordsV l n.toNat) n.toNat (by omega) (gap0 (wordsV (l.eraseIdx i) n.toNat) n.toNat) fun a b hba ha => by
        have q := e a b hba ha
        rw [ap_words _ _ a b (erase_le i hb.2.2.1) ha (by omega)] at q
        rw [ap_words _ _ a b hb.2.2.1 ha (by omega)]
        have := dfL_erase (a : Int) (b : Int) l i
        omega
      omega
def twP (n : Int) (l : List Int) (k : Int) : Int × Bool := if (isSch n l && decide (0 ≤ k ∧ k ≤ wrap64 (n - 1))) = true then (twV l k l.length, true) else (0, false)
def twsP (n : Int) (l : List Int) : List Int × Bool := if isSch n l = true then (wordsV l n.toNat, true) else ([], false)
def soP (l : List Int) (q : Int) : List Int × Bool := if okSo l q = true then (colsV l q.toNat l.length, true) else ([], false)
theorem okSo_bd {l : List Int} {q : Int} (h : okSo l q = true) : isN (l.length : Int) = true ∧ (0 ≤ q ∧ q ≤ 14) ∧ ∀ x ∈ l, 0 ≤ x ∧ x < ((2 ^ q.toNat : Nat) : Int) := by
  unfold okSo at h
  simp only [Bool.and_eq_true, decide_eq_true_eq, Bool.not_eq_true', List.any_eq_false] at h
  refine ⟨h.1.1, h.1.2, fun x hx => ?_⟩
  have h3 : decide (0 ≤ x ∧ x ≤ wrap64 (shl .i64 1 q - 1)) = true := by
    have := h.2 x hx
    cases e : decide (0 ≤ x ∧ x ≤ wrap64 (shl .i64 1 q - 1))
    · exact absurd (by rw [e]) this
    · rfl
  rw [decide_eq_true_eq, two_i64 (by omega) (by omega)] at h3
  generalize 2 ^ q.toNat = P at *
  omega
theorem okSo_of {l : List Int} {q : Int} (hn : isN (l.length : Int) = true) (hq : 0 ≤ q ∧ q ≤ 14) (hr : ∀ x ∈ l, 0 ≤ x ∧ x < ((2 ^ q.toNat : Nat) : Int)) : okSo l q = true := by
  unfold okSo
  rw [hn, decide_eq_true hq]
  simp only [Bool.true_and, Bool.not_eq_true', List.any_eq_false]
  intro x hx
  have := hr x hx
  rw [two_i64 (by omega) (by omega)]
  generalize 2 ^ q.toNat = P at *
  rw [decide_eq_true ⟨by omega, by omega⟩]
  simp
/-- What is left behind the comparisons. -/
def lastS (x36 : List Int) (x38 : Int) (x39 : Bool) : Option Bool := if x39 = true then (if x38 ≥ 0 then (some (decide (x38 ≤ (shl .i64 1 (x36.length : Int))))) else none) else some true
def cuV (n : Int) (l : List Int) (m : Int) : Int × Bool := if (isSch n l && decide (0 ≤ m ∧ m ≤ 14)) = true then (untV (wordsV l n.toNat) m (2 ^ l.length), true) else (0, false)
theorem two_len {l : List Int} (hl : l.length ≤ 14) : shl .i64 1 (l.length : Int) = ((2 ^ l.length : Nat) : Int) ∧ 2 ^ l.length ≤ 16384 := by
  refine ⟨?_, ?_⟩
  · rw [shl_one (by omega) (by omega), Int.toNat_natCast]; push_cast; rfl
  · exact Nat.pow_le_pow_right (by omega) hl
theorem lastS_true (n : Int) (l : List Int) (m v : Int) (b : Bool) (h : cuV n l m = (v, b)) : lastS l v b = some true := by
  cases b
  · rfl
  · unfold cuV at h
    split at h
    case isFalse => simp at h
    rename_i hs
    rw [Bool.and_eq_true] at hs
    have hb := isSch_bd hs.1
    obtain ⟨t1, t2⟩ := two_len hb.2.2.1
    simp only [Prod.mk.injEq, and_true] at h
    have := unt_bd (wordsV l n.toNat) m (2 ^ l.length) t2
    unfold lastS
    rw [if_pos rfl, ← h, if_pos this.1, t1, decide_eq_true this.2]
def vfN (n : Int) (l : List Int) (m : Int) : Nat → List Int := numsTo fun k => safeV n (l.eraseIdx k.toNat) m
theorem vfN_length (n : Int) (l : List Int) (m : Int) (i : Nat) : (vfN n l m i).length ≤ i := numsTo_length _ _
theorem getD_mem' (l : List Int) (i : Nat) (hi : i < l.length) : l.getD i 0 ∈ l := by
  rw [List.getD_eq_getElem?_getD, List.getElem?_eq_getElem hi]
  exact List.getElem_mem hi
def dropV (n : Int) (l : List Int) (i : Int) : List Int × Bool := if (isSch n l && decide (0 ≤ i ∧ i ≤ wrap64 ((l.length : Int) - 1))) = true then (l.eraseIdx i.toNat, true) else ([], false)
theorem dropV_in {n : Int} {l : List Int} {i : Int} (h1 : isSch n l = true) (h2 : 0 ≤ i ∧ i ≤ wrap64 ((l.length : Int) - 1)) : i < l.length ∧ l.length ≤ 14 := by
  have hb := isSch_bd h1
  rw [w64 (by omega) (by omega)] at h2
  omega
theorem impl_DropFixed.eq (n : Int) (l : List Int) (i : Int) : impl_DropFixed.f n l i = some (dropV n l i) := by
  simp only [impl_DropFixed.f, impl_IsScheme.f, impl_in.eq, Option.bind_some, dropV]
  by_cases h1 : isSch n l = true
  · by_cases h2 : 0 ≤ i ∧ i ≤ wrap64 ((l.length : Int) - 1)
    · have hb := dropV_in h1 h2
      have e : impl_without.f l i = some (l.eraseIdx i.toNat) := by
        unfold impl_without.f
        rw [if_pos ⟨h2.1, hb.1, by omega⟩]
      simp [h1, h2, e]
    · simp [h1, h2]
  · simp [h1]
def isSafeV (n : Int) (l : List Int) (m : Int) : Bool × Bool := if (isSch n l && isM m) = true then (safeV n l m, true) else (false, false)
/-- The words of a scheme: all of them small. -/
def smallW (ws : List Int) : Prop := ∀ x ∈ ws, 0 ≤ x ∧ x < 16384
theorem or_nat {a b : Int} {n : Nat} (hn : n ≤ 60) (h0 : 0 ≤ a) (h1 : a < 2 ^ n) (g0 : 0 ≤ b) (g1 : b < 2 ^ n) : 0 ≤ Go.bits .or .i64 a b ∧ Go.bits .or .i64 a b < 2 ^ n := by
  have e0 : Go.bits .or .i64 a b = IntKind.i64.wrap (((BitVec.ofInt 64 a ||| BitVec.ofInt 64 b).toNat : Nat) : Int) := rfl
  have hp : (2 : Int) ^ n ≤ 2 ^ 60 := pow_le' hn
  have ha : a.toNat < 2 ^ n := by
    have : ((a.toNat : Nat) : Int) < ((2 ^ n : Nat) : Int) := by rw [Int.toNat_of_nonneg h0]; push_cast; exact h1
    exact_mod_cast this
  have hb : b.toNat < 2 ^ n := by
    have : ((b.toNat : Nat) : Int) < ((2 ^ n : Nat) : Int) := by rw [Int.toNat_of_nonneg g0]; push_cast; exact g1
    exact_mod_cast this
  have hl : a.toNat ||| b.toNat < 2 ^ n := Nat.or_lt_two_pow ha hb
  have hl2 : ((a.toNat ||| b.toNat : Nat) : Int) < 2 ^ n := by
    have : ((a.toNat ||| b.toNat : Nat) : Int) < ((2 ^ n : Nat) : Int) := by exact_mod_cast hl
    push_cast at this
    exact this
  rw [e0, BitVec.toNat_or, bv_nat h0 (by omega), bv_nat g0 (by omega), wrap_i64, w64 (by omega) (by omega)]
  exact ⟨by omega, hl2⟩
theorem twV_bd (l : List Int) (k : Int) (n : Nat) (hn : n ≤ 60) : 0 ≤ twV l k n ∧ twV l k n < 2 ^ n := by
  induction n with
  | zero => simp [twV]
  | succ n ih =>
    have ih := ih (by omega)
    have hp : (2 : Int) ^ (n + 1) = 2 * 2 ^ n := by rw [Int.pow_succ]; omega
    unfold twV
    split
    · have hs : shl .i64 1 (n : Int) = 2 ^ n := by rw [shl_one (by omega) (by omega), Int.toNat_natCast]
      have := pow_pos' n
      refine or_nat hn (by omega) (by omega) (by rw [hs]; omega) (by rw [hs]; omega)
    · omega
theorem wordsV_small (l : List Int) (hl : l.length ≤ 14) (n : Nat) : smallW (wordsV l n) := by
  induction n with
  | zero => intro x hx; simp [wordsV] at hx
  | succ n ih =>
    intro x hx
    rw [wordsV, List.mem_append, List.mem_singleton] at hx
    rcases hx with hx | rfl
    · exact ih x hx
    · have := twV_bd l n l.length (by omega)
      have h2 : (2 : Int) ^ l.length ≤ 2 ^ 14 := pow_le' hl
      omega
theorem xor_nat {a b : Int} (h0 : 0 ≤ a) (h1 : a < 16384) (g0 : 0 ≤ b) (g1 : b < 16384) : Go.bits .xor .i64 a b = ((a.toNat ^^^ b.toNat : Nat) : Int) ∧ a.toNat ^^^ b.toNat < 16384 := by
  have e0 : Go.bits .xor .i64 a b = IntKind.i64.wrap (((BitVec.ofInt 64 a ^^^ BitVec.ofInt 64 b).toNat : Nat) : Int) := rfl
  have hl : a.toNat ^^^ b.toNat < 2 ^ 14 := Nat.xor_lt_two_pow (by omega) (by omega)
  refine ⟨?_, hl⟩
  rw [e0, BitVec.toNat_xor, bv_nat h0 (by omega), bv_nat g0 (by omega), wrap_i64]
  exact w64 (by omega) (by omega)
theorem ones_small : ∀ a b : Fin 128, bits_OnesCount64.f ((128 * a.val + b.val : Nat) : Int) = some (popN 14 (128 * a.val + b.val) : Int) := by decide +kernel
theorem impl_apart.eq (a b : Int) (ha : 0 ≤ a ∧ a < 16384) (hb : 0 ≤ b ∧ b < 16384) : impl_apart.f a b = some (apI a b) := by
  have hx := xor_nat ha.1 ha.2 hb.1 hb.2
  have hs := ones_small ⟨(a.toNat ^^^ b.toNat) / 128, by omega⟩ ⟨(a.toNat ^^^ b.toNat) % 128, by omega⟩
  simp only at hs
  rw [Nat.div_add_mod] at hs
  have e2 : IntKind.u64.wrap ((a.toNat ^^^ b.toNat : Nat) : Int) = ((a.toNat ^^^ b.toNat : Nat) : Int) := by
    have : IntKind.u64.wrap ((a.toNat ^^^ b.toNat : Nat) : Int) = ((a.toNat ^^^ b.toNat : Nat) : Int) % 18446744073709551616 := rfl
    rw [this]
    omega
  simp only [impl_apart.f, bits_OnesCount.f, hx.1, e2, hs, Option.bind_some]
  rfl
theorem smallW_at {ws : List Int} (h : smallW ws) (i : Nat) (hi : i < ws.length) : 0 ≤ rd ws i ∧ rd ws i < 16384 := by
  rw [rd_at ws i hi]
  exact h _ (List.getElem_mem hi)
theorem impl_has.eq (q k : Int) (h : 0 ≤ k) : impl_has.f q k = some (hasB q k) := by
  unfold impl_has.f; rw [if_pos h]; rfl
theorem impl_trueWord.ev (l : List Int) (k : Int) (h0 : 0 ≤ k) (hl : l.length ≤ 35184372088832) : Stops (fun n => impl_trueWord.f n l k) (twV l k l.length) := by
  refine Stops.count (g := fun n (s : Int × Int) => impl_trueWord.l0 n k s.1 l l.length s.2) (fun i => (twV l k i, (i : Int))) l.length (Stops.now1 fun m => ?_) fun i hi m => ?_
  · simp only [impl_trueWord.l0]; rw [if_neg (by omega)]
  · have e : wrap64 ((i : Int) + 1) = (i : Int) + 1 := w64 (by omega) (by omega)
    simp only [impl_trueWord.l0]; rw [if_pos (by omega), if_pos (by omega), if_pos (by omega), rd_nat, impl_has.eq _ _ h0, Option.bind_some, e, twV]
    by_cases hb : hasB (l.getD i 0) k = true
    · rw [if_pos hb, if_pos hb]; rfl
    · rw [if_neg hb, if_neg hb]; rfl
theorem impl_trueWords.ev (n : Int) (l : List Int) (h0 : 0 ≤ n) (h1 : n ≤ 1000) (hl : l.length ≤ 35184372088832) : Stops (fun k => impl_trueWords.f k n l) (wordsV l n.toNat) := by
  refine Stops.count' (g := fun k (s : List Int × Int) => impl_trueWords.l0 k l s.1 n s.2) (fun i => (wordsV l i, (i : Int))) n.toNat (Stops.now1 fun m => ?_) fun i hi A => ?_
  · simp only [impl_trueWords.l0]; rw [if_neg (by omega)]
  · have e : wrap64 ((i : Int) + 1) = (i : Int) + 1 := w64 (by omega) (by omega)
    have hw := wordsV_length l i
    refine Evt.succ (A.and (impl_trueWord.ev l i (by omega) hl).evt) fun m ⟨a, b⟩ => ?_
    simp only [impl_trueWords.l0]
    rw [if_pos (by omega), show impl_trueWord.f m l i = _ from b, Option.bind_some, if_pos (by omega), e]; exact a
theorem impl_gap.ev (n : Int) (l : List Int) (h0 : 0 ≤ n) (hn : n ≤ 12) (hl : l.length ≤ 14) : Stops (fun k => impl_gap.f k n l) (gap0 (wordsV l n.toNat) n.toNat) := by
  obtain ⟨ws, hw⟩ : ∃ ws, ws = wordsV l n.toNat := ⟨_, rfl⟩
  have hs : smallW ws := hw ▸ wordsV_small l hl n.toNat
  have hlen : ws.length = n.toNat := by rw [hw, wordsV_length]
  have E : Stops (fun k => impl_gap.l0 k 0 ws ws (ws.length : Int) 0) (gap0 ws ws.length) := by
    refine Stops.count' (g := fun k (x : Int × Int) => impl_gap.l0 k x.1 ws ws (ws.length : Int) x.2) (fun i => (gap0 ws i, (i : Int))) ws.length (Stops.now1 fun m => ?_) fun i hi A => ?_
    · simp only [impl_gap.l0]; rw [if_neg (by omega)]
    · have ew : wrap64 ((i : Int) + 1) = ((i + 1 : Nat) : Int) := w64 (by omega) (by omega)
      have ht : (ws.take i).length = i := by rw [List.length_take]; omega
      have hrd : ∀ j : Nat, j < i → rd (ws.take i) (j : Int) = rd ws (j : Int) := fun j hj => by
        rw [rd_at _ j (by omega), rd_at _ j (by omega), List.getElem_take]
      have B : Stops (fun k => impl_gap.l1 k (gap0 ws i) ws (i : Int) (rd ws i) ws (ws.length : Int) (i : Int) (ws.take i) (i : Int) 0) (gap0 ws ws.length) := by
        refine Stops.count' (g := fun k (x : Int × Int) => impl_gap.l1 k x.1 ws (i : Int) (rd ws i) ws (ws.length : Int) (i : Int) (ws.take i) (i : Int) x.2) (fun j => (gap1 ws i (gap0 ws i) j, (j : Int))) i (A.round fun m a => ?_) fun j hj C => ?_
        · simp only [impl_gap.l1, ew]; rw [if_neg (by omega)]; exact a
        · have ej : wrap64 ((j : Int) + 1) = ((j + 1 : Nat) : Int) := w64 (by omega) (by omega)
          refine C.round fun m c => ?_
          simp only [impl_gap.l1, ej, hrd j hj, impl_apart.eq (rd ws i) (rd ws j) (smallW_at hs i hi) (smallW_at hs j (by omega)), Option.bind_some]
          rw [if_pos (by omega), if_pos (by omega), if_pos (by omega)]
          simp only [gap1] at c
          by_cases h1 : i = 1
          · rw [if_pos (by omega)]
            by_cases h2 : j = 0
            · rw [if_pos (by omega)]
              rw [if_pos (Or.inl ⟨h1, h2⟩)] at c
              exact c
            · rw [if_neg (by omega)]
              by_cases h3 : apI (rd ws i) (rd ws j) < gap1 ws i (gap0 ws i) j
              · rw [if_pos h3]; rw [if_pos (Or.inr h3)] at c; exact c
              · rw [if_neg h3]; rw [if_neg (by rintro (g | g); exact h2 g.2; exact h3 g)] at c; exact c
          · rw [if_neg (by omega)]
            by_cases h3 : apI (rd ws i) (rd ws j) < gap1 ws i (gap0 ws i) j
            · rw [if_pos h3]; rw [if_pos (Or.inr h3)] at c; exact c
            · rw [if_neg h3]; rw [if_neg (by rintro (g | g); exact h1 g.1; exact h3 g)] at c; exact c
      refine B.round fun m a => ?_
      simp only [impl_gap.l0, Option.bind_some, Int.toNat_natCast, ht]
      rw [if_pos (by omega), if_pos (by omega), if_pos (by omega), if_pos (by omega)]
      exact a
  refine ((impl_trueWords.ev n l (by omega) (by omega) (by omega)).and E.evt).mono fun m ⟨a, b⟩ => ?_
  simp only [impl_gap.f, a, Option.bind_some]
  rw [← hw, b, hlen]
theorem impl_isSafe.ev (n : Int) (l : List Int) (m : Int) (h0 : 0 ≤ n) (hn : n ≤ 12) (hl : l.length ≤ 14) : Stops (fun k => impl_isSafe.f k n l m) (safeV n l m) := by
  refine (impl_gap.ev n l h0 hn hl).same fun k a => ?_
  simp only [impl_isSafe.f, a, Option.bind_some, safeV]
  by_cases h : n = 1
  · rw [if_pos h, decide_eq_true h, Bool.true_or]
  · rw [if_neg h, decide_eq_false h, Bool.false_or]
theorem impl_isMost.eq (a : Int) : impl_isMost.f a = some (isM a) := by
  unfold impl_isMost.f; rw [impl_in.eq]; rfl
theorem impl_IsSafe.ev (n : Int) (l : List Int) (m : Int) : Stops (fun k => impl_IsSafe.f k n l m) (isSafeV n l m) := by
  unfold isSafeV
  by_cases hs : isSch n l = true
  · have hb := isSch_bd hs
    refine (impl_isSafe.ev n l m (by omega) (by omega) hb.2.2.1).same fun k b => ?_
    simp only [impl_IsSafe.f, impl_IsScheme.f, b, impl_isMost.eq, hs, Option.bind_some]
    cases isM m <;> rfl
  · refine Evt.true.mono fun k _ => ?_
    simp [impl_IsSafe.f, impl_IsScheme.f, hs]
theorem sch_l0 (n : Int) (l : List Int) (m : Int) (hs : isSch n l = true) (hm : isM m = true) (safe : Bool) (hsafe : safe = safeV n l m) (x36 : List Int) (x38 : Int) (x39 : Bool) (hf : lastS x36 x38 x39 = some true) :
    Stops (fun k => laws_FnSchemes.l0 k n l m safe (vfN n l m l.length) x36 x38 x39 0) true := by
  have hb := isSch_bd hs
  have hlen := vfN_length n l m l.length
  refine Stops.count' (g := fun k (s : Int) => laws_FnSchemes.l0 k n l m safe (vfN n l m l.length) x36 x38 x39 s) (fun i => (i : Int)) (vfN n l m l.length).length (Stops.now1 fun k => ?_) fun i hi A => ?_
  · simp only [laws_FnSchemes.l0]; rw [if_neg (by omega)]; exact hf
  · have ew : wrap64 ((i : Int) + 1) = ((i + 1 : Nat) : Int) := w64 (by omega) (by omega)
    have hmem : rd (vfN n l m l.length) (i : Int) ∈ vfN n l m l.length := by rw [rd_nat]; exact getD_mem' _ i hi
    obtain ⟨z, hz⟩ : ∃ z, rd (vfN n l m l.length) (i : Int) = z := ⟨_, rfl⟩
    rw [hz] at hmem
    obtain ⟨z0, z1, z2⟩ := (numsTo_has _ _ _).1 hmem
    have eD : impl_DropFixed.f n l z = some (l.eraseIdx z.toNat, true) := by
      rw [impl_DropFixed.eq]
      unfold dropV
      rw [if_pos (by rw [hs, decide_eq_true ⟨z0, by rw [w64 (by omega) (by omega)]; omega⟩]; rfl)]
    have I := impl_IsSafe.ev n (l.eraseIdx z.toNat) m
    have eI : isSafeV n (l.eraseIdx z.toNat) m = (true, true) := by unfold isSafeV; rw [erase_sch _ hs, hm, Bool.and_self, if_pos rfl, z2]
    rw [eI] at I
    have es : safe = true := by rw [hsafe]; exact safe_erase z.toNat hs z2
    refine Evt.succ (A.and I.evt) fun k ⟨a, b⟩ => ?_
    show laws_FnSchemes.l0 (k + 1) n l m safe (vfN n l m l.length) x36 x38 x39 (i : Int) = _
    rw [laws_FnSchemes.l0, if_pos (by omega), if_pos (by omega), hz, eD, Option.bind_some]
    simp only [b, Option.bind_some, if_true]
    rw [if_pos es, ew]
    exact a
def vfV (n : Int) (l : List Int) (m : Int) : List Int × Bool := if (isSch n l && isM m) = true then (vfN n l m l.length, true) else ([], false)
theorem fitV_len (ws : List Int) (w m : Int) (i : Nat) : (fitV ws w m i).length ≤ i := numsTo_length _ _
theorem fitV_succ (ws : List Int) (w m : Int) (i : Nat) : fitV ws w m (i + 1) = if apI (rd ws (i : Int)) w ≤ m then fitV ws w m i ++ [(i : Int)] else fitV ws w m i := by
  unfold fitV
  rw [numsTo]
  by_cases h : apI (rd ws (i : Int)) w ≤ m
  · rw [if_pos (by simpa using h), if_pos h]
  · rw [if_neg (by simpa using h), if_neg h]
theorem impl_CountUntold.ev (n : Int) (l : List Int) (m : Int) : Stops (fun k => impl_CountUntold.f k n l m) (cuV n l m) := by
  unfold cuV
  by_cases hs : isSch n l = true
  · have hb := isSch_bd hs
    obtain ⟨t1, t2⟩ := two_len hb.2.2.1
    obtain ⟨ws, hws⟩ : ∃ ws, ws = wordsV l n.toNat := ⟨_, rfl⟩
    have hsm : smallW ws := hws ▸ wordsV_small l hb.2.2.1 n.toNat
    have hlen : ws.length = n.toNat := by rw [hws, wordsV_length]
    have E : Stops (fun k => impl_CountUntold.l0 k m 0 ws (shl .i64 1 (l.length : Int)) 0) (untV ws m (2 ^ l.length), true) := by
      rw [t1]
      refine Stops.count' (g := fun k (x : Int × Int) => impl_CountUntold.l0 k m x.1 ws ((2 ^ l.length : Nat) : Int) x.2) (fun i => (untV ws m i, (i : Int))) (2 ^ l.length) (Stops.now1 fun k => ?_) fun i hi A => ?_
      · simp only [impl_CountUntold.l0]; rw [if_neg (by omega)]
      · have ew : wrap64 ((i : Int) + 1) = ((i + 1 : Nat) : Int) := w64 (by omega) (by omega)
        have B : Stops (fun k => impl_CountUntold.l1 k m (untV ws m i) ws (i : Int) 0 ((2 ^ l.length : Nat) : Int) (i : Int) ws (ws.length : Int) 0) (untV ws m (2 ^ l.length), true) := by
          refine Stops.count' (g := fun k (x : Int × Int) => impl_CountUntold.l1 k m (untV ws m i) ws (i : Int) x.1 ((2 ^ l.length : Nat) : Int) (i : Int) ws (ws.length : Int) x.2) (fun j => (((fitV ws (i : Int) m j).length : Int), (j : Int))) ws.length (A.round fun k a => ?_) fun j hj C => ?_
          · simp only [impl_CountUntold.l1, ew]
            rw [if_neg (by omega)]
            simp only [untV] at a
            split at a
            · rename_i g; rw [if_pos g]; exact a
            · rename_i g; rw [if_neg g]; exact a
          · have ej : wrap64 ((j : Int) + 1) = ((j + 1 : Nat) : Int) := w64 (by omega) (by omega)
            have hl := fitV_len ws (i : Int) m j
            have el : wrap64 (((fitV ws (i : Int) m j).length : Int) + 1) = (((fitV ws (i : Int) m j).length + 1 : Nat) : Int) := w64 (by omega) (by omega)
            refine C.round fun k c => ?_
            simp only [impl_CountUntold.l1, ej, el, impl_apart.eq (rd ws j) (i : Int) (smallW_at hsm j hj) (by omega), Option.bind_some]
            rw [if_pos (by omega), if_pos (by omega), if_pos (by omega)]
            simp only [fitV_succ] at c
            by_cases hc : apI (rd ws j) (i : Int) ≤ m
            · rw [if_pos hc, List.length_append, List.length_singleton] at c
              rw [if_pos hc]
              exact c
            · rw [if_neg hc] at c
              rw [if_neg hc]
              exact c
        refine B.round fun k a => ?_
        simp only [impl_CountUntold.l0]
        rw [if_pos (by omega)]
        exact a
    refine Evt.succ ((impl_trueWords.ev n l (by omega) (by omega) (by omega)).and E.evt) fun k ⟨b, c⟩ => ?_
    rw [← hws] at b
    simp only [impl_CountUntold.f, impl_CountUntold.j0, impl_IsScheme.f, b, c, impl_in.eq, hs, Option.bind_some, Bool.true_and]
    rw [← hws]
    by_cases hm : 0 ≤ m ∧ m ≤ 14
    · rw [decide_eq_true hm]; rfl
    · rw [decide_eq_false hm]; rfl
  · refine Evt.succ Evt.true fun k _ => ?_
    simp [impl_CountUntold.f, impl_CountUntold.j0, impl_IsScheme.f, hs]
theorem sch_j2 (n : Int) (l : List Int) (m : Int) (safe two : Bool) (hI : isSafeV n l m = (safe, two)) (vain : List Int) (three : Bool) (hV : vfV n l m = (vain, three)) (x36 : List Int) (x38 : Int) (x39 : Bool) (hf : lastS x36 x38 x39 = some true) :
    Stops (fun k => laws_FnSchemes.j2 k n l m safe two vain x36 x38 x39) true := by
  unfold isSafeV at hI
  unfold vfV at hV
  by_cases hc : (isSch n l && isM m) = true
  · rw [if_pos hc] at hI hV
    rw [Bool.and_eq_true] at hc
    simp only [Prod.mk.injEq] at hI hV
    obtain ⟨rfl, rfl⟩ := hI
    obtain ⟨rfl, rfl⟩ := hV
    have hmb := isM_bd hc.2
    have U := impl_CountUntold.ev n l m
    have eU : cuV n l m = (untV (wordsV l n.toNat) m (2 ^ l.length), true) := by
      unfold cuV
      rw [if_pos (by rw [hc.1, decide_eq_true ⟨by omega, by omega⟩]; rfl)]
    rw [eU] at U
    have L := sch_l0 n l m hc.1 hc.2 (safeV n l m) rfl x36 x38 x39 hf
    have J3 : Stops (fun k => laws_FnSchemes.j3 k n l m (safeV n l m) (vfN n l m l.length) x36 x38 x39 false) true := L.round fun k a => by
      show laws_FnSchemes.j3 (k + 1) n l m (safeV n l m) (vfN n l m l.length) x36 x38 x39 false = _
      rw [laws_FnSchemes.j3, if_neg (by simp)]; exact a
    have hx : (safeV n l m != (untV (wordsV l n.toNat) m (2 ^ l.length) == 0)) = false := by rw [safe_unt hc.1 hc.2, bne_self_eq_false]
    refine Evt.succ (U.and J3.evt) fun k ⟨a, b⟩ => ?_
    show laws_FnSchemes.j2 (k + 1) n l m (safeV n l m) true (vfN n l m l.length) x36 x38 x39 = _
    rw [laws_FnSchemes.j2, if_pos rfl, a]
    simp only [Option.bind_some, if_true, hx]
    exact b
  · rw [if_neg hc] at hI
    simp only [Prod.mk.injEq] at hI
    obtain ⟨rfl, rfl⟩ := hI
    refine Stops.now1 fun k => ?_
    show laws_FnSchemes.j2 (k + 1) n l m false false vain x36 x38 x39 = _
    rw [laws_FnSchemes.j2, if_neg (by simp)]
    exact hf
theorem colV_lt (l : List Int) (k : Int) (n : Nat) (hn : n ≤ 50) : 0 ≤ colV l k n ∧ colV l k n < ((2 ^ n : Nat) : Int) := by rw [← twV_col]; exact twV_lt l k n hn
theorem colsV_mem (u : List Int) (q n : Nat) (hn : n ≤ 50) : ∀ x ∈ colsV u q n, 0 ≤ x ∧ x < ((2 ^ n : Nat) : Int) := by
  intro x hx
  unfold colsV at hx
  rw [List.mem_map] at hx
  obtain ⟨i, _, rfl⟩ := hx
  exact colV_lt u _ n hn
theorem getD_ext (a b : List Int) (hl : a.length = b.length) (h : ∀ i : Nat, i < a.length → a.getD i 0 = b.getD i 0) : a = b := by
  apply List.ext_getElem hl
  intro i h1 h2
  have := h i h1
  rwa [List.getD_eq_getElem?_getD, List.getD_eq_getElem?_getD, List.getElem?_eq_getElem h1, List.getElem?_eq_getElem h2] at this
theorem shr_nat (q k : Nat) (hk : k ≤ 64) : shr .i64 (q : Int) (k : Int) = ((q / 2 ^ k : Nat) : Int) := by
  unfold shr
  rw [Int.toNat_natCast, show IntKind.i64.bits = 64 from rfl, Nat.min_eq_left hk]
  push_cast
  rfl
theorem and1 (x : Nat) (h : x < 4611686018427387904) : Go.bits .and .i64 (x : Int) 1 = ((x % 2 : Nat) : Int) := by
  have h1 : ((BitVec.ofInt 64 (x : Int)) &&& (BitVec.ofInt 64 1)).toNat = x % 2 := by
    rw [BitVec.toNat_and, bv_nat (by omega) (by omega), Int.toNat_natCast]
    exact Nat.and_one_is_mod _
  have e0 : Go.bits .and .i64 (x : Int) 1 = IntKind.i64.wrap (((BitVec.ofInt 64 (x : Int) &&& BitVec.ofInt 64 1).toNat : Nat) : Int) := rfl
  rw [e0, h1, wrap_i64]
  exact w64 (by omega) (by omega)
theorem hasB_nat (q k : Nat) (hk : k ≤ 64) (h1 : q < 4611686018427387904) : hasB (q : Int) (k : Int) = q.testBit k := by
  unfold hasB
  have hq : q / 2 ^ k ≤ q := Nat.div_le_self _ _
  rw [shr_nat q k hk, and1 _ (by omega), Nat.testBit_eq_decide_div_mod_eq]
  by_cases h : q / 2 ^ k % 2 = 1
  · rw [decide_eq_true h, h]; rfl
  · rw [decide_eq_false h]
    have : q / 2 ^ k % 2 = 0 := by omega
    rw [this]; rfl
/-- Numbers of n bits that agree in all of them are equal. -/
theorem bits_ext (x y : Int) (n : Nat) (hn : n ≤ 50) (hx : 0 ≤ x ∧ x < ((2 ^ n : Nat) : Int)) (hy : 0 ≤ y ∧ y < ((2 ^ n : Nat) : Int)) (h : ∀ j : Nat, j < n → hasB x (j : Int) = hasB y (j : Int)) : x = y := by
  obtain ⟨x, rfl⟩ := Int.eq_ofNat_of_zero_le hx.1
  obtain ⟨y, rfl⟩ := Int.eq_ofNat_of_zero_le hy.1
  have hp : 2 ^ n ≤ 2 ^ 50 := Nat.pow_le_pow_right (by omega) hn
  congr 1
  apply Nat.eq_of_testBit_eq
  intro j
  by_cases hj : j < n
  · have := h j hj
    rwa [hasB_nat _ _ (by omega) (by omega), hasB_nat _ _ (by omega) (by omega)] at this
  · have h1 : 2 ^ n ≤ 2 ^ j := Nat.pow_le_pow_right (by omega) (by omega)
    rw [Nat.testBit_lt_two_pow (by omega), Nat.testBit_lt_two_pow (by omega)]
/-- Bit j of a column is told by row j. -/
theorem colV_bit (l : List Int) (i : Int) (n j : Nat) (hn : n ≤ 50) (hj : j ≤ 64) : hasB (colV l i n) (j : Int) = (decide (j < n) && hasB (l.getD j 0) i) := by
  have hb := ofBits_lt (fun k => hasB (l.getD k 0) i) n
  have hp : 2 ^ n ≤ 2 ^ 50 := Nat.pow_le_pow_right (by omega) hn
  rw [colV_nat l i n hn, hasB_nat _ _ hj (by omega), ofBits_bit]
theorem twV_bit (l : List Int) (k : Int) (n i : Nat) (hn : n ≤ 50) (hi : i ≤ 64) : hasB (twV l k n) (i : Int) = (decide (i < n) && hasB (l.getD i 0) k) := by rw [twV_col, colV_bit l k n i hn hi]
/-- The true words of the scheme of some words are the words. -/
theorem words_cols (u : List Int) (q : Nat) (hq : q ≤ 50) (hu : u.length ≤ 50) (hr : ∀ x ∈ u, 0 ≤ x ∧ x < ((2 ^ q : Nat) : Int)) : wordsV (colsV u q u.length) u.length = u := by
  apply getD_ext _ _ (wordsV_length _ _)
  intro i hi
  rw [wordsV_length] at hi
  rw [wordsV_at _ _ _ hi, colsV_length]
  refine bits_ext _ _ q hq (twV_lt _ _ q hq) (hr _ (getD_mem' u i hi)) fun j hj => ?_
  rw [twV_bit _ _ q j hq (by omega), colsV_getD u q _ j hj, colV_bit u _ _ i hu (by omega), decide_eq_true hj, decide_eq_true hi, Bool.true_and, Bool.true_and]
theorem impl_TrueWords.ev (n : Int) (l : List Int) (hl : l.length ≤ 35184372088832) : Stops (fun k => impl_TrueWords.f k n l) (if isSch n l = true then (wordsV l n.toNat, true) else ([], false)) := by
  cases h : isSch n l
  · refine Evt.true.mono fun m _ => ?_
    simp [impl_TrueWords.f, impl_IsScheme.f, h]
  · have hb := isSch_bd h
    refine (impl_trueWords.ev n l (by omega) (by omega) hl).same fun m b => ?_
    simp [impl_TrueWords.f, impl_IsScheme.f, h, b]
theorem laws_vInts.ev (l : List Int) (h : l.length ≤ 35184372088832) : Stops (fun k => laws_vInts.f k l l) true := by
  have E : Stops (fun k => laws_vInts.l0 k l l 0) true := by
    refine Stops.count (g := fun k (s : Int) => laws_vInts.l0 k l l s) (fun i => (i : Int)) l.length (Stops.now1 fun m => ?_) fun i hi m => ?_
    · simp only [laws_vInts.l0]; rw [if_neg (by omega)]
    · have e : wrap64 ((i : Int) + 1) = (i : Int) + 1 := w64 (by omega) (by omega)
      rw [laws_vInts.l0, if_pos (by omega), if_pos (by omega), if_pos (by omega), if_pos rfl, e]; rfl
  refine E.same fun m a => ?_
  simp only [laws_vInts.f, if_true]; exact a
theorem sch_j1 (u : List Int) (q : Int) (v : List Int) (one : Bool) (h : soP u q = (v, one)) (n : Int) (l : List Int) (m : Int) (safe two : Bool) (vain : List Int) (x36 : List Int) (x38 : Int) (x39 : Bool)
    (J : Stops (fun k => laws_FnSchemes.j2 k n l m safe two vain x36 x38 x39) true) : Stops (fun k => laws_FnSchemes.j1 k u q v one n l m safe two vain x36 x38 x39) true := by
  cases one
  · refine J.round fun k a => ?_
    show laws_FnSchemes.j1 (k + 1) u q v false n l m safe two vain x36 x38 x39 = _
    rw [laws_FnSchemes.j1, if_neg (by simp)]; exact a
  · unfold soP at h
    split at h
    case isFalse => simp at h
    rename_i hs
    simp only [Prod.mk.injEq, and_true] at h
    obtain ⟨h1, h2, h3⟩ := okSo_bd hs
    have hb := isN_bd h1
    have hl : v.length = q.toNat := by rw [← h, colsV_length]
    have hsch : isSch (u.length : Int) v = true := isSch_of h1 (by omega) (by rw [← h, Int.toNat_natCast]; exact colsV_mem u _ _ (by omega))
    have hw : wordsV v u.length = u := by rw [← h]; exact words_cols u q.toNat (by omega) (by omega) h3
    have T := impl_TrueWords.ev (u.length : Int) v (by omega)
    rw [if_pos hsch, Int.toNat_natCast, hw] at T
    have V := laws_vInts.ev u (by omega)
    refine Evt.succ (T.and (V.and J.evt)) fun k ⟨a, b, c⟩ => ?_
    show laws_FnSchemes.j1 (k + 1) u q v true n l m safe two vain x36 x38 x39 = _
    rw [laws_FnSchemes.j1, if_pos rfl, a]
    simp only [Option.bind_some, if_true, b]
    rw [if_pos (by omega)]
    exact c
theorem wordsV_mem (l : List Int) (n : Nat) (hl : l.length ≤ 50) : ∀ x ∈ wordsV l n, 0 ≤ x ∧ x < ((2 ^ l.length : Nat) : Int) := by
  induction n with
  | zero => intro x hx; simp [wordsV] at hx
  | succ n ih =>
    intro x hx
    rw [wordsV, List.mem_append, List.mem_singleton] at hx
    rcases hx with hx | rfl
    · exact ih x hx
    · exact twV_lt l _ _ hl
theorem impl_schemeOf.ev (l : List Int) (q : Int) (h0 : 0 ≤ q) (h1 : q ≤ 1000) (hl : l.length ≤ 35184372088832) : Stops (fun k => impl_schemeOf.f k l q) (colsV l q.toNat l.length) := by
  obtain ⟨q, rfl⟩ := Int.eq_ofNat_of_zero_le h0
  rw [Int.toNat_natCast]
  have E : Stops (fun k => impl_schemeOf.l0 k (colsV l q 0) l l.length ((0 : Nat) : Int)) (colsV l q l.length) := by
    refine Stops.count' (g := fun k (s : List Int × Int) => impl_schemeOf.l0 k s.1 l l.length s.2) (fun n => (colsV l q n, (n : Int))) l.length (Stops.now1 fun m => ?_) fun n hn A => ?_
    · simp only [impl_schemeOf.l0]; rw [if_neg (by omega)]
    · have e : wrap64 ((n : Int) + 1) = (n : Int) + 1 := w64 (by omega) (by omega)
      have I : Stops (fun k => impl_schemeOf.l1 k (mixV l q (n + 1) n 0) n (l.getD n 0) l l.length n q ((0 : Nat) : Int)) (colsV l q l.length) := by
        refine Stops.count' (g := fun k (s : List Int × Int) => impl_schemeOf.l1 k s.1 n (l.getD n 0) l l.length n q s.2) (fun i => (mixV l q (n + 1) n i, (i : Int))) q (A.round fun m a => ?_) fun i hi B => B.round fun m b => ?_
        · simp only [impl_schemeOf.l1]; rw [if_neg (by omega), mixV_all, e]; exact a
        · have e2 : wrap64 ((i : Int) + 1) = (i : Int) + 1 := w64 (by omega) (by omega)
          have hlen : ((mixV l q (n + 1) n i).length : Int) = q := by rw [mixV_length]
          have hrd : rd (mixV l q (n + 1) n i) (i : Int) = colV l (i : Nat) n := by
            rw [rd_nat, mixV_getD l q _ _ i i hi, if_neg (by omega)]
          simp only [impl_schemeOf.l1]
          rw [if_pos (by omega), impl_has.eq _ _ (by omega), Option.bind_some, e2]
          by_cases hb : hasB (l.getD n 0) (i : Int) = true
          · rw [if_pos hb, if_pos (by omega), if_pos (by rw [hlen]; omega), if_pos (by omega), hrd, Int.toNat_natCast]
            have hs : (mixV l q (n + 1) n i).set i (Go.bits .or .i64 (colV l (i : Nat) n) (shl .i64 1 n)) = mixV l q (n + 1) n (i + 1) := by
              rw [← mixV_set l q _ _ i hi, colV, if_pos hb]
            rw [hs]; exact b
          · have hs : mixV l q (n + 1) n i = mixV l q (n + 1) n (i + 1) := by
              rw [← mixV_set l q _ _ i hi, colV, if_neg hb, mixV_same l q _ _ i hi]
            rw [if_neg hb, hs]; exact b
      rw [mixV_zero] at I
      refine I.round fun m a => ?_
      simp only [impl_schemeOf.l0, rd_nat, colsV_length]; rw [if_pos (by omega), if_pos (by omega), if_pos (by omega)]; exact a
  rw [colsV_zero] at E
  refine E.same fun m a => ?_
  simp only [impl_schemeOf.f, Int.toNat_natCast]; rw [if_pos (by omega), if_pos (by omega)]; exact a
theorem impl_SchemeOf.ev (l : List Int) (q : Int) (hl : l.length ≤ 35184372088832) : Stops (fun k => impl_SchemeOf.f k l q) (if okSo l q = true then (colsV l q.toNat l.length, true) else ([], false)) := by
  by_cases h : okSo l q = true
  · have hq : 0 ≤ q ∧ q ≤ 14 := by
      unfold okSo at h
      simp only [Bool.and_eq_true, decide_eq_true_eq] at h
      exact h.1.2
    refine (impl_schemeOf.ev l q hq.1 (by omega) hl).same fun m a => ?_
    simp only [impl_SchemeOf.f]; rw [if_pos h, if_pos h, a]; rfl
  · refine Evt.true.mono fun m _ => ?_
    simp only [impl_SchemeOf.f]; rw [if_neg h, if_neg h]
/-- The scheme of a scheme's true words is the scheme. -/
theorem cols_words (l : List Int) (n : Nat) (hn : n ≤ 50) (hl : l.length ≤ 50) (hr : ∀ x ∈ l, 0 ≤ x ∧ x < ((2 ^ n : Nat) : Int)) : colsV (wordsV l n) l.length n = l := by
  apply getD_ext _ _ (colsV_length _ _ _)
  intro i hi
  rw [colsV_length] at hi
  rw [colsV_getD _ _ _ _ hi]
  refine bits_ext _ _ n hn (colV_lt _ _ n hn) (hr _ (getD_mem' l i hi)) fun j hj => ?_
  rw [colV_bit _ _ n j hn (by omega), wordsV_at l n j hj, twV_bit l _ _ i hl (by omega), decide_eq_true hj, decide_eq_true hi, Bool.true_and, Bool.true_and]
theorem sch_j0 (n0 : Int) (l0 : List Int) (k0 : Int) (w : Int) (ok : Bool) (hT : twP n0 l0 k0 = (w, ok)) (ws : List Int) (fine : Bool) (hW : twsP n0 l0 = (ws, fine)) (u : List Int) (q : Int) (v : List Int) (one : Bool) (n : Int) (l : List Int) (m : Int) (safe two : Bool) (vain : List Int) (x36 : List Int) (x38 : Int) (x39 : Bool)
    (J : Stops (fun k => laws_FnSchemes.j1 k u q v one n l m safe two vain x36 x38 x39) true) : Stops (fun k => laws_FnSchemes.j0 k n0 l0 k0 w ok ws fine u q v one n l m safe two vain x36 x38 x39 false) true := by
  cases fine
  · refine J.round fun k a => ?_
    show laws_FnSchemes.j0 (k + 1) n0 l0 k0 w ok ws false u q v one n l m safe two vain x36 x38 x39 false = _
    rw [laws_FnSchemes.j0, if_neg (by simp), if_neg (by simp)]; exact a
  · unfold twsP at hW
    split at hW
    case isFalse => simp at hW
    rename_i hs
    simp only [Prod.mk.injEq, and_true] at hW
    have hb := isSch_bd hs
    have hl : ws.length = n0.toNat := by rw [← hW, wordsV_length]
    have hok : okSo ws (l0.length : Int) = true := okSo_of (by rw [hl, Int.toNat_of_nonneg (by omega)]; exact hb.2.2.2) ⟨by omega, by omega⟩ (by rw [← hW, Int.toNat_natCast]; exact wordsV_mem l0 _ (by omega))
    have S := impl_SchemeOf.ev ws (l0.length : Int) (by omega)
    rw [if_pos hok, Int.toNat_natCast, hl, ← hW, cols_words l0 n0.toNat (by omega) (by omega) (isSch_mem hs), hW] at S
    have V := laws_vInts.ev l0 (by omega)
    refine Evt.succ (S.and (V.and J.evt)) fun k ⟨a, b, c⟩ => ?_
    show laws_FnSchemes.j0 (k + 1) n0 l0 k0 w ok ws true u q v one n l m safe two vain x36 x38 x39 false = _
    rw [laws_FnSchemes.j0, if_neg (by simp), if_pos rfl, a]
    simp only [Option.bind_some, if_true, b]
    rw [if_pos (by omega)]
    cases ok
    · rw [if_neg (by simp)]; exact c
    · unfold twP at hT
      split at hT
      case isFalse => simp at hT
      rename_i hk
      rw [Bool.and_eq_true, decide_eq_true_eq, w64 (by omega) (by omega)] at hk
      simp only [Prod.mk.injEq, and_true] at hT
      obtain ⟨z, rfl⟩ := Int.eq_ofNat_of_zero_le hk.2.1
      rw [if_pos rfl, if_pos hk.2.1, if_pos (by omega), if_pos (by rw [← hW, rd_words l0 _ z (by omega)]; exact hT)]
      exact c
theorem soP_len (u : List Int) (q : Int) : (soP u q).1.length ≤ 14 := by
  unfold soP
  split
  · rename_i h
    have := okSo_bd h
    show (colsV u q.toNat u.length).length ≤ _
    rw [colsV_length]; omega
  · simp
theorem twsP_len (n : Int) (l : List Int) : (twsP n l).1.length ≤ 12 := by
  unfold twsP
  split
  · rename_i h
    have := isSch_bd h
    show (wordsV l n.toNat).length ≤ _
    rw [wordsV_length]; omega
  · simp
theorem vfV_len (n : Int) (l : List Int) (m : Int) : (vfV n l m).1.length ≤ 14 := by
  unfold vfV
  split
  · rename_i h
    rw [Bool.and_eq_true] at h
    have := isSch_bd h.1
    have := vfN_length n l m l.length
    show (vfN n l m l.length).length ≤ _
    omega
  · simp
def u8s (c : List Int) : Prop := ∀ x ∈ c, 0 ≤ x ∧ x ≤ 255
theorem u8s_of (l : List Int) (h : ∀ x ∈ l, (Lit.int .u8 x).wf = true) : u8s l := by
  intro x hx
  have := h x hx
  simp [Lit.wf, IntKind.min, IntKind.max, IntKind.bits, IntKind.signed] at this
  omega
theorem and255 (a : Int) : 0 ≤ Go.bits .and .u64 a 255 ∧ Go.bits .and .u64 a 255 ≤ 255 := by
  have e0 : Go.bits .and .u64 a 255 = IntKind.u64.wrap (((BitVec.ofInt 64 a &&& BitVec.ofInt 64 255).toNat : Nat) : Int) := rfl
  have h : ((BitVec.ofInt 64 a) &&& (BitVec.ofInt 64 255)).toNat ≤ 255 := by
    rw [BitVec.toNat_and, show (BitVec.ofInt 64 255).toNat = 255 from rfl]
    exact Nat.and_le_right
  have e2 : ∀ n : Nat, IntKind.u64.wrap (n : Int) = (n : Int) % 18446744073709551616 := fun _ => rfl
  rw [e0, e2]
  omega
theorem spec_l1Cur_next.tot (c : List Int) (hc : u8s c) (p s : Int) (h0 : 0 ≤ p) (h1 : p ≤ 100000) : ∃ b s', spec_l1Cur_next.f c p s = some (b, p + 1, s') ∧ 0 ≤ b ∧ b ≤ 255 := by
  have e : wrap64 (p + 1) = p + 1 := w64 (by omega) (by omega)
  have a255 : ∀ x : Int, 0 ≤ wrap64 (Go.bits .and .u64 x 255) ∧ wrap64 (Go.bits .and .u64 x 255) ≤ 255 := fun x => by
    have := and255 x
    rw [w64 (by omega) (by omega)]
    exact this
  unfold spec_l1Cur_next.f
  rw [e]
  by_cases h : p < (c.length : Int)
  · rw [if_pos h, if_pos h0]
    obtain ⟨i, rfl⟩ := Int.eq_ofNat_of_zero_le h0
    have hm := hc _ (List.getElem_mem (show i < c.length by omega))
    rw [← rd_at c i (by omega)] at hm
    by_cases h2 : (i : Int) + 1 ≤ (c.length : Int)
    · rw [if_pos h2]
      refine ⟨_, _, rfl, ?_⟩
      rw [w64 (by omega) (by omega)]
      exact hm
    · rw [if_neg h2]; exact ⟨_, _, rfl, a255 _⟩
  · rw [if_neg h]
    by_cases h2 : p + 1 ≤ (c.length : Int)
    · rw [if_pos h2]; exact ⟨_, _, rfl, by omega, by omega⟩
    · rw [if_neg h2]; exact ⟨_, _, rfl, a255 _⟩
theorem tmod_bd (x n : Int) (hx : 0 ≤ x) (hn : 1 ≤ n) : 0 ≤ Int.tmod x n ∧ Int.tmod x n < n := by
  rw [Int.tmod_eq_emod_of_nonneg hx]
  exact ⟨Int.emod_nonneg _ (by omega), Int.emod_lt_of_pos _ (by omega)⟩
theorem spec_l1Cur_pick.tot (c : List Int) (hc : u8s c) (p s n : Int) (h0 : 0 ≤ p) (h1 : p ≤ 90000) : ∃ r p' s', spec_l1Cur_pick.f c p s n = some (r, p', s') ∧ 0 ≤ r ∧ (1 ≤ n → r < n) ∧ p ≤ p' ∧ p' ≤ p + 2 := by
  unfold spec_l1Cur_pick.f
  by_cases h : n ≤ 1
  · rw [if_pos h]; exact ⟨_, _, _, rfl, by omega, fun _ => by omega, by omega, by omega⟩
  · rw [if_neg h]
    obtain ⟨b, s1, e1, b0, b1⟩ := spec_l1Cur_next.tot c hc p s h0 (by omega)
    rw [e1, Option.bind_some]
    by_cases h2 : n > 200
    · rw [if_pos h2]
      obtain ⟨b', s2, e2, c0, c1⟩ := spec_l1Cur_next.tot c hc (p + 1) s1 (by omega) (by omega)
      simp only [e2, Option.bind_some]
      rw [if_neg (by omega)]
      have hx : wrap64 (wrap64 (b * 256) + b') = b * 256 + b' := by rw [w64 (n := b * 256) (by omega) (by omega), w64 (by omega) (by omega)]
      rw [hx]
      have := tmod_bd (b * 256 + b') n (by omega) (by omega)
      exact ⟨_, _, _, rfl, this.1, fun _ => this.2, by omega, by omega⟩
    · rw [if_neg h2]
      simp only
      rw [if_neg (by omega)]
      have := tmod_bd b n b0 (by omega)
      exact ⟨_, _, _, rfl, this.1, fun _ => this.2, by omega, by omega⟩
theorem spec_l1Cur_among.tot (c : List Int) (hc : u8s c) (p s : Int) (l : List Int) (hl : 0 < l.length) (h0 : 0 ≤ p) (h1 : p ≤ 90000) : ∃ r p' s', spec_l1Cur_among.f c p s l = some (r, p', s') ∧ r ∈ l ∧ p ≤ p' ∧ p' ≤ p + 2 := by
  obtain ⟨r, p', s', e, r0, r1, a0, a1⟩ := spec_l1Cur_pick.tot c hc p s (l.length : Int) h0 h1
  have r2 := r1 (by omega)
  obtain ⟨i, rfl⟩ := Int.eq_ofNat_of_zero_le r0
  refine ⟨l[i]'(by omega), p', s', ?_, List.getElem_mem _, a0, a1⟩
  unfold spec_l1Cur_among.f
  rw [e, Option.bind_some]
  simp only
  rw [if_pos r0, if_pos r2, rd_at l i (by omega)]
theorem spec_l1Cur_many.tot (c : List Int) (hc : u8s c) (p s : Int) (h0 : 0 ≤ p) (h1 : p ≤ 90000) : ∃ r p' s', spec_l1Cur_many.f c p s = some (r, p', s') ∧ 0 ≤ r ∧ r ≤ 13 ∧ p ≤ p' ∧ p' ≤ p + 2 := by
  obtain ⟨r, p', s', e, hm, a0, a1⟩ := spec_l1Cur_among.tot c hc p s ([4, 6, 8, 3, 5, 2, 7, 12, 1, 0, 13, 4, 6, 8, 3, 5] : List Int) (by decide) h0 h1
  have hb : ∀ x ∈ ([4, 6, 8, 3, 5, 2, 7, 12, 1, 0, 13, 4, 6, 8, 3, 5] : List Int), 0 ≤ x ∧ x ≤ 13 := by decide
  exact ⟨r, p', s', by rw [spec_l1Cur_many.f, e]; rfl, (hb r hm).1, (hb r hm).2, a0, a1⟩
/-- The words that are found among the first numbers. -/
def grW (n m : Int) : Nat → List Int
  | 0 => []
  | i + 1 => if ((grW n m i).length : Int) < n then (if (grW n m i).any (fun x => decide (apI x (i : Int) ≤ wrap64 (2 * m))) = true then grW n m i else grW n m i ++ [(i : Int)]) else grW n m i
/-- The first number of questions for which there are words enough. -/
def gsL (n m : Int) : Nat → Nat → List Int × Bool
  | 0, _ => ([], false)
  | d + 1, q => if ((grW n m (2 ^ q)).length : Int) = n then (colsV (grW n m (2 ^ q)) q (grW n m (2 ^ q)).length, true) else gsL n m d (q + 1)
def gsV (n m : Int) : List Int × Bool := if (isN n && isM m) = true then gsL n m 15 0 else ([], false)
theorem grW_len (n m : Int) (i : Nat) : (grW n m i).length ≤ i := by
  induction i with
  | zero => exact Nat.le_refl _
  | succ i ih =>
    unfold grW
    split
    · split
      · omega
      · rw [List.length_append, List.length_singleton]; omega
    · omega
theorem spec_l5Of.ev (l : List Int) (q : Int) (h0 : 0 ≤ q) (h1 : q ≤ 1000) (hl : l.length ≤ 35184372088832) : Stops (fun k => spec_l5Of.f k l q) (colsV l q.toNat l.length) := by
  obtain ⟨q, rfl⟩ := Int.eq_ofNat_of_zero_le h0
  rw [Int.toNat_natCast]
  have E : Stops (fun k => spec_l5Of.l0 k l q (mixV l q l.length 0 0) ((0 : Nat) : Int)) (colsV l q l.length) := by
    refine Stops.count' (g := fun k (s : List Int × Int) => spec_l5Of.l0 k l q s.1 s.2) (fun i => (mixV l q l.length 0 i, (i : Int))) q (Stops.now1 fun m => ?_) fun i hi A => ?_
    · simp only [spec_l5Of.l0]; rw [if_neg (by omega), mixV_all]
    · have e : wrap64 ((i : Int) + 1) = (i : Int) + 1 := w64 (by omega) (by omega)
      have I : Stops (fun k => spec_l5Of.l1 k l q ((mixV l q l.length 0 i).set i (colV l (i : Nat) 0)) i ((0 : Nat) : Int)) (colsV l q l.length) := by
        refine Stops.count' (g := fun k (s : List Int × Int) => spec_l5Of.l1 k l q s.1 i s.2) (fun n => ((mixV l q l.length 0 i).set i (colV l (i : Nat) n), (n : Int))) l.length (A.round fun m a => ?_) fun n hn B => B.round fun m b => ?_
        · simp only [spec_l5Of.l1]; rw [if_neg (by omega), mixV_set l q _ _ i hi, e]; exact a
        · have e2 : wrap64 ((n : Int) + 1) = (n : Int) + 1 := w64 (by omega) (by omega)
          have hlen : (((mixV l q l.length 0 i).set i (colV l (i : Nat) n)).length : Int) = q := by rw [List.length_set, mixV_length]
          have hrd : rd ((mixV l q l.length 0 i).set i (colV l (i : Nat) n)) (i : Int) = colV l (i : Nat) n := by
            rw [rd_nat, List.getD_eq_getElem?_getD, List.getElem?_set_self (by rw [mixV_length]; exact hi)]; rfl
          simp only [spec_l5Of.l1]
          rw [if_pos (by omega), if_pos (by omega), if_pos (by rw [hlen]; omega), if_pos (by omega), hrd, rd_nat, Int.toNat_natCast, colV_step, List.set_set, e2]; exact b
      rw [show colV l (i : Nat) 0 = 0 from rfl, show (0 : Int) = colV l (i : Nat) 0 from rfl, mixV_same l q _ _ i hi] at I
      refine I.round fun m a => ?_
      simp only [spec_l5Of.l0]; rw [if_pos (by omega)]; exact a
  rw [mixV_zero, colsV_zero] at E
  refine E.same fun m a => ?_
  simp only [spec_l5Of.f, Int.toNat_natCast]; rw [if_pos (by omega), if_pos (by omega)]; exact a
theorem popN_zero (f : Nat) : popN f 0 = 0 := by
  induction f with
  | zero => rfl
  | succ f ih => simp [popN, ih]
theorem l5Apart_loop (f : Nat) : ∀ (x : Nat) (s : Int), x < 2 ^ f → f ≤ 14 → 0 ≤ s → s ≤ 1000 - (f : Int) → Stops (fun k => spec_l5Apart.l0 k s (x : Int)) (s + (popN f x : Int)) := by
  induction f with
  | zero =>
    intro x s h _ _ _
    refine Stops.now1 fun m => ?_
    simp only [spec_l5Apart.l0]
    rw [if_neg (by simp at h; omega)]
    simp [popN]
  | succ f ih =>
    intro x s h hf h0 h1
    by_cases hx : x = 0
    · subst hx
      refine Stops.now1 fun m => ?_
      simp only [spec_l5Apart.l0]
      rw [if_neg (by omega), popN_zero]
      simp
    · have hp : 2 ^ (f + 1) = 2 * 2 ^ f := by rw [Nat.pow_succ]; omega
      have hlim : 2 ^ (f + 1) ≤ 2 ^ 14 := Nat.pow_le_pow_right (by omega) hf
      have e1 : wrap64 (s + Go.bits .and .i64 (x : Int) 1) = s + ((x % 2 : Nat) : Int) := by
        rw [and1 x (by omega)]
        exact w64 (by omega) (by omega)
      have e2 : (x : Int) / 2 = ((x / 2 : Nat) : Int) := by omega
      refine (ih (x / 2) (s + ((x % 2 : Nat) : Int)) (by omega) (by omega) (by omega) (by omega)).round fun m a => ?_
      simp only [spec_l5Apart.l0, e1, e2]
      rw [if_pos (by omega), a, popN]
      congr 1
      push_cast
      omega
theorem spec_l5Apart.ev (a b : Int) (ha : 0 ≤ a ∧ a < 16384) (hb : 0 ≤ b ∧ b < 16384) : Stops (fun k => spec_l5Apart.f k a b) (apI a b) := by
  have hx := xor_nat ha.1 ha.2 hb.1 hb.2
  have E := l5Apart_loop 14 (a.toNat ^^^ b.toNat) 0 (by have := hx.2; omega) (by omega) (by omega) (by omega)
  refine E.same fun m e => ?_
  simp only [spec_l5Apart.f, hx.1]
  rw [e, apI, Int.zero_add]
theorem spec_l5Fit.ev (ws : List Int) (w m : Int) (hs : smallW ws) (hw : 0 ≤ w ∧ w < 16384) (h : ws.length ≤ 1000000) : Stops (fun k => spec_l5Fit.f k ws w m) (fitV ws w m ws.length) := by
  refine Stops.count' (g := fun k (x : List Int × Int) => spec_l5Fit.l0 k ws w m x.1 x.2) (fun i => (fitV ws w m i, (i : Int))) ws.length (Stops.now1 fun k => ?_) fun i hi A => ?_
  · simp only [spec_l5Fit.l0]; rw [if_neg (by omega)]
  · have ew : wrap64 ((i : Int) + 1) = ((i + 1 : Nat) : Int) := w64 (by omega) (by omega)
    have hlen := fitV_len ws w m i
    refine Evt.succ (A.and (spec_l5Apart.ev (rd ws i) w (smallW_at hs i hi) hw).evt) fun k ⟨a, b⟩ => ?_
    simp only [spec_l5Fit.l0, b, ew, Option.bind_some]
    rw [if_pos (by omega), if_pos (by omega)]
    simp only [fitV_succ] at a
    by_cases hc : apI (rd ws i) w ≤ m
    · rw [if_pos hc] at a
      rw [if_pos hc, if_pos (by omega)]
      exact a
    · rw [if_neg hc] at a
      rw [if_neg hc]
      exact a
theorem grW_small (n m : Int) (i : Nat) : ∀ x ∈ grW n m i, 0 ≤ x ∧ x < (i : Int) := by
  induction i with
  | zero => intro x hx; simp [grW] at hx
  | succ i ih =>
    intro x hx
    have hu : ∀ y ∈ grW n m i, 0 ≤ y ∧ y < ((i + 1 : Nat) : Int) := fun y hy => by have := ih y hy; omega
    unfold grW at hx
    split at hx
    · split at hx
      · exact hu x hx
      · rw [List.mem_append, List.mem_singleton] at hx
        rcases hx with hx | rfl
        · exact hu x hx
        · omega
    · exact hu x hx
theorem numsTo_nil (p : Int → Bool) (n : Nat) : (numsTo p n).length = 0 ↔ ∀ j : Nat, j < n → p (j : Int) = false := by
  induction n with
  | zero => simp [numsTo]
  | succ n ih =>
    unfold numsTo
    by_cases h : p (n : Int) = true
    · rw [if_pos h]
      constructor
      · intro g; simp at g
      · intro g; have := g n (by omega); rw [h] at this; cases this
    · rw [if_neg h, ih]
      constructor
      · intro g j hj
        by_cases e : j = n
        · subst e; simpa using h
        · exact g j (by omega)
      · intro g j hj; exact g j (by omega)
theorem fit_any (ws : List Int) (w M : Int) : ((fitV ws w M ws.length).length : Int) = 0 ↔ ws.any (fun x => decide (apI x w ≤ M)) = false := by
  have h := numsTo_nil (fun k => decide (apI (rd ws k) w ≤ M)) ws.length
  rw [show ((fitV ws w M ws.length).length : Int) = 0 ↔ (fitV ws w M ws.length).length = 0 by omega]
  unfold fitV
  rw [h, List.any_eq_false]
  constructor
  · intro g x hx
    obtain ⟨j, hj, rfl⟩ := List.getElem_of_mem hx
    have := g j hj
    rw [rd_at ws j hj] at this
    simpa using this
  · intro g j hj
    have := g ws[j] (List.getElem_mem hj)
    rw [rd_at ws j hj]
    simpa using this
theorem grW_stop (n m : Int) (i : Nat) (h : ¬ ((grW n m i).length : Int) < n) (d : Nat) : grW n m (i + d) = grW n m i := by
  induction d with
  | zero => rfl
  | succ d ih =>
    show grW n m (i + d + 1) = _
    rw [grW, ih, if_neg h]
theorem spec_l5Greedy.ev (n m : Int) (q : Nat) (hn : 1 ≤ n ∧ n ≤ 12) (hm : 0 ≤ m ∧ m ≤ 2) (hq : q ≤ 14) : Stops (fun k => spec_l5Greedy.f k n m (q : Int)) (grW n m (2 ^ q)) := by
  have hs : shl .i64 1 (q : Int) = ((2 ^ q : Nat) : Int) := by rw [shl_one (by omega) (by omega), Int.toNat_natCast]; push_cast; rfl
  have hp : 2 ^ q ≤ 2 ^ 14 := Nat.pow_le_pow_right (by omega) hq
  have hp0 : 0 < 2 ^ q := Nat.two_pow_pos q
  obtain ⟨M, hM⟩ : ∃ M, 2 ^ q = M + 1 := ⟨2 ^ q - 1, by omega⟩
  have e1 : grW n m 1 = [0] := by
    show (if (([] : List Int).length : Int) < n then (if ([] : List Int).any (fun x => decide (apI x 0 ≤ wrap64 (2 * m))) = true then ([] : List Int) else [] ++ [(0 : Int)]) else []) = [0]
    rw [if_pos (by simp; omega), if_neg (by simp)]; rfl
  have E : Stops (fun k => spec_l5Greedy.l0 k n m (q : Int) (grW n m 1) ((1 : Nat) : Int)) (grW n m (2 ^ q)) := by
    refine Stops.count' (g := fun k (s : List Int × Int) => spec_l5Greedy.l0 k n m (q : Int) s.1 s.2) (fun i => (grW n m (i + 1), ((i + 1 : Nat) : Int))) M ?_ fun i hi A => ?_
    · have J : Stops (fun k => spec_l5Greedy.j1 k n m (q : Int) (grW n m (M + 1)) ((M + 1 : Nat) : Int) false) (grW n m (2 ^ q)) := Stops.now1 fun k => by
        simp only [spec_l5Greedy.j1]; rw [if_neg (by simp), hM]
      refine J.round fun k a => ?_
      show spec_l5Greedy.l0 (k + 1) n m (q : Int) (grW n m (M + 1)) ((M + 1 : Nat) : Int) = _
      rw [spec_l5Greedy.l0, if_pos (by omega), hs, if_neg (by omega)]
      exact a
    · have ew : wrap64 (((i + 1 : Nat) : Int) + 1) = ((i + 1 + 1 : Nat) : Int) := w64 (by omega) (by omega)
      have hlen := grW_len n m (i + 1)
      by_cases hl : ((grW n m (i + 1)).length : Int) < n
      · have F := spec_l5Fit.ev (grW n m (i + 1)) ((i + 1 : Nat) : Int) (wrap64 (2 * m)) (fun x hx => by have := grW_small n m (i + 1) x hx; omega) ⟨by omega, by omega⟩ (by omega)
        have hf := fit_any (grW n m (i + 1)) ((i + 1 : Nat) : Int) (wrap64 (2 * m))
        have hstep : grW n m (i + 1 + 1) = if (grW n m (i + 1)).any (fun x => decide (apI x ((i + 1 : Nat) : Int) ≤ wrap64 (2 * m))) = true then grW n m (i + 1) else grW n m (i + 1) ++ [((i + 1 : Nat) : Int)] := by rw [grW, if_pos hl]
        rw [hstep] at A
        have J : Stops (fun k => spec_l5Greedy.j1 k n m (q : Int) (grW n m (i + 1)) ((i + 1 : Nat) : Int) true) (grW n m (2 ^ q)) := by
          refine Evt.succ (A.and F.evt) fun k ⟨a, b⟩ => ?_
          show spec_l5Greedy.j1 (k + 1) n m (q : Int) (grW n m (i + 1)) ((i + 1 : Nat) : Int) true = _
          rw [spec_l5Greedy.j1, if_pos rfl, b, Option.bind_some]
          by_cases h0 : ((fitV (grW n m (i + 1)) ((i + 1 : Nat) : Int) (wrap64 (2 * m)) (grW n m (i + 1)).length).length : Int) = 0
          · rw [if_pos h0, if_pos (by omega), ew]
            rw [hf.1 h0, if_neg (by simp)] at a
            exact a
          · rw [if_neg h0, ew]
            have h1 : (grW n m (i + 1)).any (fun x => decide (apI x ((i + 1 : Nat) : Int) ≤ wrap64 (2 * m))) = true := by
              cases hx : (grW n m (i + 1)).any (fun x => decide (apI x ((i + 1 : Nat) : Int) ≤ wrap64 (2 * m)))
              · exact absurd (hf.2 hx) h0
              · rfl
            rw [if_pos h1] at a
            exact a
        refine J.round fun k a => ?_
        show spec_l5Greedy.l0 (k + 1) n m (q : Int) (grW n m (i + 1)) ((i + 1 : Nat) : Int) = _
        rw [spec_l5Greedy.l0, if_pos (by omega), hs, if_pos (by omega), decide_eq_true hl]
        exact a
      · have he := grW_stop n m (i + 1) hl (2 ^ q - (i + 1))
        rw [show i + 1 + (2 ^ q - (i + 1)) = 2 ^ q by omega] at he
        have J : Stops (fun k => spec_l5Greedy.j1 k n m (q : Int) (grW n m (i + 1)) ((i + 1 : Nat) : Int) false) (grW n m (2 ^ q)) := Stops.now1 fun k => by
          simp only [spec_l5Greedy.j1]; rw [if_neg (by simp), he]
        refine J.round fun k a => ?_
        show spec_l5Greedy.l0 (k + 1) n m (q : Int) (grW n m (i + 1)) ((i + 1 : Nat) : Int) = _
        rw [spec_l5Greedy.l0, if_pos (by omega), hs, if_pos (by omega), decide_eq_false hl]
        exact a
  rw [e1] at E
  exact E
theorem spec_l1In.eq (a b c : Int) : spec_l1In.f a b c = some (decide (b ≤ a ∧ a ≤ c)) := by
  unfold spec_l1In.f; by_cases h : b ≤ a <;> simp [h]
theorem spec_l2Numbers.eq (a : Int) : spec_l2Numbers.f a = some (isN a) := by
  unfold spec_l2Numbers.f; rw [spec_l1In.eq]; rfl
theorem spec_GreedyScheme.ev (n m : Int) : Stops (fun k => spec_GreedyScheme.f k n m) (gsV n m) := by
  unfold gsV
  by_cases hs : (isN n && isM m) = true
  · rw [if_pos hs]
    rw [Bool.and_eq_true] at hs
    have hn := isN_bd hs.1
    have hm := isM_bd hs.2
    have L : ∀ d q : Nat, q + d = 15 → Stops (fun k => spec_GreedyScheme.l0 k n m (q : Int)) (gsL n m d q) := by
      intro d
      induction d with
      | zero =>
        intro q h
        refine Stops.now1 fun k => ?_
        rw [spec_GreedyScheme.l0, if_neg (by omega)]; rfl
      | succ d ih =>
        intro q h
        have ew : wrap64 ((q : Int) + 1) = ((q + 1 : Nat) : Int) := w64 (by omega) (by omega)
        have hlen := grW_len n m (2 ^ q)
        have hp : 2 ^ q ≤ 2 ^ 14 := Nat.pow_le_pow_right (by omega) (by omega)
        have O := spec_l5Of.ev (grW n m (2 ^ q)) (q : Int) (by omega) (by omega) (by omega)
        rw [Int.toNat_natCast] at O
        refine Evt.succ ((spec_l5Greedy.ev n m q hn hm (by omega)).and (O.and (ih (q + 1) (by omega)).evt)) fun k ⟨a, b, c⟩ => ?_
        show spec_GreedyScheme.l0 (k + 1) n m (q : Int) = _
        rw [spec_GreedyScheme.l0, if_pos (by omega), a, Option.bind_some, gsL]
        by_cases hl : ((grW n m (2 ^ q)).length : Int) = n
        · rw [if_pos hl, if_pos hl, b]; rfl
        · rw [if_neg hl, if_neg hl, ew]; exact c
    have J : Stops (fun k => spec_GreedyScheme.j0 k n m false) (gsL n m 15 0) := (L 15 0 (by omega)).round fun k a => by
      rw [spec_GreedyScheme.j0, if_neg (by simp)]; exact a
    refine J.same fun k a => ?_
    simp only [spec_GreedyScheme.f, spec_l2Numbers.eq, spec_l1In.eq, hs.1, Option.bind_some, if_true]
    rw [decide_eq_true hm]; exact a
  · rw [if_neg hs]
    have J : Stops (fun k => spec_GreedyScheme.j0 k n m true) ([], false) := Stops.now1 fun k => by rw [spec_GreedyScheme.j0, if_pos rfl]
    refine J.same fun k a => ?_
    simp only [spec_GreedyScheme.f, spec_l2Numbers.eq, spec_l1In.eq, Option.bind_some]
    cases h1 : isN n
    · simpa using a
    · have h2 : decide (0 ≤ m ∧ m ≤ 2) = false := by rw [h1] at hs; simpa [isM] using hs
      rw [h2]; simpa using a
theorem gsL_len (n m : Int) (d : Nat) : ∀ q, q + d ≤ 15 → (gsL n m d q).1.length ≤ 15 := by
  induction d with
  | zero => intro q _; simp [gsL]
  | succ d ih =>
    intro q h
    unfold gsL
    split
    · show (colsV (grW n m (2 ^ q)) q (grW n m (2 ^ q)).length).length ≤ _
      rw [colsV_length]; omega
    · exact ih (q + 1) (by omega)
theorem gsV_len (n m : Int) : (gsV n m).1.length ≤ 15 := by
  unfold gsV
  split
  · exact gsL_len n m 15 0 (by omega)
  · simp
theorem spec_l1Cur_one.tot (c : List Int) (hc : u8s c) (p s n : Int) (h0 : 0 ≤ p) (h1 : p ≤ 90000) : ∃ b p' s', spec_l1Cur_one.f c p s n = some (b, p', s') ∧ p ≤ p' ∧ p' ≤ p + 2 := by
  obtain ⟨r, p', s', e, _, _, a0, a1⟩ := spec_l1Cur_pick.tot c hc p s n h0 h1
  exact ⟨r == 0, p', s', by rw [spec_l1Cur_one.f, e]; rfl, a0, a1⟩
theorem scheme5_l1 (c : List Int) (p s : Int) (d : Nat) : ∀ x : List Int, x.length + d = 15 → ∃ l, Stops (fun k => spec_l1Cur_scheme5.l1 k x c p s) (l, p, s) ∧ l.length ≤ 15 := by
  induction d with
  | zero =>
    intro x hx
    refine ⟨x, Stops.now1 fun k => ?_, by omega⟩
    rw [spec_l1Cur_scheme5.l1, if_neg (by omega)]
  | succ d ih =>
    intro x hx
    obtain ⟨l, S, hl⟩ := ih (x ++ [1]) (by rw [List.length_append, List.length_singleton]; omega)
    refine ⟨l, S.round fun k a => ?_, hl⟩
    rw [spec_l1Cur_scheme5.l1, if_pos (by omega), if_pos (by omega)]
    exact a
theorem spec_l1Most.eq (a b : Int) : spec_l1Most.f a b = some (if a > b then a else b) := by unfold spec_l1Most.f; split <;> rfl
theorem spec_l1Least.eq (a b : Int) : spec_l1Least.f a b = some (if a < b then a else b) := by unfold spec_l1Least.f; split <;> rfl
theorem spec_l1Cur_question.tot (c : List Int) (hc : u8s c) (p s n : Int) (h0 : 0 ≤ p) (h1 : p ≤ 80000) : ∃ r p' s', spec_l1Cur_question.f c p s n = some (r, p', s') ∧ p ≤ p' ∧ p' ≤ p + 4 := by
  obtain ⟨b, p1, s1, e, a0, a1⟩ := spec_l1Cur_one.tot c hc p s 24 h0 (by omega)
  have hg : ∀ x : Int, 0 ≤ (if (0 : Int) > x then 0 else x) := fun x => by split <;> omega
  unfold spec_l1Cur_question.f
  rw [e, Option.bind_some]
  simp only [spec_l1Most.eq, spec_l1Least.eq, Option.bind_some]
  cases b
  · rw [if_neg (by simp), if_pos (hg _)]
    obtain ⟨r, p2, s2, e2, _, _, b0, b1⟩ := spec_l1Cur_pick.tot c hc p1 s1 (shl .i64 1 (if (0 : Int) > (if n < 12 then n else 12) then 0 else (if n < 12 then n else 12))) (by omega) (by omega)
    rw [e2]
    exact ⟨_, _, _, rfl, by simp only; omega, by simp only; omega⟩
  · rw [if_pos rfl, if_pos (hg _)]
    obtain ⟨r, p2, s2, e2, _, b0, b1⟩ := spec_l1Cur_among.tot c hc p1 s1 [(-1), shl .i64 1 (if (0 : Int) > (if n < 13 then n else 13) then 0 else (if n < 13 then n else 13)), 4611686018427387904] (by simp) (by omega) (by omega)
    rw [e2]
    exact ⟨_, _, _, rfl, by simp only; omega, by simp only; omega⟩
theorem scheme5_l0 (c : List Int) (hc : u8s c) (n : Int) (m : Nat) : ∀ (x : List Int) (p s : Int), x.length + m ≤ 14 → 0 ≤ p → p + 4 * m ≤ 75000 → ∃ l p' s', Stops (fun k => spec_l1Cur_scheme5.l0 k n x (m : Int) c p s) (l, p', s') ∧ l.length ≤ 15 ∧ p ≤ p' ∧ p' ≤ p + 4 * m + 2 := by
  induction m with
  | zero =>
    intro x p s hx h0 h1
    obtain ⟨b, p1, s1, e, a0, a1⟩ := spec_l1Cur_one.tot c hc p s 40 h0 (by omega)
    cases b
    · refine ⟨x, p1, s1, Stops.now1 fun k => ?_, by omega, a0, by omega⟩
      rw [spec_l1Cur_scheme5.l0, if_neg (by omega), e, Option.bind_some, if_neg (by simp)]
    · obtain ⟨l, S, hl⟩ := scheme5_l1 c p1 s1 (15 - x.length) x (by omega)
      refine ⟨l, p1, s1, S.round fun k a => ?_, hl, a0, by omega⟩
      rw [spec_l1Cur_scheme5.l0, if_neg (by omega), e, Option.bind_some, if_pos rfl]
      exact a
  | succ m ih =>
    intro x p s hx h0 h1
    obtain ⟨r, p1, s1, e, a0, a1⟩ := spec_l1Cur_question.tot c hc p s n h0 (by omega)
    obtain ⟨l, p2, s2, S, hl, b0, b1⟩ := ih (x ++ [r]) p1 s1 (by rw [List.length_append, List.length_singleton]; omega) (by omega) (by omega)
    have ew : wrap64 (((m + 1 : Nat) : Int) - 1) = (m : Int) := by rw [w64 (by omega) (by omega)]; omega
    refine ⟨l, p2, s2, S.round fun k a => ?_, hl, by omega, by omega⟩
    rw [spec_l1Cur_scheme5.l0, if_pos (by omega), e, Option.bind_some, if_pos (by omega), ew]
    exact a
theorem scheme5_j0 (c : List Int) (hc : u8s c) (n : Int) (p s : Int) (h0 : 0 ≤ p) (h1 : p ≤ 74000) : ∃ l p' s', Stops (fun k => spec_l1Cur_scheme5.j0 k n [] c p s) (l, p', s') ∧ l.length ≤ 15 ∧ p ≤ p' ∧ p' ≤ p + 60 := by
  obtain ⟨r, p1, s1, e, hm, a0, a1⟩ := spec_l1Cur_among.tot c hc p s ([3, 4, 2, 6, 1, 0, 9, 14] : List Int) (by decide) h0 (by omega)
  have hb : ∀ x ∈ ([3, 4, 2, 6, 1, 0, 9, 14] : List Int), 0 ≤ x ∧ x ≤ 14 := by decide
  have hr := hb r hm
  obtain ⟨m, rfl⟩ := Int.eq_ofNat_of_zero_le hr.1
  obtain ⟨l, p2, s2, S, hl, b0, b1⟩ := scheme5_l0 c hc n m [] p1 s1 (by simp; omega) (by omega) (by omega)
  refine ⟨l, p2, s2, S.round fun k a => ?_, hl, by omega, by omega⟩
  rw [spec_l1Cur_scheme5.j0, e, Option.bind_some]
  exact a
def wordsUp (n : Nat) : List Int := numsTo (fun _ => true) n
def bitQ (n : Int) : Int := (_root_.Go.Lib.bitLen (n - 1).toNat : Int)
def bitV (n : Int) : List Int × Bool := if isN n = true then (colsV (wordsUp n.toNat) (bitQ n).toNat n.toNat, true) else ([], false)
theorem bitQ_facts : ∀ n : Fin 13, 1 ≤ n.val → (∀ i : Fin 5, i.val < _root_.Go.Lib.bitLen (n.val - 1) → 2 ^ i.val < n.val) ∧ ¬ 2 ^ (_root_.Go.Lib.bitLen (n.val - 1)) < n.val ∧ _root_.Go.Lib.bitLen (n.val - 1) ≤ 4 := by decide +kernel
theorem wordsUp_length (n : Nat) : (wordsUp n).length = n := by
  induction n with
  | zero => rfl
  | succ n ih => simp only [wordsUp, numsTo, if_true, List.length_append, List.length_singleton] at ih ⊢; omega
theorem spec_BitScheme.ev (n : Int) : Stops (fun k => spec_BitScheme.f k n) (bitV n) := by
  unfold bitV
  cases hn : isN n
  · refine Evt.true.mono fun m _ => ?_
    simp [spec_BitScheme.f, spec_l2Numbers.eq, hn]
  · have hb := isN_bd hn
    obtain ⟨N, rfl⟩ := Int.eq_ofNat_of_zero_le (show 0 ≤ n by omega)
    obtain ⟨f1, f2, f3⟩ := bitQ_facts ⟨N, by omega⟩ (show 1 ≤ N by omega)
    simp only at f1 f2 f3
    have e : ((N : Int) - 1).toNat = N - 1 := by omega
    have L : Stops (fun k => spec_BitScheme.l1 k (N : Int) (wordsUp N) 0) (colsV (wordsUp N) (bitQ N).toNat N, true) := by
      refine Stops.count' (g := fun k (s : Int) => spec_BitScheme.l1 k (N : Int) (wordsUp N) s) (fun i => (i : Int)) (_root_.Go.Lib.bitLen (N - 1)) ?_ fun i hi A => ?_
      · have S := spec_l5Of.ev (wordsUp N) (bitQ N) (by unfold bitQ; omega) (by unfold bitQ; rw [e]; omega) (by rw [wordsUp_length]; omega)
        rw [wordsUp_length] at S
        refine S.round fun m a => ?_
        simp only [spec_BitScheme.l1]
        have g : ¬ shl .i64 1 ((_root_.Go.Lib.bitLen (N - 1) : Nat) : Int) < (N : Int) := by
          rw [shl_one (by omega) (by omega), Int.toNat_natCast]
          intro h; apply f2; exact_mod_cast h
        rw [if_pos (by omega), if_neg g]
        have e2 : bitQ (N : Int) = ((_root_.Go.Lib.bitLen (N - 1) : Nat) : Int) := by unfold bitQ; rw [e]
        rw [e2] at a ⊢
        rw [a, Option.bind_some]
      · have ew : wrap64 ((i : Int) + 1) = ((i + 1 : Nat) : Int) := w64 (by omega) (by omega)
        refine A.round fun m a => ?_
        simp only [spec_BitScheme.l1]
        have g : shl .i64 1 (i : Int) < (N : Int) := by
          rw [shl_one (by omega) (by omega), Int.toNat_natCast]
          have := f1 ⟨i, by omega⟩ hi
          exact_mod_cast this
        rw [if_pos (by omega), if_pos g, ew]
        exact a
    have W : Stops (fun k => spec_BitScheme.l0 k (N : Int) [] 0 0) (colsV (wordsUp N) (bitQ N).toNat N, true) := by
      refine Stops.count (g := fun k (s : List Int × Int) => spec_BitScheme.l0 k (N : Int) s.1 0 s.2) (fun i => (wordsUp i, (i : Int))) N (L.round fun m a => ?_) fun i hi m => ?_
      · simp only [spec_BitScheme.l0]; rw [if_neg (by omega)]; exact a
      · have ew : wrap64 ((i : Int) + 1) = ((i + 1 : Nat) : Int) := w64 (by omega) (by omega)
        have := wordsUp_length i
        simp only [spec_BitScheme.l0, ew]
        rw [if_pos (by omega), if_pos (by omega)]
        rfl
    refine W.same fun m a => ?_
    simp only [spec_BitScheme.f, spec_l2Numbers.eq, hn, Option.bind_some, if_true]
    exact a
theorem bitV_len (n : Int) : (bitV n).1.length ≤ 4 := by
  unfold bitV
  split
  · rename_i h
    have hb := isN_bd h
    obtain ⟨f1, f2, f3⟩ := bitQ_facts ⟨n.toNat, by omega⟩ (show 1 ≤ n.toNat by omega)
    simp only at f3
    have e : (n - 1).toNat = n.toNat - 1 := by omega
    show (colsV (wordsUp n.toNat) (bitQ n).toNat n.toNat).length ≤ 4
    rw [colsV_length]
    unfold bitQ
    rw [e]
    omega
  · simp
theorem spec_l1Cur_scheme5.tot (c : List Int) (hc : u8s c) (p s n : Int) (h0 : 0 ≤ p) (h1 : p ≤ 70000) : ∃ l p' s', Stops (fun k => spec_l1Cur_scheme5.f k c p s n) (l, p', s') ∧ l.length ≤ 15 ∧ p ≤ p' ∧ p' ≤ p + 100 := by
  obtain ⟨r, p1, s1, e, r0, r1, a0, a1⟩ := spec_l1Cur_pick.tot c hc p s 4 h0 (by omega)
  by_cases c0 : r = 0
  · obtain ⟨r2, p2, s2, e2, _, _, b0, b1⟩ := spec_l1Cur_pick.tot c hc p1 s1 3 (by omega) (by omega)
    have G := spec_GreedyScheme.ev n r2
    have hl := gsV_len n r2
    generalize gsV n r2 = v at G hl
    obtain ⟨v, b⟩ := v
    cases b
    · obtain ⟨l, p3, s3, S, hl3, d0, d1⟩ := scheme5_j0 c hc n p2 s2 (by omega) (by omega)
      refine ⟨l, p3, s3, (G.and S.evt).mono fun k ⟨g, a⟩ => ?_, hl3, by omega, by omega⟩
      simp only [spec_l1Cur_scheme5.f, Option.bind_some, e, if_pos c0, e2, g]
      exact a
    · refine ⟨v, p2, s2, G.same fun k g => ?_, hl, by omega, by omega⟩
      simp only [spec_l1Cur_scheme5.f, Option.bind_some, e, if_pos c0, e2, g, if_true]
  · by_cases c1 : r = 1
    · have G := spec_BitScheme.ev n
      have hl := bitV_len n
      generalize bitV n = v at G hl
      obtain ⟨v, b⟩ := v
      cases b
      · obtain ⟨l, p3, s3, S, hl3, d0, d1⟩ := scheme5_j0 c hc n p1 s1 (by omega) (by omega)
        refine ⟨l, p3, s3, (G.and S.evt).mono fun k ⟨g, a⟩ => ?_, hl3, by omega, by omega⟩
        simp only [spec_l1Cur_scheme5.f, Option.bind_some, e, if_neg c0, if_pos c1, g]
        exact a
      · obtain ⟨b, p2, s2, e2, b0, b1⟩ := spec_l1Cur_one.tot c hc p1 s1 2 (by omega) (by omega)
        simp only at hl
        cases b
        · refine ⟨v, p2, s2, G.same fun k g => ?_, by omega, by omega, by omega⟩
          simp only [spec_l1Cur_scheme5.f, Option.bind_some, e, if_neg c0, if_pos c1, g, e2, if_true]
          rfl
        · obtain ⟨x, p3, s3, e3, d0, d1⟩ := spec_l1Cur_question.tot c hc p2 s2 n (by omega) (by omega)
          refine ⟨v ++ [x], p3, s3, G.same fun k g => ?_, by rw [List.length_append, List.length_singleton]; omega, by omega, by omega⟩
          simp only [spec_l1Cur_scheme5.f, Option.bind_some, e, if_neg c0, if_pos c1, g, e2, e3, if_true]
          rw [if_pos (by omega)]
    · obtain ⟨l, p3, s3, S, hl3, d0, d1⟩ := scheme5_j0 c hc n p1 s1 (by omega) (by omega)
      refine ⟨l, p3, s3, S.same fun k a => ?_, hl3, by omega, by omega⟩
      simp only [spec_l1Cur_scheme5.f, Option.bind_some, e, if_neg c0, if_neg c1]
      exact a
theorem spec_DrawTrueWord.tot (c : List Int) (hc : u8s c) : ∃ n l i, Stops (fun k => spec_DrawTrueWord.f k c) (n, l, i) ∧ 0 ≤ n ∧ n ≤ 13 ∧ l.length ≤ 15 := by
  obtain ⟨t1, t2, t3, e1, h0, h1, a0, a1⟩ := spec_l1Cur_many.tot c hc 0 0 (by omega) (by omega)
  obtain ⟨l, s2, s3, S, hl, b0, b1⟩ := spec_l1Cur_scheme5.tot c hc t2 t3 t1 (by omega) (by omega)
  obtain ⟨x1, x2, x3, e3, _, _, d0, d1⟩ := spec_l1Cur_pick.tot c hc s2 s3 (if (1 : Int) > t1 then 1 else t1) (by omega) (by omega)
  obtain ⟨y1, y2, y3, e4, _, _, f0, f1⟩ := spec_l1Cur_pick.tot c hc x2 x3 24 (by omega) (by omega)
  obtain ⟨z1, z2, z3, e5, _, _, g0, g1⟩ := spec_l1Cur_pick.tot c hc y2 y3 24 (by omega) (by omega)
  refine ⟨t1, l, wrap64 (wrap64 (x1 + wrap64 (Int.tdiv y1 23)) - wrap64 (Int.tdiv z1 23)), S.same fun k a => ?_, h0, h1, hl⟩
  simp only [spec_DrawTrueWord.f, e1, a, spec_l1Most.eq, e3, e4, e5, Option.bind_some]
theorem laws_vCut.eq (c : List Int) (n : Nat) (hc : u8s c) (h : c.length ≤ 65536) (hn : n ≤ 10) : ∃ c', laws_vCut.f c (n : Int) = some c' ∧ u8s c' := by
  have hd : ∀ m : Nat, ∀ x : Int, 0 ≤ x → x < 256 → u8s ([] ++ c.drop m ++ [x]) := fun m x hx0 hx1 y hy => by
    rw [List.nil_append, List.mem_append, List.mem_singleton] at hy
    rcases hy with hy | rfl
    · exact hc y (List.mem_of_mem_drop hy)
    · omega
  have hln : ∀ m : Nat, (c.drop m).length ≤ 65536 := fun m => by rw [List.length_drop]; omega
  unfold laws_vCut.f
  by_cases h1 : (n : Int) > (c.length : Int)
  · have := hln c.length
    rw [if_pos h1]
    simp only [Option.bind_some, Int.toNat_natCast]
    rw [if_pos (by omega), if_pos (by omega), if_pos (by simp only [List.length_nil]; omega), if_pos (by rw [List.length_append, List.length_nil]; omega)]
    exact ⟨_, rfl, hd _ _ (by omega) (by omega)⟩
  · have := hln n
    rw [if_neg h1]
    simp only [Option.bind_some, Int.toNat_natCast]
    rw [if_pos (by omega), if_pos (by omega), if_pos (by simp only [List.length_nil]; omega), if_pos (by rw [List.length_append, List.length_nil]; omega)]
    exact ⟨_, rfl, hd _ _ (by omega) (by omega)⟩
theorem spec_l2Asks.eq (n q : Int) : spec_l2Asks.f n q = some (isQ n q) := by
  unfold spec_l2Asks.f isQ; rw [spec_l2Numbers.eq, spec_l1In.eq]
  cases h : isN n
  · simp
  · have := isN_bd h
    simp [show 0 ≤ n by omega]
theorem spec_l5Scheme.ev (n : Int) (l : List Int) (h : l.length ≤ 35184372088832) : Stops (fun k => spec_l5Scheme.f k n l) (isSch n l) := by
  have e : isSch n l = chkV (fun x => isQ n x) (isN n && decide (l.length ≤ 14)) 14 l 0 := by
    rw [chkV_eq _ _ _ _ _ (fun g => by rw [Bool.and_eq_true, decide_eq_true_eq] at g; omega)]
    simp [isSch, List.all_eq_not_any_not]
  have hd : decide ((l.length : Int) ≤ 14) = decide (l.length ≤ 14) := by simp only [decide_eq_decide]; omega
  rw [e]
  have E := Stops.over0 l (fun k (i : Nat) (s : Unit) => spec_l5Scheme.l0 k n l (i : Int)) (fun t s => chkV (fun x => isQ n x) (isN n && decide (l.length ≤ 14)) 14 t (l.length - t.length)) () ?_ ?_
  · rw [Nat.sub_self] at E; exact E
  · intro s
    refine ⟨2, fun q hq => ?_⟩
    obtain ⟨k, rfl⟩ : ∃ k, q = k + 2 := ⟨q - 2, by omega⟩
    simp only [spec_l5Scheme.l0, spec_l5Scheme.j1, spec_l2Numbers.eq]; rw [if_neg (by omega), if_neg (by simp), hd]
    cases isN n <;> rfl
  · intro i hi s A
    have ew : wrap64 ((i : Int) + 1) = ((i + 1 : Nat) : Int) := w64 (by omega) (by omega)
    have ed : l.length - (l[i] :: l.drop (i + 1)).length = i := by simp; omega
    have ed2 : l.length - (l.drop (i + 1)).length = i + 1 := by simp; omega
    have A := A ()
    simp only [ed, ed2] at A ⊢
    by_cases hc : i ≤ 14
    · cases hp : isQ n l[i]
      · refine ⟨2, fun q hq => ?_⟩
        obtain ⟨k, rfl⟩ : ∃ k, q = k + 2 := ⟨q - 2, by omega⟩
        simp only [spec_l5Scheme.l0, spec_l5Scheme.j1, rd_at l i hi, spec_l2Asks.eq]
        rw [if_pos (by omega), decide_eq_true (show (i : Int) ≤ 14 by omega), if_pos (by trivial), if_pos (by omega), if_pos (by omega), hp, Option.bind_some]; simp [chkV, hc, hp]
      · have A1 : Stops (fun k => spec_l5Scheme.j1 k n l (i : Int) true) (chkV (fun x => isQ n x) (isN n && decide (l.length ≤ 14)) 14 (l[i] :: l.drop (i + 1)) i) := A.round fun k a => by
          simp only [spec_l5Scheme.j1, rd_at l i hi, spec_l2Asks.eq]
          rw [if_pos trivial, if_pos (by omega), if_pos (by omega), hp, Option.bind_some, if_pos (by trivial), ew, chkV, if_pos hc, if_pos hp]; exact a
        exact A1.round fun k a => by
          simp only [spec_l5Scheme.l0]; rw [if_pos (by omega), decide_eq_true (by omega)]; exact a
    · refine ⟨2, fun q hq => ?_⟩
      obtain ⟨k, rfl⟩ : ∃ k, q = k + 2 := ⟨q - 2, by omega⟩
      simp only [spec_l5Scheme.l0, spec_l5Scheme.j1, spec_l2Numbers.eq]
      rw [if_pos (by omega), decide_eq_false (show ¬ (i : Int) ≤ 14 by omega), chkV, if_neg hc, if_neg (by simp), hd]
      cases isN n <;> rfl
theorem spec_l5True.ev (l : List Int) (k : Int) (h0 : 0 ≤ k) (hl : l.length ≤ 35184372088832) : Stops (fun n => spec_l5True.f n l k) (twV l k l.length) := by
  refine Stops.count (g := fun n (s : Int × Int) => spec_l5True.l0 n l k s.1 s.2) (fun i => (twV l k i, (i : Int))) l.length (Stops.now1 fun m => ?_) fun i hi m => ?_
  · simp only [spec_l5True.l0]; rw [if_neg (by omega)]
  · have e : wrap64 ((i : Int) + 1) = (i : Int) + 1 := w64 (by omega) (by omega)
    simp only [spec_l5True.l0]; rw [if_pos (by omega), if_pos (by omega), if_pos (by omega), rd_nat, twV_step, e]; rfl
theorem spec_l5Words.ev (n : Int) (l : List Int) (h0 : 0 ≤ n) (h1 : n ≤ 1000) (hl : l.length ≤ 35184372088832) : Stops (fun k => spec_l5Words.f k n l) (wordsV l n.toNat) := by
  refine Stops.count' (g := fun k (s : List Int × Int) => spec_l5Words.l0 k n l s.1 s.2) (fun i => (wordsV l i, (i : Int))) n.toNat (Stops.now1 fun m => ?_) fun i hi A => ?_
  · simp only [spec_l5Words.l0]; rw [if_neg (by omega)]
  · have e : wrap64 ((i : Int) + 1) = (i : Int) + 1 := w64 (by omega) (by omega)
    have hw := wordsV_length l i
    refine Evt.succ (A.and (spec_l5True.ev l i (by omega) hl).evt) fun m ⟨a, b⟩ => ?_
    simp only [spec_l5Words.l0]
    rw [if_pos (by omega), show spec_l5True.f m l i = _ from b, Option.bind_some, if_pos (by omega), e]; exact a
theorem spec_TrueWords.ev (n : Int) (l : List Int) (hl : l.length ≤ 35184372088832) : Stops (fun k => spec_TrueWords.f k n l) (if isSch n l = true then (wordsV l n.toNat, true) else ([], false)) := by
  cases h : isSch n l
  · refine (spec_l5Scheme.ev n l hl).same fun m a => ?_
    simp [spec_TrueWords.f, a, h]
  · have hb := isSch_bd h
    refine Evt.mono ((spec_l5Scheme.ev n l hl).and (spec_l5Words.ev n l (by omega) (by omega) hl).evt) fun m ⟨a, b⟩ => ?_
    simp [spec_TrueWords.f, a, h, b]
theorem spec_DrawSchemeOf.tot (c : List Int) (hc : u8s c) : ∃ u m, Stops (fun k => spec_DrawSchemeOf.f k c) (u, m) ∧ u.length ≤ 13 := by
  obtain ⟨t1, t2, t3, e1, h0, h1, a0, a1⟩ := spec_l1Cur_many.tot c hc 0 0 (by omega) (by omega)
  obtain ⟨l, s2, s3, S, hl, b0, b1⟩ := spec_l1Cur_scheme5.tot c hc t2 t3 t1 (by omega) (by omega)
  have T := spec_TrueWords.ev t1 l (by omega)
  cases hs : isSch t1 l
  · obtain ⟨y1, y2, y3, e4, _, f0, f1⟩ := spec_l1Cur_among.tot c hc s2 s3 ([2, 15, -1] : List Int) (by decide) (by omega) (by omega)
    rw [hs, if_neg (by simp)] at T
    refine ⟨[1, 2, 3], y1, (S.and T.evt).mono fun k ⟨a, b⟩ => ?_, by decide⟩
    simp only [spec_DrawSchemeOf.f, e1, a, b, e4, Option.bind_some, Bool.false_eq_true, if_false]
  · obtain ⟨x1, x2, x3, e3, i0, i1, g0, g1⟩ := spec_l1Cur_pick.tot c hc s2 s3 24 (by omega) (by omega)
    obtain ⟨y1, y2, y3, e4, j0, j1, f0, f1⟩ := spec_l1Cur_pick.tot c hc x2 x3 24 (by omega) (by omega)
    rw [hs, if_pos rfl] at T
    refine ⟨wordsV l t1.toNat, wrap64 (wrap64 ((l.length : Int) + wrap64 (Int.tdiv x1 23)) - wrap64 (Int.tdiv y1 23)), (S.and T.evt).mono fun k ⟨a, b⟩ => ?_, by rw [wordsV_length]; omega⟩
    simp only [spec_DrawSchemeOf.f, e1, a, b, e3, e4, Option.bind_some, if_true]
theorem spec_l1Cur_lies.tot (c : List Int) (hc : u8s c) (p s : Int) (h0 : 0 ≤ p) (h1 : p ≤ 90000) : ∃ r p' s', spec_l1Cur_lies.f c p s = some (r, p', s') ∧ p ≤ p' ∧ p' ≤ p + 2 := by
  obtain ⟨r, p', s', e, hm, a0, a1⟩ := spec_l1Cur_among.tot c hc p s ([1, 1, 2, 0, 1, 2, 1, 3, (-1), 1, 2, 0] : List Int) (by decide) h0 h1
  exact ⟨r, p', s', by rw [spec_l1Cur_lies.f, e]; rfl, a0, a1⟩
theorem spec_DrawIsSafe.tot (c : List Int) (hc : u8s c) : ∃ n l i, Stops (fun k => spec_DrawIsSafe.f k c) (n, l, i) ∧ 0 ≤ n ∧ n ≤ 13 ∧ l.length ≤ 15 := by
  obtain ⟨t1, t2, t3, e1, h0, h1, a0, a1⟩ := spec_l1Cur_many.tot c hc 0 0 (by omega) (by omega)
  obtain ⟨l, s2, s3, S, hl, b0, b1⟩ := spec_l1Cur_scheme5.tot c hc t2 t3 t1 (by omega) (by omega)
  obtain ⟨x1, x2, x3, e3, d0, d1⟩ := spec_l1Cur_lies.tot c hc s2 s3 (by omega) (by omega)
  refine ⟨t1, l, x1, S.same fun k a => ?_, h0, h1, hl⟩
  simp only [spec_DrawIsSafe.f, e1, a, e3, Option.bind_some]
/-- Five or more of a list of seven. -/
theorem cut_bd (p : Int) (h0 : 0 ≤ p) (h1 : p < 24) : 5 ≤ wrap64 (5 + wrap64 (Int.tdiv p 11)) ∧ wrap64 (5 + wrap64 (Int.tdiv p 11)) ≤ 7 := by
  have h : ∀ x : Fin 24, 5 ≤ wrap64 (5 + wrap64 (Int.tdiv (x.val : Int) 11)) ∧ wrap64 (5 + wrap64 (Int.tdiv (x.val : Int) 11)) ≤ 7 := by decide +kernel
  obtain ⟨p, rfl⟩ := Int.eq_ofNat_of_zero_le h0
  exact h ⟨p, by omega⟩
theorem spec_DrawCountUntold.tot (c : List Int) (hc : u8s c) : ∃ n l i, Stops (fun k => spec_DrawCountUntold.f k c) (n, l, i) ∧ 0 ≤ n ∧ n ≤ 13 ∧ l.length ≤ 15 := by
  obtain ⟨t1, t2, t3, e1, h0, h1, a0, a1⟩ := spec_l1Cur_many.tot c hc 0 0 (by omega) (by omega)
  obtain ⟨l, s2, s3, S, hl, b0, b1⟩ := spec_l1Cur_scheme5.tot c hc t2 t3 t1 (by omega) (by omega)
  obtain ⟨x1, x2, x3, e3, i0, i1, d0, d1⟩ := spec_l1Cur_pick.tot c hc s2 s3 24 (by omega) (by omega)
  have hb := cut_bd x1 i0 (i1 (by omega))
  obtain ⟨N, hN⟩ : ∃ N, N = wrap64 (5 + wrap64 (Int.tdiv x1 11)) := ⟨_, rfl⟩
  rw [← hN] at hb
  obtain ⟨y1, y2, y3, e4, _, f0, f1⟩ := spec_l1Cur_among.tot c hc x2 x3 (([1, 2, 0, 3, 14, 15, -1] : List Int).take N.toNat) (by rw [List.length_take, show ([1, 2, 0, 3, 14, 15, -1] : List Int).length = 7 from rfl]; omega) (by omega) (by omega)
  refine ⟨t1, l, y1, S.same fun k a => ?_, h0, h1, hl⟩
  simp only [spec_DrawCountUntold.f, e1, a, e3, Option.bind_some, ← hN, e4]
  rw [if_pos ⟨by omega, by omega⟩]
theorem impl_isNumber.eq (n k : Int) : impl_isNumber.f n k = some (isN n && decide (0 ≤ k ∧ k ≤ wrap64 (n - 1))) := by
  unfold impl_isNumber.f; rw [impl_isCount.eq, impl_in.eq]; cases isN n <;> simp
theorem impl_TrueWord.ev (n : Int) (l : List Int) (k : Int) (hl : l.length ≤ 35184372088832) : Stops (fun q => impl_TrueWord.f q n l k) (if (isSch n l && decide (0 ≤ k ∧ k ≤ wrap64 (n - 1))) = true then (twV l k l.length, true) else (0, false)) := by
  have hs : isSch n l = true → isN n = true := by unfold isSch; simp only [Bool.and_eq_true]; exact fun h => h.1.1
  by_cases hk : 0 ≤ k ∧ k ≤ wrap64 (n - 1)
  · refine (impl_trueWord.ev l k hk.1 hl).same fun m b => ?_
    simp only [impl_TrueWord.f, b, impl_IsScheme.f, impl_isNumber.eq, Option.bind_some, decide_eq_true hk]
    cases h : isSch n l
    · simp
    · simp [hs h]
  · refine Evt.true.mono fun m _ => ?_
    simp only [impl_TrueWord.f, impl_IsScheme.f, impl_isNumber.eq, Option.bind_some, decide_eq_false hk]
    cases isSch n l <;> simp
theorem spec_TrueWord.ev (n : Int) (l : List Int) (k : Int) (hl : l.length ≤ 35184372088832) : Stops (fun q => spec_TrueWord.f q n l k) (if (isSch n l && decide (0 ≤ k ∧ k ≤ wrap64 (n - 1))) = true then (twV l k l.length, true) else (0, false)) := by
  by_cases hk : 0 ≤ k ∧ k ≤ wrap64 (n - 1)
  · refine Evt.mono ((spec_l5Scheme.ev n l hl).and (spec_l5True.ev l k hk.1 hl).evt) fun m ⟨a, b⟩ => ?_
    simp only [spec_TrueWord.f, a, b, spec_l1In.eq, Option.bind_some, decide_eq_true hk]
    cases isSch n l <;> simp
  · refine (spec_l5Scheme.ev n l hl).same fun m a => ?_
    simp only [spec_TrueWord.f, a, spec_l1In.eq, Option.bind_some, decide_eq_false hk]
    cases isSch n l <;> simp
def gapV (n : Int) (l : List Int) : Int × Bool := if isSch n l = true then (gap0 (wordsV l n.toNat) n.toNat, true) else (0, false)
theorem impl_GapOf.ev (n : Int) (l : List Int) : Stops (fun k => impl_GapOf.f k n l) (gapV n l) := by
  unfold gapV
  by_cases hs : isSch n l = true
  · have hb := isSch_bd hs
    refine (impl_gap.ev n l (by omega) (by omega) hb.2.2.1).same fun m a => ?_
    simp [impl_GapOf.f, impl_IsScheme.f, a, hs]
  · refine Evt.true.mono fun m _ => ?_
    simp [impl_GapOf.f, impl_IsScheme.f, hs]
theorem spec_l5Gap.ev (ws : List Int) (hs : smallW ws) (h : ws.length ≤ 1000000) : Stops (fun k => spec_l5Gap.f k ws) (gap0 ws ws.length) := by
  refine Stops.count' (g := fun k (x : Int × Int) => spec_l5Gap.l0 k ws x.1 x.2) (fun i => (gap0 ws i, (i : Int))) ws.length (Stops.now1 fun m => ?_) fun i hi A => ?_
  · simp only [spec_l5Gap.l0]; rw [if_neg (by omega)]
  · have ew : wrap64 ((i : Int) + 1) = ((i + 1 : Nat) : Int) := w64 (by omega) (by omega)
    have B : Stops (fun k => spec_l5Gap.l1 k ws (gap0 ws i) (i : Int) 0) (gap0 ws ws.length) := by
      refine Stops.count' (g := fun k (x : Int × Int) => spec_l5Gap.l1 k ws x.1 (i : Int) x.2) (fun j => (gap1 ws i (gap0 ws i) j, (j : Int))) i (A.round fun m a => ?_) fun j hj C => ?_
      · simp only [spec_l5Gap.l1, ew]; rw [if_neg (by omega)]; exact a
      · have ej : wrap64 ((j : Int) + 1) = ((j + 1 : Nat) : Int) := w64 (by omega) (by omega)
        refine Evt.succ (C.and (spec_l5Apart.ev (rd ws i) (rd ws j) (smallW_at hs i hi) (smallW_at hs j (by omega))).evt) fun m ⟨c, d⟩ => ?_
        simp only [spec_l5Gap.l1, d, ej, Option.bind_some]
        rw [if_pos (by omega), if_pos (by omega), if_pos (by omega), if_pos (by omega), if_pos (by omega)]
        simp only [gap1] at c
        by_cases h1 : i = 1
        · rw [if_pos (by omega)]
          by_cases h2 : j = 0
          · rw [if_pos (by omega)]
            rw [if_pos (Or.inl ⟨h1, h2⟩)] at c
            exact c
          · rw [if_neg (by omega)]
            by_cases h3 : apI (rd ws i) (rd ws j) < gap1 ws i (gap0 ws i) j
            · rw [if_pos h3]; rw [if_pos (Or.inr h3)] at c; exact c
            · rw [if_neg h3]; rw [if_neg (by rintro (g | g); exact h2 g.2; exact h3 g)] at c; exact c
        · rw [if_neg (by omega)]
          by_cases h3 : apI (rd ws i) (rd ws j) < gap1 ws i (gap0 ws i) j
          · rw [if_pos h3]; rw [if_pos (Or.inr h3)] at c; exact c
          · rw [if_neg h3]; rw [if_neg (by rintro (g | g); exact h1 g.1; exact h3 g)] at c; exact c
    refine B.round fun m a => ?_
    simp only [spec_l5Gap.l0]
    rw [if_pos (by omega)]
    exact a
theorem spec_GapOf.ev (n : Int) (l : List Int) (h : l.length ≤ 35184372088832) : Stops (fun k => spec_GapOf.f k n l) (gapV n l) := by
  unfold gapV
  by_cases hs : isSch n l = true
  · have hb := isSch_bd hs
    have G := spec_l5Gap.ev (wordsV l n.toNat) (wordsV_small l hb.2.2.1 _) (by rw [wordsV_length]; omega)
    rw [wordsV_length] at G
    refine ((spec_l5Scheme.ev n l h).and ((spec_l5Words.ev n l (by omega) (by omega) h).and G.evt)).mono fun m ⟨a, b, c⟩ => ?_
    simp [spec_GapOf.f, a, b, c, hs]
  · refine (spec_l5Scheme.ev n l h).same fun m a => ?_
    simp [spec_GapOf.f, a, hs]
theorem spec_l5Word.eq (w : Int) (n : Int) (h : 0 ≤ n) : spec_l5Word.f w n = some (decide (0 ≤ w ∧ w ≤ wrap64 (shl .i64 1 n - 1))) := by
  unfold spec_l5Word.f
  rw [if_pos h, spec_l1In.eq]
  rfl
theorem spec_SchemeOf.ev (l : List Int) (q : Int) (hl : l.length ≤ 35184372088832) : Stops (fun k => spec_SchemeOf.f k l q) (if okSo l q = true then (colsV l q.toNat l.length, true) else ([], false)) := by
  unfold okSo
  by_cases hn : isN l.length = true
  · by_cases hq : 0 ≤ q ∧ q ≤ 14
    · have E : Stops (fun k => spec_SchemeOf.l0 k l q ((0 : Nat) : Int)) (if (l.all fun x => decide (0 ≤ x ∧ x ≤ wrap64 (shl .i64 1 q - 1))) = true then (colsV l q.toNat l.length, true) else ([], false)) := by
        refine Stops.over0 l (fun k (i : Nat) (s : Unit) => spec_SchemeOf.l0 k l q (i : Int)) (fun t s => if (t.all fun x => decide (0 ≤ x ∧ x ≤ wrap64 (shl .i64 1 q - 1))) = true then (colsV l q.toNat l.length, true) else ([], false)) () (fun s => ?_) fun i hi s A => ?_
        · refine (spec_l5Of.ev l q hq.1 (by omega) hl).round fun m a => ?_
          simp only [spec_SchemeOf.l0]; rw [if_neg (by omega), a]; simp
        · have e : wrap64 ((i : Int) + 1) = ((i + 1 : Nat) : Int) := w64 (by omega) (by omega)
          by_cases hx : 0 ≤ l[i] ∧ l[i] ≤ wrap64 (shl .i64 1 q - 1)
          · refine (A ()).round fun m a => ?_
            simp only [spec_SchemeOf.l0, rd_at l i hi, spec_l5Word.eq _ q hq.1, e, List.all_cons, decide_eq_true hx, Bool.true_and, Option.bind_some]
            rw [if_pos (by omega), if_pos (by omega), if_pos (by trivial)]; exact a
          · refine Stops.now1 fun m => ?_
            simp only [spec_SchemeOf.l0, rd_at l i hi, spec_l5Word.eq _ q hq.1, e, List.all_cons, decide_eq_false hx, Bool.false_and, Option.bind_some]
            rw [if_pos (by omega), if_pos (by omega), if_neg (by simp), if_neg (by simp)]
      refine E.round fun m a => ?_
      simp only [spec_SchemeOf.f, spec_l2Numbers.eq, spec_l1In.eq, hn, decide_eq_true hq, spec_SchemeOf.j0, Option.bind_some, if_true]
      rw [if_neg (by simp)]
      simpa [List.all_eq_not_any_not] using a
    · refine Stops.now1 fun m => ?_
      simp only [spec_SchemeOf.f, spec_l2Numbers.eq, spec_l1In.eq, hn, decide_eq_false hq, spec_SchemeOf.j0, Option.bind_some, if_true]
      simp
  · refine Stops.now1 fun m => ?_
    simp [spec_SchemeOf.f, spec_l2Numbers.eq, hn, spec_SchemeOf.j0]
theorem spec_l5Safe.ev (n : Int) (l : List Int) (m : Int) (h0 : 0 ≤ n) (hn : n ≤ 12) (hl : l.length ≤ 14) : Stops (fun k => spec_l5Safe.f k n l m) (safeV n l m) := by
  have G := spec_l5Gap.ev (wordsV l n.toNat) (wordsV_small l hl _) (by rw [wordsV_length]; omega)
  rw [wordsV_length] at G
  refine ((spec_l5Words.ev n l h0 (by omega) (by omega)).and G.evt).mono fun k ⟨a, b⟩ => ?_
  simp only [spec_l5Safe.f, a, b, Option.bind_some, safeV]
  by_cases h : n = 1
  · rw [if_pos h, decide_eq_true h, Bool.true_or]
  · rw [if_neg h, decide_eq_false h, Bool.false_or]
theorem spec_IsSafe.ev (n : Int) (l : List Int) (m : Int) (h : l.length ≤ 35184372088832) : Stops (fun k => spec_IsSafe.f k n l m) (isSafeV n l m) := by
  unfold isSafeV
  by_cases hs : isSch n l = true
  · have hb := isSch_bd hs
    refine ((spec_l5Scheme.ev n l h).and (spec_l5Safe.ev n l m (by omega) (by omega) hb.2.2.1).evt).mono fun k ⟨a, b⟩ => ?_
    simp only [spec_IsSafe.f, a, b, spec_l1In.eq, hs, Option.bind_some, isM]
    by_cases hm : 0 ≤ m ∧ m ≤ 2
    · rw [decide_eq_true hm]; rfl
    · rw [decide_eq_false hm]; rfl
  · refine (spec_l5Scheme.ev n l h).same fun k a => ?_
    simp [spec_IsSafe.f, a, hs]
theorem vfN_succ (n : Int) (l : List Int) (m : Int) (i : Nat) : vfN n l m (i + 1) = if safeV n (l.eraseIdx i) m = true then vfN n l m i ++ [(i : Int)] else vfN n l m i := by
  unfold vfN
  rw [numsTo, Int.toNat_natCast]
theorem impl_VainFixed.ev (n : Int) (l : List Int) (m : Int) : Stops (fun k => impl_VainFixed.f k n l m) (vfV n l m) := by
  unfold vfV
  by_cases hs : isSch n l = true
  · have hb := isSch_bd hs
    have E : Stops (fun k => impl_VainFixed.l0 k n l m [] (l.length : Int) 0) (vfN n l m l.length, true) := by
      refine Stops.count' (g := fun k (x : List Int × Int) => impl_VainFixed.l0 k n l m x.1 (l.length : Int) x.2) (fun i => (vfN n l m i, (i : Int))) l.length (Stops.now1 fun k => ?_) fun i hi A => ?_
      · simp only [impl_VainFixed.l0]; rw [if_neg (by omega)]
      · have ew : wrap64 ((i : Int) + 1) = ((i + 1 : Nat) : Int) := w64 (by omega) (by omega)
        have hlen := vfN_length n l m i
        have ed : impl_without.f l (i : Int) = some (l.eraseIdx i) := by
          unfold impl_without.f
          rw [if_pos ⟨by omega, by omega, by omega⟩, Int.toNat_natCast]
        refine Evt.succ (A.and (impl_isSafe.ev n (l.eraseIdx i) m (by omega) (by omega) (erase_le i hb.2.2.1)).evt) fun k ⟨a, b⟩ => ?_
        simp only [impl_VainFixed.l0, ed, b, ew, Option.bind_some]
        rw [if_pos (by omega)]
        simp only [vfN_succ] at a
        by_cases hc : safeV n (l.eraseIdx i) m = true
        · rw [if_pos hc] at a
          rw [if_pos hc, if_pos (by omega)]
          exact a
        · rw [if_neg hc] at a
          rw [if_neg hc]
          exact a
    refine Evt.succ E.evt fun k c => ?_
    simp only [impl_VainFixed.f, impl_VainFixed.j0, impl_IsScheme.f, c, impl_isMost.eq, hs, Option.bind_some, Bool.true_and]
    cases isM m <;> rfl
  · refine Evt.succ Evt.true fun k _ => ?_
    simp [impl_VainFixed.f, impl_VainFixed.j0, impl_IsScheme.f, hs]
theorem spec_l1Own.eq (l : List Int) (h : l.length ≤ 10000000) : spec_l1Own.f l = some l := by
  unfold spec_l1Own.f
  rw [Option.bind_some, if_pos (by simp; omega), List.nil_append]
theorem spec_l5Drop.eq (l : List Int) (i : Int) (h0 : 0 ≤ i) (h1 : i < l.length) (hl : l.length ≤ 1000000) : spec_l5Drop.f l i = some (l.eraseIdx i.toNat) := by
  have e : wrap64 (i + 1) = i + 1 := w64 (by omega) (by omega)
  have e2 : (i + 1).toNat = i.toNat + 1 := by omega
  unfold spec_l5Drop.f
  rw [if_pos h0, if_pos (by omega), spec_l1Own.eq _ (by rw [List.length_take]; omega), Option.bind_some, e, e2, if_pos (by omega), if_pos (by omega), if_pos (by simp; omega), List.eraseIdx_eq_take_drop_succ]
theorem spec_VainFixed.ev (n : Int) (l : List Int) (m : Int) (h : l.length ≤ 35184372088832) : Stops (fun k => spec_VainFixed.f k n l m) (vfV n l m) := by
  unfold vfV
  have S1 : Evt (fun k => spec_l5Scheme.f (k + 1) n l = some (isSch n l)) := by
    obtain ⟨K, g⟩ := spec_l5Scheme.ev n l h
    exact ⟨K, fun j hj => g (j + 1) (by omega)⟩
  by_cases hs : isSch n l = true
  · have hb := isSch_bd hs
    have E : Stops (fun k => spec_VainFixed.l0 k n l m [] 0) (vfN n l m l.length, true) := by
      refine Stops.count' (g := fun k (x : List Int × Int) => spec_VainFixed.l0 k n l m x.1 x.2) (fun i => (vfN n l m i, (i : Int))) l.length (Stops.now1 fun k => ?_) fun i hi A => ?_
      · simp only [spec_VainFixed.l0]; rw [if_neg (by omega)]
      · have ew : wrap64 ((i : Int) + 1) = ((i + 1 : Nat) : Int) := w64 (by omega) (by omega)
        have hlen := vfN_length n l m i
        refine Evt.succ (A.and (spec_l5Safe.ev n (l.eraseIdx i) m (by omega) (by omega) (erase_le i hb.2.2.1)).evt) fun k ⟨a, b⟩ => ?_
        simp only [spec_VainFixed.l0, spec_l5Drop.eq l (i : Int) (by omega) (by omega) (by omega), Int.toNat_natCast, b, ew, Option.bind_some]
        rw [if_pos (by omega)]
        simp only [vfN_succ] at a
        by_cases hc : safeV n (l.eraseIdx i) m = true
        · rw [if_pos hc] at a
          rw [if_pos hc, if_pos (by omega)]
          exact a
        · rw [if_neg hc] at a
          rw [if_neg hc]
          exact a
    refine Evt.succ (S1.and E.evt) fun k ⟨a, c⟩ => ?_
    simp only [spec_VainFixed.f, spec_VainFixed.j0, a, c, spec_l1In.eq, hs, Option.bind_some, Bool.true_and, isM]
    by_cases hm : 0 ≤ m ∧ m ≤ 2
    · rw [decide_eq_true hm]; rfl
    · rw [decide_eq_false hm]; rfl
  · refine Evt.succ S1 fun k a => ?_
    simp [spec_VainFixed.f, spec_VainFixed.j0, a, hs]
theorem spec_CountUntold.ev (n : Int) (l : List Int) (m : Int) (h : l.length ≤ 35184372088832) : Stops (fun k => spec_CountUntold.f k n l m) (cuV n l m) := by
  unfold cuV
  have S1 : Evt (fun k => spec_l5Scheme.f (k + 1) n l = some (isSch n l)) := by
    obtain ⟨K, g⟩ := spec_l5Scheme.ev n l h
    exact ⟨K, fun j hj => g (j + 1) (by omega)⟩
  by_cases hs : isSch n l = true
  · have hb := isSch_bd hs
    obtain ⟨t1, t2⟩ := two_len hb.2.2.1
    obtain ⟨ws, hws⟩ : ∃ ws, ws = wordsV l n.toNat := ⟨_, rfl⟩
    have hsm : smallW ws := hws ▸ wordsV_small l hb.2.2.1 n.toNat
    have hlen : ws.length = n.toNat := by rw [hws, wordsV_length]
    have E : Stops (fun k => spec_CountUntold.l0 k l m 0 ws 0) (untV ws m (2 ^ l.length), true) := by
      refine Stops.count' (g := fun k (x : Int × Int) => spec_CountUntold.l0 k l m x.1 ws x.2) (fun i => (untV ws m i, (i : Int))) (2 ^ l.length) (Stops.now1 fun k => ?_) fun i hi A => ?_
      · simp only [spec_CountUntold.l0]; rw [if_neg (by omega)]
      · have ew : wrap64 ((i : Int) + 1) = ((i + 1 : Nat) : Int) := w64 (by omega) (by omega)
        refine Evt.succ (A.and (spec_l5Fit.ev ws (i : Int) m hsm (by omega) (by omega)).evt) fun k ⟨a, b⟩ => ?_
        simp only [spec_CountUntold.l0, b, ew, Option.bind_some]
        rw [if_pos (by omega)]
        simp only [untV] at a
        split at a
        · rename_i g; rw [if_pos g]; exact a
        · rename_i g; rw [if_neg g]; exact a
    refine Evt.succ (S1.and ((spec_l5Words.ev n l (by omega) (by omega) h).and E.evt)) fun k ⟨a, b, c⟩ => ?_
    rw [← hws] at b
    simp only [spec_CountUntold.f, spec_CountUntold.j0, a, b, c, spec_l1In.eq, hs, Option.bind_some, Bool.true_and]
    rw [← hws]
    by_cases hm : 0 ≤ m ∧ m ≤ 14
    · rw [decide_eq_true hm]; rfl
    · rw [decide_eq_false hm]; rfl
  · refine Evt.succ S1 fun k a => ?_
    simp [spec_CountUntold.f, spec_CountUntold.j0, a, hs]
theorem spec_IsScheme.ev (n : Int) (l : List Int) (h : l.length ≤ 35184372088832) : Stops (fun k => spec_IsScheme.f k n l) (isSch n l) := (spec_l5Scheme.ev n l h).same fun m e => by simp only [spec_IsScheme.f, e, Option.bind_some]
theorem law : laws_FnSchemes.Pure := by
  intro l0 _ hw
  have hu := u8s_of l0 hw
  by_cases hbig : (l0.length : Int) > 65536
  · exact ⟨0, by simp [laws_FnSchemes.f, laws_vBig.f, hbig]⟩
  · obtain ⟨n, l, t, D1, n0, n1, hl⟩ := spec_DrawTrueWord.tot l0 hu
    obtain ⟨c1, V1, u1⟩ := laws_vCut.eq l0 1 hu (by omega) (by omega)
    obtain ⟨u, q, D2, hul⟩ := spec_DrawSchemeOf.tot c1 u1
    obtain ⟨c2, V2, u2⟩ := laws_vCut.eq l0 2 hu (by omega) (by omega)
    obtain ⟨x, s, m, D3, x0, x1, hsl⟩ := spec_DrawIsSafe.tot c2 u2
    obtain ⟨y, o, a, D4, y0, y1, hol⟩ := spec_DrawCountUntold.tot l0 hu
    have A1 : Stops _ (twP n l t) := impl_TrueWord.ev n l t (by omega)
    have A2 : Stops _ (twP n l t) := spec_TrueWord.ev n l t (by omega)
    have B1 : Stops _ (twsP n l) := impl_TrueWords.ev n l (by omega)
    have B2 : Stops _ (twsP n l) := spec_TrueWords.ev n l (by omega)
    have G1 := impl_GapOf.ev n l
    have G2 := spec_GapOf.ev n l (by omega)
    have S1 : Stops _ (soP u q) := impl_SchemeOf.ev u q (by omega)
    have S2 : Stops _ (soP u q) := spec_SchemeOf.ev u q (by omega)
    have I1 := impl_IsSafe.ev x s m
    have I2 := spec_IsSafe.ev x s m (by omega)
    have F1 := impl_VainFixed.ev x s m
    have F2 := spec_VainFixed.ev x s m (by omega)
    have U1 := impl_CountUntold.ev y o a
    have U2 := spec_CountUntold.ev y o a (by omega)
    have P1 : impl_IsScheme.f n l = some (isSch n l) := rfl
    have P2 := spec_IsScheme.ev n l (by omega)
    have flagG : (gapV n l).2 = isSch n l := by unfold gapV; cases isSch n l <;> rfl
    have flagB : (twsP n l).2 = isSch n l := by unfold twsP; cases isSch n l <;> rfl
    have flagA : (twP n l t).2 = true → isSch n l = true := by
      unfold twP
      cases isSch n l
      · simp
      · intro _; rfl
    have flagF : (isSafeV x s m).2 = (vfV x s m).2 := by unfold isSafeV vfV; cases (isSch x s && isM m) <;> rfl
    have lb := twsP_len n l
    have ls := soP_len u q
    have lf := vfV_len x s m
    have hlast := fun v b h => lastS_true y o a v b h
    have HJ2 := fun safe two hI vain three hV x36 x38 x39 hf => sch_j2 x s m safe two hI vain three hV x36 x38 x39 hf
    have HJ1 := fun v one h => sch_j1 u q v one h
    have HJ0 := fun w ok hT ws fine hW => sch_j0 n l t w ok hT ws fine hW
    generalize twP n l t = vA at *
    generalize twsP n l = vB at *
    generalize gapV n l = vG at *
    generalize soP u q = vS at *
    generalize isSafeV x s m = vI at *
    generalize vfV x s m = vF at *
    generalize cuV y o a = vU at *
    generalize isSch n l = sch at *
    obtain ⟨a1, a2⟩ := vA
    obtain ⟨b1, b2⟩ := vB
    obtain ⟨g1, g2⟩ := vG
    obtain ⟨s1, s2⟩ := vS
    obtain ⟨i1, i2⟩ := vI
    obtain ⟨f1, f2⟩ := vF
    obtain ⟨r1, r2⟩ := vU
    simp only at flagG flagB flagA flagF lb ls lf
    subst flagG
    subst flagB
    subst flagF
    have J := HJ0 a1 a2 rfl b1 b2 rfl u q s1 s2 x s m i1 i2 f1 o r1 r2 (HJ1 s1 s2 rfl x s m i1 i2 f1 o r1 r2 (HJ2 i1 i2 rfl f1 i2 rfl o r1 r2 (hlast r1 r2 rfl)))
    have E1 := laws_vInts.ev b1 (by omega)
    have E2 := laws_vInts.ev s1 (by omega)
    have E3 := laws_vInts.ev f1 (by omega)
    obtain ⟨k, h⟩ := D1.and (A1.and (A2.and (B1.and (B2.and (G1.and (G2.and (D2.and (S1.and (S2.and (D3.and (I1.and (I2.and (F1.and (F2.and (D4.and (U1.and (U2.and (P2.and (E1.and (E2.and (E3.and J.evt)))))))))))))))))))))
    obtain ⟨h1, h2, h3, h4, h5, h6, h7, h8, h9, h10, h11, h12, h13, h14, h15, h16, h17, h18, h19, h20, h21, h22, h23⟩ := h k (Nat.le_refl _)
    have V1' : laws_vCut.f l0 1 = some c1 := V1
    have V2' : laws_vCut.f l0 2 = some c2 := V2
    have hv : laws_vBig.f l0 = some false := by rw [laws_vBig.f, decide_eq_false hbig]
    refine ⟨k, ?_⟩
    simp only [laws_FnSchemes.f, hv, h1, h2, h3, h4, h5, h6, h7, h8, h9, h10, h11, h12, h13, h14, h15, h16, h17, h18, h19, h20, h21, h22, V1', V2', P1, Option.bind_some, Bool.false_eq_true, if_false, if_true, bne_self_eq_false]
    by_cases ha : a2 = true
    · rw [if_pos ha, if_pos (flagA ha)]; exact h23
    · rw [if_neg ha]; exact h23
end Go.Proofs.Ytmckmagdiokhiaa.PFnSchemes
