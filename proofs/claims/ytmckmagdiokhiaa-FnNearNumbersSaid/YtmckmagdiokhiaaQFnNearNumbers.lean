/- The plain law behind the statement FnNearNumbers: what the Go functions' Lean forms come to. Written for this work; no condition. -/
import Derived.Test.YtmckmagdiokhiaaPFnNearNumbersx
import Derived.Test.YtmckmagdiokhiaaBits
set_option linter.unusedVariables false
set_option linter.unusedSimpArgs false
namespace Go.Proofs.Ytmckmagdiokhiaa.PFnNearNumbers
open Go.RowKit Go.Proofs.YtmckmagdiokhiaaW.PrintWords Go.Proofs.YtmckmagdiokhiaaW.PrintLast Go.Proofs.YtmckmagdiokhiaaW.PrintMore Go.Proofs.Ytmckmagdiokhiaa.Lib

def okFit (n : Int) (l : List Int) (w m : Int) : Bool := isSch n l && decide (0 ≤ w ∧ w ≤ wrap64 (shl .i64 1 (l.length : Int) - 1)) && decide (0 ≤ m ∧ m ≤ 14)
def fitNV (n : Int) (l : List Int) (w m : Int) : List Int × Bool := if okFit n l w m = true then (fitV (wordsV l n.toNat) w m n.toNat, true) else ([], false)
def okNear (n : Int) (l : List Int) (w : Int) : Bool := isSch n l && decide (0 ≤ w ∧ w ≤ wrap64 (shl .i64 1 (l.length : Int) - 1))
/-- How far the words are from one. -/
def nnP (ws : List Int) (w x : Int) : Int := apI (rd ws x) w
def nnV (n : Int) (l : List Int) (w : Int) : List Int × Int × Bool := if okNear n l w = true then ((leastV (nnP (wordsV l n.toNat) w) n.toNat).2, (leastV (nnP (wordsV l n.toNat) w) n.toNat).1, true) else ([], 0, false)
theorem Evt.all {P : Nat → Nat → Prop} (n : Nat) (h : ∀ x, x < n → Evt (P x)) : Evt (fun k => ∀ x, x < n → P x k) := by
  induction n with
  | zero => exact ⟨0, fun k _ x hx => by omega⟩
  | succ n ih =>
    obtain ⟨K1, h1⟩ := ih fun x hx => h x (by omega)
    obtain ⟨K2, h2⟩ := h n (by omega)
    refine ⟨K1 + K2, fun k hk x hx => ?_⟩
    by_cases e : x = n
    · subst e; exact h2 k (by omega)
    · exact h1 k (by omega) x (by omega)
theorem impl_has.eq (q k : Int) (h : 0 ≤ k) : impl_has.f q k = some (hasB q k) := by
  unfold impl_has.f; rw [if_pos h]; rfl
theorem impl_trueWord.ev (l : List Int) (k : Int) (h0 : 0 ≤ k) (hl : l.length ≤ 35184372088832) : Stops (fun n => impl_trueWord.f n l k) (twV l k l.length) := by
  refine Stops.count (g := fun n (s : Int × Int) => impl_trueWord.l0 n k s.1 l l.length s.2) (fun i => (twV l k i, (i : Int))) l.length (Stops.now1 fun m => ?_) fun i hi m => ?_
  · simp only [impl_trueWord.l0]; rw [if_neg (by omega)]
  · have e : wrap64 ((i : Int) + 1) = (i : Int) + 1 := w64 (by omega) (by omega)
    simp only [impl_trueWord.l0]; rw [if_pos (by omega), if_pos (by omega), if_pos (by omega), rd_nat, impl_has.eq _ _ h0, Option.bind_some, e, twV]
    by_cases hb : hasB (l.getD i 0) k = true
    · rw [if_pos hb, if_pos hb]; rfl
    · rw [if_neg hb, if_neg hb]; rfl
theorem wordsV_rd (l : List Int) (n : Nat) : ∀ x : Nat, x < n → rd (wordsV l n) (x : Int) = twV l (x : Int) l.length := by
  induction n with
  | zero => intro x hx; omega
  | succ n ih =>
    intro x hx
    rw [rd_nat, wordsV, List.getD_eq_getElem?_getD]
    by_cases h : x < n
    · rw [List.getElem?_append_left (by rw [wordsV_length]; exact h), ← List.getD_eq_getElem?_getD, ← rd_nat]
      exact ih x h
    · obtain rfl : x = n := by omega
      rw [List.getElem?_append_right (by rw [wordsV_length]; exact Nat.le_refl _), wordsV_length]
      simp
theorem ones_small : ∀ a b : Fin 128, bits_OnesCount64.f ((128 * a.val + b.val : Nat) : Int) = some (popN 14 (128 * a.val + b.val) : Int) := by decide +kernel
theorem impl_apart.eq (a b : Int) (ha : 0 ≤ a ∧ a < 16384) (hb : 0 ≤ b ∧ b < 16384) : impl_apart.f a b = some (apI a b) := by
  have hx := xor_nat ha.1 ha.2 hb.1 hb.2
  have hs := ones_small ⟨(a.toNat ^^^ b.toNat) / 128, by omega⟩ ⟨(a.toNat ^^^ b.toNat) % 128, by omega⟩
  simp only at hs
  rw [Nat.div_add_mod] at hs
  have e2 : IntKind.u64.wrap ((a.toNat ^^^ b.toNat : Nat) : Int) = ((a.toNat ^^^ b.toNat : Nat) : Int) := by
    have : IntKind.u64.wrap ((a.toNat ^^^ b.toNat : Nat) : Int) = ((a.toNat ^^^ b.toNat : Nat) : Int) % 18446744073709551616 := rfl
    rw [this]
    omega
  simp only [impl_apart.f, bits_OnesCount.f, hx.1, e2, hs, Option.bind_some]
  rfl
theorem impl_near.ev (n : Int) (l : List Int) (w : Int) (h0 : 0 ≤ n) (hn : n ≤ 12) (hl : l.length ≤ 14) (hw : 0 ≤ w ∧ w < 16384) : Stops (fun k => impl_near.f k n l w) (leastV (nnP (wordsV l n.toNat) w) n.toNat) := by
  refine (Evt.all (P := fun x k => impl_trueWord.f k l (x : Int) = some (twV l (x : Int) l.length)) n.toNat fun x hx => (impl_trueWord.ev l (x : Int) (by omega) (by omega)).evt).mono fun k hk => ?_
  have h1 : nearN k l n.toNat = true := by
    unfold nearN
    rw [List.all_eq_true]
    intro x hx
    rw [hk x (List.mem_range.1 hx)]; rfl
  have h2 : leastV (nearP k l w) n.toNat = leastV (nnP (wordsV l n.toNat) w) n.toNat := leastV_congr _ _ _ fun x hx => by
    have e1 : nearT k l (x : Int) = twV l (x : Int) l.length := by rw [nearT, hk x hx]; rfl
    have hb := twV_bd l (x : Int) l.length (by omega)
    have h2 : (2 : Int) ^ l.length ≤ 2 ^ 14 := pow_le' hl
    show apF (nearT k l (x : Int)) w = apI (rd (wordsV l n.toNat) (x : Int)) w
    rw [e1, wordsV_rd l n.toNat x hx, apF, impl_apart.eq _ w ⟨hb.1, by omega⟩ hw]; rfl
  show impl_near.f k n l w = _
  unfold impl_near.f
  rw [if_pos ⟨h0, by omega⟩, if_pos h1, h2]
theorem word_bd {l : List Int} {w : Int} (hl : l.length ≤ 14) (h : 0 ≤ w ∧ w ≤ wrap64 (shl .i64 1 (l.length : Int) - 1)) : 0 ≤ w ∧ w < 16384 := by
  have h1 : shl .i64 1 (l.length : Int) = 2 ^ l.length := by rw [shl_one (by omega) (by omega), Int.toNat_natCast]
  have h2 : (2 : Int) ^ l.length ≤ 2 ^ 14 := pow_le' hl
  have h3 := pow_pos' l.length
  rw [h1, w64 (by omega) (by omega)] at h
  omega
theorem impl_isWord.eq (l : List Int) (w : Int) : impl_isWord.f l w = some (decide (0 ≤ w ∧ w ≤ wrap64 (shl .i64 1 (l.length : Int) - 1))) := by
  unfold impl_isWord.f
  rw [impl_in.eq]
  rfl
theorem impl_NearNumbers.ev (n : Int) (l : List Int) (w : Int) : Stops (fun k => impl_NearNumbers.f k n l w) (nnV n l w) := by
  unfold nnV
  by_cases hs : isSch n l = true
  · have hb := isSch_bd hs
    by_cases hw : 0 ≤ w ∧ w ≤ wrap64 (shl .i64 1 (l.length : Int) - 1)
    · refine (impl_near.ev n l w (by omega) (by omega) hb.2.2.1 (word_bd hb.2.2.1 hw)).same fun k a => ?_
      simp only [impl_NearNumbers.f, impl_IsScheme.f, a, impl_isWord.eq, okNear, hs, decide_eq_true hw, Option.bind_some, Bool.true_and]
      rfl
    · refine Evt.true.mono fun k _ => ?_
      simp only [impl_NearNumbers.f, impl_IsScheme.f, impl_isWord.eq, okNear, hs, decide_eq_false hw, Option.bind_some, Bool.and_false, Bool.false_and]
      simp
  · refine Evt.true.mono fun k _ => ?_
    simp [impl_NearNumbers.f, impl_IsScheme.f, okNear, hs]
theorem leastV_pos (p : Int → Int) (i : Nat) : (leastV p (i + 1)).2.length ≠ 0 := by
  induction i with
  | zero => simp [leastV]
  | succ i ih =>
    rw [leastV]
    split
    · simp
    · split
      · simp
      · exact ih
/-- The least, and where it is taken. -/
theorem leastV_facts (p : Int → Int) (n : Nat) : (∀ x : Nat, x < n + 1 → (leastV p (n + 1)).1 ≤ p (x : Int)) ∧ (∃ x : Nat, x < n + 1 ∧ p (x : Int) = (leastV p (n + 1)).1) ∧ (leastV p (n + 1)).2 = numsTo (fun x => decide (p x = (leastV p (n + 1)).1)) (n + 1) := by
  induction n with
  | zero =>
    have e : leastV p 1 = (p ((0 : Nat) : Int), [((0 : Nat) : Int)]) := by simp [leastV]
    rw [e]
    refine ⟨fun x hx => ?_, ⟨0, by omega, rfl⟩, ?_⟩
    · obtain rfl : x = 0 := by omega
      exact Int.le_refl _
    · simp [numsTo]
  | succ n ih =>
    obtain ⟨a, ⟨y, hy, b⟩, c⟩ := ih
    have hne := leastV_pos p n
    rw [leastV]
    by_cases h1 : p ((n + 1 : Nat) : Int) < (leastV p (n + 1)).1
    · rw [if_pos (Or.inr h1)]
      refine ⟨fun x hx => ?_, ⟨n + 1, by omega, rfl⟩, ?_⟩
      · by_cases e : x = n + 1
        · subst e; exact Int.le_refl _
        · have := a x (by omega)
          show p ((n + 1 : Nat) : Int) ≤ _
          omega
      · show [((n + 1 : Nat) : Int)] = numsTo (fun x => decide (p x = p ((n + 1 : Nat) : Int))) (n + 1 + 1)
        have e : numsTo (fun x => decide (p x = p ((n + 1 : Nat) : Int))) (n + 1) = [] := (numsTo_none _ _).2 fun x hx => decide_eq_false (by have := a x hx; omega)
        rw [numsTo, e, if_pos (by simp)]; rfl
    · rw [if_neg (by rintro (g | g); exact hne g; exact h1 g)]
      by_cases h2 : p ((n + 1 : Nat) : Int) = (leastV p (n + 1)).1
      · rw [if_pos h2]
        refine ⟨fun x hx => ?_, ⟨n + 1, by omega, h2⟩, ?_⟩
        · by_cases e : x = n + 1
          · subst e; exact Int.le_of_eq h2.symm
          · exact a x (by omega)
        · show (leastV p (n + 1)).2 ++ [((n + 1 : Nat) : Int)] = numsTo (fun x => decide (p x = (leastV p (n + 1)).1)) (n + 1 + 1)
          rw [numsTo, if_pos (by rw [decide_eq_true h2]), ← c]
      · rw [if_neg h2]
        refine ⟨fun x hx => ?_, ⟨y, by omega, b⟩, ?_⟩
        · by_cases e : x = n + 1
          · subst e; omega
          · exact a x (by omega)
        · rw [numsTo, if_neg (by rw [decide_eq_true_eq]; exact h2), ← c]
/-- What near numbers are. -/
theorem near_facts {n : Int} {l : List Int} {w : Int} {near : List Int} {a : Int} (h : nnV n l w = (near, a, true)) :
    isSch n l = true ∧ (0 ≤ w ∧ w ≤ wrap64 (shl .i64 1 (l.length : Int) - 1)) ∧ near = numsTo (fun x => decide (nnP (wordsV l n.toNat) w x = a)) n.toNat ∧ (∀ x : Nat, x < n.toNat → a ≤ nnP (wordsV l n.toNat) w (x : Int)) ∧ (∃ x : Nat, x < n.toNat ∧ nnP (wordsV l n.toNat) w (x : Int) = a) := by
  unfold nnV at h
  split at h
  case isFalse => simp at h
  rename_i hs
  unfold okNear at hs
  rw [Bool.and_eq_true, decide_eq_true_eq] at hs
  have hb := isSch_bd hs.1
  obtain ⟨N, hN⟩ : ∃ N, n.toNat = N + 1 := ⟨n.toNat - 1, by omega⟩
  rw [hN] at h ⊢
  simp only [Prod.mk.injEq, and_true] at h
  obtain ⟨f1, f2, f3⟩ := leastV_facts (nnP (wordsV l (N + 1)) w) N
  obtain ⟨h1, h2⟩ := h
  rw [h2] at f1 f2 f3
  rw [h1] at f3
  exact ⟨hs.1, hs.2, f3, f1, f2⟩
/-- A word that is near is one of the near numbers. -/
theorem near_first {p : Int → Bool} {n : Nat} {l : List Int} (h : l = numsTo p n) (hx : ∃ x : Nat, x < n ∧ p (x : Int) = true) : ∃ y : Nat, y < n ∧ rd l 0 = (y : Int) ∧ p (y : Int) = true ∧ 0 < l.length ∧ l.length ≤ n := by
  obtain ⟨x, hx, hp⟩ := hx
  have hm : (x : Int) ∈ l := by rw [h]; exact (numsTo_has p n (x : Int)).2 ⟨by omega, by omega, hp⟩
  have h0 := List.length_pos_of_mem hm
  have hl : l.length ≤ n := by rw [h]; exact numsTo_length p n
  have hr : rd l 0 ∈ l := by
    have := getD_mem' l 0 h0
    exact this
  have hr2 := hr
  rw [h] at hr2
  obtain ⟨g0, g1, g2⟩ := (numsTo_has p n _).1 hr2
  obtain ⟨y, hy⟩ := Int.eq_ofNat_of_zero_le g0
  have hy' : rd l 0 = (y : Int) := by rw [h]; exact hy
  rw [hy] at g1 g2
  exact ⟨y, by omega, hy', g2, h0, hl⟩
theorem laws_vHas.ev (l : List Int) (x : Int) (hx : x ∈ l) (h : l.length ≤ 1000000) : Stops (fun k => laws_vHas.f k l x) true := by
  obtain ⟨j, hj, rfl⟩ := List.getElem_of_mem hx
  have E : ∀ d i : Nat, i + d = j → Stops (fun k => laws_vHas.l0 k l l[j] (i : Int)) true := by
    intro d
    induction d with
    | zero =>
      intro i e
      obtain rfl : i = j := by omega
      refine Stops.now1 fun k => ?_
      simp only [laws_vHas.l0]
      rw [if_pos (by omega), if_pos (by omega), rd_at l i hj, if_pos rfl]
    | succ d ih =>
      intro i e
      have ew : wrap64 ((i : Int) + 1) = ((i + 1 : Nat) : Int) := w64 (by omega) (by omega)
      refine (ih (i + 1) (by omega)).round fun k a => ?_
      simp only [laws_vHas.l0, ew]
      rw [if_pos (by omega), if_pos (by omega)]
      split
      · rfl
      · exact a
  exact E j 0 (by omega)
theorem nn_j3 (x : Int) (own : List Int) (w m : Int) (fit : List Int) (b : Bool) (h : fitNV x own w m = (fit, b)) : Stops (fun k => laws_FnNearNumbers.j3 k x own w m fit b) true := by
  cases b
  · refine Stops.now1 fun k => ?_
    simp only [laws_FnNearNumbers.j3]
    rw [if_neg (by simp)]
  · unfold fitNV at h
    split at h
    case isFalse => simp at h
    rename_i hs
    unfold okFit at hs
    rw [Bool.and_eq_true, decide_eq_true_eq] at hs
    have hok : okNear x own w = true := hs.1
    have hm := hs.2
    simp only [Prod.mk.injEq, and_true] at h
    have N := impl_NearNumbers.ev x own w
    obtain ⟨⟨near, a, b⟩, hv⟩ : ∃ v, v = nnV x own w := ⟨_, rfl⟩
    have hb : b = true := by
      have := congrArg (fun v => v.2.2) hv
      unfold nnV at this
      rw [if_pos hok] at this
      exact this
    subst hb
    obtain ⟨f1, f2, f3, f4, f5⟩ := near_facts hv.symm
    have hsb := isSch_bd f1
    rw [← hv] at N
    obtain ⟨y, y0, y1, y2, y3, y4⟩ := near_first f3 (by obtain ⟨z, hz, e⟩ := f5; exact ⟨z, hz, decide_eq_true e⟩)
    rw [decide_eq_true_eq] at y2
    have hfit : ∀ z : Int, z ∈ fit ↔ 0 ≤ z ∧ z < (x.toNat : Int) ∧ nnP (wordsV own x.toNat) w z ≤ m := fun z => by
      rw [← h]
      unfold fitV
      rw [numsTo_has, decide_eq_true_eq]
      exact Iff.rfl
    have hfl : fit.length ≤ x.toNat := by rw [← h]; exact numsTo_length _ _
    by_cases ha : a ≤ m
    · have hy : (y : Int) ∈ fit := (hfit _).2 ⟨by omega, by omega, by omega⟩
      have h0 := List.length_pos_of_mem hy
      have V := laws_vHas.ev fit (y : Int) hy (by omega)
      refine Evt.succ (N.and V.evt) fun k ⟨p, q⟩ => ?_
      show laws_FnNearNumbers.j3 (k + 1) x own w m fit true = _
      rw [laws_FnNearNumbers.j3, if_pos rfl, p]
      simp only [Option.bind_some, if_true]
      rw [decide_eq_true (show (fit.length : Int) > 0 by omega), decide_eq_true ha, if_pos (by rfl), if_neg (by omega), if_pos (by omega), y1, q]
      rfl
    · have he : fit.length = 0 := by
        cases hq : fit with
        | nil => rfl
        | cons z t =>
          exfalso
          obtain ⟨z0, z1, z2⟩ := (hfit z).1 (by rw [hq]; exact List.mem_cons_self)
          obtain ⟨z, rfl⟩ := Int.eq_ofNat_of_zero_le z0
          have := f4 z (by omega)
          exact ha (Int.le_trans this z2)
      refine Evt.succ N.evt fun k p => ?_
      show laws_FnNearNumbers.j3 (k + 1) x own w m fit true = _
      rw [laws_FnNearNumbers.j3, if_pos rfl, p]
      simp only [Option.bind_some, if_true]
      rw [decide_eq_false (show ¬ (fit.length : Int) > 0 by omega), decide_eq_false ha, if_pos (by rfl), if_pos (by omega)]
theorem impl_isNumber.eq (n k : Int) : impl_isNumber.f n k = some (isN n && decide (0 ≤ k ∧ k ≤ wrap64 (n - 1))) := by
  unfold impl_isNumber.f; rw [impl_isCount.eq, impl_in.eq]; cases isN n <;> simp
theorem impl_TrueWord.ev (n : Int) (l : List Int) (k : Int) (hl : l.length ≤ 35184372088832) : Stops (fun q => impl_TrueWord.f q n l k) (if (isSch n l && decide (0 ≤ k ∧ k ≤ wrap64 (n - 1))) = true then (twV l k l.length, true) else (0, false)) := by
  have hs : isSch n l = true → isN n = true := by unfold isSch; simp only [Bool.and_eq_true]; exact fun h => h.1.1
  by_cases hk : 0 ≤ k ∧ k ≤ wrap64 (n - 1)
  · refine (impl_trueWord.ev l k hk.1 hl).same fun m b => ?_
    simp only [impl_TrueWord.f, b, impl_IsScheme.f, impl_isNumber.eq, Option.bind_some, decide_eq_true hk]
    cases h : isSch n l
    · simp
    · simp [hs h]
  · refine Evt.true.mono fun m _ => ?_
    simp only [impl_TrueWord.f, impl_IsScheme.f, impl_isNumber.eq, Option.bind_some, decide_eq_false hk]
    cases isSch n l <;> simp
theorem two_i64 {n : Int} (h0 : 0 ≤ n) (h1 : n ≤ 50) : wrap64 (shl .i64 1 n - 1) = ((2 ^ n.toNat : Nat) : Int) - 1 := by
  have hp : 2 ^ n.toNat ≤ 2 ^ 50 := Nat.pow_le_pow_right (by omega) (by omega)
  have e : shl .i64 1 n = ((2 ^ n.toNat : Nat) : Int) := by rw [shl_one h0 (by omega)]; push_cast; rfl
  rw [e]
  generalize 2 ^ n.toNat = P at *
  exact w64 (by omega) (by omega)
theorem rd_words (l : List Int) (n i : Nat) (h : i < n) : rd (wordsV l n) (i : Nat) = twV l (i : Int) l.length := by rw [rd_nat, wordsV_at l n i h]
theorem nnP_bd (ws : List Int) (w x : Int) : 0 ≤ nnP ws w x ∧ nnP ws w x ≤ 14 := apI_bd _ _
def gapV (n : Int) (l : List Int) : Int × Bool := if isSch n l = true then (gap0 (wordsV l n.toNat) n.toNat, true) else (0, false)
theorem impl_trueWords.ev (n : Int) (l : List Int) (h0 : 0 ≤ n) (h1 : n ≤ 1000) (hl : l.length ≤ 35184372088832) : Stops (fun k => impl_trueWords.f k n l) (wordsV l n.toNat) := by
  refine Stops.count' (g := fun k (s : List Int × Int) => impl_trueWords.l0 k l s.1 n s.2) (fun i => (wordsV l i, (i : Int))) n.toNat (Stops.now1 fun m => ?_) fun i hi A => ?_
  · simp only [impl_trueWords.l0]; rw [if_neg (by omega)]
  · have e : wrap64 ((i : Int) + 1) = (i : Int) + 1 := w64 (by omega) (by omega)
    have hw := wordsV_length l i
    refine Evt.succ (A.and (impl_trueWord.ev l i (by omega) hl).evt) fun m ⟨a, b⟩ => ?_
    simp only [impl_trueWords.l0]
    rw [if_pos (by omega), show impl_trueWord.f m l i = _ from b, Option.bind_some, if_pos (by omega), e]; exact a
theorem impl_gap.ev (n : Int) (l : List Int) (h0 : 0 ≤ n) (hn : n ≤ 12) (hl : l.length ≤ 14) : Stops (fun k => impl_gap.f k n l) (gap0 (wordsV l n.toNat) n.toNat) := by
  obtain ⟨ws, hw⟩ : ∃ ws, ws = wordsV l n.toNat := ⟨_, rfl⟩
  have hs : smallW ws := hw ▸ wordsV_small l hl n.toNat
  have hlen : ws.length = n.toNat := by rw [hw, wordsV_length]
  have E : Stops (fun k => impl_gap.l0 k 0 ws ws (ws.length : Int) 0) (gap0 ws ws.length) := by
    refine Stops.count' (g := fun k (x : Int × Int) => impl_gap.l0 k x.1 ws ws (ws.length : Int) x.2) (fun i => (gap0 ws i, (i : Int))) ws.length (Stops.now1 fun m => ?_) fun i hi A => ?_
    · simp only [impl_gap.l0]; rw [if_neg (by omega)]
    · have ew : wrap64 ((i : Int) + 1) = ((i + 1 : Nat) : Int) := w64 (by omega) (by omega)
      have ht : (ws.take i).length = i := by rw [List.length_take]; omega
      have hrd : ∀ j : Nat, j < i → rd (ws.take i) (j : Int) = rd ws (j : Int) := fun j hj => by
        rw [rd_at _ j (by omega), rd_at _ j (by omega), List.getElem_take]
      have B : Stops (fun k => impl_gap.l1 k (gap0 ws i) ws (i : Int) (rd ws i) ws (ws.length : Int) (i : Int) (ws.take i) (i : Int) 0) (gap0 ws ws.length) := by
        refine Stops.count' (g := fun k (x : Int × Int) => impl_gap.l1 k x.1 ws (i : Int) (rd ws i) ws (ws.length : Int) (i : Int) (ws.take i) (i : Int) x.2) (fun j => (gap1 ws i (gap0 ws i) j, (j : Int))) i (A.round fun m a => ?_) fun j hj C => ?_
        · simp only [impl_gap.l1, ew]; rw [if_neg (by omega)]; exact a
        · have ej : wrap64 ((j : Int) + 1) = ((j + 1 : Nat) : Int) := w64 (by omega) (by omega)
          refine C.round fun m c => ?_
          simp only [impl_gap.l1, ej, hrd j hj, impl_apart.eq (rd ws i) (rd ws j) (smallW_at hs i hi) (smallW_at hs j (by omega)), Option.bind_some]
          rw [if_pos (by omega), if_pos (by omega), if_pos (by omega)]
          simp only [gap1] at c
          by_cases h1 : i = 1
          · rw [if_pos (by omega)]
            by_cases h2 : j = 0
            · rw [if_pos (by omega)]
              rw [if_pos (Or.inl ⟨h1, h2⟩)] at c
              exact c
            · rw [if_neg (by omega)]
              by_cases h3 : apI (rd ws i) (rd ws j) < gap1 ws i (gap0 ws i) j
              · rw [if_pos h3]; rw [if_pos (Or.inr h3)] at c; exact c
              · rw [if_neg h3]; rw [if_neg (by rintro (g | g); exact h2 g.2; exact h3 g)] at c; exact c
          · rw [if_neg (by omega)]
            by_cases h3 : apI (rd ws i) (rd ws j) < gap1 ws i (gap0 ws i) j
            · rw [if_pos h3]; rw [if_pos (Or.inr h3)] at c; exact c
            · rw [if_neg h3]; rw [if_neg (by rintro (g | g); exact h1 g.1; exact h3 g)] at c; exact c
      refine B.round fun m a => ?_
      simp only [impl_gap.l0, Option.bind_some, Int.toNat_natCast, ht]
      rw [if_pos (by omega), if_pos (by omega), if_pos (by omega), if_pos (by omega)]
      exact a
  refine ((impl_trueWords.ev n l (by omega) (by omega) (by omega)).and E.evt).mono fun m ⟨a, b⟩ => ?_
  simp only [impl_gap.f, a, Option.bind_some]
  rw [← hw, b, hlen]
theorem impl_GapOf.ev (n : Int) (l : List Int) : Stops (fun k => impl_GapOf.f k n l) (gapV n l) := by
  unfold gapV
  by_cases hs : isSch n l = true
  · have hb := isSch_bd hs
    refine (impl_gap.ev n l (by omega) (by omega) hb.2.2.1).same fun m a => ?_
    simp [impl_GapOf.f, impl_IsScheme.f, a, hs]
  · refine Evt.true.mono fun m _ => ?_
    simp [impl_GapOf.f, impl_IsScheme.f, hs]
theorem nn_j2 (n : Int) (l : List Int) (w : Int) (near : List Int) (a : Int) (h : nnV n l w = (near, a, true)) (x : Int) (own : List Int) (u m : Int) (fit : List Int) (b : Bool) (J : Stops (fun k => laws_FnNearNumbers.j3 k x own u m fit b) true) : Stops (fun k => laws_FnNearNumbers.j2 k n l near x own u m fit b) true := by
  obtain ⟨f1, f2, f3, f4, f5⟩ := near_facts h
  have hs := isSch_bd f1
  obtain ⟨y, y0, y1, y2, y3, y4⟩ := near_first f3 (by obtain ⟨z, hz, e⟩ := f5; exact ⟨z, hz, decide_eq_true e⟩)
  have T := impl_TrueWord.ev n l (y : Int) (by omega)
  rw [if_pos (by rw [f1, decide_eq_true ⟨by omega, by rw [w64 (by omega) (by omega)]; omega⟩]; rfl)] at T
  have hw := twV_lt l (y : Int) l.length (by omega)
  have t2 := two_i64 (n := (l.length : Int)) (by omega) (by omega)
  rw [Int.toNat_natCast] at t2
  have hr : rd (wordsV l n.toNat) (y : Int) = twV l (y : Int) l.length := rd_words l _ y y0
  have hsm := wordsV_small l hs.2.2.1 n.toNat
  have hlen := wordsV_length l n.toNat
  have gP := gap0_pair (wordsV l n.toNat) n.toNat
  generalize twV l (y : Int) l.length = t at T hw hr
  have hok : okNear n l t = true := by
    unfold okNear
    rw [f1, t2, Bool.true_and, decide_eq_true_eq]
    omega
  have N := impl_NearNumbers.ev n l t
  obtain ⟨⟨back, far, b'⟩, hv⟩ : ∃ v, v = nnV n l t := ⟨_, rfl⟩
  have hb : b' = true := by
    have := congrArg (fun v => v.2.2) hv
    unfold nnV at this
    rw [if_pos hok] at this
    exact this
  subst hb
  obtain ⟨g1, g2, g3, g4, g5⟩ := near_facts hv.symm
  rw [← hv] at N
  have hself : nnP (wordsV l n.toNat) t (y : Int) = 0 := by unfold nnP; rw [hr, apI_self]
  have hfar : far = 0 := by
    have p1 := g4 y y0
    obtain ⟨z, hz, e⟩ := g5
    have := nnP_bd (wordsV l n.toNat) t (z : Int)
    omega
  subst hfar
  have hin : (y : Int) ∈ back := by rw [g3, numsTo_has, decide_eq_true_eq]; exact ⟨by omega, by omega, hself⟩
  have hbl : back.length ≤ n.toNat := by rw [g3]; exact numsTo_length _ _
  have hpos := List.length_pos_of_mem hin
  have V := laws_vHas.ev back (y : Int) hin (by omega)
  have G := impl_GapOf.ev n l
  have eG : gapV n l = (gap0 (wordsV l n.toNat) n.toNat, true) := by unfold gapV; rw [if_pos f1]
  rw [eG] at G
  have one : gap0 (wordsV l n.toNat) n.toNat > 0 → back.length = 1 := fun hg => by
    by_cases h2 : 1 < back.length
    · exfalso
      rw [g3, numsTo_two] at h2
      obtain ⟨i, k, hk, hi, p1, p2⟩ := h2
      rw [decide_eq_true_eq] at p1 p2
      have q := (gP (by omega)).1 i k hk hi
      unfold nnP at p1 p2
      have := apI_tri (rd (wordsV l n.toNat) (i : Nat)) (rd (wordsV l n.toNat) (k : Nat)) t
      omega
    · omega
  refine Evt.succ (T.and (N.and (G.and (V.and J.evt)))) fun k ⟨p1, p2, p3, p4, p5⟩ => ?_
  show laws_FnNearNumbers.j2 (k + 1) n l near x own u m fit b = _
  rw [laws_FnNearNumbers.j2, if_pos (by omega), y1, p1]
  simp only [Option.bind_some, p2, p3, p4, if_true]
  by_cases hg : gap0 (wordsV l n.toNat) n.toNat > 0
  · have := one hg
    rw [if_pos hg, if_pos (by omega), if_neg (by simp)]
    exact p5
  · rw [if_neg hg]
    by_cases h1 : (back.length : Int) = 1
    · rw [if_pos h1, if_neg (by simp)]; exact p5
    · rw [if_neg h1, if_neg (by simp; omega)]; exact p5
theorem fitV_len (ws : List Int) (w m : Int) (i : Nat) : (fitV ws w m i).length ≤ i := numsTo_length _ _
theorem fitV_succ (ws : List Int) (w m : Int) (i : Nat) : fitV ws w m (i + 1) = if apI (rd ws (i : Int)) w ≤ m then fitV ws w m i ++ [(i : Int)] else fitV ws w m i := by
  unfold fitV
  rw [numsTo]
  by_cases h : apI (rd ws (i : Int)) w ≤ m
  · rw [if_pos (by simpa using h), if_pos h]
  · rw [if_neg (by simpa using h), if_neg h]
theorem impl_fit.ev (n : Int) (l : List Int) (w m : Int) (h0 : 0 ≤ n) (hn : n ≤ 12) (hl : l.length ≤ 14) (hw : 0 ≤ w ∧ w < 16384) : Stops (fun k => impl_fit.f k n l w m) (fitV (wordsV l n.toNat) w m n.toNat) := by
  obtain ⟨ws, hws⟩ : ∃ ws, ws = wordsV l n.toNat := ⟨_, rfl⟩
  have hs : smallW ws := hws ▸ wordsV_small l hl n.toNat
  have hlen : ws.length = n.toNat := by rw [hws, wordsV_length]
  have E : Stops (fun k => impl_fit.l0 k w m [] ws (ws.length : Int) 0) (fitV ws w m ws.length) := by
    refine Stops.count (g := fun k (x : List Int × Int) => impl_fit.l0 k w m x.1 ws (ws.length : Int) x.2) (fun i => (fitV ws w m i, (i : Int))) ws.length (Stops.now1 fun k => ?_) fun i hi k => ?_
    · simp only [impl_fit.l0]; rw [if_neg (by omega)]
    · have ew : wrap64 ((i : Int) + 1) = ((i + 1 : Nat) : Int) := w64 (by omega) (by omega)
      have hlen2 := fitV_len ws w m i
      simp only [impl_fit.l0, impl_apart.eq (rd ws i) w (smallW_at hs i hi) hw, ew, Option.bind_some]
      rw [if_pos (by omega), if_pos (by omega), if_pos (by omega)]
      rw [fitV_succ]
      by_cases hc : apI (rd ws i) w ≤ m
      · rw [if_pos hc, if_pos (by omega), if_pos hc]
      · rw [if_neg hc, if_neg hc]
  refine ((impl_trueWords.ev n l (by omega) (by omega) (by omega)).and E.evt).mono fun k ⟨a, b⟩ => ?_
  simp only [impl_fit.f, a, Option.bind_some]
  rw [← hws, b, hlen]
theorem impl_FitNumbers.ev (n : Int) (l : List Int) (w m : Int) : Stops (fun k => impl_FitNumbers.f k n l w m) (fitNV n l w m) := by
  unfold fitNV
  by_cases hs : isSch n l = true
  · have hb := isSch_bd hs
    by_cases hw : 0 ≤ w ∧ w ≤ wrap64 (shl .i64 1 (l.length : Int) - 1)
    · refine (impl_fit.ev n l w m (by omega) (by omega) hb.2.2.1 (word_bd hb.2.2.1 hw)).same fun k a => ?_
      simp only [impl_FitNumbers.f, impl_IsScheme.f, a, impl_isWord.eq, impl_in.eq, okFit, hs, decide_eq_true hw, Option.bind_some, Bool.true_and]
      by_cases hm : 0 ≤ m ∧ m ≤ 14
      · rw [decide_eq_true hm]; rfl
      · rw [decide_eq_false hm]; rfl
    · refine Evt.true.mono fun k _ => ?_
      simp only [impl_FitNumbers.f, impl_IsScheme.f, impl_isWord.eq, okFit, hs, decide_eq_false hw, Option.bind_some, Bool.and_false, Bool.false_and]
      simp
  · refine Evt.true.mono fun k _ => ?_
    simp [impl_FitNumbers.f, impl_IsScheme.f, okFit, hs]
theorem laws_vInts.ev (l : List Int) (h : l.length ≤ 35184372088832) : Stops (fun k => laws_vInts.f k l l) true := by
  have E : Stops (fun k => laws_vInts.l0 k l l 0) true := by
    refine Stops.count (g := fun k (s : Int) => laws_vInts.l0 k l l s) (fun i => (i : Int)) l.length (Stops.now1 fun m => ?_) fun i hi m => ?_
    · simp only [laws_vInts.l0]; rw [if_neg (by omega)]
    · have e : wrap64 ((i : Int) + 1) = (i : Int) + 1 := w64 (by omega) (by omega)
      rw [laws_vInts.l0, if_pos (by omega), if_pos (by omega), if_pos (by omega), if_pos rfl, e]; rfl
  refine E.same fun m a => ?_
  simp only [laws_vInts.f, if_true]; exact a
theorem nn_j0 (n : Int) (l : List Int) (w : Int) (near : List Int) (a : Int) (ok : Bool) (h : nnV n l w = (near, a, ok)) (x : Int) (own : List Int) (u m : Int) (fit : List Int) (b : Bool) (J : Stops (fun k => laws_FnNearNumbers.j3 k x own u m fit b) true) : Stops (fun k => laws_FnNearNumbers.j0 k n l w near a ok x own u m fit b false) true := by
  cases ok
  · exact J.round fun k a => by
      simp only [laws_FnNearNumbers.j0]
      rw [if_neg (by simp), if_neg (by simp)]; exact a
  · obtain ⟨f1, f2, f3, f4, f5⟩ := near_facts h
    have hs := isSch_bd f1
    obtain ⟨z, hz, e⟩ := f5
    have hzb := nnP_bd (wordsV l n.toNat) w (z : Int)
    obtain ⟨y, y0, y1, y2, y3, y4⟩ := near_first f3 ⟨z, hz, decide_eq_true e⟩
    have J2 := nn_j2 n l w near a h x own u m fit b J
    -- the same words again
    have A := impl_FitNumbers.ev n l w a
    have eA : fitNV n l w a = (near, true) := by
      unfold fitNV
      rw [if_pos (by unfold okFit; rw [f1, decide_eq_true f2, decide_eq_true ⟨by omega, by omega⟩]; rfl), f3]
      unfold fitV
      congr 1
      refine numsTo_congr _ _ _ fun i hi => ?_
      have := f4 i hi
      rw [decide_eq_decide]
      unfold nnP at this ⊢
      omega
    rw [eA] at A
    have B := impl_FitNumbers.ev n l w (a - 1)
    have eB : a > 0 → fitNV n l w (a - 1) = ([], true) := fun h0 => by
      unfold fitNV
      rw [if_pos (by unfold okFit; rw [f1, decide_eq_true f2, decide_eq_true ⟨by omega, by omega⟩]; rfl)]
      unfold fitV
      rw [(numsTo_none _ _).2 fun i hi => decide_eq_false (by have := f4 i hi; unfold nnP at this; omega)]
    have ew : wrap64 (a - 1) = a - 1 := w64 (by omega) (by omega)
    have J1 : Stops (fun k => laws_FnNearNumbers.j1 k n l w near a x own u m fit b) true := by
      by_cases h0 : a > 0
      · rw [eB h0] at B
        refine Evt.succ (B.and J2.evt) fun k ⟨p, q⟩ => ?_
        show laws_FnNearNumbers.j1 (k + 1) n l w near a x own u m fit b = _
        rw [laws_FnNearNumbers.j1, if_pos h0, ew, p]
        simp only [Option.bind_some, if_true]
        rw [if_neg (by simp)]
        exact q
      · refine J2.round fun k q => ?_
        simp only [laws_FnNearNumbers.j1]
        rw [if_neg h0]
        exact q
    have V := laws_vInts.ev near (by omega)
    refine Evt.succ (A.and (V.and J1.evt)) fun k ⟨p, q, r⟩ => ?_
    show laws_FnNearNumbers.j0 (k + 1) n l w near a true x own u m fit b false = _
    rw [laws_FnNearNumbers.j0, if_neg (by simp), if_pos rfl, if_neg (by omega), if_pos (by omega), p]
    simp only [Option.bind_some, if_true, q]
    exact r
theorem nnV_len (n : Int) (l : List Int) (w : Int) : (nnV n l w).1.length ≤ 12 := by
  obtain ⟨⟨near, a, b⟩, hv⟩ : ∃ v, v = nnV n l w := ⟨_, rfl⟩
  cases b
  · unfold nnV at hv
    split at hv
    · simp at hv
    · rename_i hs
      unfold nnV
      rw [if_neg hs]
      simp
  · obtain ⟨f1, f2, f3, f4, f5⟩ := near_facts hv.symm
    have hs := isSch_bd f1
    rw [← hv]
    show near.length ≤ 12
    have := numsTo_length (fun x => decide (nnP (wordsV l n.toNat) w x = a)) n.toNat
    rw [f3]; omega
theorem fitNV_len (n : Int) (l : List Int) (w m : Int) : (fitNV n l w m).1.length ≤ 12 := by
  unfold fitNV
  split
  · rename_i h
    unfold okFit at h
    simp only [Bool.and_eq_true] at h
    have := isSch_bd h.1.1
    have := numsTo_length (fun k => decide (apI (rd (wordsV l n.toNat) k) w ≤ m)) n.toNat
    show (fitV (wordsV l n.toNat) w m n.toNat).length ≤ _
    unfold fitV
    omega
  · simp
def u8s (c : List Int) : Prop := ∀ x ∈ c, 0 ≤ x ∧ x ≤ 255
theorem u8s_of (l : List Int) (h : ∀ x ∈ l, (Lit.int .u8 x).wf = true) : u8s l := by
  intro x hx
  have := h x hx
  simp [Lit.wf, IntKind.min, IntKind.max, IntKind.bits, IntKind.signed] at this
  omega
theorem and255 (a : Int) : 0 ≤ Go.bits .and .u64 a 255 ∧ Go.bits .and .u64 a 255 ≤ 255 := by
  have e0 : Go.bits .and .u64 a 255 = IntKind.u64.wrap (((BitVec.ofInt 64 a &&& BitVec.ofInt 64 255).toNat : Nat) : Int) := rfl
  have h : ((BitVec.ofInt 64 a) &&& (BitVec.ofInt 64 255)).toNat ≤ 255 := by
    rw [BitVec.toNat_and, show (BitVec.ofInt 64 255).toNat = 255 from rfl]
    exact Nat.and_le_right
  have e2 : ∀ n : Nat, IntKind.u64.wrap (n : Int) = (n : Int) % 18446744073709551616 := fun _ => rfl
  rw [e0, e2]
  omega
theorem spec_l1Cur_next.tot (c : List Int) (hc : u8s c) (p s : Int) (h0 : 0 ≤ p) (h1 : p ≤ 100000) : ∃ b s', spec_l1Cur_next.f c p s = some (b, p + 1, s') ∧ 0 ≤ b ∧ b ≤ 255 := by
  have e : wrap64 (p + 1) = p + 1 := w64 (by omega) (by omega)
  have a255 : ∀ x : Int, 0 ≤ wrap64 (Go.bits .and .u64 x 255) ∧ wrap64 (Go.bits .and .u64 x 255) ≤ 255 := fun x => by
    have := and255 x
    rw [w64 (by omega) (by omega)]
    exact this
  unfold spec_l1Cur_next.f
  rw [e]
  by_cases h : p < (c.length : Int)
  · rw [if_pos h, if_pos h0]
    obtain ⟨i, rfl⟩ := Int.eq_ofNat_of_zero_le h0
    have hm := hc _ (List.getElem_mem (show i < c.length by omega))
    rw [← rd_at c i (by omega)] at hm
    by_cases h2 : (i : Int) + 1 ≤ (c.length : Int)
    · rw [if_pos h2]
      refine ⟨_, _, rfl, ?_⟩
      rw [w64 (by omega) (by omega)]
      exact hm
    · rw [if_neg h2]; exact ⟨_, _, rfl, a255 _⟩
  · rw [if_neg h]
    by_cases h2 : p + 1 ≤ (c.length : Int)
    · rw [if_pos h2]; exact ⟨_, _, rfl, by omega, by omega⟩
    · rw [if_neg h2]; exact ⟨_, _, rfl, a255 _⟩
theorem tmod_bd (x n : Int) (hx : 0 ≤ x) (hn : 1 ≤ n) : 0 ≤ Int.tmod x n ∧ Int.tmod x n < n := by
  rw [Int.tmod_eq_emod_of_nonneg hx]
  exact ⟨Int.emod_nonneg _ (by omega), Int.emod_lt_of_pos _ (by omega)⟩
theorem spec_l1Cur_pick.tot (c : List Int) (hc : u8s c) (p s n : Int) (h0 : 0 ≤ p) (h1 : p ≤ 90000) : ∃ r p' s', spec_l1Cur_pick.f c p s n = some (r, p', s') ∧ 0 ≤ r ∧ (1 ≤ n → r < n) ∧ p ≤ p' ∧ p' ≤ p + 2 := by
  unfold spec_l1Cur_pick.f
  by_cases h : n ≤ 1
  · rw [if_pos h]; exact ⟨_, _, _, rfl, by omega, fun _ => by omega, by omega, by omega⟩
  · rw [if_neg h]
    obtain ⟨b, s1, e1, b0, b1⟩ := spec_l1Cur_next.tot c hc p s h0 (by omega)
    rw [e1, Option.bind_some]
    by_cases h2 : n > 200
    · rw [if_pos h2]
      obtain ⟨b', s2, e2, c0, c1⟩ := spec_l1Cur_next.tot c hc (p + 1) s1 (by omega) (by omega)
      simp only [e2, Option.bind_some]
      rw [if_neg (by omega)]
      have hx : wrap64 (wrap64 (b * 256) + b') = b * 256 + b' := by rw [w64 (n := b * 256) (by omega) (by omega), w64 (by omega) (by omega)]
      rw [hx]
      have := tmod_bd (b * 256 + b') n (by omega) (by omega)
      exact ⟨_, _, _, rfl, this.1, fun _ => this.2, by omega, by omega⟩
    · rw [if_neg h2]
      simp only
      rw [if_neg (by omega)]
      have := tmod_bd b n b0 (by omega)
      exact ⟨_, _, _, rfl, this.1, fun _ => this.2, by omega, by omega⟩
theorem spec_l1Cur_among.tot (c : List Int) (hc : u8s c) (p s : Int) (l : List Int) (hl : 0 < l.length) (h0 : 0 ≤ p) (h1 : p ≤ 90000) : ∃ r p' s', spec_l1Cur_among.f c p s l = some (r, p', s') ∧ r ∈ l ∧ p ≤ p' ∧ p' ≤ p + 2 := by
  obtain ⟨r, p', s', e, r0, r1, a0, a1⟩ := spec_l1Cur_pick.tot c hc p s (l.length : Int) h0 h1
  have r2 := r1 (by omega)
  obtain ⟨i, rfl⟩ := Int.eq_ofNat_of_zero_le r0
  refine ⟨l[i]'(by omega), p', s', ?_, List.getElem_mem _, a0, a1⟩
  unfold spec_l1Cur_among.f
  rw [e, Option.bind_some]
  simp only
  rw [if_pos r0, if_pos r2, rd_at l i (by omega)]
theorem spec_l1Cur_many.tot (c : List Int) (hc : u8s c) (p s : Int) (h0 : 0 ≤ p) (h1 : p ≤ 90000) : ∃ r p' s', spec_l1Cur_many.f c p s = some (r, p', s') ∧ 0 ≤ r ∧ r ≤ 13 ∧ p ≤ p' ∧ p' ≤ p + 2 := by
  obtain ⟨r, p', s', e, hm, a0, a1⟩ := spec_l1Cur_among.tot c hc p s ([4, 6, 8, 3, 5, 2, 7, 12, 1, 0, 13, 4, 6, 8, 3, 5] : List Int) (by decide) h0 h1
  have hb : ∀ x ∈ ([4, 6, 8, 3, 5, 2, 7, 12, 1, 0, 13, 4, 6, 8, 3, 5] : List Int), 0 ≤ x ∧ x ≤ 13 := by decide
  exact ⟨r, p', s', by rw [spec_l1Cur_many.f, e]; rfl, (hb r hm).1, (hb r hm).2, a0, a1⟩
/-- The words that are found among the first numbers. -/
def grW (n m : Int) : Nat → List Int
  | 0 => []
  | i + 1 => if ((grW n m i).length : Int) < n then (if (grW n m i).any (fun x => decide (apI x (i : Int) ≤ wrap64 (2 * m))) = true then grW n m i else grW n m i ++ [(i : Int)]) else grW n m i
/-- The first number of questions for which there are words enough. -/
def gsL (n m : Int) : Nat → Nat → List Int × Bool
  | 0, _ => ([], false)
  | d + 1, q => if ((grW n m (2 ^ q)).length : Int) = n then (colsV (grW n m (2 ^ q)) q (grW n m (2 ^ q)).length, true) else gsL n m d (q + 1)
def gsV (n m : Int) : List Int × Bool := if (isN n && isM m) = true then gsL n m 15 0 else ([], false)
theorem grW_len (n m : Int) (i : Nat) : (grW n m i).length ≤ i := by
  induction i with
  | zero => exact Nat.le_refl _
  | succ i ih =>
    unfold grW
    split
    · split
      · omega
      · rw [List.length_append, List.length_singleton]; omega
    · omega
theorem spec_l5Of.ev (l : List Int) (q : Int) (h0 : 0 ≤ q) (h1 : q ≤ 1000) (hl : l.length ≤ 35184372088832) : Stops (fun k => spec_l5Of.f k l q) (colsV l q.toNat l.length) := by
  obtain ⟨q, rfl⟩ := Int.eq_ofNat_of_zero_le h0
  rw [Int.toNat_natCast]
  have E : Stops (fun k => spec_l5Of.l0 k l q (mixV l q l.length 0 0) ((0 : Nat) : Int)) (colsV l q l.length) := by
    refine Stops.count' (g := fun k (s : List Int × Int) => spec_l5Of.l0 k l q s.1 s.2) (fun i => (mixV l q l.length 0 i, (i : Int))) q (Stops.now1 fun m => ?_) fun i hi A => ?_
    · simp only [spec_l5Of.l0]; rw [if_neg (by omega), mixV_all]
    · have e : wrap64 ((i : Int) + 1) = (i : Int) + 1 := w64 (by omega) (by omega)
      have I : Stops (fun k => spec_l5Of.l1 k l q ((mixV l q l.length 0 i).set i (colV l (i : Nat) 0)) i ((0 : Nat) : Int)) (colsV l q l.length) := by
        refine Stops.count' (g := fun k (s : List Int × Int) => spec_l5Of.l1 k l q s.1 i s.2) (fun n => ((mixV l q l.length 0 i).set i (colV l (i : Nat) n), (n : Int))) l.length (A.round fun m a => ?_) fun n hn B => B.round fun m b => ?_
        · simp only [spec_l5Of.l1]; rw [if_neg (by omega), mixV_set l q _ _ i hi, e]; exact a
        · have e2 : wrap64 ((n : Int) + 1) = (n : Int) + 1 := w64 (by omega) (by omega)
          have hlen : (((mixV l q l.length 0 i).set i (colV l (i : Nat) n)).length : Int) = q := by rw [List.length_set, mixV_length]
          have hrd : rd ((mixV l q l.length 0 i).set i (colV l (i : Nat) n)) (i : Int) = colV l (i : Nat) n := by
            rw [rd_nat, List.getD_eq_getElem?_getD, List.getElem?_set_self (by rw [mixV_length]; exact hi)]; rfl
          simp only [spec_l5Of.l1]
          rw [if_pos (by omega), if_pos (by omega), if_pos (by rw [hlen]; omega), if_pos (by omega), hrd, rd_nat, Int.toNat_natCast, colV_step, List.set_set, e2]; exact b
      rw [show colV l (i : Nat) 0 = 0 from rfl, show (0 : Int) = colV l (i : Nat) 0 from rfl, mixV_same l q _ _ i hi] at I
      refine I.round fun m a => ?_
      simp only [spec_l5Of.l0]; rw [if_pos (by omega)]; exact a
  rw [mixV_zero, colsV_zero] at E
  refine E.same fun m a => ?_
  simp only [spec_l5Of.f, Int.toNat_natCast]; rw [if_pos (by omega), if_pos (by omega)]; exact a
theorem popN_zero (f : Nat) : popN f 0 = 0 := by
  induction f with
  | zero => rfl
  | succ f ih => simp [popN, ih]
theorem l5Apart_loop (f : Nat) : ∀ (x : Nat) (s : Int), x < 2 ^ f → f ≤ 14 → 0 ≤ s → s ≤ 1000 - (f : Int) → Stops (fun k => spec_l5Apart.l0 k s (x : Int)) (s + (popN f x : Int)) := by
  induction f with
  | zero =>
    intro x s h _ _ _
    refine Stops.now1 fun m => ?_
    simp only [spec_l5Apart.l0]
    rw [if_neg (by simp at h; omega)]
    simp [popN]
  | succ f ih =>
    intro x s h hf h0 h1
    by_cases hx : x = 0
    · subst hx
      refine Stops.now1 fun m => ?_
      simp only [spec_l5Apart.l0]
      rw [if_neg (by omega), popN_zero]
      simp
    · have hp : 2 ^ (f + 1) = 2 * 2 ^ f := by rw [Nat.pow_succ]; omega
      have hlim : 2 ^ (f + 1) ≤ 2 ^ 14 := Nat.pow_le_pow_right (by omega) hf
      have e1 : wrap64 (s + Go.bits .and .i64 (x : Int) 1) = s + ((x % 2 : Nat) : Int) := by
        rw [and1 x (by omega)]
        exact w64 (by omega) (by omega)
      have e2 : (x : Int) / 2 = ((x / 2 : Nat) : Int) := by omega
      refine (ih (x / 2) (s + ((x % 2 : Nat) : Int)) (by omega) (by omega) (by omega) (by omega)).round fun m a => ?_
      simp only [spec_l5Apart.l0, e1, e2]
      rw [if_pos (by omega), a, popN]
      congr 1
      push_cast
      omega
theorem spec_l5Apart.ev (a b : Int) (ha : 0 ≤ a ∧ a < 16384) (hb : 0 ≤ b ∧ b < 16384) : Stops (fun k => spec_l5Apart.f k a b) (apI a b) := by
  have hx := xor_nat ha.1 ha.2 hb.1 hb.2
  have E := l5Apart_loop 14 (a.toNat ^^^ b.toNat) 0 (by have := hx.2; omega) (by omega) (by omega) (by omega)
  refine E.same fun m e => ?_
  simp only [spec_l5Apart.f, hx.1]
  rw [e, apI, Int.zero_add]
theorem spec_l5Fit.ev (ws : List Int) (w m : Int) (hs : smallW ws) (hw : 0 ≤ w ∧ w < 16384) (h : ws.length ≤ 1000000) : Stops (fun k => spec_l5Fit.f k ws w m) (fitV ws w m ws.length) := by
  refine Stops.count' (g := fun k (x : List Int × Int) => spec_l5Fit.l0 k ws w m x.1 x.2) (fun i => (fitV ws w m i, (i : Int))) ws.length (Stops.now1 fun k => ?_) fun i hi A => ?_
  · simp only [spec_l5Fit.l0]; rw [if_neg (by omega)]
  · have ew : wrap64 ((i : Int) + 1) = ((i + 1 : Nat) : Int) := w64 (by omega) (by omega)
    have hlen := fitV_len ws w m i
    refine Evt.succ (A.and (spec_l5Apart.ev (rd ws i) w (smallW_at hs i hi) hw).evt) fun k ⟨a, b⟩ => ?_
    simp only [spec_l5Fit.l0, b, ew, Option.bind_some]
    rw [if_pos (by omega), if_pos (by omega)]
    simp only [fitV_succ] at a
    by_cases hc : apI (rd ws i) w ≤ m
    · rw [if_pos hc] at a
      rw [if_pos hc, if_pos (by omega)]
      exact a
    · rw [if_neg hc] at a
      rw [if_neg hc]
      exact a
theorem grW_small (n m : Int) (i : Nat) : ∀ x ∈ grW n m i, 0 ≤ x ∧ x < (i : Int) := by
  induction i with
  | zero => intro x hx; simp [grW] at hx
  | succ i ih =>
    intro x hx
    have hu : ∀ y ∈ grW n m i, 0 ≤ y ∧ y < ((i + 1 : Nat) : Int) := fun y hy => by have := ih y hy; omega
    unfold grW at hx
    split at hx
    · split at hx
      · exact hu x hx
      · rw [List.mem_append, List.mem_singleton] at hx
        rcases hx with hx | rfl
        · exact hu x hx
        · omega
    · exact hu x hx
theorem numsTo_nil (p : Int → Bool) (n : Nat) : (numsTo p n).length = 0 ↔ ∀ j : Nat, j < n → p (j : Int) = false := by
  induction n with
  | zero => simp [numsTo]
  | succ n ih =>
    unfold numsTo
    by_cases h : p (n : Int) = true
    · rw [if_pos h]
      constructor
      · intro g; simp at g
      · intro g; have := g n (by omega); rw [h] at this; cases this
    · rw [if_neg h, ih]
      constructor
      · intro g j hj
        by_cases e : j = n
        · subst e; simpa using h
        · exact g j (by omega)
      · intro g j hj; exact g j (by omega)
theorem fit_any (ws : List Int) (w M : Int) : ((fitV ws w M ws.length).length : Int) = 0 ↔ ws.any (fun x => decide (apI x w ≤ M)) = false := by
  have h := numsTo_nil (fun k => decide (apI (rd ws k) w ≤ M)) ws.length
  rw [show ((fitV ws w M ws.length).length : Int) = 0 ↔ (fitV ws w M ws.length).length = 0 by omega]
  unfold fitV
  rw [h, List.any_eq_false]
  constructor
  · intro g x hx
    obtain ⟨j, hj, rfl⟩ := List.getElem_of_mem hx
    have := g j hj
    rw [rd_at ws j hj] at this
    simpa using this
  · intro g j hj
    have := g ws[j] (List.getElem_mem hj)
    rw [rd_at ws j hj]
    simpa using this
theorem grW_stop (n m : Int) (i : Nat) (h : ¬ ((grW n m i).length : Int) < n) (d : Nat) : grW n m (i + d) = grW n m i := by
  induction d with
  | zero => rfl
  | succ d ih =>
    show grW n m (i + d + 1) = _
    rw [grW, ih, if_neg h]
theorem spec_l5Greedy.ev (n m : Int) (q : Nat) (hn : 1 ≤ n ∧ n ≤ 12) (hm : 0 ≤ m ∧ m ≤ 2) (hq : q ≤ 14) : Stops (fun k => spec_l5Greedy.f k n m (q : Int)) (grW n m (2 ^ q)) := by
  have hs : shl .i64 1 (q : Int) = ((2 ^ q : Nat) : Int) := by rw [shl_one (by omega) (by omega), Int.toNat_natCast]; push_cast; rfl
  have hp : 2 ^ q ≤ 2 ^ 14 := Nat.pow_le_pow_right (by omega) hq
  have hp0 : 0 < 2 ^ q := Nat.two_pow_pos q
  obtain ⟨M, hM⟩ : ∃ M, 2 ^ q = M + 1 := ⟨2 ^ q - 1, by omega⟩
  have e1 : grW n m 1 = [0] := by
    show (if (([] : List Int).length : Int) < n then (if ([] : List Int).any (fun x => decide (apI x 0 ≤ wrap64 (2 * m))) = true then ([] : List Int) else [] ++ [(0 : Int)]) else []) = [0]
    rw [if_pos (by simp; omega), if_neg (by simp)]; rfl
  have E : Stops (fun k => spec_l5Greedy.l0 k n m (q : Int) (grW n m 1) ((1 : Nat) : Int)) (grW n m (2 ^ q)) := by
    refine Stops.count' (g := fun k (s : List Int × Int) => spec_l5Greedy.l0 k n m (q : Int) s.1 s.2) (fun i => (grW n m (i + 1), ((i + 1 : Nat) : Int))) M ?_ fun i hi A => ?_
    · have J : Stops (fun k => spec_l5Greedy.j1 k n m (q : Int) (grW n m (M + 1)) ((M + 1 : Nat) : Int) false) (grW n m (2 ^ q)) := Stops.now1 fun k => by
        simp only [spec_l5Greedy.j1]; rw [if_neg (by simp), hM]
      refine J.round fun k a => ?_
      show spec_l5Greedy.l0 (k + 1) n m (q : Int) (grW n m (M + 1)) ((M + 1 : Nat) : Int) = _
      rw [spec_l5Greedy.l0, if_pos (by omega), hs, if_neg (by omega)]
      exact a
    · have ew : wrap64 (((i + 1 : Nat) : Int) + 1) = ((i + 1 + 1 : Nat) : Int) := w64 (by omega) (by omega)
      have hlen := grW_len n m (i + 1)
      by_cases hl : ((grW n m (i + 1)).length : Int) < n
      · have F := spec_l5Fit.ev (grW n m (i + 1)) ((i + 1 : Nat) : Int) (wrap64 (2 * m)) (fun x hx => by have := grW_small n m (i + 1) x hx; omega) ⟨by omega, by omega⟩ (by omega)
        have hf := fit_any (grW n m (i + 1)) ((i + 1 : Nat) : Int) (wrap64 (2 * m))
        have hstep : grW n m (i + 1 + 1) = if (grW n m (i + 1)).any (fun x => decide (apI x ((i + 1 : Nat) : Int) ≤ wrap64 (2 * m))) = true then grW n m (i + 1) else grW n m (i + 1) ++ [((i + 1 : Nat) : Int)] := by rw [grW, if_pos hl]
        rw [hstep] at A
        have J : Stops (fun k => spec_l5Greedy.j1 k n m (q : Int) (grW n m (i + 1)) ((i + 1 : Nat) : Int) true) (grW n m (2 ^ q)) := by
          refine Evt.succ (A.and F.evt) fun k ⟨a, b⟩ => ?_
          show spec_l5Greedy.j1 (k + 1) n m (q : Int) (grW n m (i + 1)) ((i + 1 : Nat) : Int) true = _
          rw [spec_l5Greedy.j1, if_pos rfl, b, Option.bind_some]
          by_cases h0 : ((fitV (grW n m (i + 1)) ((i + 1 : Nat) : Int) (wrap64 (2 * m)) (grW n m (i + 1)).length).length : Int) = 0
          · rw [if_pos h0, if_pos (by omega), ew]
            rw [hf.1 h0, if_neg (by simp)] at a
            exact a
          · rw [if_neg h0, ew]
            have h1 : (grW n m (i + 1)).any (fun x => decide (apI x ((i + 1 : Nat) : Int) ≤ wrap64 (2 * m))) = true := by
              cases hx : (grW n m (i + 1)).any (fun x => decide (apI x ((i + 1 : Nat) : Int) ≤ wrap64 (2 * m)))
              · exact absurd (hf.2 hx) h0
              · rfl
            rw [if_pos h1] at a
            exact a
        refine J.round fun k a => ?_
        show spec_l5Greedy.l0 (k + 1) n m (q : Int) (grW n m (i + 1)) ((i + 1 : Nat) : Int) = _
        rw [spec_l5Greedy.l0, if_pos (by omega), hs, if_pos (by omega), decide_eq_true hl]
        exact a
      · have he := grW_stop n m (i + 1) hl (2 ^ q - (i + 1))
        rw [show i + 1 + (2 ^ q - (i + 1)) = 2 ^ q by omega] at he
        have J : Stops (fun k => spec_l5Greedy.j1 k n m (q : Int) (grW n m (i + 1)) ((i + 1 : Nat) : Int) false) (grW n m (2 ^ q)) := Stops.now1 fun k => by
          simp only [spec_l5Greedy.j1]; rw [if_neg (by simp), he]
        refine J.round fun k a => ?_
        show spec_l5Greedy.l0 (k + 1) n m (q : Int) (grW n m (i + 1)) ((i + 1 : Nat) : Int) = _
        rw [spec_l5Greedy.l0, if_pos (by omega), hs, if_pos (by omega), decide_eq_false hl]
        exact a
  rw [e1] at E
  exact E
theorem spec_l1In.eq (a b c : Int) : spec_l1In.f a b c = some (decide (b ≤ a ∧ a ≤ c)) := by
  unfold spec_l1In.f; by_cases h : b ≤ a <;> simp [h]
theorem spec_l2Numbers.eq (a : Int) : spec_l2Numbers.f a = some (isN a) := by
  unfold spec_l2Numbers.f; rw [spec_l1In.eq]; rfl
theorem spec_GreedyScheme.ev (n m : Int) : Stops (fun k => spec_GreedyScheme.f k n m) (gsV n m) := by
  unfold gsV
  by_cases hs : (isN n && isM m) = true
  · rw [if_pos hs]
    rw [Bool.and_eq_true] at hs
    have hn := isN_bd hs.1
    have hm := isM_bd hs.2
    have L : ∀ d q : Nat, q + d = 15 → Stops (fun k => spec_GreedyScheme.l0 k n m (q : Int)) (gsL n m d q) := by
      intro d
      induction d with
      | zero =>
        intro q h
        refine Stops.now1 fun k => ?_
        rw [spec_GreedyScheme.l0, if_neg (by omega)]; rfl
      | succ d ih =>
        intro q h
        have ew : wrap64 ((q : Int) + 1) = ((q + 1 : Nat) : Int) := w64 (by omega) (by omega)
        have hlen := grW_len n m (2 ^ q)
        have hp : 2 ^ q ≤ 2 ^ 14 := Nat.pow_le_pow_right (by omega) (by omega)
        have O := spec_l5Of.ev (grW n m (2 ^ q)) (q : Int) (by omega) (by omega) (by omega)
        rw [Int.toNat_natCast] at O
        refine Evt.succ ((spec_l5Greedy.ev n m q hn hm (by omega)).and (O.and (ih (q + 1) (by omega)).evt)) fun k ⟨a, b, c⟩ => ?_
        show spec_GreedyScheme.l0 (k + 1) n m (q : Int) = _
        rw [spec_GreedyScheme.l0, if_pos (by omega), a, Option.bind_some, gsL]
        by_cases hl : ((grW n m (2 ^ q)).length : Int) = n
        · rw [if_pos hl, if_pos hl, b]; rfl
        · rw [if_neg hl, if_neg hl, ew]; exact c
    have J : Stops (fun k => spec_GreedyScheme.j0 k n m false) (gsL n m 15 0) := (L 15 0 (by omega)).round fun k a => by
      rw [spec_GreedyScheme.j0, if_neg (by simp)]; exact a
    refine J.same fun k a => ?_
    simp only [spec_GreedyScheme.f, spec_l2Numbers.eq, spec_l1In.eq, hs.1, Option.bind_some, if_true]
    rw [decide_eq_true hm]; exact a
  · rw [if_neg hs]
    have J : Stops (fun k => spec_GreedyScheme.j0 k n m true) ([], false) := Stops.now1 fun k => by rw [spec_GreedyScheme.j0, if_pos rfl]
    refine J.same fun k a => ?_
    simp only [spec_GreedyScheme.f, spec_l2Numbers.eq, spec_l1In.eq, Option.bind_some]
    cases h1 : isN n
    · simpa using a
    · have h2 : decide (0 ≤ m ∧ m ≤ 2) = false := by rw [h1] at hs; simpa [isM] using hs
      rw [h2]; simpa using a
theorem gsL_len (n m : Int) (d : Nat) : ∀ q, q + d ≤ 15 → (gsL n m d q).1.length ≤ 15 := by
  induction d with
  | zero => intro q _; simp [gsL]
  | succ d ih =>
    intro q h
    unfold gsL
    split
    · show (colsV (grW n m (2 ^ q)) q (grW n m (2 ^ q)).length).length ≤ _
      rw [colsV_length]; omega
    · exact ih (q + 1) (by omega)
theorem gsV_len (n m : Int) : (gsV n m).1.length ≤ 15 := by
  unfold gsV
  split
  · exact gsL_len n m 15 0 (by omega)
  · simp
theorem spec_l1Cur_one.tot (c : List Int) (hc : u8s c) (p s n : Int) (h0 : 0 ≤ p) (h1 : p ≤ 90000) : ∃ b p' s', spec_l1Cur_one.f c p s n = some (b, p', s') ∧ p ≤ p' ∧ p' ≤ p + 2 := by
  obtain ⟨r, p', s', e, _, _, a0, a1⟩ := spec_l1Cur_pick.tot c hc p s n h0 h1
  exact ⟨r == 0, p', s', by rw [spec_l1Cur_one.f, e]; rfl, a0, a1⟩
theorem scheme5_l1 (c : List Int) (p s : Int) (d : Nat) : ∀ x : List Int, x.length + d = 15 → ∃ l, Stops (fun k => spec_l1Cur_scheme5.l1 k x c p s) (l, p, s) ∧ l.length ≤ 15 := by
  induction d with
  | zero =>
    intro x hx
    refine ⟨x, Stops.now1 fun k => ?_, by omega⟩
    rw [spec_l1Cur_scheme5.l1, if_neg (by omega)]
  | succ d ih =>
    intro x hx
    obtain ⟨l, S, hl⟩ := ih (x ++ [1]) (by rw [List.length_append, List.length_singleton]; omega)
    refine ⟨l, S.round fun k a => ?_, hl⟩
    rw [spec_l1Cur_scheme5.l1, if_pos (by omega), if_pos (by omega)]
    exact a
theorem spec_l1Most.eq (a b : Int) : spec_l1Most.f a b = some (if a > b then a else b) := by unfold spec_l1Most.f; split <;> rfl
theorem spec_l1Least.eq (a b : Int) : spec_l1Least.f a b = some (if a < b then a else b) := by unfold spec_l1Least.f; split <;> rfl
theorem spec_l1Cur_question.tot (c : List Int) (hc : u8s c) (p s n : Int) (h0 : 0 ≤ p) (h1 : p ≤ 80000) : ∃ r p' s', spec_l1Cur_question.f c p s n = some (r, p', s') ∧ p ≤ p' ∧ p' ≤ p + 4 := by
  obtain ⟨b, p1, s1, e, a0, a1⟩ := spec_l1Cur_one.tot c hc p s 24 h0 (by omega)
  have hg : ∀ x : Int, 0 ≤ (if (0 : Int) > x then 0 else x) := fun x => by split <;> omega
  unfold spec_l1Cur_question.f
  rw [e, Option.bind_some]
  simp only [spec_l1Most.eq, spec_l1Least.eq, Option.bind_some]
  cases b
  · rw [if_neg (by simp), if_pos (hg _)]
    obtain ⟨r, p2, s2, e2, _, _, b0, b1⟩ := spec_l1Cur_pick.tot c hc p1 s1 (shl .i64 1 (if (0 : Int) > (if n < 12 then n else 12) then 0 else (if n < 12 then n else 12))) (by omega) (by omega)
    rw [e2]
    exact ⟨_, _, _, rfl, by simp only; omega, by simp only; omega⟩
  · rw [if_pos rfl, if_pos (hg _)]
    obtain ⟨r, p2, s2, e2, _, b0, b1⟩ := spec_l1Cur_among.tot c hc p1 s1 [(-1), shl .i64 1 (if (0 : Int) > (if n < 13 then n else 13) then 0 else (if n < 13 then n else 13)), 4611686018427387904] (by simp) (by omega) (by omega)
    rw [e2]
    exact ⟨_, _, _, rfl, by simp only; omega, by simp only; omega⟩
theorem scheme5_l0 (c : List Int) (hc : u8s c) (n : Int) (m : Nat) : ∀ (x : List Int) (p s : Int), x.length + m ≤ 14 → 0 ≤ p → p + 4 * m ≤ 75000 → ∃ l p' s', Stops (fun k => spec_l1Cur_scheme5.l0 k n x (m : Int) c p s) (l, p', s') ∧ l.length ≤ 15 ∧ p ≤ p' ∧ p' ≤ p + 4 * m + 2 := by
  induction m with
  | zero =>
    intro x p s hx h0 h1
    obtain ⟨b, p1, s1, e, a0, a1⟩ := spec_l1Cur_one.tot c hc p s 40 h0 (by omega)
    cases b
    · refine ⟨x, p1, s1, Stops.now1 fun k => ?_, by omega, a0, by omega⟩
      rw [spec_l1Cur_scheme5.l0, if_neg (by omega), e, Option.bind_some, if_neg (by simp)]
    · obtain ⟨l, S, hl⟩ := scheme5_l1 c p1 s1 (15 - x.length) x (by omega)
      refine ⟨l, p1, s1, S.round fun k a => ?_, hl, a0, by omega⟩
      rw [spec_l1Cur_scheme5.l0, if_neg (by omega), e, Option.bind_some, if_pos rfl]
      exact a
  | succ m ih =>
    intro x p s hx h0 h1
    obtain ⟨r, p1, s1, e, a0, a1⟩ := spec_l1Cur_question.tot c hc p s n h0 (by omega)
    obtain ⟨l, p2, s2, S, hl, b0, b1⟩ := ih (x ++ [r]) p1 s1 (by rw [List.length_append, List.length_singleton]; omega) (by omega) (by omega)
    have ew : wrap64 (((m + 1 : Nat) : Int) - 1) = (m : Int) := by rw [w64 (by omega) (by omega)]; omega
    refine ⟨l, p2, s2, S.round fun k a => ?_, hl, by omega, by omega⟩
    rw [spec_l1Cur_scheme5.l0, if_pos (by omega), e, Option.bind_some, if_pos (by omega), ew]
    exact a
theorem scheme5_j0 (c : List Int) (hc : u8s c) (n : Int) (p s : Int) (h0 : 0 ≤ p) (h1 : p ≤ 74000) : ∃ l p' s', Stops (fun k => spec_l1Cur_scheme5.j0 k n [] c p s) (l, p', s') ∧ l.length ≤ 15 ∧ p ≤ p' ∧ p' ≤ p + 60 := by
  obtain ⟨r, p1, s1, e, hm, a0, a1⟩ := spec_l1Cur_among.tot c hc p s ([3, 4, 2, 6, 1, 0, 9, 14] : List Int) (by decide) h0 (by omega)
  have hb : ∀ x ∈ ([3, 4, 2, 6, 1, 0, 9, 14] : List Int), 0 ≤ x ∧ x ≤ 14 := by decide
  have hr := hb r hm
  obtain ⟨m, rfl⟩ := Int.eq_ofNat_of_zero_le hr.1
  obtain ⟨l, p2, s2, S, hl, b0, b1⟩ := scheme5_l0 c hc n m [] p1 s1 (by simp; omega) (by omega) (by omega)
  refine ⟨l, p2, s2, S.round fun k a => ?_, hl, by omega, by omega⟩
  rw [spec_l1Cur_scheme5.j0, e, Option.bind_some]
  exact a
def wordsUp (n : Nat) : List Int := numsTo (fun _ => true) n
def bitQ (n : Int) : Int := (_root_.Go.Lib.bitLen (n - 1).toNat : Int)
def bitV (n : Int) : List Int × Bool := if isN n = true then (colsV (wordsUp n.toNat) (bitQ n).toNat n.toNat, true) else ([], false)
theorem bitQ_facts : ∀ n : Fin 13, 1 ≤ n.val → (∀ i : Fin 5, i.val < _root_.Go.Lib.bitLen (n.val - 1) → 2 ^ i.val < n.val) ∧ ¬ 2 ^ (_root_.Go.Lib.bitLen (n.val - 1)) < n.val ∧ _root_.Go.Lib.bitLen (n.val - 1) ≤ 4 := by decide +kernel
theorem wordsUp_length (n : Nat) : (wordsUp n).length = n := by
  induction n with
  | zero => rfl
  | succ n ih => simp only [wordsUp, numsTo, if_true, List.length_append, List.length_singleton] at ih ⊢; omega
theorem spec_BitScheme.ev (n : Int) : Stops (fun k => spec_BitScheme.f k n) (bitV n) := by
  unfold bitV
  cases hn : isN n
  · refine Evt.true.mono fun m _ => ?_
    simp [spec_BitScheme.f, spec_l2Numbers.eq, hn]
  · have hb := isN_bd hn
    obtain ⟨N, rfl⟩ := Int.eq_ofNat_of_zero_le (show 0 ≤ n by omega)
    obtain ⟨f1, f2, f3⟩ := bitQ_facts ⟨N, by omega⟩ (show 1 ≤ N by omega)
    simp only at f1 f2 f3
    have e : ((N : Int) - 1).toNat = N - 1 := by omega
    have L : Stops (fun k => spec_BitScheme.l1 k (N : Int) (wordsUp N) 0) (colsV (wordsUp N) (bitQ N).toNat N, true) := by
      refine Stops.count' (g := fun k (s : Int) => spec_BitScheme.l1 k (N : Int) (wordsUp N) s) (fun i => (i : Int)) (_root_.Go.Lib.bitLen (N - 1)) ?_ fun i hi A => ?_
      · have S := spec_l5Of.ev (wordsUp N) (bitQ N) (by unfold bitQ; omega) (by unfold bitQ; rw [e]; omega) (by rw [wordsUp_length]; omega)
        rw [wordsUp_length] at S
        refine S.round fun m a => ?_
        simp only [spec_BitScheme.l1]
        have g : ¬ shl .i64 1 ((_root_.Go.Lib.bitLen (N - 1) : Nat) : Int) < (N : Int) := by
          rw [shl_one (by omega) (by omega), Int.toNat_natCast]
          intro h; apply f2; exact_mod_cast h
        rw [if_pos (by omega), if_neg g]
        have e2 : bitQ (N : Int) = ((_root_.Go.Lib.bitLen (N - 1) : Nat) : Int) := by unfold bitQ; rw [e]
        rw [e2] at a ⊢
        rw [a, Option.bind_some]
      · have ew : wrap64 ((i : Int) + 1) = ((i + 1 : Nat) : Int) := w64 (by omega) (by omega)
        refine A.round fun m a => ?_
        simp only [spec_BitScheme.l1]
        have g : shl .i64 1 (i : Int) < (N : Int) := by
          rw [shl_one (by omega) (by omega), Int.toNat_natCast]
          have := f1 ⟨i, by omega⟩ hi
          exact_mod_cast this
        rw [if_pos (by omega), if_pos g, ew]
        exact a
    have W : Stops (fun k => spec_BitScheme.l0 k (N : Int) [] 0 0) (colsV (wordsUp N) (bitQ N).toNat N, true) := by
      refine Stops.count (g := fun k (s : List Int × Int) => spec_BitScheme.l0 k (N : Int) s.1 0 s.2) (fun i => (wordsUp i, (i : Int))) N (L.round fun m a => ?_) fun i hi m => ?_
      · simp only [spec_BitScheme.l0]; rw [if_neg (by omega)]; exact a
      · have ew : wrap64 ((i : Int) + 1) = ((i + 1 : Nat) : Int) := w64 (by omega) (by omega)
        have := wordsUp_length i
        simp only [spec_BitScheme.l0, ew]
        rw [if_pos (by omega), if_pos (by omega)]
        rfl
    refine W.same fun m a => ?_
    simp only [spec_BitScheme.f, spec_l2Numbers.eq, hn, Option.bind_some, if_true]
    exact a
theorem bitV_len (n : Int) : (bitV n).1.length ≤ 4 := by
  unfold bitV
  split
  · rename_i h
    have hb := isN_bd h
    obtain ⟨f1, f2, f3⟩ := bitQ_facts ⟨n.toNat, by omega⟩ (show 1 ≤ n.toNat by omega)
    simp only at f3
    have e : (n - 1).toNat = n.toNat - 1 := by omega
    show (colsV (wordsUp n.toNat) (bitQ n).toNat n.toNat).length ≤ 4
    rw [colsV_length]
    unfold bitQ
    rw [e]
    omega
  · simp
theorem spec_l1Cur_scheme5.tot (c : List Int) (hc : u8s c) (p s n : Int) (h0 : 0 ≤ p) (h1 : p ≤ 70000) : ∃ l p' s', Stops (fun k => spec_l1Cur_scheme5.f k c p s n) (l, p', s') ∧ l.length ≤ 15 ∧ p ≤ p' ∧ p' ≤ p + 100 := by
  obtain ⟨r, p1, s1, e, r0, r1, a0, a1⟩ := spec_l1Cur_pick.tot c hc p s 4 h0 (by omega)
  by_cases c0 : r = 0
  · obtain ⟨r2, p2, s2, e2, _, _, b0, b1⟩ := spec_l1Cur_pick.tot c hc p1 s1 3 (by omega) (by omega)
    have G := spec_GreedyScheme.ev n r2
    have hl := gsV_len n r2
    generalize gsV n r2 = v at G hl
    obtain ⟨v, b⟩ := v
    cases b
    · obtain ⟨l, p3, s3, S, hl3, d0, d1⟩ := scheme5_j0 c hc n p2 s2 (by omega) (by omega)
      refine ⟨l, p3, s3, (G.and S.evt).mono fun k ⟨g, a⟩ => ?_, hl3, by omega, by omega⟩
      simp only [spec_l1Cur_scheme5.f, Option.bind_some, e, if_pos c0, e2, g]
      exact a
    · refine ⟨v, p2, s2, G.same fun k g => ?_, hl, by omega, by omega⟩
      simp only [spec_l1Cur_scheme5.f, Option.bind_some, e, if_pos c0, e2, g, if_true]
  · by_cases c1 : r = 1
    · have G := spec_BitScheme.ev n
      have hl := bitV_len n
      generalize bitV n = v at G hl
      obtain ⟨v, b⟩ := v
      cases b
      · obtain ⟨l, p3, s3, S, hl3, d0, d1⟩ := scheme5_j0 c hc n p1 s1 (by omega) (by omega)
        refine ⟨l, p3, s3, (G.and S.evt).mono fun k ⟨g, a⟩ => ?_, hl3, by omega, by omega⟩
        simp only [spec_l1Cur_scheme5.f, Option.bind_some, e, if_neg c0, if_pos c1, g]
        exact a
      · obtain ⟨b, p2, s2, e2, b0, b1⟩ := spec_l1Cur_one.tot c hc p1 s1 2 (by omega) (by omega)
        simp only at hl
        cases b
        · refine ⟨v, p2, s2, G.same fun k g => ?_, by omega, by omega, by omega⟩
          simp only [spec_l1Cur_scheme5.f, Option.bind_some, e, if_neg c0, if_pos c1, g, e2, if_true]
          rfl
        · obtain ⟨x, p3, s3, e3, d0, d1⟩ := spec_l1Cur_question.tot c hc p2 s2 n (by omega) (by omega)
          refine ⟨v ++ [x], p3, s3, G.same fun k g => ?_, by rw [List.length_append, List.length_singleton]; omega, by omega, by omega⟩
          simp only [spec_l1Cur_scheme5.f, Option.bind_some, e, if_neg c0, if_pos c1, g, e2, e3, if_true]
          rw [if_pos (by omega)]
    · obtain ⟨l, p3, s3, S, hl3, d0, d1⟩ := scheme5_j0 c hc n p1 s1 (by omega) (by omega)
      refine ⟨l, p3, s3, S.same fun k a => ?_, hl3, by omega, by omega⟩
      simp only [spec_l1Cur_scheme5.f, Option.bind_some, e, if_neg c0, if_neg c1]
      exact a
theorem spec_l2Asks.eq (n q : Int) : spec_l2Asks.f n q = some (isQ n q) := by
  unfold spec_l2Asks.f isQ; rw [spec_l2Numbers.eq, spec_l1In.eq]
  cases h : isN n
  · simp
  · have := isN_bd h
    simp [show 0 ≤ n by omega]
theorem spec_l5Scheme.ev (n : Int) (l : List Int) (h : l.length ≤ 35184372088832) : Stops (fun k => spec_l5Scheme.f k n l) (isSch n l) := by
  have e : isSch n l = chkV (fun x => isQ n x) (isN n && decide (l.length ≤ 14)) 14 l 0 := by
    rw [chkV_eq _ _ _ _ _ (fun g => by rw [Bool.and_eq_true, decide_eq_true_eq] at g; omega)]
    simp [isSch, List.all_eq_not_any_not]
  have hd : decide ((l.length : Int) ≤ 14) = decide (l.length ≤ 14) := by simp only [decide_eq_decide]; omega
  rw [e]
  have E := Stops.over0 l (fun k (i : Nat) (s : Unit) => spec_l5Scheme.l0 k n l (i : Int)) (fun t s => chkV (fun x => isQ n x) (isN n && decide (l.length ≤ 14)) 14 t (l.length - t.length)) () ?_ ?_
  · rw [Nat.sub_self] at E; exact E
  · intro s
    refine ⟨2, fun q hq => ?_⟩
    obtain ⟨k, rfl⟩ : ∃ k, q = k + 2 := ⟨q - 2, by omega⟩
    simp only [spec_l5Scheme.l0, spec_l5Scheme.j1, spec_l2Numbers.eq]; rw [if_neg (by omega), if_neg (by simp), hd]
    cases isN n <;> rfl
  · intro i hi s A
    have ew : wrap64 ((i : Int) + 1) = ((i + 1 : Nat) : Int) := w64 (by omega) (by omega)
    have ed : l.length - (l[i] :: l.drop (i + 1)).length = i := by simp; omega
    have ed2 : l.length - (l.drop (i + 1)).length = i + 1 := by simp; omega
    have A := A ()
    simp only [ed, ed2] at A ⊢
    by_cases hc : i ≤ 14
    · cases hp : isQ n l[i]
      · refine ⟨2, fun q hq => ?_⟩
        obtain ⟨k, rfl⟩ : ∃ k, q = k + 2 := ⟨q - 2, by omega⟩
        simp only [spec_l5Scheme.l0, spec_l5Scheme.j1, rd_at l i hi, spec_l2Asks.eq]
        rw [if_pos (by omega), decide_eq_true (show (i : Int) ≤ 14 by omega), if_pos (by trivial), if_pos (by omega), if_pos (by omega), hp, Option.bind_some]; simp [chkV, hc, hp]
      · have A1 : Stops (fun k => spec_l5Scheme.j1 k n l (i : Int) true) (chkV (fun x => isQ n x) (isN n && decide (l.length ≤ 14)) 14 (l[i] :: l.drop (i + 1)) i) := A.round fun k a => by
          simp only [spec_l5Scheme.j1, rd_at l i hi, spec_l2Asks.eq]
          rw [if_pos trivial, if_pos (by omega), if_pos (by omega), hp, Option.bind_some, if_pos (by trivial), ew, chkV, if_pos hc, if_pos hp]; exact a
        exact A1.round fun k a => by
          simp only [spec_l5Scheme.l0]; rw [if_pos (by omega), decide_eq_true (by omega)]; exact a
    · refine ⟨2, fun q hq => ?_⟩
      obtain ⟨k, rfl⟩ : ∃ k, q = k + 2 := ⟨q - 2, by omega⟩
      simp only [spec_l5Scheme.l0, spec_l5Scheme.j1, spec_l2Numbers.eq]
      rw [if_pos (by omega), decide_eq_false (show ¬ (i : Int) ≤ 14 by omega), chkV, if_neg hc, if_neg (by simp), hd]
      cases isN n <;> rfl
theorem spec_l5True.ev (l : List Int) (k : Int) (h0 : 0 ≤ k) (hl : l.length ≤ 35184372088832) : Stops (fun n => spec_l5True.f n l k) (twV l k l.length) := by
  refine Stops.count (g := fun n (s : Int × Int) => spec_l5True.l0 n l k s.1 s.2) (fun i => (twV l k i, (i : Int))) l.length (Stops.now1 fun m => ?_) fun i hi m => ?_
  · simp only [spec_l5True.l0]; rw [if_neg (by omega)]
  · have e : wrap64 ((i : Int) + 1) = (i : Int) + 1 := w64 (by omega) (by omega)
    simp only [spec_l5True.l0]; rw [if_pos (by omega), if_pos (by omega), if_pos (by omega), rd_nat, twV_step, e]; rfl
theorem word5_l0 (c : List Int) (hc : u8s c) (m : Int) (d : Nat) : ∀ (w p s : Int), d ≤ 10 → 0 ≤ p → p + 2 * d ≤ 80000 → ∃ v p' s', Stops (fun k => spec_l1Cur_word5.l0 k m w (d : Int) c p s) (v, p', s') ∧ p ≤ p' ∧ p' ≤ p + 2 * d := by
  induction d with
  | zero =>
    intro w p s _ h0 h1
    refine ⟨w, p, s, Stops.now1 fun k => ?_, by omega, by omega⟩
    simp only [spec_l1Cur_word5.l0]
    rw [if_neg (by omega)]
  | succ d ih =>
    intro w p s hd h0 h1
    by_cases hm : m > 0
    · obtain ⟨r, p1, s1, e, r0, _, a0, a1⟩ := spec_l1Cur_pick.tot c hc p s m h0 (by omega)
      obtain ⟨v, p2, s2, S, b0, b1⟩ := ih (Go.bits .xor .i64 w (shl .i64 1 r)) p1 s1 (by omega) (by omega) (by omega)
      have ew : wrap64 (((d + 1 : Nat) : Int) - 1) = (d : Int) := by rw [w64 (by omega) (by omega)]; omega
      refine ⟨v, p2, s2, S.round fun k a => ?_, by omega, by omega⟩
      simp only [spec_l1Cur_word5.l0]
      rw [if_pos (by omega), if_pos hm, e, Option.bind_some]
      simp only
      rw [if_pos r0, ew]
      exact a
    · refine ⟨w, p, s, Stops.now1 fun k => ?_, by omega, by omega⟩
      simp only [spec_l1Cur_word5.l0]
      rw [if_pos (by omega), if_neg hm]
theorem word5_j0 (c : List Int) (hc : u8s c) (n : Int) (l : List Int) (hl : l.length ≤ 15) (b : Bool) (p s : Int) (h0 : 0 ≤ p) (h1 : p ≤ 74000) : ∃ v p' s', Stops (fun k => spec_l1Cur_word5.j0 k n l (l.length : Int) b c p s) (v, p', s') ∧ p ≤ p' ∧ p' ≤ p + 30 := by
  cases b
  · obtain ⟨r, p1, s1, e, r0, _, a0, a1⟩ := spec_l1Cur_pick.tot c hc p s n h0 (by omega)
    have T := spec_l5True.ev l r r0 (by omega)
    obtain ⟨d, p2, s2, e2, d0, d1, b0, b1⟩ := spec_l1Cur_pick.tot c hc p1 s1 3 (by omega) (by omega)
    have d1 := d1 (by omega)
    obtain ⟨d, rfl⟩ := Int.eq_ofNat_of_zero_le d0
    obtain ⟨v, p3, s3, S, c0, c1⟩ := word5_l0 c hc (l.length : Int) d (twV l r l.length) p2 s2 (by omega) (by omega) (by omega)
    refine ⟨v, p3, s3, (T.and S.evt).succ fun k ⟨t, a⟩ => ?_, by omega, by omega⟩
    show spec_l1Cur_word5.j0 (k + 1) n l (l.length : Int) false c p s = _
    simp only [spec_l1Cur_word5.j0]
    rw [if_neg (by simp), e, Option.bind_some]
    simp only [t, e2, Option.bind_some]
    exact a
  · have hg : 0 ≤ (if (l.length : Int) < 14 then (l.length : Int) else 14) := by split <;> omega
    obtain ⟨r, p1, s1, e, r0, _, a0, a1⟩ := spec_l1Cur_pick.tot c hc p s (shl .i64 1 (if (l.length : Int) < 14 then (l.length : Int) else 14)) h0 (by omega)
    refine ⟨r, p1, s1, Stops.now1 fun k => ?_, by omega, by omega⟩
    show spec_l1Cur_word5.j0 (k + 1) n l (l.length : Int) true c p s = _
    rw [spec_l1Cur_word5.j0, if_pos rfl, spec_l1Least.eq, Option.bind_some, if_pos hg, e, Option.bind_some]
theorem spec_l1Cur_word5.tot (c : List Int) (hc : u8s c) (n : Int) (l : List Int) (hl : l.length ≤ 15) (p s : Int) (h0 : 0 ≤ p) (h1 : p ≤ 70000) : ∃ v p' s', Stops (fun k => spec_l1Cur_word5.f k c p s n l) (v, p', s') ∧ p ≤ p' ∧ p' ≤ p + 100 := by
  obtain ⟨b, p1, s1, e, a0, a1⟩ := spec_l1Cur_one.tot c hc p s 24 h0 (by omega)
  cases b
  · have S := spec_l5Scheme.ev n l (by omega)
    cases hs : isSch n l
    · obtain ⟨v, p2, s2, J, b0, b1⟩ := word5_j0 c hc n l hl true p1 s1 (by omega) (by omega)
      rw [hs] at S
      refine ⟨v, p2, s2, (S.and J.evt).mono fun k ⟨g, a⟩ => ?_, by omega, by omega⟩
      simp only [spec_l1Cur_word5.f, e, Option.bind_some, g, Bool.false_eq_true, if_false]
      exact a
    · obtain ⟨b, p2, s2, e2, b0, b1⟩ := spec_l1Cur_one.tot c hc p1 s1 3 (by omega) (by omega)
      obtain ⟨v, p3, s3, J, c0, c1⟩ := word5_j0 c hc n l hl b p2 s2 (by omega) (by omega)
      rw [hs] at S
      refine ⟨v, p3, s3, (S.and J.evt).mono fun k ⟨g, a⟩ => ?_, by omega, by omega⟩
      simp only [spec_l1Cur_word5.f, e, Option.bind_some, g, Bool.false_eq_true, if_false, if_true, e2]
      exact a
  · have hg : 0 ≤ (if (l.length : Int) < 20 then (l.length : Int) else 20) := by split <;> omega
    obtain ⟨r, p2, s2, e2, _, b0, b1⟩ := spec_l1Cur_among.tot c hc p1 s1 [(-1), shl .i64 1 (if (l.length : Int) < 20 then (l.length : Int) else 20), 4611686018427387904] (by simp) (by omega) (by omega)
    refine ⟨r, p2, s2, Evt.true.mono fun k _ => ?_, by omega, by omega⟩
    show spec_l1Cur_word5.f k c p s n l = _
    simp only [spec_l1Cur_word5.f, e, Option.bind_some, if_true, spec_l1Least.eq]
    rw [if_pos hg, e2, Option.bind_some]
theorem spec_DrawNearNumbers.tot (c : List Int) (hc : u8s c) : ∃ n l w, Stops (fun k => spec_DrawNearNumbers.f k c) (n, l, w) ∧ 0 ≤ n ∧ n ≤ 13 ∧ l.length ≤ 15 := by
  obtain ⟨t1, t2, t3, e1, h0, h1, a0, a1⟩ := spec_l1Cur_many.tot c hc 0 0 (by omega) (by omega)
  obtain ⟨l, s2, s3, S, hl, b0, b1⟩ := spec_l1Cur_scheme5.tot c hc t2 t3 t1 (by omega) (by omega)
  obtain ⟨v, p2, p3, V, d0, d1⟩ := spec_l1Cur_word5.tot c hc t1 l hl s2 s3 (by omega) (by omega)
  refine ⟨t1, l, v, (S.and V.evt).mono fun k ⟨a, b⟩ => ?_, h0, h1, hl⟩
  simp only [spec_DrawNearNumbers.f, e1, a, b, Option.bind_some]
theorem laws_vCut.eq (c : List Int) (n : Nat) (hc : u8s c) (h : c.length ≤ 65536) (hn : n ≤ 10) : ∃ c', laws_vCut.f c (n : Int) = some c' ∧ u8s c' := by
  have hd : ∀ m : Nat, ∀ x : Int, 0 ≤ x → x < 256 → u8s ([] ++ c.drop m ++ [x]) := fun m x hx0 hx1 y hy => by
    rw [List.nil_append, List.mem_append, List.mem_singleton] at hy
    rcases hy with hy | rfl
    · exact hc y (List.mem_of_mem_drop hy)
    · omega
  have hln : ∀ m : Nat, (c.drop m).length ≤ 65536 := fun m => by rw [List.length_drop]; omega
  unfold laws_vCut.f
  by_cases h1 : (n : Int) > (c.length : Int)
  · have := hln c.length
    rw [if_pos h1]
    simp only [Option.bind_some, Int.toNat_natCast]
    rw [if_pos (by omega), if_pos (by omega), if_pos (by simp only [List.length_nil]; omega), if_pos (by rw [List.length_append, List.length_nil]; omega)]
    exact ⟨_, rfl, hd _ _ (by omega) (by omega)⟩
  · have := hln n
    rw [if_neg h1]
    simp only [Option.bind_some, Int.toNat_natCast]
    rw [if_pos (by omega), if_pos (by omega), if_pos (by simp only [List.length_nil]; omega), if_pos (by rw [List.length_append, List.length_nil]; omega)]
    exact ⟨_, rfl, hd _ _ (by omega) (by omega)⟩
/-- Five or more of a list of seven. -/
theorem cut_bd (p : Int) (h0 : 0 ≤ p) (h1 : p < 24) : 5 ≤ wrap64 (5 + wrap64 (Int.tdiv p 11)) ∧ wrap64 (5 + wrap64 (Int.tdiv p 11)) ≤ 7 := by
  have h : ∀ x : Fin 24, 5 ≤ wrap64 (5 + wrap64 (Int.tdiv (x.val : Int) 11)) ∧ wrap64 (5 + wrap64 (Int.tdiv (x.val : Int) 11)) ≤ 7 := by decide +kernel
  obtain ⟨p, rfl⟩ := Int.eq_ofNat_of_zero_le h0
  exact h ⟨p, by omega⟩
theorem spec_DrawFitNumbers.tot (c : List Int) (hc : u8s c) : ∃ n l w m, Stops (fun k => spec_DrawFitNumbers.f k c) (n, l, w, m) ∧ 0 ≤ n ∧ n ≤ 13 ∧ l.length ≤ 15 := by
  obtain ⟨t1, t2, t3, e1, h0, h1, a0, a1⟩ := spec_l1Cur_many.tot c hc 0 0 (by omega) (by omega)
  obtain ⟨l, s2, s3, S, hl, b0, b1⟩ := spec_l1Cur_scheme5.tot c hc t2 t3 t1 (by omega) (by omega)
  obtain ⟨v, p2, p3, V, d0, d1⟩ := spec_l1Cur_word5.tot c hc t1 l hl s2 s3 (by omega) (by omega)
  obtain ⟨x1, x2, x3, e3, i0, i1, g0, g1⟩ := spec_l1Cur_pick.tot c hc p2 p3 24 (by omega) (by omega)
  have hb := cut_bd x1 i0 (i1 (by omega))
  obtain ⟨N, hN⟩ : ∃ N, N = wrap64 (5 + wrap64 (Int.tdiv x1 11)) := ⟨_, rfl⟩
  rw [← hN] at hb
  obtain ⟨y1, y2, y3, e4, _, f0, f1⟩ := spec_l1Cur_among.tot c hc x2 x3 (([1, 2, 0, 3, 14, 15, -1] : List Int).take N.toNat) (by rw [List.length_take, show ([1, 2, 0, 3, 14, 15, -1] : List Int).length = 7 from rfl]; omega) (by omega) (by omega)
  refine ⟨t1, l, v, y1, (S.and V.evt).mono fun k ⟨a, b⟩ => ?_, h0, h1, hl⟩
  simp only [spec_DrawFitNumbers.f, e1, a, b, e3, Option.bind_some, ← hN, e4]
  rw [if_pos ⟨by omega, by omega⟩]
/-- The reference's running least: it starts above all. -/
def spL (p : Int → Int) (top : Int) : Nat → Int × List Int
  | 0 => (top, [])
  | i + 1 => leastV p (i + 1)
theorem spL_len (p : Int → Int) (top : Int) (i : Nat) : (spL p top i).2.length ≤ i := by
  cases i with
  | zero => exact Nat.le_refl _
  | succ i => exact leastV_len p (i + 1)
theorem spL_step (p : Int → Int) (top : Int) (i : Nat) (h : p (i : Int) < top) : spL p top (i + 1) = if p (i : Int) < (spL p top i).1 then (p (i : Int), [(i : Int)]) else if p (i : Int) = (spL p top i).1 then ((spL p top i).1, (spL p top i).2 ++ [(i : Int)]) else spL p top i := by
  cases i with
  | zero =>
    show leastV p 1 = if p ((0 : Nat) : Int) < top then _ else _
    rw [if_pos h]
    simp [leastV]
  | succ i =>
    have := leastV_pos p i
    show leastV p (i + 1 + 1) = _
    rw [leastV]
    show (if _ ∨ _ then _ else _) = if p ((i + 1 : Nat) : Int) < (leastV p (i + 1)).1 then _ else if p ((i + 1 : Nat) : Int) = (leastV p (i + 1)).1 then _ else leastV p (i + 1)
    by_cases h1 : p ((i + 1 : Nat) : Int) < (leastV p (i + 1)).1
    · rw [if_pos (Or.inr h1), if_pos h1]
    · rw [if_neg (by rintro (g | g); exact this g; exact h1 g), if_neg h1]
      rfl
theorem spec_l5Near.ev (ws : List Int) (w : Int) (hs : smallW ws) (hw : 0 ≤ w ∧ w < 16384) (h : ws.length ≤ 1000000) : Stops (fun k => spec_l5Near.f k ws w) ((spL (nnP ws w) 15 ws.length).2, (spL (nnP ws w) 15 ws.length).1) := by
  refine Stops.count' (g := fun k (s : (Int × List Int) × Int) => spec_l5Near.l0 k ws w s.1.2 s.1.1 s.2) (fun i => (spL (nnP ws w) 15 i, (i : Int))) ws.length (Stops.now1 fun k => ?_) fun i hi A => ?_
  · simp only [spec_l5Near.l0]; rw [if_neg (by omega)]
  · have ew : wrap64 ((i : Int) + 1) = ((i + 1 : Nat) : Int) := w64 (by omega) (by omega)
    have hp : nnP ws w (i : Int) < 15 := by
      have := apI_bd (rd ws (i : Int)) w
      unfold nnP; omega
    have hl := spL_len (nnP ws w) 15 i
    refine Evt.succ (A.and (spec_l5Apart.ev (rd ws i) w (smallW_at hs i hi) hw).evt) fun k ⟨a, b⟩ => ?_
    rw [show apI (rd ws (i : Int)) w = nnP ws w (i : Int) from rfl] at b
    rw [spL_step _ _ _ hp] at a
    show spec_l5Near.l0 (k + 1) ws w (spL (nnP ws w) 15 i).2 (spL (nnP ws w) 15 i).1 (i : Int) = _
    rw [spec_l5Near.l0, if_pos (by omega), if_pos (by omega), b, Option.bind_some, ew]
    by_cases h1 : nnP ws w (i : Int) < (spL (nnP ws w) 15 i).1
    · rw [if_pos h1] at a ⊢
      rw [Option.bind_some, if_pos rfl, if_pos (by simp)]
      exact a
    · rw [if_neg h1] at a ⊢
      by_cases h2 : nnP ws w (i : Int) = (spL (nnP ws w) 15 i).1
      · rw [if_pos h2] at a ⊢
        rw [if_pos (by omega)]
        exact a
      · rw [if_neg h2] at a ⊢
        exact a
theorem spec_l5Words.ev (n : Int) (l : List Int) (h0 : 0 ≤ n) (h1 : n ≤ 1000) (hl : l.length ≤ 35184372088832) : Stops (fun k => spec_l5Words.f k n l) (wordsV l n.toNat) := by
  refine Stops.count' (g := fun k (s : List Int × Int) => spec_l5Words.l0 k n l s.1 s.2) (fun i => (wordsV l i, (i : Int))) n.toNat (Stops.now1 fun m => ?_) fun i hi A => ?_
  · simp only [spec_l5Words.l0]; rw [if_neg (by omega)]
  · have e : wrap64 ((i : Int) + 1) = (i : Int) + 1 := w64 (by omega) (by omega)
    have hw := wordsV_length l i
    refine Evt.succ (A.and (spec_l5True.ev l i (by omega) hl).evt) fun m ⟨a, b⟩ => ?_
    simp only [spec_l5Words.l0]
    rw [if_pos (by omega), show spec_l5True.f m l i = _ from b, Option.bind_some, if_pos (by omega), e]; exact a
theorem spec_l5Word.eq (w : Int) (n : Int) (h : 0 ≤ n) : spec_l5Word.f w n = some (decide (0 ≤ w ∧ w ≤ wrap64 (shl .i64 1 n - 1))) := by
  unfold spec_l5Word.f
  rw [if_pos h, spec_l1In.eq]
  rfl
theorem spec_NearNumbers.ev (n : Int) (l : List Int) (w : Int) (h : l.length ≤ 35184372088832) : Stops (fun k => spec_NearNumbers.f k n l w) (nnV n l w) := by
  unfold nnV
  have S1 : Evt (fun k => spec_l5Scheme.f (k + 1) n l = some (isSch n l)) := by
    obtain ⟨K, g⟩ := spec_l5Scheme.ev n l h
    exact ⟨K, fun j hj => g (j + 1) (by omega)⟩
  by_cases hs : isSch n l = true
  · have hb := isSch_bd hs
    by_cases hw : 0 ≤ w ∧ w ≤ wrap64 (shl .i64 1 (l.length : Int) - 1)
    · have F := spec_l5Near.ev (wordsV l n.toNat) w (wordsV_small l hb.2.2.1 _) (word_bd hb.2.2.1 hw) (by rw [wordsV_length]; omega)
      rw [wordsV_length] at F
      have en : spL (nnP (wordsV l n.toNat) w) 15 n.toNat = leastV (nnP (wordsV l n.toNat) w) n.toNat := by
        obtain ⟨j, hj⟩ : ∃ j, n.toNat = j + 1 := ⟨n.toNat - 1, by omega⟩
        rw [hj]; rfl
      rw [en] at F
      refine Evt.succ (S1.and ((spec_l5Words.ev n l (by omega) (by omega) h).and F.evt)) fun k ⟨a, b, c⟩ => ?_
      simp only [spec_NearNumbers.f, spec_NearNumbers.j0, a, b, c, spec_l5Word.eq w (l.length : Int) (by omega), okNear, hs, decide_eq_true hw, Option.bind_some, Bool.true_and]
      rfl
    · refine Evt.succ S1 fun k a => ?_
      simp only [spec_NearNumbers.f, spec_NearNumbers.j0, a, spec_l5Word.eq w (l.length : Int) (by omega), okNear, hs, decide_eq_false hw, Option.bind_some, Bool.and_false, Bool.false_and]
      simp
  · refine Evt.succ S1 fun k a => ?_
    simp [spec_NearNumbers.f, spec_NearNumbers.j0, a, okNear, hs]
theorem spec_FitNumbers.ev (n : Int) (l : List Int) (w m : Int) (h : l.length ≤ 35184372088832) : Stops (fun k => spec_FitNumbers.f k n l w m) (fitNV n l w m) := by
  unfold fitNV
  have S1 : Evt (fun k => spec_l5Scheme.f (k + 1) n l = some (isSch n l)) := by
    obtain ⟨K, g⟩ := spec_l5Scheme.ev n l h
    exact ⟨K, fun j hj => g (j + 1) (by omega)⟩
  by_cases hs : isSch n l = true
  · have hb := isSch_bd hs
    by_cases hw : 0 ≤ w ∧ w ≤ wrap64 (shl .i64 1 (l.length : Int) - 1)
    · have F := spec_l5Fit.ev (wordsV l n.toNat) w m (wordsV_small l hb.2.2.1 _) (word_bd hb.2.2.1 hw) (by rw [wordsV_length]; omega)
      rw [wordsV_length] at F
      refine Evt.succ (S1.and ((spec_l5Words.ev n l (by omega) (by omega) h).and F.evt)) fun k ⟨a, b, c⟩ => ?_
      simp only [spec_FitNumbers.f, spec_FitNumbers.j0, a, b, c, spec_l5Word.eq w (l.length : Int) (by omega), spec_l1In.eq, okFit, hs, decide_eq_true hw, Option.bind_some, Bool.true_and]
      by_cases hm : 0 ≤ m ∧ m ≤ 14
      · rw [decide_eq_true hm]; rfl
      · rw [decide_eq_false hm]; rfl
    · refine Evt.succ S1 fun k a => ?_
      simp only [spec_FitNumbers.f, spec_FitNumbers.j0, a, spec_l5Word.eq w (l.length : Int) (by omega), okFit, hs, decide_eq_false hw, Option.bind_some, Bool.and_false, Bool.false_and]
      simp
  · refine Evt.succ S1 fun k a => ?_
    simp [spec_FitNumbers.f, spec_FitNumbers.j0, a, okFit, hs]
theorem law : laws_FnNearNumbers.Pure := by
  intro l0 _ hw
  have hu := u8s_of l0 hw
  by_cases hbig : (l0.length : Int) > 65536
  · exact ⟨0, by simp [laws_FnNearNumbers.f, laws_vBig.f, hbig]⟩
  · obtain ⟨n, l, w, D1, n0, n1, hl⟩ := spec_DrawNearNumbers.tot l0 hu
    obtain ⟨c1, V1, u1⟩ := laws_vCut.eq l0 1 hu (by omega) (by omega)
    obtain ⟨x, o, v, m, D2, x0, x1, ho⟩ := spec_DrawFitNumbers.tot c1 u1
    have A1 := impl_NearNumbers.ev n l w
    have A2 := spec_NearNumbers.ev n l w (by omega)
    have B1 := impl_FitNumbers.ev x o v m
    have B2 := spec_FitNumbers.ev x o v m (by omega)
    obtain ⟨⟨r1, r2, r3⟩, hr⟩ : ∃ z, z = nnV n l w := ⟨_, rfl⟩
    obtain ⟨⟨b1, b2⟩, hb⟩ : ∃ z, z = fitNV x o v m := ⟨_, rfl⟩
    have lr := nnV_len n l w
    have lb := fitNV_len x o v m
    rw [← hr] at A1 A2 lr
    rw [← hb] at B1 B2 lb
    simp only at lr lb
    have J := nn_j0 n l w r1 r2 r3 hr.symm x o v m b1 b2 (nn_j3 x o v m b1 b2 hb.symm)
    have E1 := laws_vInts.ev r1 (by omega)
    have E2 := laws_vInts.ev b1 (by omega)
    obtain ⟨k, h⟩ := D1.and (A1.and (A2.and (D2.and (B1.and (B2.and (E1.and (E2.and J.evt)))))))
    obtain ⟨h1, h2, h3, h4, h5, h6, h7, h8, h9⟩ := h k (Nat.le_refl _)
    have V1' : laws_vCut.f l0 1 = some c1 := V1
    have hv : laws_vBig.f l0 = some false := by rw [laws_vBig.f, decide_eq_false hbig]
    refine ⟨k, ?_⟩
    simp only [laws_FnNearNumbers.f, hv, h1, h2, h3, h4, h5, h6, h7, h8, h9, V1', Option.bind_some, Bool.false_eq_true, if_false, if_true, bne_self_eq_false, Bool.not_true]
end Go.Proofs.Ytmckmagdiokhiaa.PFnNearNumbers
