/- The plain law behind the statement FnExactVainFixed: what the Go functions' Lean forms come to. Written for this work; no condition. -/
import Derived.Test.YtbleoeknohgdiaaPFnExactVainFixedx
import Derived.Test.YtbleoeknohgdiaaLib2
set_option linter.unusedVariables false
set_option linter.unusedSimpArgs false
namespace Go.Proofs.Ytbleoeknohgdiaa.PFnExactVainFixed
open Go.RowKit Go.Proofs.YtbleoeknohgdiaaW.PrintWords Go.Proofs.YtbleoeknohgdiaaW.PrintLast Go.Proofs.YtbleoeknohgdiaaW.PrintMore Go.Proofs.Ytbleoeknohgdiaa.Lib


theorem spec_l1In.eq (a b c : Int) : spec_l1In.f a b c = some (decide (b ≤ a ∧ a ≤ c)) := by
  unfold spec_l1In.f; by_cases h : b ≤ a <;> simp [h]

theorem spec_l2Numbers.eq (a : Int) : spec_l2Numbers.f a = some (isN a) := by
  unfold spec_l2Numbers.f; rw [spec_l1In.eq]; rfl

theorem spec_l2Asks.eq (n q : Int) : spec_l2Asks.f n q = some (isQ n q) := by
  unfold spec_l2Asks.f isQ; rw [spec_l2Numbers.eq, spec_l1In.eq]
  cases h : isN n
  · simp
  · have := isN_bd h
    simp [show 0 ≤ n by omega]

theorem spec_l5Scheme.ev (n : Int) (l : List Int) (h : l.length ≤ 35184372088832) : Stops (fun k => spec_l5Scheme.f k n l) (isSch n l) := by
  have e : isSch n l = chkV (fun x => isQ n x) (isN n && decide (l.length ≤ 14)) 14 l 0 := by
    rw [chkV_eq _ _ _ _ _ (fun g => by rw [Bool.and_eq_true, decide_eq_true_eq] at g; omega)]
    simp [isSch, List.all_eq_not_any_not]
  have hd : decide ((l.length : Int) ≤ 14) = decide (l.length ≤ 14) := by simp only [decide_eq_decide]; omega
  rw [e]
  have E := Stops.over0 l (fun k (i : Nat) (s : Unit) => spec_l5Scheme.l0 k n l (i : Int)) (fun t s => chkV (fun x => isQ n x) (isN n && decide (l.length ≤ 14)) 14 t (l.length - t.length)) () ?_ ?_
  · rw [Nat.sub_self] at E; exact E
  · intro s
    refine ⟨2, fun q hq => ?_⟩
    obtain ⟨k, rfl⟩ : ∃ k, q = k + 2 := ⟨q - 2, by omega⟩
    simp only [spec_l5Scheme.l0, spec_l5Scheme.j1, spec_l2Numbers.eq]; rw [if_neg (by omega), if_neg (by simp), hd]
    cases isN n <;> rfl
  · intro i hi s A
    have ew : wrap64 ((i : Int) + 1) = ((i + 1 : Nat) : Int) := w64 (by omega) (by omega)
    have ed : l.length - (l[i] :: l.drop (i + 1)).length = i := by simp; omega
    have ed2 : l.length - (l.drop (i + 1)).length = i + 1 := by simp; omega
    have A := A ()
    simp only [ed, ed2] at A ⊢
    by_cases hc : i ≤ 14
    · cases hp : isQ n l[i]
      · refine ⟨2, fun q hq => ?_⟩
        obtain ⟨k, rfl⟩ : ∃ k, q = k + 2 := ⟨q - 2, by omega⟩
        simp only [spec_l5Scheme.l0, spec_l5Scheme.j1, rd_at l i hi, spec_l2Asks.eq]
        rw [if_pos (by omega), decide_eq_true (show (i : Int) ≤ 14 by omega), if_pos (by trivial), if_pos (by omega), if_pos (by omega), hp, Option.bind_some]; simp [chkV, hc, hp]
      · have A1 : Stops (fun k => spec_l5Scheme.j1 k n l (i : Int) true) (chkV (fun x => isQ n x) (isN n && decide (l.length ≤ 14)) 14 (l[i] :: l.drop (i + 1)) i) := A.round fun k a => by
          simp only [spec_l5Scheme.j1, rd_at l i hi, spec_l2Asks.eq]
          rw [if_pos trivial, if_pos (by omega), if_pos (by omega), hp, Option.bind_some, if_pos (by trivial), ew, chkV, if_pos hc, if_pos hp]; exact a
        exact A1.round fun k a => by
          simp only [spec_l5Scheme.l0]; rw [if_pos (by omega), decide_eq_true (by omega)]; exact a
    · refine ⟨2, fun q hq => ?_⟩
      obtain ⟨k, rfl⟩ : ∃ k, q = k + 2 := ⟨q - 2, by omega⟩
      simp only [spec_l5Scheme.l0, spec_l5Scheme.j1, spec_l2Numbers.eq]
      rw [if_pos (by omega), decide_eq_false (show ¬ (i : Int) ≤ 14 by omega), chkV, if_neg hc, if_neg (by simp), hd]
      cases isN n <;> rfl

theorem popN_zero (f : Nat) : popN f 0 = 0 := by
  induction f with
  | zero => rfl
  | succ f ih => simp [popN, ih]
theorem l5Apart_loop (f : Nat) : ∀ (x : Nat) (s : Int), x < 2 ^ f → f ≤ 14 → 0 ≤ s → s ≤ 1000 - (f : Int) → Stops (fun k => spec_l5Apart.l0 k s (x : Int)) (s + (popN f x : Int)) := by
  induction f with
  | zero =>
    intro x s h _ _ _
    refine Stops.now1 fun m => ?_
    simp only [spec_l5Apart.l0]
    rw [if_neg (by simp at h; omega)]
    simp [popN]
  | succ f ih =>
    intro x s h hf h0 h1
    by_cases hx : x = 0
    · subst hx
      refine Stops.now1 fun m => ?_
      simp only [spec_l5Apart.l0]
      rw [if_neg (by omega), popN_zero]
      simp
    · have hp : 2 ^ (f + 1) = 2 * 2 ^ f := by rw [Nat.pow_succ]; omega
      have hlim : 2 ^ (f + 1) ≤ 2 ^ 14 := Nat.pow_le_pow_right (by omega) hf
      have e1 : wrap64 (s + Go.bits .and .i64 (x : Int) 1) = s + ((x % 2 : Nat) : Int) := by
        rw [and1 x (by omega)]
        exact w64 (by omega) (by omega)
      have e2 : (x : Int) / 2 = ((x / 2 : Nat) : Int) := by omega
      refine (ih (x / 2) (s + ((x % 2 : Nat) : Int)) (by omega) (by omega) (by omega) (by omega)).round fun m a => ?_
      simp only [spec_l5Apart.l0, e1, e2]
      rw [if_pos (by omega), a, popN]
      congr 1
      push_cast
      omega
theorem spec_l5Apart.ev (a b : Int) (ha : 0 ≤ a ∧ a < 16384) (hb : 0 ≤ b ∧ b < 16384) : Stops (fun k => spec_l5Apart.f k a b) (apI a b) := by
  have hx := xor_nat ha.1 ha.2 hb.1 hb.2
  have E := l5Apart_loop 14 (a.toNat ^^^ b.toNat) 0 (by have := hx.2; omega) (by omega) (by omega) (by omega)
  refine E.same fun m e => ?_
  simp only [spec_l5Apart.f, hx.1]
  rw [e, apI, Int.zero_add]

theorem spec_l5Gap.ev (ws : List Int) (hs : smallW ws) (h : ws.length ≤ 1000000) : Stops (fun k => spec_l5Gap.f k ws) (gap0 ws ws.length) := by
  refine Stops.count' (g := fun k (x : Int × Int) => spec_l5Gap.l0 k ws x.1 x.2) (fun i => (gap0 ws i, (i : Int))) ws.length (Stops.now1 fun m => ?_) fun i hi A => ?_
  · simp only [spec_l5Gap.l0]; rw [if_neg (by omega)]
  · have ew : wrap64 ((i : Int) + 1) = ((i + 1 : Nat) : Int) := w64 (by omega) (by omega)
    have B : Stops (fun k => spec_l5Gap.l1 k ws (gap0 ws i) (i : Int) 0) (gap0 ws ws.length) := by
      refine Stops.count' (g := fun k (x : Int × Int) => spec_l5Gap.l1 k ws x.1 (i : Int) x.2) (fun j => (gap1 ws i (gap0 ws i) j, (j : Int))) i (A.round fun m a => ?_) fun j hj C => ?_
      · simp only [spec_l5Gap.l1, ew]; rw [if_neg (by omega)]; exact a
      · have ej : wrap64 ((j : Int) + 1) = ((j + 1 : Nat) : Int) := w64 (by omega) (by omega)
        refine Evt.succ (C.and (spec_l5Apart.ev (rd ws i) (rd ws j) (smallW_at hs i hi) (smallW_at hs j (by omega))).evt) fun m ⟨c, d⟩ => ?_
        simp only [spec_l5Gap.l1, d, ej, Option.bind_some]
        rw [if_pos (by omega), if_pos (by omega), if_pos (by omega), if_pos (by omega), if_pos (by omega)]
        simp only [gap1] at c
        by_cases h1 : i = 1
        · rw [if_pos (by omega)]
          by_cases h2 : j = 0
          · rw [if_pos (by omega)]
            rw [if_pos (Or.inl ⟨h1, h2⟩)] at c
            exact c
          · rw [if_neg (by omega)]
            by_cases h3 : apI (rd ws i) (rd ws j) < gap1 ws i (gap0 ws i) j
            · rw [if_pos h3]; rw [if_pos (Or.inr h3)] at c; exact c
            · rw [if_neg h3]; rw [if_neg (by rintro (g | g); exact h2 g.2; exact h3 g)] at c; exact c
        · rw [if_neg (by omega)]
          by_cases h3 : apI (rd ws i) (rd ws j) < gap1 ws i (gap0 ws i) j
          · rw [if_pos h3]; rw [if_pos (Or.inr h3)] at c; exact c
          · rw [if_neg h3]; rw [if_neg (by rintro (g | g); exact h1 g.1; exact h3 g)] at c; exact c
    refine B.round fun m a => ?_
    simp only [spec_l5Gap.l0]
    rw [if_pos (by omega)]
    exact a

theorem spec_l5True.ev (l : List Int) (k : Int) (h0 : 0 ≤ k) (hl : l.length ≤ 35184372088832) : Stops (fun n => spec_l5True.f n l k) (twV l k l.length) := by
  refine Stops.count (g := fun n (s : Int × Int) => spec_l5True.l0 n l k s.1 s.2) (fun i => (twV l k i, (i : Int))) l.length (Stops.now1 fun m => ?_) fun i hi m => ?_
  · simp only [spec_l5True.l0]; rw [if_neg (by omega)]
  · have e : wrap64 ((i : Int) + 1) = (i : Int) + 1 := w64 (by omega) (by omega)
    simp only [spec_l5True.l0]; rw [if_pos (by omega), if_pos (by omega), if_pos (by omega), rd_nat, twV_step, e]; rfl

theorem spec_l5Words.ev (n : Int) (l : List Int) (h0 : 0 ≤ n) (h1 : n ≤ 1000) (hl : l.length ≤ 35184372088832) : Stops (fun k => spec_l5Words.f k n l) (wordsV l n.toNat) := by
  refine Stops.count' (g := fun k (s : List Int × Int) => spec_l5Words.l0 k n l s.1 s.2) (fun i => (wordsV l i, (i : Int))) n.toNat (Stops.now1 fun m => ?_) fun i hi A => ?_
  · simp only [spec_l5Words.l0]; rw [if_neg (by omega)]
  · have e : wrap64 ((i : Int) + 1) = (i : Int) + 1 := w64 (by omega) (by omega)
    have hw := wordsV_length l i
    refine Evt.succ (A.and (spec_l5True.ev l i (by omega) hl).evt) fun m ⟨a, b⟩ => ?_
    simp only [spec_l5Words.l0]
    rw [if_pos (by omega), show spec_l5True.f m l i = _ from b, Option.bind_some, if_pos (by omega), e]; exact a

def safeV (n : Int) (l : List Int) (m : Int) : Bool := decide (n = 1) || decide (gap0 (wordsV l n.toNat) n.toNat > wrap64 (2 * m))
theorem spec_l5Safe.ev (n : Int) (l : List Int) (m : Int) (h0 : 0 ≤ n) (hn : n ≤ 12) (hl : l.length ≤ 14) : Stops (fun k => spec_l5Safe.f k n l m) (safeV n l m) := by
  have G := spec_l5Gap.ev (wordsV l n.toNat) (wordsV_small l hl _) (by rw [wordsV_length]; omega)
  rw [wordsV_length] at G
  refine ((spec_l5Words.ev n l h0 (by omega) (by omega)).and G.evt).mono fun k ⟨a, b⟩ => ?_
  simp only [spec_l5Safe.f, a, b, Option.bind_some, safeV]
  by_cases h : n = 1
  · rw [if_pos h, decide_eq_true h, Bool.true_or]
  · rw [if_neg h, decide_eq_false h, Bool.false_or]

theorem spec_l1Own.eq (l : List Int) (h : l.length ≤ 10000000) : spec_l1Own.f l = some l := by
  unfold spec_l1Own.f
  rw [Option.bind_some, if_pos (by simp; omega), List.nil_append]

theorem spec_l5Drop.eq (l : List Int) (i : Int) (h0 : 0 ≤ i) (h1 : i < l.length) (hl : l.length ≤ 1000000) : spec_l5Drop.f l i = some (l.eraseIdx i.toNat) := by
  have e : wrap64 (i + 1) = i + 1 := w64 (by omega) (by omega)
  have e2 : (i + 1).toNat = i.toNat + 1 := by omega
  unfold spec_l5Drop.f
  rw [if_pos h0, if_pos (by omega), spec_l1Own.eq _ (by rw [List.length_take]; omega), Option.bind_some, e, e2, if_pos (by omega), if_pos (by omega), if_pos (by simp; omega), List.eraseIdx_eq_take_drop_succ]

def vfN (n : Int) (l : List Int) (m : Int) : Nat → List Int := numsTo fun k => safeV n (l.eraseIdx k.toNat) m
theorem vfN_length (n : Int) (l : List Int) (m : Int) (i : Nat) : (vfN n l m i).length ≤ i := numsTo_length _ _
theorem vfN_succ (n : Int) (l : List Int) (m : Int) (i : Nat) : vfN n l m (i + 1) = if safeV n (l.eraseIdx i) m = true then vfN n l m i ++ [(i : Int)] else vfN n l m i := by
  unfold vfN
  rw [numsTo, Int.toNat_natCast]
def vfV (n : Int) (l : List Int) (m : Int) : List Int × Bool := if (isSch n l && isM m) = true then (vfN n l m l.length, true) else ([], false)
theorem erase_le {l : List Int} (i : Nat) (hl : l.length ≤ 14) : (l.eraseIdx i).length ≤ 14 := by
  have := List.length_eraseIdx_le l i
  omega
theorem spec_VainFixed.ev (n : Int) (l : List Int) (m : Int) (h : l.length ≤ 35184372088832) : Stops (fun k => spec_VainFixed.f k n l m) (vfV n l m) := by
  unfold vfV
  have S1 : Evt (fun k => spec_l5Scheme.f (k + 1) n l = some (isSch n l)) := by
    obtain ⟨K, g⟩ := spec_l5Scheme.ev n l h
    exact ⟨K, fun j hj => g (j + 1) (by omega)⟩
  by_cases hs : isSch n l = true
  · have hb := isSch_bd hs
    have E : Stops (fun k => spec_VainFixed.l0 k n l m [] 0) (vfN n l m l.length, true) := by
      refine Stops.count' (g := fun k (x : List Int × Int) => spec_VainFixed.l0 k n l m x.1 x.2) (fun i => (vfN n l m i, (i : Int))) l.length (Stops.now1 fun k => ?_) fun i hi A => ?_
      · simp only [spec_VainFixed.l0]; rw [if_neg (by omega)]
      · have ew : wrap64 ((i : Int) + 1) = ((i + 1 : Nat) : Int) := w64 (by omega) (by omega)
        have hlen := vfN_length n l m i
        refine Evt.succ (A.and (spec_l5Safe.ev n (l.eraseIdx i) m (by omega) (by omega) (erase_le i hb.2.2.1)).evt) fun k ⟨a, b⟩ => ?_
        simp only [spec_VainFixed.l0, spec_l5Drop.eq l (i : Int) (by omega) (by omega) (by omega), Int.toNat_natCast, b, ew, Option.bind_some]
        rw [if_pos (by omega)]
        simp only [vfN_succ] at a
        by_cases hc : safeV n (l.eraseIdx i) m = true
        · rw [if_pos hc] at a
          rw [if_pos hc, if_pos (by omega)]
          exact a
        · rw [if_neg hc] at a
          rw [if_neg hc]
          exact a
    refine Evt.succ (S1.and E.evt) fun k ⟨a, c⟩ => ?_
    simp only [spec_VainFixed.f, spec_VainFixed.j0, a, c, spec_l1In.eq, hs, Option.bind_some, Bool.true_and, isM]
    by_cases hm : 0 ≤ m ∧ m ≤ 2
    · rw [decide_eq_true hm]; rfl
    · rw [decide_eq_false hm]; rfl
  · refine Evt.succ S1 fun k a => ?_
    simp [spec_VainFixed.f, spec_VainFixed.j0, a, hs]

theorem laws_toIntS.ev (l : List Int) (h : l.length ≤ 35184372088832) : Stops (fun k => laws_toIntS.f k l) l := by
  have E : Stops (fun k => laws_toIntS.l0 k l (List.replicate l.length 0) 0) l := by
    refine Stops.count (g := fun k (s : List Int × Int) => laws_toIntS.l0 k l s.1 s.2) (fun i => (l.take i ++ List.replicate (l.length - i) 0, (i : Int))) l.length (Stops.now1 fun m => ?_) fun i hi m => ?_
    · simp only [laws_toIntS.l0]; rw [if_neg (by omega)]; simp
    · have e : wrap64 ((i : Int) + 1) = (i : Int) + 1 := w64 (by omega) (by omega)
      have hl : ((l.take i ++ List.replicate (l.length - i) (0 : Int)).length : Int) = l.length := by simp; omega
      simp only [laws_toIntS.l0]; rw [if_pos (by omega), if_pos (by omega), hl, if_pos (by omega), e, rd_at l i hi, Int.toNat_natCast, set_fill l i hi]; rfl
  refine E.same fun m a => ?_
  simp only [laws_toIntS.f, Int.toNat_natCast]; rw [if_pos (by omega), if_pos h]; exact a

theorem impl_isMost.eq (a : Int) : impl_isMost.f a = some (isM a) := by
  unfold impl_isMost.f; rw [impl_in.eq]; rfl

theorem impl_has.eq (q k : Int) (h : 0 ≤ k) : impl_has.f q k = some (hasB q k) := by
  unfold impl_has.f; rw [if_pos h]; rfl

theorem impl_trueWord.ev (l : List Int) (k : Int) (h0 : 0 ≤ k) (hl : l.length ≤ 35184372088832) : Stops (fun n => impl_trueWord.f n l k) (twV l k l.length) := by
  refine Stops.count (g := fun n (s : Int × Int) => impl_trueWord.l0 n k s.1 l l.length s.2) (fun i => (twV l k i, (i : Int))) l.length (Stops.now1 fun m => ?_) fun i hi m => ?_
  · simp only [impl_trueWord.l0]; rw [if_neg (by omega)]
  · have e : wrap64 ((i : Int) + 1) = (i : Int) + 1 := w64 (by omega) (by omega)
    simp only [impl_trueWord.l0]; rw [if_pos (by omega), if_pos (by omega), if_pos (by omega), rd_nat, impl_has.eq _ _ h0, Option.bind_some, e, twV]
    by_cases hb : hasB (l.getD i 0) k = true
    · rw [if_pos hb, if_pos hb]; rfl
    · rw [if_neg hb, if_neg hb]; rfl

theorem impl_trueWords.ev (n : Int) (l : List Int) (h0 : 0 ≤ n) (h1 : n ≤ 1000) (hl : l.length ≤ 35184372088832) : Stops (fun k => impl_trueWords.f k n l) (wordsV l n.toNat) := by
  refine Stops.count' (g := fun k (s : List Int × Int) => impl_trueWords.l0 k l s.1 n s.2) (fun i => (wordsV l i, (i : Int))) n.toNat (Stops.now1 fun m => ?_) fun i hi A => ?_
  · simp only [impl_trueWords.l0]; rw [if_neg (by omega)]
  · have e : wrap64 ((i : Int) + 1) = (i : Int) + 1 := w64 (by omega) (by omega)
    have hw := wordsV_length l i
    refine Evt.succ (A.and (impl_trueWord.ev l i (by omega) hl).evt) fun m ⟨a, b⟩ => ?_
    simp only [impl_trueWords.l0]
    rw [if_pos (by omega), show impl_trueWord.f m l i = _ from b, Option.bind_some, if_pos (by omega), e]; exact a

theorem ones_small : ∀ a b : Fin 128, bits_OnesCount64.f ((128 * a.val + b.val : Nat) : Int) = some (popN 14 (128 * a.val + b.val) : Int) := by decide +kernel
theorem impl_apart.eq (a b : Int) (ha : 0 ≤ a ∧ a < 16384) (hb : 0 ≤ b ∧ b < 16384) : impl_apart.f a b = some (apI a b) := by
  have hx := xor_nat ha.1 ha.2 hb.1 hb.2
  have hs := ones_small ⟨(a.toNat ^^^ b.toNat) / 128, by omega⟩ ⟨(a.toNat ^^^ b.toNat) % 128, by omega⟩
  simp only at hs
  rw [Nat.div_add_mod] at hs
  have e2 : IntKind.u64.wrap ((a.toNat ^^^ b.toNat : Nat) : Int) = ((a.toNat ^^^ b.toNat : Nat) : Int) := by
    have : IntKind.u64.wrap ((a.toNat ^^^ b.toNat : Nat) : Int) = ((a.toNat ^^^ b.toNat : Nat) : Int) % 18446744073709551616 := rfl
    rw [this]
    omega
  simp only [impl_apart.f, bits_OnesCount.f, hx.1, e2, hs, Option.bind_some]
  rfl

theorem impl_gap.ev (n : Int) (l : List Int) (h0 : 0 ≤ n) (hn : n ≤ 12) (hl : l.length ≤ 14) : Stops (fun k => impl_gap.f k n l) (gap0 (wordsV l n.toNat) n.toNat) := by
  obtain ⟨ws, hw⟩ : ∃ ws, ws = wordsV l n.toNat := ⟨_, rfl⟩
  have hs : smallW ws := hw ▸ wordsV_small l hl n.toNat
  have hlen : ws.length = n.toNat := by rw [hw, wordsV_length]
  have E : Stops (fun k => impl_gap.l0 k 0 ws ws (ws.length : Int) 0) (gap0 ws ws.length) := by
    refine Stops.count' (g := fun k (x : Int × Int) => impl_gap.l0 k x.1 ws ws (ws.length : Int) x.2) (fun i => (gap0 ws i, (i : Int))) ws.length (Stops.now1 fun m => ?_) fun i hi A => ?_
    · simp only [impl_gap.l0]; rw [if_neg (by omega)]
    · have ew : wrap64 ((i : Int) + 1) = ((i + 1 : Nat) : Int) := w64 (by omega) (by omega)
      have ht : (ws.take i).length = i := by rw [List.length_take]; omega
      have hrd : ∀ j : Nat, j < i → rd (ws.take i) (j : Int) = rd ws (j : Int) := fun j hj => by
        rw [rd_at _ j (by omega), rd_at _ j (by omega), List.getElem_take]
      have B : Stops (fun k => impl_gap.l1 k (gap0 ws i) ws (i : Int) (rd ws i) ws (ws.length : Int) (i : Int) (ws.take i) (i : Int) 0) (gap0 ws ws.length) := by
        refine Stops.count' (g := fun k (x : Int × Int) => impl_gap.l1 k x.1 ws (i : Int) (rd ws i) ws (ws.length : Int) (i : Int) (ws.take i) (i : Int) x.2) (fun j => (gap1 ws i (gap0 ws i) j, (j : Int))) i (A.round fun m a => ?_) fun j hj C => ?_
        · simp only [impl_gap.l1, ew]; rw [if_neg (by omega)]; exact a
        · have ej : wrap64 ((j : Int) + 1) = ((j + 1 : Nat) : Int) := w64 (by omega) (by omega)
          refine C.round fun m c => ?_
          simp only [impl_gap.l1, ej, hrd j hj, impl_apart.eq (rd ws i) (rd ws j) (smallW_at hs i hi) (smallW_at hs j (by omega)), Option.bind_some]
          rw [if_pos (by omega), if_pos (by omega), if_pos (by omega)]
          simp only [gap1] at c
          by_cases h1 : i = 1
          · rw [if_pos (by omega)]
            by_cases h2 : j = 0
            · rw [if_pos (by omega)]
              rw [if_pos (Or.inl ⟨h1, h2⟩)] at c
              exact c
            · rw [if_neg (by omega)]
              by_cases h3 : apI (rd ws i) (rd ws j) < gap1 ws i (gap0 ws i) j
              · rw [if_pos h3]; rw [if_pos (Or.inr h3)] at c; exact c
              · rw [if_neg h3]; rw [if_neg (by rintro (g | g); exact h2 g.2; exact h3 g)] at c; exact c
          · rw [if_neg (by omega)]
            by_cases h3 : apI (rd ws i) (rd ws j) < gap1 ws i (gap0 ws i) j
            · rw [if_pos h3]; rw [if_pos (Or.inr h3)] at c; exact c
            · rw [if_neg h3]; rw [if_neg (by rintro (g | g); exact h1 g.1; exact h3 g)] at c; exact c
      refine B.round fun m a => ?_
      simp only [impl_gap.l0, Option.bind_some, Int.toNat_natCast, ht]
      rw [if_pos (by omega), if_pos (by omega), if_pos (by omega), if_pos (by omega)]
      exact a
  refine ((impl_trueWords.ev n l (by omega) (by omega) (by omega)).and E.evt).mono fun m ⟨a, b⟩ => ?_
  simp only [impl_gap.f, a, Option.bind_some]
  rw [← hw, b, hlen]

theorem impl_isSafe.ev (n : Int) (l : List Int) (m : Int) (h0 : 0 ≤ n) (hn : n ≤ 12) (hl : l.length ≤ 14) : Stops (fun k => impl_isSafe.f k n l m) (safeV n l m) := by
  refine (impl_gap.ev n l h0 hn hl).same fun k a => ?_
  simp only [impl_isSafe.f, a, Option.bind_some, safeV]
  by_cases h : n = 1
  · rw [if_pos h, decide_eq_true h, Bool.true_or]
  · rw [if_neg h, decide_eq_false h, Bool.false_or]

theorem slices_Clone_int_int.eq (l : List Int) (h : l.length ≤ 10000000) : slices_Clone_int_int.f l = some l := by
  unfold slices_Clone_int_int.f
  rw [Option.bind_some, if_pos (by simp; omega), List.nil_append]

theorem impl_VainFixed.ev (n : Int) (l : List Int) (m : Int) : Stops (fun k => impl_VainFixed.f k n l m) (vfV n l m) := by
  unfold vfV
  by_cases hs : isSch n l = true
  · have hb := isSch_bd hs
    have E : Stops (fun k => impl_VainFixed.l0 k n l m [] (l.length : Int) 0) (vfN n l m l.length, true) := by
      refine Stops.count' (g := fun k (x : List Int × Int) => impl_VainFixed.l0 k n l m x.1 (l.length : Int) x.2) (fun i => (vfN n l m i, (i : Int))) l.length (Stops.now1 fun k => ?_) fun i hi A => ?_
      · simp only [impl_VainFixed.l0]; rw [if_neg (by omega)]
      · have ew : wrap64 ((i : Int) + 1) = ((i + 1 : Nat) : Int) := w64 (by omega) (by omega)
        have hlen := vfN_length n l m i
        have ed : impl_without.f l (i : Int) = some (l.eraseIdx i) := by
          unfold impl_without.f
          rw [if_pos ⟨by omega, by omega, by omega⟩, Int.toNat_natCast]
        refine Evt.succ (A.and (impl_isSafe.ev n (l.eraseIdx i) m (by omega) (by omega) (erase_le i hb.2.2.1)).evt) fun k ⟨a, b⟩ => ?_
        simp only [impl_VainFixed.l0, ed, b, ew, Option.bind_some]
        rw [if_pos (by omega)]
        simp only [vfN_succ] at a
        by_cases hc : safeV n (l.eraseIdx i) m = true
        · rw [if_pos hc] at a
          rw [if_pos hc, if_pos (by omega)]
          exact a
        · rw [if_neg hc] at a
          rw [if_neg hc]
          exact a
    refine Evt.succ E.evt fun k c => ?_
    simp only [impl_VainFixed.f, impl_VainFixed.j0, impl_IsScheme.f, c, impl_isMost.eq, hs, Option.bind_some, Bool.true_and]
    cases isM m <;> rfl
  · refine Evt.succ Evt.true fun k _ => ?_
    simp [impl_VainFixed.f, impl_VainFixed.j0, impl_IsScheme.f, hs]

theorem laws_eqIntS.ev (l : List Int) (h : l.length ≤ 35184372088832) : Stops (fun k => laws_eqIntS.f k l l) true := by
  have E : Stops (fun k => laws_eqIntS.l0 k l l 0) true := by
    refine Stops.count (g := fun k (s : Int) => laws_eqIntS.l0 k l l s) (fun i => (i : Int)) l.length (Stops.now1 fun m => ?_) fun i hi m => ?_
    · simp only [laws_eqIntS.l0]; rw [if_neg (by omega)]
    · have e : wrap64 ((i : Int) + 1) = (i : Int) + 1 := w64 (by omega) (by omega)
      rw [laws_eqIntS.l0, if_pos (by omega), if_pos (by omega), if_pos (by omega), if_pos rfl, e]; rfl
  refine E.same fun m a => ?_
  simp only [laws_eqIntS.f, if_true]; exact a

theorem laws_markIntS.ev (l : List Int) (a : Int) (h : l.length ≤ 35184372088832) (h0 : 0 ≤ a) (h1 : a ≤ 1000000000000000000) : Stops (fun k => laws_markIntS.f k l a) (a + l.length, upFrom a l.length) := by
  have E : Stops (fun k => laws_markIntS.l0 k (upFrom a 0 ++ l.drop 0) (a + ((0 : Nat) : Int)) ((0 : Nat) : Int)) (a + l.length, upFrom a l.length) := by
   refine Stops.count (g := fun k (s : List Int × Int × Int) => laws_markIntS.l0 k s.1 s.2.1 s.2.2) (fun i => (upFrom a i ++ l.drop i, a + i, (i : Int))) l.length (Stops.now1 fun m => ?_) fun i hi m => ?_
   · have hl : ((upFrom a l.length ++ l.drop l.length).length : Int) = l.length := by simp [upFrom_length]
     simp only [laws_markIntS.l0]; rw [if_neg (by rw [hl]; omega)]; simp
   · have e : wrap64 ((i : Int) + 1) = (i : Int) + 1 := w64 (by omega) (by omega)
     have e2 : wrap64 (a + (i : Int) + 1) = a + ((i + 1 : Nat) : Int) := by rw [w64 (by omega) (by omega)]; omega
     have hl : ((upFrom a i ++ l.drop i).length : Int) = l.length := by simp [upFrom_length]; omega
     simp only [laws_markIntS.l0]; rw [if_pos (by rw [hl]; omega), if_pos (by omega), e, e2, Int.toNat_natCast, set_split l i (upFrom a i) (a + i) (upFrom_length i a) hi, ← upFrom_append]; rfl
  refine E.same fun m e => ?_
  simp [upFrom] at e
  exact e

theorem laws_heldIntS.ev (n : Nat) (a : Int) (h : n ≤ 35184372088832) (h0 : 0 ≤ a) (h1 : a ≤ 1000000000000000000) : Stops (fun k => laws_heldIntS.f k (upFrom a n) a) (a + n) := by
  have E : Stops (fun k => laws_heldIntS.l0 k (upFrom a n) (a + ((0 : Nat) : Int)) ((0 : Nat) : Int)) (a + n) := by
    refine Stops.count (g := fun k (s : Int × Int) => laws_heldIntS.l0 k (upFrom a n) s.1 s.2) (fun i => (a + (i : Int), (i : Int))) n (Stops.now1 fun m => ?_) fun i hi m => ?_
    · simp only [laws_heldIntS.l0, upFrom_length]; rw [if_neg (by omega)]
    · have e : wrap64 ((i : Int) + 1) = (i : Int) + 1 := w64 (by omega) (by omega)
      have e2 : wrap64 (a + (i : Int) + 1) = a + ((i + 1 : Nat) : Int) := by rw [w64 (by omega) (by omega)]; omega
      simp only [laws_heldIntS.l0, upFrom_length]; rw [if_pos (by omega), if_pos (by omega), rd_nat, upFrom_getD n a i hi, if_pos rfl, e, e2]; rfl
  refine E.same fun m e => ?_
  simp at e
  exact e

theorem law : laws_FnExactVainFixed.Pure := by
  intro n l m0
  intros
  by_cases hb : (l.length : Int) > 1048576
  · exact ⟨0, by simp [laws_FnExactVainFixed.f, hb]⟩
  have hvl : (vfV n l m0).1.length ≤ 35184372088832 := by
    unfold vfV
    split
    · have := vfN_length n l m0 l.length
      show (vfN n l m0 l.length).length ≤ _
      omega
    · simp
  have S := spec_VainFixed.ev n l m0 (by omega)
  have I := impl_VainFixed.ev n l m0
  generalize (vfV n l m0) = v at *
  obtain ⟨v, b⟩ := v
  simp only at hvl
  have hneg_v : ¬ (1 + (v.length : Int) < 0) := by omega
  obtain ⟨m, h⟩ := (((S).and ((I).and ((laws_toIntS.ev l (by omega)).and ((laws_eqIntS.ev l (by omega)).and ((laws_markIntS.ev l 1 (by omega) (by omega) (by omega)).and ((laws_eqIntS.ev v (by omega)).and ((laws_markIntS.ev v 1 (by omega) (by omega) (by omega)).and (laws_heldIntS.ev v.length 1 (by omega) (by omega) (by omega)).evt)))))))).shift
  have h0 := fun j => (h j).1
  have h1 := fun j => (h j).2.1
  have h2 := fun j => (h j).2.2.1
  have h3 := fun j => (h j).2.2.2.1
  have h4 := fun j => (h j).2.2.2.2.1
  have h5 := fun j => (h j).2.2.2.2.2.1
  have h6 := fun j => (h j).2.2.2.2.2.2.1
  have h7 := fun j => (h j).2.2.2.2.2.2.2
  refine ⟨m + 7, ?_⟩
  simp [laws_FnExactVainFixed.f, laws_FnExactVainFixed.j0, laws_FnExactVainFixed.j1, laws_FnExactVainFixed.j2, h0, h1, h2, h3, h4, h5, h6, h7, hb, show ¬ (1 + (l.length : Int) < 0) by omega, hneg_v]

end Go.Proofs.Ytbleoeknohgdiaa.PFnExactVainFixed
