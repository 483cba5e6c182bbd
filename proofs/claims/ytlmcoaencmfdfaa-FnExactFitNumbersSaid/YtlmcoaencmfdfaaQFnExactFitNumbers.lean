/- The plain law behind the statement FnExactFitNumbers: what the Go functions' Lean forms come to. Written for this work; no condition. -/
import Derived.Test.YtlmcoaencmfdfaaPFnExactFitNumbersx
import Derived.Test.YtlmcoaencmfdfaaLib2
set_option linter.unusedVariables false
set_option linter.unusedSimpArgs false
namespace Go.Proofs.Ytlmcoaencmfdfaa.PFnExactFitNumbers
open Go.RowKit Go.Proofs.YtlmcoaencmfdfaaW.PrintWords Go.Proofs.YtlmcoaencmfdfaaW.PrintLast Go.Proofs.YtlmcoaencmfdfaaW.PrintMore Go.Proofs.Ytlmcoaencmfdfaa.Lib


theorem laws_toIntS.ev (l : List Int) (h : l.length ≤ 35184372088832) : Stops (fun k => laws_toIntS.f k l) l := by
  have E : Stops (fun k => laws_toIntS.l0 k l (List.replicate l.length 0) 0) l := by
    refine Stops.count (g := fun k (s : List Int × Int) => laws_toIntS.l0 k l s.1 s.2) (fun i => (l.take i ++ List.replicate (l.length - i) 0, (i : Int))) l.length (Stops.now1 fun m => ?_) fun i hi m => ?_
    · simp only [laws_toIntS.l0]; rw [if_neg (by omega)]; simp
    · have e : wrap64 ((i : Int) + 1) = (i : Int) + 1 := w64 (by omega) (by omega)
      have hl : ((l.take i ++ List.replicate (l.length - i) (0 : Int)).length : Int) = l.length := by simp; omega
      simp only [laws_toIntS.l0]; rw [if_pos (by omega), if_pos (by omega), hl, if_pos (by omega), e, rd_at l i hi, Int.toNat_natCast, set_fill l i hi]; rfl
  refine E.same fun m a => ?_
  simp only [laws_toIntS.f, Int.toNat_natCast]; rw [if_pos (by omega), if_pos h]; exact a

theorem laws_eqIntS.ev (l : List Int) (h : l.length ≤ 35184372088832) : Stops (fun k => laws_eqIntS.f k l l) true := by
  have E : Stops (fun k => laws_eqIntS.l0 k l l 0) true := by
    refine Stops.count (g := fun k (s : Int) => laws_eqIntS.l0 k l l s) (fun i => (i : Int)) l.length (Stops.now1 fun m => ?_) fun i hi m => ?_
    · simp only [laws_eqIntS.l0]; rw [if_neg (by omega)]
    · have e : wrap64 ((i : Int) + 1) = (i : Int) + 1 := w64 (by omega) (by omega)
      rw [laws_eqIntS.l0, if_pos (by omega), if_pos (by omega), if_pos (by omega), if_pos rfl, e]; rfl
  refine E.same fun m a => ?_
  simp only [laws_eqIntS.f, if_true]; exact a

theorem laws_markIntS.ev (l : List Int) (a : Int) (h : l.length ≤ 35184372088832) (h0 : 0 ≤ a) (h1 : a ≤ 1000000000000000000) : Stops (fun k => laws_markIntS.f k l a) (a + l.length, upFrom a l.length) := by
  have E : Stops (fun k => laws_markIntS.l0 k (upFrom a 0 ++ l.drop 0) (a + ((0 : Nat) : Int)) ((0 : Nat) : Int)) (a + l.length, upFrom a l.length) := by
   refine Stops.count (g := fun k (s : List Int × Int × Int) => laws_markIntS.l0 k s.1 s.2.1 s.2.2) (fun i => (upFrom a i ++ l.drop i, a + i, (i : Int))) l.length (Stops.now1 fun m => ?_) fun i hi m => ?_
   · have hl : ((upFrom a l.length ++ l.drop l.length).length : Int) = l.length := by simp [upFrom_length]
     simp only [laws_markIntS.l0]; rw [if_neg (by rw [hl]; omega)]; simp
   · have e : wrap64 ((i : Int) + 1) = (i : Int) + 1 := w64 (by omega) (by omega)
     have e2 : wrap64 (a + (i : Int) + 1) = a + ((i + 1 : Nat) : Int) := by rw [w64 (by omega) (by omega)]; omega
     have hl : ((upFrom a i ++ l.drop i).length : Int) = l.length := by simp [upFrom_length]; omega
     simp only [laws_markIntS.l0]; rw [if_pos (by rw [hl]; omega), if_pos (by omega), e, e2, Int.toNat_natCast, set_split l i (upFrom a i) (a + i) (upFrom_length i a) hi, ← upFrom_append]; rfl
  refine E.same fun m e => ?_
  simp [upFrom] at e
  exact e

theorem laws_heldIntS.ev (n : Nat) (a : Int) (h : n ≤ 35184372088832) (h0 : 0 ≤ a) (h1 : a ≤ 1000000000000000000) : Stops (fun k => laws_heldIntS.f k (upFrom a n) a) (a + n) := by
  have E : Stops (fun k => laws_heldIntS.l0 k (upFrom a n) (a + ((0 : Nat) : Int)) ((0 : Nat) : Int)) (a + n) := by
    refine Stops.count (g := fun k (s : Int × Int) => laws_heldIntS.l0 k (upFrom a n) s.1 s.2) (fun i => (a + (i : Int), (i : Int))) n (Stops.now1 fun m => ?_) fun i hi m => ?_
    · simp only [laws_heldIntS.l0, upFrom_length]; rw [if_neg (by omega)]
    · have e : wrap64 ((i : Int) + 1) = (i : Int) + 1 := w64 (by omega) (by omega)
      have e2 : wrap64 (a + (i : Int) + 1) = a + ((i + 1 : Nat) : Int) := by rw [w64 (by omega) (by omega)]; omega
      simp only [laws_heldIntS.l0, upFrom_length]; rw [if_pos (by omega), if_pos (by omega), rd_nat, upFrom_getD n a i hi, if_pos rfl, e, e2]; rfl
  refine E.same fun m e => ?_
  simp at e
  exact e

theorem spec_l1In.eq (a b c : Int) : spec_l1In.f a b c = some (decide (b ≤ a ∧ a ≤ c)) := by
  unfold spec_l1In.f; by_cases h : b ≤ a <;> simp [h]

theorem spec_l2Numbers.eq (a : Int) : spec_l2Numbers.f a = some (isN a) := by
  unfold spec_l2Numbers.f; rw [spec_l1In.eq]; rfl

theorem spec_l2Asks.eq (n q : Int) : spec_l2Asks.f n q = some (isQ n q) := by
  unfold spec_l2Asks.f isQ; rw [spec_l2Numbers.eq, spec_l1In.eq]
  cases h : isN n
  · simp
  · have := isN_bd h
    simp [show 0 ≤ n by omega]

theorem spec_l5Scheme.ev (n : Int) (l : List Int) (h : l.length ≤ 35184372088832) : Stops (fun k => spec_l5Scheme.f k n l) (isSch n l) := by
  have e : isSch n l = chkV (fun x => isQ n x) (isN n && decide (l.length ≤ 14)) 14 l 0 := by
    rw [chkV_eq _ _ _ _ _ (fun g => by rw [Bool.and_eq_true, decide_eq_true_eq] at g; omega)]
    simp [isSch, List.all_eq_not_any_not]
  have hd : decide ((l.length : Int) ≤ 14) = decide (l.length ≤ 14) := by simp only [decide_eq_decide]; omega
  rw [e]
  have E := Stops.over0 l (fun k (i : Nat) (s : Unit) => spec_l5Scheme.l0 k n l (i : Int)) (fun t s => chkV (fun x => isQ n x) (isN n && decide (l.length ≤ 14)) 14 t (l.length - t.length)) () ?_ ?_
  · rw [Nat.sub_self] at E; exact E
  · intro s
    refine ⟨2, fun q hq => ?_⟩
    obtain ⟨k, rfl⟩ : ∃ k, q = k + 2 := ⟨q - 2, by omega⟩
    simp only [spec_l5Scheme.l0, spec_l5Scheme.j1, spec_l2Numbers.eq]; rw [if_neg (by omega), if_neg (by simp), hd]
    cases isN n <;> rfl
  · intro i hi s A
    have ew : wrap64 ((i : Int) + 1) = ((i + 1 : Nat) : Int) := w64 (by omega) (by omega)
    have ed : l.length - (l[i] :: l.drop (i + 1)).length = i := by simp; omega
    have ed2 : l.length - (l.drop (i + 1)).length = i + 1 := by simp; omega
    have A := A ()
    simp only [ed, ed2] at A ⊢
    by_cases hc : i ≤ 14
    · cases hp : isQ n l[i]
      · refine ⟨2, fun q hq => ?_⟩
        obtain ⟨k, rfl⟩ : ∃ k, q = k + 2 := ⟨q - 2, by omega⟩
        simp only [spec_l5Scheme.l0, spec_l5Scheme.j1, rd_at l i hi, spec_l2Asks.eq]
        rw [if_pos (by omega), decide_eq_true (show (i : Int) ≤ 14 by omega), if_pos (by trivial), if_pos (by omega), if_pos (by omega), hp, Option.bind_some]; simp [chkV, hc, hp]
      · have A1 : Stops (fun k => spec_l5Scheme.j1 k n l (i : Int) true) (chkV (fun x => isQ n x) (isN n && decide (l.length ≤ 14)) 14 (l[i] :: l.drop (i + 1)) i) := A.round fun k a => by
          simp only [spec_l5Scheme.j1, rd_at l i hi, spec_l2Asks.eq]
          rw [if_pos trivial, if_pos (by omega), if_pos (by omega), hp, Option.bind_some, if_pos (by trivial), ew, chkV, if_pos hc, if_pos hp]; exact a
        exact A1.round fun k a => by
          simp only [spec_l5Scheme.l0]; rw [if_pos (by omega), decide_eq_true (by omega)]; exact a
    · refine ⟨2, fun q hq => ?_⟩
      obtain ⟨k, rfl⟩ : ∃ k, q = k + 2 := ⟨q - 2, by omega⟩
      simp only [spec_l5Scheme.l0, spec_l5Scheme.j1, spec_l2Numbers.eq]
      rw [if_pos (by omega), decide_eq_false (show ¬ (i : Int) ≤ 14 by omega), chkV, if_neg hc, if_neg (by simp), hd]
      cases isN n <;> rfl

theorem spec_l5True.ev (l : List Int) (k : Int) (h0 : 0 ≤ k) (hl : l.length ≤ 35184372088832) : Stops (fun n => spec_l5True.f n l k) (twV l k l.length) := by
  refine Stops.count (g := fun n (s : Int × Int) => spec_l5True.l0 n l k s.1 s.2) (fun i => (twV l k i, (i : Int))) l.length (Stops.now1 fun m => ?_) fun i hi m => ?_
  · simp only [spec_l5True.l0]; rw [if_neg (by omega)]
  · have e : wrap64 ((i : Int) + 1) = (i : Int) + 1 := w64 (by omega) (by omega)
    simp only [spec_l5True.l0]; rw [if_pos (by omega), if_pos (by omega), if_pos (by omega), rd_nat, twV_step, e]; rfl

theorem spec_l5Words.ev (n : Int) (l : List Int) (h0 : 0 ≤ n) (h1 : n ≤ 1000) (hl : l.length ≤ 35184372088832) : Stops (fun k => spec_l5Words.f k n l) (wordsV l n.toNat) := by
  refine Stops.count' (g := fun k (s : List Int × Int) => spec_l5Words.l0 k n l s.1 s.2) (fun i => (wordsV l i, (i : Int))) n.toNat (Stops.now1 fun m => ?_) fun i hi A => ?_
  · simp only [spec_l5Words.l0]; rw [if_neg (by omega)]
  · have e : wrap64 ((i : Int) + 1) = (i : Int) + 1 := w64 (by omega) (by omega)
    have hw := wordsV_length l i
    refine Evt.succ (A.and (spec_l5True.ev l i (by omega) hl).evt) fun m ⟨a, b⟩ => ?_
    simp only [spec_l5Words.l0]
    rw [if_pos (by omega), show spec_l5True.f m l i = _ from b, Option.bind_some, if_pos (by omega), e]; exact a

theorem popN_zero (f : Nat) : popN f 0 = 0 := by
  induction f with
  | zero => rfl
  | succ f ih => simp [popN, ih]
theorem l5Apart_loop (f : Nat) : ∀ (x : Nat) (s : Int), x < 2 ^ f → f ≤ 14 → 0 ≤ s → s ≤ 1000 - (f : Int) → Stops (fun k => spec_l5Apart.l0 k s (x : Int)) (s + (popN f x : Int)) := by
  induction f with
  | zero =>
    intro x s h _ _ _
    refine Stops.now1 fun m => ?_
    simp only [spec_l5Apart.l0]
    rw [if_neg (by simp at h; omega)]
    simp [popN]
  | succ f ih =>
    intro x s h hf h0 h1
    by_cases hx : x = 0
    · subst hx
      refine Stops.now1 fun m => ?_
      simp only [spec_l5Apart.l0]
      rw [if_neg (by omega), popN_zero]
      simp
    · have hp : 2 ^ (f + 1) = 2 * 2 ^ f := by rw [Nat.pow_succ]; omega
      have hlim : 2 ^ (f + 1) ≤ 2 ^ 14 := Nat.pow_le_pow_right (by omega) hf
      have e1 : wrap64 (s + Go.bits .and .i64 (x : Int) 1) = s + ((x % 2 : Nat) : Int) := by
        rw [and1 x (by omega)]
        exact w64 (by omega) (by omega)
      have e2 : (x : Int) / 2 = ((x / 2 : Nat) : Int) := by omega
      refine (ih (x / 2) (s + ((x % 2 : Nat) : Int)) (by omega) (by omega) (by omega) (by omega)).round fun m a => ?_
      simp only [spec_l5Apart.l0, e1, e2]
      rw [if_pos (by omega), a, popN]
      congr 1
      push_cast
      omega
theorem spec_l5Apart.ev (a b : Int) (ha : 0 ≤ a ∧ a < 16384) (hb : 0 ≤ b ∧ b < 16384) : Stops (fun k => spec_l5Apart.f k a b) (apI a b) := by
  have hx := xor_nat ha.1 ha.2 hb.1 hb.2
  have E := l5Apart_loop 14 (a.toNat ^^^ b.toNat) 0 (by have := hx.2; omega) (by omega) (by omega) (by omega)
  refine E.same fun m e => ?_
  simp only [spec_l5Apart.f, hx.1]
  rw [e, apI, Int.zero_add]

theorem fitV_succ (ws : List Int) (w m : Int) (i : Nat) : fitV ws w m (i + 1) = if apI (rd ws (i : Int)) w ≤ m then fitV ws w m i ++ [(i : Int)] else fitV ws w m i := by
  unfold fitV
  rw [numsTo]
  by_cases h : apI (rd ws (i : Int)) w ≤ m
  · rw [if_pos (by simpa using h), if_pos h]
  · rw [if_neg (by simpa using h), if_neg h]
theorem fitV_len (ws : List Int) (w m : Int) (i : Nat) : (fitV ws w m i).length ≤ i := numsTo_length _ _
theorem spec_l5Fit.ev (ws : List Int) (w m : Int) (hs : smallW ws) (hw : 0 ≤ w ∧ w < 16384) (h : ws.length ≤ 1000000) : Stops (fun k => spec_l5Fit.f k ws w m) (fitV ws w m ws.length) := by
  refine Stops.count' (g := fun k (x : List Int × Int) => spec_l5Fit.l0 k ws w m x.1 x.2) (fun i => (fitV ws w m i, (i : Int))) ws.length (Stops.now1 fun k => ?_) fun i hi A => ?_
  · simp only [spec_l5Fit.l0]; rw [if_neg (by omega)]
  · have ew : wrap64 ((i : Int) + 1) = ((i + 1 : Nat) : Int) := w64 (by omega) (by omega)
    have hlen := fitV_len ws w m i
    refine Evt.succ (A.and (spec_l5Apart.ev (rd ws i) w (smallW_at hs i hi) hw).evt) fun k ⟨a, b⟩ => ?_
    simp only [spec_l5Fit.l0, b, ew, Option.bind_some]
    rw [if_pos (by omega), if_pos (by omega)]
    simp only [fitV_succ] at a
    by_cases hc : apI (rd ws i) w ≤ m
    · rw [if_pos hc] at a
      rw [if_pos hc, if_pos (by omega)]
      exact a
    · rw [if_neg hc] at a
      rw [if_neg hc]
      exact a

theorem spec_l5Word.eq (w : Int) (n : Int) (h : 0 ≤ n) : spec_l5Word.f w n = some (decide (0 ≤ w ∧ w ≤ wrap64 (shl .i64 1 n - 1))) := by
  unfold spec_l5Word.f
  rw [if_pos h, spec_l1In.eq]
  rfl

def okFit (n : Int) (l : List Int) (w m : Int) : Bool := isSch n l && decide (0 ≤ w ∧ w ≤ wrap64 (shl .i64 1 (l.length : Int) - 1)) && decide (0 ≤ m ∧ m ≤ 14)
theorem word_bd {l : List Int} {w : Int} (hl : l.length ≤ 14) (h : 0 ≤ w ∧ w ≤ wrap64 (shl .i64 1 (l.length : Int) - 1)) : 0 ≤ w ∧ w < 16384 := by
  have h1 : shl .i64 1 (l.length : Int) = 2 ^ l.length := by rw [shl_one (by omega) (by omega), Int.toNat_natCast]
  have h2 : (2 : Int) ^ l.length ≤ 2 ^ 14 := pow_le' hl
  have h3 := pow_pos' l.length
  rw [h1, w64 (by omega) (by omega)] at h
  omega
def fitNV (n : Int) (l : List Int) (w m : Int) : List Int × Bool := if okFit n l w m = true then (fitV (wordsV l n.toNat) w m n.toNat, true) else ([], false)
theorem spec_FitNumbers.ev (n : Int) (l : List Int) (w m : Int) (h : l.length ≤ 35184372088832) : Stops (fun k => spec_FitNumbers.f k n l w m) (fitNV n l w m) := by
  unfold fitNV
  have S1 : Evt (fun k => spec_l5Scheme.f (k + 1) n l = some (isSch n l)) := by
    obtain ⟨K, g⟩ := spec_l5Scheme.ev n l h
    exact ⟨K, fun j hj => g (j + 1) (by omega)⟩
  by_cases hs : isSch n l = true
  · have hb := isSch_bd hs
    by_cases hw : 0 ≤ w ∧ w ≤ wrap64 (shl .i64 1 (l.length : Int) - 1)
    · have F := spec_l5Fit.ev (wordsV l n.toNat) w m (wordsV_small l hb.2.2.1 _) (word_bd hb.2.2.1 hw) (by rw [wordsV_length]; omega)
      rw [wordsV_length] at F
      refine Evt.succ (S1.and ((spec_l5Words.ev n l (by omega) (by omega) h).and F.evt)) fun k ⟨a, b, c⟩ => ?_
      simp only [spec_FitNumbers.f, spec_FitNumbers.j0, a, b, c, spec_l5Word.eq w (l.length : Int) (by omega), spec_l1In.eq, okFit, hs, decide_eq_true hw, Option.bind_some, Bool.true_and]
      by_cases hm : 0 ≤ m ∧ m ≤ 14
      · rw [decide_eq_true hm]; rfl
      · rw [decide_eq_false hm]; rfl
    · refine Evt.succ S1 fun k a => ?_
      simp only [spec_FitNumbers.f, spec_FitNumbers.j0, a, spec_l5Word.eq w (l.length : Int) (by omega), okFit, hs, decide_eq_false hw, Option.bind_some, Bool.and_false, Bool.false_and]
      simp
  · refine Evt.succ S1 fun k a => ?_
    simp [spec_FitNumbers.f, spec_FitNumbers.j0, a, okFit, hs]

theorem impl_isWord.eq (l : List Int) (w : Int) : impl_isWord.f l w = some (decide (0 ≤ w ∧ w ≤ wrap64 (shl .i64 1 (l.length : Int) - 1))) := by
  unfold impl_isWord.f
  rw [impl_in.eq]
  rfl

theorem impl_has.eq (q k : Int) (h : 0 ≤ k) : impl_has.f q k = some (hasB q k) := by
  unfold impl_has.f; rw [if_pos h]; rfl

theorem impl_trueWord.ev (l : List Int) (k : Int) (h0 : 0 ≤ k) (hl : l.length ≤ 35184372088832) : Stops (fun n => impl_trueWord.f n l k) (twV l k l.length) := by
  refine Stops.count (g := fun n (s : Int × Int) => impl_trueWord.l0 n k s.1 l l.length s.2) (fun i => (twV l k i, (i : Int))) l.length (Stops.now1 fun m => ?_) fun i hi m => ?_
  · simp only [impl_trueWord.l0]; rw [if_neg (by omega)]
  · have e : wrap64 ((i : Int) + 1) = (i : Int) + 1 := w64 (by omega) (by omega)
    simp only [impl_trueWord.l0]; rw [if_pos (by omega), if_pos (by omega), if_pos (by omega), rd_nat, impl_has.eq _ _ h0, Option.bind_some, e, twV]
    by_cases hb : hasB (l.getD i 0) k = true
    · rw [if_pos hb, if_pos hb]; rfl
    · rw [if_neg hb, if_neg hb]; rfl

theorem impl_trueWords.ev (n : Int) (l : List Int) (h0 : 0 ≤ n) (h1 : n ≤ 1000) (hl : l.length ≤ 35184372088832) : Stops (fun k => impl_trueWords.f k n l) (wordsV l n.toNat) := by
  refine Stops.count' (g := fun k (s : List Int × Int) => impl_trueWords.l0 k l s.1 n s.2) (fun i => (wordsV l i, (i : Int))) n.toNat (Stops.now1 fun m => ?_) fun i hi A => ?_
  · simp only [impl_trueWords.l0]; rw [if_neg (by omega)]
  · have e : wrap64 ((i : Int) + 1) = (i : Int) + 1 := w64 (by omega) (by omega)
    have hw := wordsV_length l i
    refine Evt.succ (A.and (impl_trueWord.ev l i (by omega) hl).evt) fun m ⟨a, b⟩ => ?_
    simp only [impl_trueWords.l0]
    rw [if_pos (by omega), show impl_trueWord.f m l i = _ from b, Option.bind_some, if_pos (by omega), e]; exact a

theorem ones_small : ∀ a b : Fin 128, bits_OnesCount64.f ((128 * a.val + b.val : Nat) : Int) = some (popN 14 (128 * a.val + b.val) : Int) := by decide +kernel
theorem impl_apart.eq (a b : Int) (ha : 0 ≤ a ∧ a < 16384) (hb : 0 ≤ b ∧ b < 16384) : impl_apart.f a b = some (apI a b) := by
  have hx := xor_nat ha.1 ha.2 hb.1 hb.2
  have hs := ones_small ⟨(a.toNat ^^^ b.toNat) / 128, by omega⟩ ⟨(a.toNat ^^^ b.toNat) % 128, by omega⟩
  simp only at hs
  rw [Nat.div_add_mod] at hs
  have e2 : IntKind.u64.wrap ((a.toNat ^^^ b.toNat : Nat) : Int) = ((a.toNat ^^^ b.toNat : Nat) : Int) := by
    have : IntKind.u64.wrap ((a.toNat ^^^ b.toNat : Nat) : Int) = ((a.toNat ^^^ b.toNat : Nat) : Int) % 18446744073709551616 := rfl
    rw [this]
    omega
  simp only [impl_apart.f, bits_OnesCount.f, hx.1, e2, hs, Option.bind_some]
  rfl

theorem impl_fit.ev (n : Int) (l : List Int) (w m : Int) (h0 : 0 ≤ n) (hn : n ≤ 12) (hl : l.length ≤ 14) (hw : 0 ≤ w ∧ w < 16384) : Stops (fun k => impl_fit.f k n l w m) (fitV (wordsV l n.toNat) w m n.toNat) := by
  obtain ⟨ws, hws⟩ : ∃ ws, ws = wordsV l n.toNat := ⟨_, rfl⟩
  have hs : smallW ws := hws ▸ wordsV_small l hl n.toNat
  have hlen : ws.length = n.toNat := by rw [hws, wordsV_length]
  have E : Stops (fun k => impl_fit.l0 k w m [] ws (ws.length : Int) 0) (fitV ws w m ws.length) := by
    refine Stops.count (g := fun k (x : List Int × Int) => impl_fit.l0 k w m x.1 ws (ws.length : Int) x.2) (fun i => (fitV ws w m i, (i : Int))) ws.length (Stops.now1 fun k => ?_) fun i hi k => ?_
    · simp only [impl_fit.l0]; rw [if_neg (by omega)]
    · have ew : wrap64 ((i : Int) + 1) = ((i + 1 : Nat) : Int) := w64 (by omega) (by omega)
      have hlen2 := fitV_len ws w m i
      simp only [impl_fit.l0, impl_apart.eq (rd ws i) w (smallW_at hs i hi) hw, ew, Option.bind_some]
      rw [if_pos (by omega), if_pos (by omega), if_pos (by omega)]
      rw [fitV_succ]
      by_cases hc : apI (rd ws i) w ≤ m
      · rw [if_pos hc, if_pos (by omega), if_pos hc]
      · rw [if_neg hc, if_neg hc]
  refine ((impl_trueWords.ev n l (by omega) (by omega) (by omega)).and E.evt).mono fun k ⟨a, b⟩ => ?_
  simp only [impl_fit.f, a, Option.bind_some]
  rw [← hws, b, hlen]

theorem impl_FitNumbers.ev (n : Int) (l : List Int) (w m : Int) : Stops (fun k => impl_FitNumbers.f k n l w m) (fitNV n l w m) := by
  unfold fitNV
  by_cases hs : isSch n l = true
  · have hb := isSch_bd hs
    by_cases hw : 0 ≤ w ∧ w ≤ wrap64 (shl .i64 1 (l.length : Int) - 1)
    · refine (impl_fit.ev n l w m (by omega) (by omega) hb.2.2.1 (word_bd hb.2.2.1 hw)).same fun k a => ?_
      simp only [impl_FitNumbers.f, impl_IsScheme.f, a, impl_isWord.eq, impl_in.eq, okFit, hs, decide_eq_true hw, Option.bind_some, Bool.true_and]
      by_cases hm : 0 ≤ m ∧ m ≤ 14
      · rw [decide_eq_true hm]; rfl
      · rw [decide_eq_false hm]; rfl
    · refine Evt.true.mono fun k _ => ?_
      simp only [impl_FitNumbers.f, impl_IsScheme.f, impl_isWord.eq, okFit, hs, decide_eq_false hw, Option.bind_some, Bool.and_false, Bool.false_and]
      simp
  · refine Evt.true.mono fun k _ => ?_
    simp [impl_FitNumbers.f, impl_IsScheme.f, okFit, hs]

theorem law : laws_FnExactFitNumbers.Pure := by
  intro n l w m0
  intros
  by_cases hb : (l.length : Int) > 1048576
  · exact ⟨0, by simp [laws_FnExactFitNumbers.f, hb]⟩
  have hvl : (fitNV n l w m0).1.length ≤ 35184372088832 := by
    unfold fitNV
    split
    · rename_i h
      unfold okFit at h
      simp only [Bool.and_eq_true] at h
      have := isSch_bd h.1.1
      have := numsTo_length (fun k => decide (apI (rd (wordsV l n.toNat) k) w ≤ m0)) n.toNat
      show (fitV (wordsV l n.toNat) w m0 n.toNat).length ≤ _
      unfold fitV
      omega
    · simp
  have S := spec_FitNumbers.ev n l w m0 (by omega)
  have I := impl_FitNumbers.ev n l w m0
  generalize (fitNV n l w m0) = v at *
  obtain ⟨v, b⟩ := v
  simp only at hvl
  have hneg_v : ¬ (1 + (v.length : Int) < 0) := by omega
  obtain ⟨m, h⟩ := (((S).and ((I).and ((laws_toIntS.ev l (by omega)).and ((laws_eqIntS.ev l (by omega)).and ((laws_markIntS.ev l 1 (by omega) (by omega) (by omega)).and ((laws_eqIntS.ev v (by omega)).and ((laws_markIntS.ev v 1 (by omega) (by omega) (by omega)).and (laws_heldIntS.ev v.length 1 (by omega) (by omega) (by omega)).evt)))))))).shift
  have h0 := fun j => (h j).1
  have h1 := fun j => (h j).2.1
  have h2 := fun j => (h j).2.2.1
  have h3 := fun j => (h j).2.2.2.1
  have h4 := fun j => (h j).2.2.2.2.1
  have h5 := fun j => (h j).2.2.2.2.2.1
  have h6 := fun j => (h j).2.2.2.2.2.2.1
  have h7 := fun j => (h j).2.2.2.2.2.2.2
  refine ⟨m + 7, ?_⟩
  simp [laws_FnExactFitNumbers.f, laws_FnExactFitNumbers.j0, laws_FnExactFitNumbers.j1, laws_FnExactFitNumbers.j2, h0, h1, h2, h3, h4, h5, h6, h7, hb, show ¬ (1 + (l.length : Int) < 0) by omega, hneg_v]

end Go.Proofs.Ytlmcoaencmfdfaa.PFnExactFitNumbers
