/- The plain law behind the statement FnExactNearNumbers: what the Go functions' Lean forms come to. Written for this work; no condition. -/
import Derived.Test.YtllelojlcmkehaaPFnExactNearNumbersx
import Derived.Test.YtllelojlcmkehaaLib2
set_option linter.unusedVariables false
set_option linter.unusedSimpArgs false
namespace Go.Proofs.Ytllelojlcmkehaa.PFnExactNearNumbers
open Go.RowKit Go.Proofs.YtllelojlcmkehaaW.PrintWords Go.Proofs.YtllelojlcmkehaaW.PrintLast Go.Proofs.YtllelojlcmkehaaW.PrintMore Go.Proofs.Ytllelojlcmkehaa.Lib


theorem laws_toIntS.ev (l : List Int) (h : l.length ≤ 35184372088832) : Stops (fun k => laws_toIntS.f k l) l := by
  have E : Stops (fun k => laws_toIntS.l0 k l (List.replicate l.length 0) 0) l := by
    refine Stops.count (g := fun k (s : List Int × Int) => laws_toIntS.l0 k l s.1 s.2) (fun i => (l.take i ++ List.replicate (l.length - i) 0, (i : Int))) l.length (Stops.now1 fun m => ?_) fun i hi m => ?_
    · simp only [laws_toIntS.l0]; rw [if_neg (by omega)]; simp
    · have e : wrap64 ((i : Int) + 1) = (i : Int) + 1 := w64 (by omega) (by omega)
      have hl : ((l.take i ++ List.replicate (l.length - i) (0 : Int)).length : Int) = l.length := by simp; omega
      simp only [laws_toIntS.l0]; rw [if_pos (by omega), if_pos (by omega), hl, if_pos (by omega), e, rd_at l i hi, Int.toNat_natCast, set_fill l i hi]; rfl
  refine E.same fun m a => ?_
  simp only [laws_toIntS.f, Int.toNat_natCast]; rw [if_pos (by omega), if_pos h]; exact a

theorem laws_eqIntS.ev (l : List Int) (h : l.length ≤ 35184372088832) : Stops (fun k => laws_eqIntS.f k l l) true := by
  have E : Stops (fun k => laws_eqIntS.l0 k l l 0) true := by
    refine Stops.count (g := fun k (s : Int) => laws_eqIntS.l0 k l l s) (fun i => (i : Int)) l.length (Stops.now1 fun m => ?_) fun i hi m => ?_
    · simp only [laws_eqIntS.l0]; rw [if_neg (by omega)]
    · have e : wrap64 ((i : Int) + 1) = (i : Int) + 1 := w64 (by omega) (by omega)
      rw [laws_eqIntS.l0, if_pos (by omega), if_pos (by omega), if_pos (by omega), if_pos rfl, e]; rfl
  refine E.same fun m a => ?_
  simp only [laws_eqIntS.f, if_true]; exact a

theorem laws_markIntS.ev (l : List Int) (a : Int) (h : l.length ≤ 35184372088832) (h0 : 0 ≤ a) (h1 : a ≤ 1000000000000000000) : Stops (fun k => laws_markIntS.f k l a) (a + l.length, upFrom a l.length) := by
  have E : Stops (fun k => laws_markIntS.l0 k (upFrom a 0 ++ l.drop 0) (a + ((0 : Nat) : Int)) ((0 : Nat) : Int)) (a + l.length, upFrom a l.length) := by
   refine Stops.count (g := fun k (s : List Int × Int × Int) => laws_markIntS.l0 k s.1 s.2.1 s.2.2) (fun i => (upFrom a i ++ l.drop i, a + i, (i : Int))) l.length (Stops.now1 fun m => ?_) fun i hi m => ?_
   · have hl : ((upFrom a l.length ++ l.drop l.length).length : Int) = l.length := by simp [upFrom_length]
     simp only [laws_markIntS.l0]; rw [if_neg (by rw [hl]; omega)]; simp
   · have e : wrap64 ((i : Int) + 1) = (i : Int) + 1 := w64 (by omega) (by omega)
     have e2 : wrap64 (a + (i : Int) + 1) = a + ((i + 1 : Nat) : Int) := by rw [w64 (by omega) (by omega)]; omega
     have hl : ((upFrom a i ++ l.drop i).length : Int) = l.length := by simp [upFrom_length]; omega
     simp only [laws_markIntS.l0]; rw [if_pos (by rw [hl]; omega), if_pos (by omega), e, e2, Int.toNat_natCast, set_split l i (upFrom a i) (a + i) (upFrom_length i a) hi, ← upFrom_append]; rfl
  refine E.same fun m e => ?_
  simp [upFrom] at e
  exact e

theorem laws_heldIntS.ev (n : Nat) (a : Int) (h : n ≤ 35184372088832) (h0 : 0 ≤ a) (h1 : a ≤ 1000000000000000000) : Stops (fun k => laws_heldIntS.f k (upFrom a n) a) (a + n) := by
  have E : Stops (fun k => laws_heldIntS.l0 k (upFrom a n) (a + ((0 : Nat) : Int)) ((0 : Nat) : Int)) (a + n) := by
    refine Stops.count (g := fun k (s : Int × Int) => laws_heldIntS.l0 k (upFrom a n) s.1 s.2) (fun i => (a + (i : Int), (i : Int))) n (Stops.now1 fun m => ?_) fun i hi m => ?_
    · simp only [laws_heldIntS.l0, upFrom_length]; rw [if_neg (by omega)]
    · have e : wrap64 ((i : Int) + 1) = (i : Int) + 1 := w64 (by omega) (by omega)
      have e2 : wrap64 (a + (i : Int) + 1) = a + ((i + 1 : Nat) : Int) := by rw [w64 (by omega) (by omega)]; omega
      simp only [laws_heldIntS.l0, upFrom_length]; rw [if_pos (by omega), if_pos (by omega), rd_nat, upFrom_getD n a i hi, if_pos rfl, e, e2]; rfl
  refine E.same fun m e => ?_
  simp at e
  exact e

theorem spec_l1In.eq (a b c : Int) : spec_l1In.f a b c = some (decide (b ≤ a ∧ a ≤ c)) := by
  unfold spec_l1In.f; by_cases h : b ≤ a <;> simp [h]

theorem spec_l2Numbers.eq (a : Int) : spec_l2Numbers.f a = some (isN a) := by
  unfold spec_l2Numbers.f; rw [spec_l1In.eq]; rfl

theorem spec_l2Asks.eq (n q : Int) : spec_l2Asks.f n q = some (isQ n q) := by
  unfold spec_l2Asks.f isQ; rw [spec_l2Numbers.eq, spec_l1In.eq]
  cases h : isN n
  · simp
  · have := isN_bd h
    simp [show 0 ≤ n by omega]

theorem spec_l5Scheme.ev (n : Int) (l : List Int) (h : l.length ≤ 35184372088832) : Stops (fun k => spec_l5Scheme.f k n l) (isSch n l) := by
  have e : isSch n l = chkV (fun x => isQ n x) (isN n && decide (l.length ≤ 14)) 14 l 0 := by
    rw [chkV_eq _ _ _ _ _ (fun g => by rw [Bool.and_eq_true, decide_eq_true_eq] at g; omega)]
    simp [isSch, List.all_eq_not_any_not]
  have hd : decide ((l.length : Int) ≤ 14) = decide (l.length ≤ 14) := by simp only [decide_eq_decide]; omega
  rw [e]
  have E := Stops.over0 l (fun k (i : Nat) (s : Unit) => spec_l5Scheme.l0 k n l (i : Int)) (fun t s => chkV (fun x => isQ n x) (isN n && decide (l.length ≤ 14)) 14 t (l.length - t.length)) () ?_ ?_
  · rw [Nat.sub_self] at E; exact E
  · intro s
    refine ⟨2, fun q hq => ?_⟩
    obtain ⟨k, rfl⟩ : ∃ k, q = k + 2 := ⟨q - 2, by omega⟩
    simp only [spec_l5Scheme.l0, spec_l5Scheme.j1, spec_l2Numbers.eq]; rw [if_neg (by omega), if_neg (by simp), hd]
    cases isN n <;> rfl
  · intro i hi s A
    have ew : wrap64 ((i : Int) + 1) = ((i + 1 : Nat) : Int) := w64 (by omega) (by omega)
    have ed : l.length - (l[i] :: l.drop (i + 1)).length = i := by simp; omega
    have ed2 : l.length - (l.drop (i + 1)).length = i + 1 := by simp; omega
    have A := A ()
    simp only [ed, ed2] at A ⊢
    by_cases hc : i ≤ 14
    · cases hp : isQ n l[i]
      · refine ⟨2, fun q hq => ?_⟩
        obtain ⟨k, rfl⟩ : ∃ k, q = k + 2 := ⟨q - 2, by omega⟩
        simp only [spec_l5Scheme.l0, spec_l5Scheme.j1, rd_at l i hi, spec_l2Asks.eq]
        rw [if_pos (by omega), decide_eq_true (show (i : Int) ≤ 14 by omega), if_pos (by trivial), if_pos (by omega), if_pos (by omega), hp, Option.bind_some]; simp [chkV, hc, hp]
      · have A1 : Stops (fun k => spec_l5Scheme.j1 k n l (i : Int) true) (chkV (fun x => isQ n x) (isN n && decide (l.length ≤ 14)) 14 (l[i] :: l.drop (i + 1)) i) := A.round fun k a => by
          simp only [spec_l5Scheme.j1, rd_at l i hi, spec_l2Asks.eq]
          rw [if_pos trivial, if_pos (by omega), if_pos (by omega), hp, Option.bind_some, if_pos (by trivial), ew, chkV, if_pos hc, if_pos hp]; exact a
        exact A1.round fun k a => by
          simp only [spec_l5Scheme.l0]; rw [if_pos (by omega), decide_eq_true (by omega)]; exact a
    · refine ⟨2, fun q hq => ?_⟩
      obtain ⟨k, rfl⟩ : ∃ k, q = k + 2 := ⟨q - 2, by omega⟩
      simp only [spec_l5Scheme.l0, spec_l5Scheme.j1, spec_l2Numbers.eq]
      rw [if_pos (by omega), decide_eq_false (show ¬ (i : Int) ≤ 14 by omega), chkV, if_neg hc, if_neg (by simp), hd]
      cases isN n <;> rfl

theorem spec_l5Word.eq (w : Int) (n : Int) (h : 0 ≤ n) : spec_l5Word.f w n = some (decide (0 ≤ w ∧ w ≤ wrap64 (shl .i64 1 n - 1))) := by
  unfold spec_l5Word.f
  rw [if_pos h, spec_l1In.eq]
  rfl

theorem popN_zero (f : Nat) : popN f 0 = 0 := by
  induction f with
  | zero => rfl
  | succ f ih => simp [popN, ih]
theorem l5Apart_loop (f : Nat) : ∀ (x : Nat) (s : Int), x < 2 ^ f → f ≤ 14 → 0 ≤ s → s ≤ 1000 - (f : Int) → Stops (fun k => spec_l5Apart.l0 k s (x : Int)) (s + (popN f x : Int)) := by
  induction f with
  | zero =>
    intro x s h _ _ _
    refine Stops.now1 fun m => ?_
    simp only [spec_l5Apart.l0]
    rw [if_neg (by simp at h; omega)]
    simp [popN]
  | succ f ih =>
    intro x s h hf h0 h1
    by_cases hx : x = 0
    · subst hx
      refine Stops.now1 fun m => ?_
      simp only [spec_l5Apart.l0]
      rw [if_neg (by omega), popN_zero]
      simp
    · have hp : 2 ^ (f + 1) = 2 * 2 ^ f := by rw [Nat.pow_succ]; omega
      have hlim : 2 ^ (f + 1) ≤ 2 ^ 14 := Nat.pow_le_pow_right (by omega) hf
      have e1 : wrap64 (s + Go.bits .and .i64 (x : Int) 1) = s + ((x % 2 : Nat) : Int) := by
        rw [and1 x (by omega)]
        exact w64 (by omega) (by omega)
      have e2 : (x : Int) / 2 = ((x / 2 : Nat) : Int) := by omega
      refine (ih (x / 2) (s + ((x % 2 : Nat) : Int)) (by omega) (by omega) (by omega) (by omega)).round fun m a => ?_
      simp only [spec_l5Apart.l0, e1, e2]
      rw [if_pos (by omega), a, popN]
      congr 1
      push_cast
      omega
theorem spec_l5Apart.ev (a b : Int) (ha : 0 ≤ a ∧ a < 16384) (hb : 0 ≤ b ∧ b < 16384) : Stops (fun k => spec_l5Apart.f k a b) (apI a b) := by
  have hx := xor_nat ha.1 ha.2 hb.1 hb.2
  have E := l5Apart_loop 14 (a.toNat ^^^ b.toNat) 0 (by have := hx.2; omega) (by omega) (by omega) (by omega)
  refine E.same fun m e => ?_
  simp only [spec_l5Apart.f, hx.1]
  rw [e, apI, Int.zero_add]

theorem leastV_pos (p : Int → Int) (i : Nat) : (leastV p (i + 1)).2.length ≠ 0 := by
  induction i with
  | zero => simp [leastV]
  | succ i ih =>
    rw [leastV]
    split
    · simp
    · split
      · simp
      · exact ih
/-- The reference's running least: it starts above all. -/
def spL (p : Int → Int) (top : Int) : Nat → Int × List Int
  | 0 => (top, [])
  | i + 1 => leastV p (i + 1)
theorem spL_step (p : Int → Int) (top : Int) (i : Nat) (h : p (i : Int) < top) : spL p top (i + 1) = if p (i : Int) < (spL p top i).1 then (p (i : Int), [(i : Int)]) else if p (i : Int) = (spL p top i).1 then ((spL p top i).1, (spL p top i).2 ++ [(i : Int)]) else spL p top i := by
  cases i with
  | zero =>
    show leastV p 1 = if p ((0 : Nat) : Int) < top then _ else _
    rw [if_pos h]
    simp [leastV]
  | succ i =>
    have := leastV_pos p i
    show leastV p (i + 1 + 1) = _
    rw [leastV]
    show (if _ ∨ _ then _ else _) = if p ((i + 1 : Nat) : Int) < (leastV p (i + 1)).1 then _ else if p ((i + 1 : Nat) : Int) = (leastV p (i + 1)).1 then _ else leastV p (i + 1)
    by_cases h1 : p ((i + 1 : Nat) : Int) < (leastV p (i + 1)).1
    · rw [if_pos (Or.inr h1), if_pos h1]
    · rw [if_neg (by rintro (g | g); exact this g; exact h1 g), if_neg h1]
      rfl
theorem spL_len (p : Int → Int) (top : Int) (i : Nat) : (spL p top i).2.length ≤ i := by
  cases i with
  | zero => exact Nat.le_refl _
  | succ i => exact leastV_len p (i + 1)
/-- How far the words are from one. -/
def nnP (ws : List Int) (w x : Int) : Int := apI (rd ws x) w
theorem spec_l5Near.ev (ws : List Int) (w : Int) (hs : smallW ws) (hw : 0 ≤ w ∧ w < 16384) (h : ws.length ≤ 1000000) : Stops (fun k => spec_l5Near.f k ws w) ((spL (nnP ws w) 15 ws.length).2, (spL (nnP ws w) 15 ws.length).1) := by
  refine Stops.count' (g := fun k (s : (Int × List Int) × Int) => spec_l5Near.l0 k ws w s.1.2 s.1.1 s.2) (fun i => (spL (nnP ws w) 15 i, (i : Int))) ws.length (Stops.now1 fun k => ?_) fun i hi A => ?_
  · simp only [spec_l5Near.l0]; rw [if_neg (by omega)]
  · have ew : wrap64 ((i : Int) + 1) = ((i + 1 : Nat) : Int) := w64 (by omega) (by omega)
    have hp : nnP ws w (i : Int) < 15 := by
      have := apI_bd (rd ws (i : Int)) w
      unfold nnP; omega
    have hl := spL_len (nnP ws w) 15 i
    refine Evt.succ (A.and (spec_l5Apart.ev (rd ws i) w (smallW_at hs i hi) hw).evt) fun k ⟨a, b⟩ => ?_
    rw [show apI (rd ws (i : Int)) w = nnP ws w (i : Int) from rfl] at b
    rw [spL_step _ _ _ hp] at a
    show spec_l5Near.l0 (k + 1) ws w (spL (nnP ws w) 15 i).2 (spL (nnP ws w) 15 i).1 (i : Int) = _
    rw [spec_l5Near.l0, if_pos (by omega), if_pos (by omega), b, Option.bind_some, ew]
    by_cases h1 : nnP ws w (i : Int) < (spL (nnP ws w) 15 i).1
    · rw [if_pos h1] at a ⊢
      rw [Option.bind_some, if_pos rfl, if_pos (by simp)]
      exact a
    · rw [if_neg h1] at a ⊢
      by_cases h2 : nnP ws w (i : Int) = (spL (nnP ws w) 15 i).1
      · rw [if_pos h2] at a ⊢
        rw [if_pos (by omega)]
        exact a
      · rw [if_neg h2] at a ⊢
        exact a

theorem spec_l5True.ev (l : List Int) (k : Int) (h0 : 0 ≤ k) (hl : l.length ≤ 35184372088832) : Stops (fun n => spec_l5True.f n l k) (twV l k l.length) := by
  refine Stops.count (g := fun n (s : Int × Int) => spec_l5True.l0 n l k s.1 s.2) (fun i => (twV l k i, (i : Int))) l.length (Stops.now1 fun m => ?_) fun i hi m => ?_
  · simp only [spec_l5True.l0]; rw [if_neg (by omega)]
  · have e : wrap64 ((i : Int) + 1) = (i : Int) + 1 := w64 (by omega) (by omega)
    simp only [spec_l5True.l0]; rw [if_pos (by omega), if_pos (by omega), if_pos (by omega), rd_nat, twV_step, e]; rfl

theorem spec_l5Words.ev (n : Int) (l : List Int) (h0 : 0 ≤ n) (h1 : n ≤ 1000) (hl : l.length ≤ 35184372088832) : Stops (fun k => spec_l5Words.f k n l) (wordsV l n.toNat) := by
  refine Stops.count' (g := fun k (s : List Int × Int) => spec_l5Words.l0 k n l s.1 s.2) (fun i => (wordsV l i, (i : Int))) n.toNat (Stops.now1 fun m => ?_) fun i hi A => ?_
  · simp only [spec_l5Words.l0]; rw [if_neg (by omega)]
  · have e : wrap64 ((i : Int) + 1) = (i : Int) + 1 := w64 (by omega) (by omega)
    have hw := wordsV_length l i
    refine Evt.succ (A.and (spec_l5True.ev l i (by omega) hl).evt) fun m ⟨a, b⟩ => ?_
    simp only [spec_l5Words.l0]
    rw [if_pos (by omega), show spec_l5True.f m l i = _ from b, Option.bind_some, if_pos (by omega), e]; exact a

theorem word_bd {l : List Int} {w : Int} (hl : l.length ≤ 14) (h : 0 ≤ w ∧ w ≤ wrap64 (shl .i64 1 (l.length : Int) - 1)) : 0 ≤ w ∧ w < 16384 := by
  have h1 : shl .i64 1 (l.length : Int) = 2 ^ l.length := by rw [shl_one (by omega) (by omega), Int.toNat_natCast]
  have h2 : (2 : Int) ^ l.length ≤ 2 ^ 14 := pow_le' hl
  have h3 := pow_pos' l.length
  rw [h1, w64 (by omega) (by omega)] at h
  omega
def okNear (n : Int) (l : List Int) (w : Int) : Bool := isSch n l && decide (0 ≤ w ∧ w ≤ wrap64 (shl .i64 1 (l.length : Int) - 1))
def nnV (n : Int) (l : List Int) (w : Int) : List Int × Int × Bool := if okNear n l w = true then ((leastV (nnP (wordsV l n.toNat) w) n.toNat).2, (leastV (nnP (wordsV l n.toNat) w) n.toNat).1, true) else ([], 0, false)
theorem spec_NearNumbers.ev (n : Int) (l : List Int) (w : Int) (h : l.length ≤ 35184372088832) : Stops (fun k => spec_NearNumbers.f k n l w) (nnV n l w) := by
  unfold nnV
  have S1 : Evt (fun k => spec_l5Scheme.f (k + 1) n l = some (isSch n l)) := by
    obtain ⟨K, g⟩ := spec_l5Scheme.ev n l h
    exact ⟨K, fun j hj => g (j + 1) (by omega)⟩
  by_cases hs : isSch n l = true
  · have hb := isSch_bd hs
    by_cases hw : 0 ≤ w ∧ w ≤ wrap64 (shl .i64 1 (l.length : Int) - 1)
    · have F := spec_l5Near.ev (wordsV l n.toNat) w (wordsV_small l hb.2.2.1 _) (word_bd hb.2.2.1 hw) (by rw [wordsV_length]; omega)
      rw [wordsV_length] at F
      have en : spL (nnP (wordsV l n.toNat) w) 15 n.toNat = leastV (nnP (wordsV l n.toNat) w) n.toNat := by
        obtain ⟨j, hj⟩ : ∃ j, n.toNat = j + 1 := ⟨n.toNat - 1, by omega⟩
        rw [hj]; rfl
      rw [en] at F
      refine Evt.succ (S1.and ((spec_l5Words.ev n l (by omega) (by omega) h).and F.evt)) fun k ⟨a, b, c⟩ => ?_
      simp only [spec_NearNumbers.f, spec_NearNumbers.j0, a, b, c, spec_l5Word.eq w (l.length : Int) (by omega), okNear, hs, decide_eq_true hw, Option.bind_some, Bool.true_and]
      rfl
    · refine Evt.succ S1 fun k a => ?_
      simp only [spec_NearNumbers.f, spec_NearNumbers.j0, a, spec_l5Word.eq w (l.length : Int) (by omega), okNear, hs, decide_eq_false hw, Option.bind_some, Bool.and_false, Bool.false_and]
      simp
  · refine Evt.succ S1 fun k a => ?_
    simp [spec_NearNumbers.f, spec_NearNumbers.j0, a, okNear, hs]

theorem impl_isWord.eq (l : List Int) (w : Int) : impl_isWord.f l w = some (decide (0 ≤ w ∧ w ≤ wrap64 (shl .i64 1 (l.length : Int) - 1))) := by
  unfold impl_isWord.f
  rw [impl_in.eq]
  rfl

theorem ones_small : ∀ a b : Fin 128, bits_OnesCount64.f ((128 * a.val + b.val : Nat) : Int) = some (popN 14 (128 * a.val + b.val) : Int) := by decide +kernel
theorem impl_apart.eq (a b : Int) (ha : 0 ≤ a ∧ a < 16384) (hb : 0 ≤ b ∧ b < 16384) : impl_apart.f a b = some (apI a b) := by
  have hx := xor_nat ha.1 ha.2 hb.1 hb.2
  have hs := ones_small ⟨(a.toNat ^^^ b.toNat) / 128, by omega⟩ ⟨(a.toNat ^^^ b.toNat) % 128, by omega⟩
  simp only at hs
  rw [Nat.div_add_mod] at hs
  have e2 : IntKind.u64.wrap ((a.toNat ^^^ b.toNat : Nat) : Int) = ((a.toNat ^^^ b.toNat : Nat) : Int) := by
    have : IntKind.u64.wrap ((a.toNat ^^^ b.toNat : Nat) : Int) = ((a.toNat ^^^ b.toNat : Nat) : Int) % 18446744073709551616 := rfl
    rw [this]
    omega
  simp only [impl_apart.f, bits_OnesCount.f, hx.1, e2, hs, Option.bind_some]
  rfl

theorem impl_has.eq (q k : Int) (h : 0 ≤ k) : impl_has.f q k = some (hasB q k) := by
  unfold impl_has.f; rw [if_pos h]; rfl

theorem impl_trueWord.ev (l : List Int) (k : Int) (h0 : 0 ≤ k) (hl : l.length ≤ 35184372088832) : Stops (fun n => impl_trueWord.f n l k) (twV l k l.length) := by
  refine Stops.count (g := fun n (s : Int × Int) => impl_trueWord.l0 n k s.1 l l.length s.2) (fun i => (twV l k i, (i : Int))) l.length (Stops.now1 fun m => ?_) fun i hi m => ?_
  · simp only [impl_trueWord.l0]; rw [if_neg (by omega)]
  · have e : wrap64 ((i : Int) + 1) = (i : Int) + 1 := w64 (by omega) (by omega)
    simp only [impl_trueWord.l0]; rw [if_pos (by omega), if_pos (by omega), if_pos (by omega), rd_nat, impl_has.eq _ _ h0, Option.bind_some, e, twV]
    by_cases hb : hasB (l.getD i 0) k = true
    · rw [if_pos hb, if_pos hb]; rfl
    · rw [if_neg hb, if_neg hb]; rfl

theorem wordsV_rd (l : List Int) (n : Nat) : ∀ x : Nat, x < n → rd (wordsV l n) (x : Int) = twV l (x : Int) l.length := by
  induction n with
  | zero => intro x hx; omega
  | succ n ih =>
    intro x hx
    rw [rd_nat, wordsV, List.getD_eq_getElem?_getD]
    by_cases h : x < n
    · rw [List.getElem?_append_left (by rw [wordsV_length]; exact h), ← List.getD_eq_getElem?_getD, ← rd_nat]
      exact ih x h
    · obtain rfl : x = n := by omega
      rw [List.getElem?_append_right (by rw [wordsV_length]; exact Nat.le_refl _), wordsV_length]
      simp
theorem Evt.all {P : Nat → Nat → Prop} (n : Nat) (h : ∀ x, x < n → Evt (P x)) : Evt (fun k => ∀ x, x < n → P x k) := by
  induction n with
  | zero => exact ⟨0, fun k _ x hx => by omega⟩
  | succ n ih =>
    obtain ⟨K1, h1⟩ := ih fun x hx => h x (by omega)
    obtain ⟨K2, h2⟩ := h n (by omega)
    refine ⟨K1 + K2, fun k hk x hx => ?_⟩
    by_cases e : x = n
    · subst e; exact h2 k (by omega)
    · exact h1 k (by omega) x (by omega)
theorem impl_near.ev (n : Int) (l : List Int) (w : Int) (h0 : 0 ≤ n) (hn : n ≤ 12) (hl : l.length ≤ 14) (hw : 0 ≤ w ∧ w < 16384) : Stops (fun k => impl_near.f k n l w) (leastV (nnP (wordsV l n.toNat) w) n.toNat) := by
  refine (Evt.all (P := fun x k => impl_trueWord.f k l (x : Int) = some (twV l (x : Int) l.length)) n.toNat fun x hx => (impl_trueWord.ev l (x : Int) (by omega) (by omega)).evt).mono fun k hk => ?_
  have h1 : nearN k l n.toNat = true := by
    unfold nearN
    rw [List.all_eq_true]
    intro x hx
    rw [hk x (List.mem_range.1 hx)]; rfl
  have h2 : leastV (nearP k l w) n.toNat = leastV (nnP (wordsV l n.toNat) w) n.toNat := leastV_congr _ _ _ fun x hx => by
    have e1 : nearT k l (x : Int) = twV l (x : Int) l.length := by rw [nearT, hk x hx]; rfl
    have hb := twV_bd l (x : Int) l.length (by omega)
    have h2 : (2 : Int) ^ l.length ≤ 2 ^ 14 := pow_le' hl
    show apF (nearT k l (x : Int)) w = apI (rd (wordsV l n.toNat) (x : Int)) w
    rw [e1, wordsV_rd l n.toNat x hx, apF, impl_apart.eq _ w ⟨hb.1, by omega⟩ hw]; rfl
  show impl_near.f k n l w = _
  unfold impl_near.f
  rw [if_pos ⟨h0, by omega⟩, if_pos h1, h2]
theorem impl_NearNumbers.ev (n : Int) (l : List Int) (w : Int) : Stops (fun k => impl_NearNumbers.f k n l w) (nnV n l w) := by
  unfold nnV
  by_cases hs : isSch n l = true
  · have hb := isSch_bd hs
    by_cases hw : 0 ≤ w ∧ w ≤ wrap64 (shl .i64 1 (l.length : Int) - 1)
    · refine (impl_near.ev n l w (by omega) (by omega) hb.2.2.1 (word_bd hb.2.2.1 hw)).same fun k a => ?_
      simp only [impl_NearNumbers.f, impl_IsScheme.f, a, impl_isWord.eq, okNear, hs, decide_eq_true hw, Option.bind_some, Bool.true_and]
      rfl
    · refine Evt.true.mono fun k _ => ?_
      simp only [impl_NearNumbers.f, impl_IsScheme.f, impl_isWord.eq, okNear, hs, decide_eq_false hw, Option.bind_some, Bool.and_false, Bool.false_and]
      simp
  · refine Evt.true.mono fun k _ => ?_
    simp [impl_NearNumbers.f, impl_IsScheme.f, okNear, hs]

theorem law : laws_FnExactNearNumbers.Pure := by
  intro n l w
  intros
  by_cases hb : (l.length : Int) > 1048576
  · exact ⟨0, by simp [laws_FnExactNearNumbers.f, hb]⟩
  have hvl : (nnV n l w).1.length ≤ 1000 := by
    unfold nnV
    split
    · rename_i h
      unfold okNear at h
      rw [Bool.and_eq_true] at h
      have := isSch_bd h.1
      have := leastV_len (nnP (wordsV l n.toNat) w) n.toNat
      show (leastV (nnP (wordsV l n.toNat) w) n.toNat).2.length ≤ _
      omega
    · simp
  have S := spec_NearNumbers.ev n l w (by omega)
  have I := impl_NearNumbers.ev n l w
  generalize (nnV n l w) = v at *
  obtain ⟨v, u, b⟩ := v
  simp only at hvl
  have hneg_v : ¬ (1 + (v.length : Int) < 0) := by omega
  obtain ⟨m, h⟩ := (((S).and ((I).and ((laws_toIntS.ev l (by omega)).and ((laws_eqIntS.ev l (by omega)).and ((laws_markIntS.ev l 1 (by omega) (by omega) (by omega)).and ((laws_eqIntS.ev v (by omega)).and ((laws_markIntS.ev v 1 (by omega) (by omega) (by omega)).and (laws_heldIntS.ev v.length 1 (by omega) (by omega) (by omega)).evt)))))))).shift
  have h0 := fun j => (h j).1
  have h1 := fun j => (h j).2.1
  have h2 := fun j => (h j).2.2.1
  have h3 := fun j => (h j).2.2.2.1
  have h4 := fun j => (h j).2.2.2.2.1
  have h5 := fun j => (h j).2.2.2.2.2.1
  have h6 := fun j => (h j).2.2.2.2.2.2.1
  have h7 := fun j => (h j).2.2.2.2.2.2.2
  refine ⟨m + 7, ?_⟩
  simp [laws_FnExactNearNumbers.f, laws_FnExactNearNumbers.j0, laws_FnExactNearNumbers.j1, laws_FnExactNearNumbers.j2, h0, h1, h2, h3, h4, h5, h6, h7, hb, show ¬ (1 + (l.length : Int) < 0) by omega, hneg_v]

end Go.Proofs.Ytllelojlcmkehaa.PFnExactNearNumbers
