/- The plain law behind the statement FnExactCountUntold: what the Go functions' Lean forms come to. Written for this work; no condition. -/
import Derived.Test.YtlmcoaencmfdfaaPFnExactCountUntoldx
import Derived.Test.YtlmcoaencmfdfaaLib2
set_option linter.unusedVariables false
set_option linter.unusedSimpArgs false
namespace Go.Proofs.Ytlmcoaencmfdfaa.PFnExactCountUntold
open Go.RowKit Go.Proofs.YtlmcoaencmfdfaaW.PrintWords Go.Proofs.YtlmcoaencmfdfaaW.PrintLast Go.Proofs.YtlmcoaencmfdfaaW.PrintMore Go.Proofs.Ytlmcoaencmfdfaa.Lib


theorem laws_toIntS.ev (l : List Int) (h : l.length ≤ 35184372088832) : Stops (fun k => laws_toIntS.f k l) l := by
  have E : Stops (fun k => laws_toIntS.l0 k l (List.replicate l.length 0) 0) l := by
    refine Stops.count (g := fun k (s : List Int × Int) => laws_toIntS.l0 k l s.1 s.2) (fun i => (l.take i ++ List.replicate (l.length - i) 0, (i : Int))) l.length (Stops.now1 fun m => ?_) fun i hi m => ?_
    · simp only [laws_toIntS.l0]; rw [if_neg (by omega)]; simp
    · have e : wrap64 ((i : Int) + 1) = (i : Int) + 1 := w64 (by omega) (by omega)
      have hl : ((l.take i ++ List.replicate (l.length - i) (0 : Int)).length : Int) = l.length := by simp; omega
      simp only [laws_toIntS.l0]; rw [if_pos (by omega), if_pos (by omega), hl, if_pos (by omega), e, rd_at l i hi, Int.toNat_natCast, set_fill l i hi]; rfl
  refine E.same fun m a => ?_
  simp only [laws_toIntS.f, Int.toNat_natCast]; rw [if_pos (by omega), if_pos h]; exact a

theorem laws_eqIntS.ev (l : List Int) (h : l.length ≤ 35184372088832) : Stops (fun k => laws_eqIntS.f k l l) true := by
  have E : Stops (fun k => laws_eqIntS.l0 k l l 0) true := by
    refine Stops.count (g := fun k (s : Int) => laws_eqIntS.l0 k l l s) (fun i => (i : Int)) l.length (Stops.now1 fun m => ?_) fun i hi m => ?_
    · simp only [laws_eqIntS.l0]; rw [if_neg (by omega)]
    · have e : wrap64 ((i : Int) + 1) = (i : Int) + 1 := w64 (by omega) (by omega)
      rw [laws_eqIntS.l0, if_pos (by omega), if_pos (by omega), if_pos (by omega), if_pos rfl, e]; rfl
  refine E.same fun m a => ?_
  simp only [laws_eqIntS.f, if_true]; exact a

theorem spec_l1In.eq (a b c : Int) : spec_l1In.f a b c = some (decide (b ≤ a ∧ a ≤ c)) := by
  unfold spec_l1In.f; by_cases h : b ≤ a <;> simp [h]

theorem spec_l2Numbers.eq (a : Int) : spec_l2Numbers.f a = some (isN a) := by
  unfold spec_l2Numbers.f; rw [spec_l1In.eq]; rfl

theorem spec_l2Asks.eq (n q : Int) : spec_l2Asks.f n q = some (isQ n q) := by
  unfold spec_l2Asks.f isQ; rw [spec_l2Numbers.eq, spec_l1In.eq]
  cases h : isN n
  · simp
  · have := isN_bd h
    simp [show 0 ≤ n by omega]

theorem spec_l5Scheme.ev (n : Int) (l : List Int) (h : l.length ≤ 35184372088832) : Stops (fun k => spec_l5Scheme.f k n l) (isSch n l) := by
  have e : isSch n l = chkV (fun x => isQ n x) (isN n && decide (l.length ≤ 14)) 14 l 0 := by
    rw [chkV_eq _ _ _ _ _ (fun g => by rw [Bool.and_eq_true, decide_eq_true_eq] at g; omega)]
    simp [isSch, List.all_eq_not_any_not]
  have hd : decide ((l.length : Int) ≤ 14) = decide (l.length ≤ 14) := by simp only [decide_eq_decide]; omega
  rw [e]
  have E := Stops.over0 l (fun k (i : Nat) (s : Unit) => spec_l5Scheme.l0 k n l (i : Int)) (fun t s => chkV (fun x => isQ n x) (isN n && decide (l.length ≤ 14)) 14 t (l.length - t.length)) () ?_ ?_
  · rw [Nat.sub_self] at E; exact E
  · intro s
    refine ⟨2, fun q hq => ?_⟩
    obtain ⟨k, rfl⟩ : ∃ k, q = k + 2 := ⟨q - 2, by omega⟩
    simp only [spec_l5Scheme.l0, spec_l5Scheme.j1, spec_l2Numbers.eq]; rw [if_neg (by omega), if_neg (by simp), hd]
    cases isN n <;> rfl
  · intro i hi s A
    have ew : wrap64 ((i : Int) + 1) = ((i + 1 : Nat) : Int) := w64 (by omega) (by omega)
    have ed : l.length - (l[i] :: l.drop (i + 1)).length = i := by simp; omega
    have ed2 : l.length - (l.drop (i + 1)).length = i + 1 := by simp; omega
    have A := A ()
    simp only [ed, ed2] at A ⊢
    by_cases hc : i ≤ 14
    · cases hp : isQ n l[i]
      · refine ⟨2, fun q hq => ?_⟩
        obtain ⟨k, rfl⟩ : ∃ k, q = k + 2 := ⟨q - 2, by omega⟩
        simp only [spec_l5Scheme.l0, spec_l5Scheme.j1, rd_at l i hi, spec_l2Asks.eq]
        rw [if_pos (by omega), decide_eq_true (show (i : Int) ≤ 14 by omega), if_pos (by trivial), if_pos (by omega), if_pos (by omega), hp, Option.bind_some]; simp [chkV, hc, hp]
      · have A1 : Stops (fun k => spec_l5Scheme.j1 k n l (i : Int) true) (chkV (fun x => isQ n x) (isN n && decide (l.length ≤ 14)) 14 (l[i] :: l.drop (i + 1)) i) := A.round fun k a => by
          simp only [spec_l5Scheme.j1, rd_at l i hi, spec_l2Asks.eq]
          rw [if_pos trivial, if_pos (by omega), if_pos (by omega), hp, Option.bind_some, if_pos (by trivial), ew, chkV, if_pos hc, if_pos hp]; exact a
        exact A1.round fun k a => by
          simp only [spec_l5Scheme.l0]; rw [if_pos (by omega), decide_eq_true (by omega)]; exact a
    · refine ⟨2, fun q hq => ?_⟩
      obtain ⟨k, rfl⟩ : ∃ k, q = k + 2 := ⟨q - 2, by omega⟩
      simp only [spec_l5Scheme.l0, spec_l5Scheme.j1, spec_l2Numbers.eq]
      rw [if_pos (by omega), decide_eq_false (show ¬ (i : Int) ≤ 14 by omega), chkV, if_neg hc, if_neg (by simp), hd]
      cases isN n <;> rfl

theorem spec_l5True.ev (l : List Int) (k : Int) (h0 : 0 ≤ k) (hl : l.length ≤ 35184372088832) : Stops (fun n => spec_l5True.f n l k) (twV l k l.length) := by
  refine Stops.count (g := fun n (s : Int × Int) => spec_l5True.l0 n l k s.1 s.2) (fun i => (twV l k i, (i : Int))) l.length (Stops.now1 fun m => ?_) fun i hi m => ?_
  · simp only [spec_l5True.l0]; rw [if_neg (by omega)]
  · have e : wrap64 ((i : Int) + 1) = (i : Int) + 1 := w64 (by omega) (by omega)
    simp only [spec_l5True.l0]; rw [if_pos (by omega), if_pos (by omega), if_pos (by omega), rd_nat, twV_step, e]; rfl

theorem spec_l5Words.ev (n : Int) (l : List Int) (h0 : 0 ≤ n) (h1 : n ≤ 1000) (hl : l.length ≤ 35184372088832) : Stops (fun k => spec_l5Words.f k n l) (wordsV l n.toNat) := by
  refine Stops.count' (g := fun k (s : List Int × Int) => spec_l5Words.l0 k n l s.1 s.2) (fun i => (wordsV l i, (i : Int))) n.toNat (Stops.now1 fun m => ?_) fun i hi A => ?_
  · simp only [spec_l5Words.l0]; rw [if_neg (by omega)]
  · have e : wrap64 ((i : Int) + 1) = (i : Int) + 1 := w64 (by omega) (by omega)
    have hw := wordsV_length l i
    refine Evt.succ (A.and (spec_l5True.ev l i (by omega) hl).evt) fun m ⟨a, b⟩ => ?_
    simp only [spec_l5Words.l0]
    rw [if_pos (by omega), show spec_l5True.f m l i = _ from b, Option.bind_some, if_pos (by omega), e]; exact a

theorem popN_zero (f : Nat) : popN f 0 = 0 := by
  induction f with
  | zero => rfl
  | succ f ih => simp [popN, ih]
theorem l5Apart_loop (f : Nat) : ∀ (x : Nat) (s : Int), x < 2 ^ f → f ≤ 14 → 0 ≤ s → s ≤ 1000 - (f : Int) → Stops (fun k => spec_l5Apart.l0 k s (x : Int)) (s + (popN f x : Int)) := by
  induction f with
  | zero =>
    intro x s h _ _ _
    refine Stops.now1 fun m => ?_
    simp only [spec_l5Apart.l0]
    rw [if_neg (by simp at h; omega)]
    simp [popN]
  | succ f ih =>
    intro x s h hf h0 h1
    by_cases hx : x = 0
    · subst hx
      refine Stops.now1 fun m => ?_
      simp only [spec_l5Apart.l0]
      rw [if_neg (by omega), popN_zero]
      simp
    · have hp : 2 ^ (f + 1) = 2 * 2 ^ f := by rw [Nat.pow_succ]; omega
      have hlim : 2 ^ (f + 1) ≤ 2 ^ 14 := Nat.pow_le_pow_right (by omega) hf
      have e1 : wrap64 (s + Go.bits .and .i64 (x : Int) 1) = s + ((x % 2 : Nat) : Int) := by
        rw [and1 x (by omega)]
        exact w64 (by omega) (by omega)
      have e2 : (x : Int) / 2 = ((x / 2 : Nat) : Int) := by omega
      refine (ih (x / 2) (s + ((x % 2 : Nat) : Int)) (by omega) (by omega) (by omega) (by omega)).round fun m a => ?_
      simp only [spec_l5Apart.l0, e1, e2]
      rw [if_pos (by omega), a, popN]
      congr 1
      push_cast
      omega
theorem spec_l5Apart.ev (a b : Int) (ha : 0 ≤ a ∧ a < 16384) (hb : 0 ≤ b ∧ b < 16384) : Stops (fun k => spec_l5Apart.f k a b) (apI a b) := by
  have hx := xor_nat ha.1 ha.2 hb.1 hb.2
  have E := l5Apart_loop 14 (a.toNat ^^^ b.toNat) 0 (by have := hx.2; omega) (by omega) (by omega) (by omega)
  refine E.same fun m e => ?_
  simp only [spec_l5Apart.f, hx.1]
  rw [e, apI, Int.zero_add]

theorem fitV_succ (ws : List Int) (w m : Int) (i : Nat) : fitV ws w m (i + 1) = if apI (rd ws (i : Int)) w ≤ m then fitV ws w m i ++ [(i : Int)] else fitV ws w m i := by
  unfold fitV
  rw [numsTo]
  by_cases h : apI (rd ws (i : Int)) w ≤ m
  · rw [if_pos (by simpa using h), if_pos h]
  · rw [if_neg (by simpa using h), if_neg h]
theorem fitV_len (ws : List Int) (w m : Int) (i : Nat) : (fitV ws w m i).length ≤ i := numsTo_length _ _
theorem spec_l5Fit.ev (ws : List Int) (w m : Int) (hs : smallW ws) (hw : 0 ≤ w ∧ w < 16384) (h : ws.length ≤ 1000000) : Stops (fun k => spec_l5Fit.f k ws w m) (fitV ws w m ws.length) := by
  refine Stops.count' (g := fun k (x : List Int × Int) => spec_l5Fit.l0 k ws w m x.1 x.2) (fun i => (fitV ws w m i, (i : Int))) ws.length (Stops.now1 fun k => ?_) fun i hi A => ?_
  · simp only [spec_l5Fit.l0]; rw [if_neg (by omega)]
  · have ew : wrap64 ((i : Int) + 1) = ((i + 1 : Nat) : Int) := w64 (by omega) (by omega)
    have hlen := fitV_len ws w m i
    refine Evt.succ (A.and (spec_l5Apart.ev (rd ws i) w (smallW_at hs i hi) hw).evt) fun k ⟨a, b⟩ => ?_
    simp only [spec_l5Fit.l0, b, ew, Option.bind_some]
    rw [if_pos (by omega), if_pos (by omega)]
    simp only [fitV_succ] at a
    by_cases hc : apI (rd ws i) w ≤ m
    · rw [if_pos hc] at a
      rw [if_pos hc, if_pos (by omega)]
      exact a
    · rw [if_neg hc] at a
      rw [if_neg hc]
      exact a

def untV (ws : List Int) (m : Int) : Nat → Int
  | 0 => 0
  | i + 1 => if ((fitV ws (i : Int) m ws.length).length : Int) > 1 then wrap64 (untV ws m i + 1) else untV ws m i
def cuV (n : Int) (l : List Int) (m : Int) : Int × Bool := if (isSch n l && decide (0 ≤ m ∧ m ≤ 14)) = true then (untV (wordsV l n.toNat) m (2 ^ l.length), true) else (0, false)
theorem two_len {l : List Int} (hl : l.length ≤ 14) : shl .i64 1 (l.length : Int) = ((2 ^ l.length : Nat) : Int) ∧ 2 ^ l.length ≤ 16384 := by
  refine ⟨?_, ?_⟩
  · rw [shl_one (by omega) (by omega), Int.toNat_natCast]; push_cast; rfl
  · exact Nat.pow_le_pow_right (by omega) hl
theorem spec_CountUntold.ev (n : Int) (l : List Int) (m : Int) (h : l.length ≤ 35184372088832) : Stops (fun k => spec_CountUntold.f k n l m) (cuV n l m) := by
  unfold cuV
  have S1 : Evt (fun k => spec_l5Scheme.f (k + 1) n l = some (isSch n l)) := by
    obtain ⟨K, g⟩ := spec_l5Scheme.ev n l h
    exact ⟨K, fun j hj => g (j + 1) (by omega)⟩
  by_cases hs : isSch n l = true
  · have hb := isSch_bd hs
    obtain ⟨t1, t2⟩ := two_len hb.2.2.1
    obtain ⟨ws, hws⟩ : ∃ ws, ws = wordsV l n.toNat := ⟨_, rfl⟩
    have hsm : smallW ws := hws ▸ wordsV_small l hb.2.2.1 n.toNat
    have hlen : ws.length = n.toNat := by rw [hws, wordsV_length]
    have E : Stops (fun k => spec_CountUntold.l0 k l m 0 ws 0) (untV ws m (2 ^ l.length), true) := by
      refine Stops.count' (g := fun k (x : Int × Int) => spec_CountUntold.l0 k l m x.1 ws x.2) (fun i => (untV ws m i, (i : Int))) (2 ^ l.length) (Stops.now1 fun k => ?_) fun i hi A => ?_
      · simp only [spec_CountUntold.l0]; rw [if_neg (by omega)]
      · have ew : wrap64 ((i : Int) + 1) = ((i + 1 : Nat) : Int) := w64 (by omega) (by omega)
        refine Evt.succ (A.and (spec_l5Fit.ev ws (i : Int) m hsm (by omega) (by omega)).evt) fun k ⟨a, b⟩ => ?_
        simp only [spec_CountUntold.l0, b, ew, Option.bind_some]
        rw [if_pos (by omega)]
        simp only [untV] at a
        split at a
        · rename_i g; rw [if_pos g]; exact a
        · rename_i g; rw [if_neg g]; exact a
    refine Evt.succ (S1.and ((spec_l5Words.ev n l (by omega) (by omega) h).and E.evt)) fun k ⟨a, b, c⟩ => ?_
    rw [← hws] at b
    simp only [spec_CountUntold.f, spec_CountUntold.j0, a, b, c, spec_l1In.eq, hs, Option.bind_some, Bool.true_and]
    rw [← hws]
    by_cases hm : 0 ≤ m ∧ m ≤ 14
    · rw [decide_eq_true hm]; rfl
    · rw [decide_eq_false hm]; rfl
  · refine Evt.succ S1 fun k a => ?_
    simp [spec_CountUntold.f, spec_CountUntold.j0, a, hs]

theorem impl_has.eq (q k : Int) (h : 0 ≤ k) : impl_has.f q k = some (hasB q k) := by
  unfold impl_has.f; rw [if_pos h]; rfl

theorem impl_trueWord.ev (l : List Int) (k : Int) (h0 : 0 ≤ k) (hl : l.length ≤ 35184372088832) : Stops (fun n => impl_trueWord.f n l k) (twV l k l.length) := by
  refine Stops.count (g := fun n (s : Int × Int) => impl_trueWord.l0 n k s.1 l l.length s.2) (fun i => (twV l k i, (i : Int))) l.length (Stops.now1 fun m => ?_) fun i hi m => ?_
  · simp only [impl_trueWord.l0]; rw [if_neg (by omega)]
  · have e : wrap64 ((i : Int) + 1) = (i : Int) + 1 := w64 (by omega) (by omega)
    simp only [impl_trueWord.l0]; rw [if_pos (by omega), if_pos (by omega), if_pos (by omega), rd_nat, impl_has.eq _ _ h0, Option.bind_some, e, twV]
    by_cases hb : hasB (l.getD i 0) k = true
    · rw [if_pos hb, if_pos hb]; rfl
    · rw [if_neg hb, if_neg hb]; rfl

theorem impl_trueWords.ev (n : Int) (l : List Int) (h0 : 0 ≤ n) (h1 : n ≤ 1000) (hl : l.length ≤ 35184372088832) : Stops (fun k => impl_trueWords.f k n l) (wordsV l n.toNat) := by
  refine Stops.count' (g := fun k (s : List Int × Int) => impl_trueWords.l0 k l s.1 n s.2) (fun i => (wordsV l i, (i : Int))) n.toNat (Stops.now1 fun m => ?_) fun i hi A => ?_
  · simp only [impl_trueWords.l0]; rw [if_neg (by omega)]
  · have e : wrap64 ((i : Int) + 1) = (i : Int) + 1 := w64 (by omega) (by omega)
    have hw := wordsV_length l i
    refine Evt.succ (A.and (impl_trueWord.ev l i (by omega) hl).evt) fun m ⟨a, b⟩ => ?_
    simp only [impl_trueWords.l0]
    rw [if_pos (by omega), show impl_trueWord.f m l i = _ from b, Option.bind_some, if_pos (by omega), e]; exact a

theorem ones_small : ∀ a b : Fin 128, bits_OnesCount64.f ((128 * a.val + b.val : Nat) : Int) = some (popN 14 (128 * a.val + b.val) : Int) := by decide +kernel
theorem impl_apart.eq (a b : Int) (ha : 0 ≤ a ∧ a < 16384) (hb : 0 ≤ b ∧ b < 16384) : impl_apart.f a b = some (apI a b) := by
  have hx := xor_nat ha.1 ha.2 hb.1 hb.2
  have hs := ones_small ⟨(a.toNat ^^^ b.toNat) / 128, by omega⟩ ⟨(a.toNat ^^^ b.toNat) % 128, by omega⟩
  simp only at hs
  rw [Nat.div_add_mod] at hs
  have e2 : IntKind.u64.wrap ((a.toNat ^^^ b.toNat : Nat) : Int) = ((a.toNat ^^^ b.toNat : Nat) : Int) := by
    have : IntKind.u64.wrap ((a.toNat ^^^ b.toNat : Nat) : Int) = ((a.toNat ^^^ b.toNat : Nat) : Int) % 18446744073709551616 := rfl
    rw [this]
    omega
  simp only [impl_apart.f, bits_OnesCount.f, hx.1, e2, hs, Option.bind_some]
  rfl

theorem impl_CountUntold.ev (n : Int) (l : List Int) (m : Int) : Stops (fun k => impl_CountUntold.f k n l m) (cuV n l m) := by
  unfold cuV
  by_cases hs : isSch n l = true
  · have hb := isSch_bd hs
    obtain ⟨t1, t2⟩ := two_len hb.2.2.1
    obtain ⟨ws, hws⟩ : ∃ ws, ws = wordsV l n.toNat := ⟨_, rfl⟩
    have hsm : smallW ws := hws ▸ wordsV_small l hb.2.2.1 n.toNat
    have hlen : ws.length = n.toNat := by rw [hws, wordsV_length]
    have E : Stops (fun k => impl_CountUntold.l0 k m 0 ws (shl .i64 1 (l.length : Int)) 0) (untV ws m (2 ^ l.length), true) := by
      rw [t1]
      refine Stops.count' (g := fun k (x : Int × Int) => impl_CountUntold.l0 k m x.1 ws ((2 ^ l.length : Nat) : Int) x.2) (fun i => (untV ws m i, (i : Int))) (2 ^ l.length) (Stops.now1 fun k => ?_) fun i hi A => ?_
      · simp only [impl_CountUntold.l0]; rw [if_neg (by omega)]
      · have ew : wrap64 ((i : Int) + 1) = ((i + 1 : Nat) : Int) := w64 (by omega) (by omega)
        have B : Stops (fun k => impl_CountUntold.l1 k m (untV ws m i) ws (i : Int) 0 ((2 ^ l.length : Nat) : Int) (i : Int) ws (ws.length : Int) 0) (untV ws m (2 ^ l.length), true) := by
          refine Stops.count' (g := fun k (x : Int × Int) => impl_CountUntold.l1 k m (untV ws m i) ws (i : Int) x.1 ((2 ^ l.length : Nat) : Int) (i : Int) ws (ws.length : Int) x.2) (fun j => (((fitV ws (i : Int) m j).length : Int), (j : Int))) ws.length (A.round fun k a => ?_) fun j hj C => ?_
          · simp only [impl_CountUntold.l1, ew]
            rw [if_neg (by omega)]
            simp only [untV] at a
            split at a
            · rename_i g; rw [if_pos g]; exact a
            · rename_i g; rw [if_neg g]; exact a
          · have ej : wrap64 ((j : Int) + 1) = ((j + 1 : Nat) : Int) := w64 (by omega) (by omega)
            have hl := fitV_len ws (i : Int) m j
            have el : wrap64 (((fitV ws (i : Int) m j).length : Int) + 1) = (((fitV ws (i : Int) m j).length + 1 : Nat) : Int) := w64 (by omega) (by omega)
            refine C.round fun k c => ?_
            simp only [impl_CountUntold.l1, ej, el, impl_apart.eq (rd ws j) (i : Int) (smallW_at hsm j hj) (by omega), Option.bind_some]
            rw [if_pos (by omega), if_pos (by omega), if_pos (by omega)]
            simp only [fitV_succ] at c
            by_cases hc : apI (rd ws j) (i : Int) ≤ m
            · rw [if_pos hc, List.length_append, List.length_singleton] at c
              rw [if_pos hc]
              exact c
            · rw [if_neg hc] at c
              rw [if_neg hc]
              exact c
        refine B.round fun k a => ?_
        simp only [impl_CountUntold.l0]
        rw [if_pos (by omega)]
        exact a
    refine Evt.succ ((impl_trueWords.ev n l (by omega) (by omega) (by omega)).and E.evt) fun k ⟨b, c⟩ => ?_
    rw [← hws] at b
    simp only [impl_CountUntold.f, impl_CountUntold.j0, impl_IsScheme.f, b, c, impl_in.eq, hs, Option.bind_some, Bool.true_and]
    rw [← hws]
    by_cases hm : 0 ≤ m ∧ m ≤ 14
    · rw [decide_eq_true hm]; rfl
    · rw [decide_eq_false hm]; rfl
  · refine Evt.succ Evt.true fun k _ => ?_
    simp [impl_CountUntold.f, impl_CountUntold.j0, impl_IsScheme.f, hs]

theorem law : laws_FnExactCountUntold.Pure := by
  intro n l m0
  intros
  by_cases hb : (l.length : Int) > 1048576
  · exact ⟨0, by simp [laws_FnExactCountUntold.f, hb]⟩
  have S := spec_CountUntold.ev n l m0 (by omega)
  have I := impl_CountUntold.ev n l m0
  generalize (cuV n l m0) = v at *
  obtain ⟨v, b⟩ := v
  obtain ⟨m, h⟩ := (((S).and ((I).and ((laws_toIntS.ev l (by omega)).and (laws_eqIntS.ev l (by omega)).evt)))).shift
  have h0 := fun j => (h j).1
  have h1 := fun j => (h j).2.1
  have h2 := fun j => (h j).2.2.1
  have h3 := fun j => (h j).2.2.2
  refine ⟨m + 7, ?_⟩
  simp [laws_FnExactCountUntold.f, laws_FnExactCountUntold.j0, h0, h1, h2, h3, hb]

end Go.Proofs.Ytlmcoaencmfdfaa.PFnExactCountUntold
