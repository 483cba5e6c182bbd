/- The plain law behind the statement FnExactFewestFalse: what the Go functions' Lean forms come to. Written for this work; no condition. -/
import Derived.Test.YtlmcoaencmfdfaaPFnExactFewestFalsex
import Derived.Test.YtlmcoaencmfdfaaLib2
set_option linter.unusedVariables false
set_option linter.unusedSimpArgs false
namespace Go.Proofs.Ytlmcoaencmfdfaa.PFnExactFewestFalse
open Go.RowKit Go.Proofs.YtlmcoaencmfdfaaW.PrintWords Go.Proofs.YtlmcoaencmfdfaaW.PrintLast Go.Proofs.YtlmcoaencmfdfaaW.PrintMore Go.Proofs.Ytlmcoaencmfdfaa.Lib

theorem rd_T42_at (l : List S42) (i : Nat) (hi : i < l.length) : rd_T42 l (i : Int) = l[i] := by
  unfold rd_T42; rw [Int.toNat_natCast, List.getD_eq_getElem?_getD, List.getElem?_eq_getElem hi]; rfl
theorem rd_T45_at (l : List S45) (i : Nat) (hi : i < l.length) : rd_T45 l (i : Int) = l[i] := by
  unfold rd_T45; rw [Int.toNat_natCast, List.getD_eq_getElem?_getD, List.getElem?_eq_getElem hi]; rfl
def askI (x : S42) : S45 := ⟨x.f0, x.f1⟩

theorem laws_eqIntS.ev (l : List Int) (h : l.length ≤ 35184372088832) : Stops (fun k => laws_eqIntS.f k l l) true := by
  have E : Stops (fun k => laws_eqIntS.l0 k l l 0) true := by
    refine Stops.count (g := fun k (s : Int) => laws_eqIntS.l0 k l l s) (fun i => (i : Int)) l.length (Stops.now1 fun m => ?_) fun i hi m => ?_
    · simp only [laws_eqIntS.l0]; rw [if_neg (by omega)]
    · have e : wrap64 ((i : Int) + 1) = (i : Int) + 1 := w64 (by omega) (by omega)
      rw [laws_eqIntS.l0, if_pos (by omega), if_pos (by omega), if_pos (by omega), if_pos rfl, e]; rfl
  refine E.same fun m a => ?_
  simp only [laws_eqIntS.f, if_true]; exact a

theorem laws_markIntS.ev (l : List Int) (a : Int) (h : l.length ≤ 35184372088832) (h0 : 0 ≤ a) (h1 : a ≤ 1000000000000000000) : Stops (fun k => laws_markIntS.f k l a) (a + l.length, upFrom a l.length) := by
  have E : Stops (fun k => laws_markIntS.l0 k (upFrom a 0 ++ l.drop 0) (a + ((0 : Nat) : Int)) ((0 : Nat) : Int)) (a + l.length, upFrom a l.length) := by
   refine Stops.count (g := fun k (s : List Int × Int × Int) => laws_markIntS.l0 k s.1 s.2.1 s.2.2) (fun i => (upFrom a i ++ l.drop i, a + i, (i : Int))) l.length (Stops.now1 fun m => ?_) fun i hi m => ?_
   · have hl : ((upFrom a l.length ++ l.drop l.length).length : Int) = l.length := by simp [upFrom_length]
     simp only [laws_markIntS.l0]; rw [if_neg (by rw [hl]; omega)]; simp
   · have e : wrap64 ((i : Int) + 1) = (i : Int) + 1 := w64 (by omega) (by omega)
     have e2 : wrap64 (a + (i : Int) + 1) = a + ((i + 1 : Nat) : Int) := by rw [w64 (by omega) (by omega)]; omega
     have hl : ((upFrom a i ++ l.drop i).length : Int) = l.length := by simp [upFrom_length]; omega
     simp only [laws_markIntS.l0]; rw [if_pos (by rw [hl]; omega), if_pos (by omega), e, e2, Int.toNat_natCast, set_split l i (upFrom a i) (a + i) (upFrom_length i a) hi, ← upFrom_append]; rfl
  refine E.same fun m e => ?_
  simp [upFrom] at e
  exact e

theorem laws_heldIntS.ev (n : Nat) (a : Int) (h : n ≤ 35184372088832) (h0 : 0 ≤ a) (h1 : a ≤ 1000000000000000000) : Stops (fun k => laws_heldIntS.f k (upFrom a n) a) (a + n) := by
  have E : Stops (fun k => laws_heldIntS.l0 k (upFrom a n) (a + ((0 : Nat) : Int)) ((0 : Nat) : Int)) (a + n) := by
    refine Stops.count (g := fun k (s : Int × Int) => laws_heldIntS.l0 k (upFrom a n) s.1 s.2) (fun i => (a + (i : Int), (i : Int))) n (Stops.now1 fun m => ?_) fun i hi m => ?_
    · simp only [laws_heldIntS.l0, upFrom_length]; rw [if_neg (by omega)]
    · have e : wrap64 ((i : Int) + 1) = (i : Int) + 1 := w64 (by omega) (by omega)
      have e2 : wrap64 (a + (i : Int) + 1) = a + ((i + 1 : Nat) : Int) := by rw [w64 (by omega) (by omega)]; omega
      simp only [laws_heldIntS.l0, upFrom_length]; rw [if_pos (by omega), if_pos (by omega), rd_nat, upFrom_getD n a i hi, if_pos rfl, e, e2]; rfl
  refine E.same fun m e => ?_
  simp at e
  exact e

theorem laws_szAskedS.big (l : List S42) (h : l.length ≤ maxLen) (hb : 1048576 < l.length) : laws_szAskedS.f l 1048576 = some (-1) := by
  unfold maxLen at h
  unfold laws_szAskedS.f; rw [w64 (by omega) (by omega), if_pos (by omega)]
theorem laws_szAskedS.small (l : List S42) (hb : ¬ 1048576 < l.length) : laws_szAskedS.f l 1048576 = some (1048576 - (l.length : Int)) := by
  unfold laws_szAskedS.f; rw [w64 (by omega) (by omega), if_neg (by omega)]

theorem spec_l1In.eq (a b c : Int) : spec_l1In.f a b c = some (decide (b ≤ a ∧ a ≤ c)) := by
  unfold spec_l1In.f; by_cases h : b ≤ a <;> simp [h]

theorem spec_l2Numbers.eq (a : Int) : spec_l2Numbers.f a = some (isN a) := by
  unfold spec_l2Numbers.f; rw [spec_l1In.eq]; rfl

theorem spec_l2Asks.eq (n q : Int) : spec_l2Asks.f n q = some (isQ n q) := by
  unfold spec_l2Asks.f isQ; rw [spec_l2Numbers.eq, spec_l1In.eq]
  cases h : isN n
  · simp
  · have := isN_bd h
    simp [show 0 ≤ n by omega]

theorem spec_l2Answers.ev (n : Int) (l : List S45) (h : l.length ≤ 10000000) : Stops (fun k => spec_l2Answers.f k n l) (isN n && decide ((l.length : Int) ≤ 20) && !(l.any fun x => !isQ n x.f0)) := by
  have e : (isN n && decide ((l.length : Int) ≤ 20) && !(l.any fun x => !isQ n x.f0)) = chkV (fun x : S45 => isQ n x.f0) (isN n && decide ((l.length : Int) ≤ 20)) 20 l 0 := by
    rw [chkV_eq _ _ _ _ _ (fun g => by rw [Bool.and_eq_true, decide_eq_true_eq] at g; omega)]
    simp [List.all_eq_not_any_not]
  rw [e]
  have E := Stops.over0 l (fun k (i : Nat) (s : Unit) => spec_l2Answers.l0 k n l (i : Int)) (fun t s => chkV (fun x : S45 => isQ n x.f0) (isN n && decide ((l.length : Int) ≤ 20)) 20 t (l.length - t.length)) () ?_ ?_
  · rw [Nat.sub_self] at E; exact E
  · intro s
    refine ⟨2, fun q hq => ?_⟩
    obtain ⟨k, rfl⟩ : ∃ k, q = k + 2 := ⟨q - 2, by omega⟩
    simp only [spec_l2Answers.l0, spec_l2Answers.j1, spec_l2Numbers.eq]; rw [if_neg (by omega), if_neg (by simp)]
    cases isN n <;> rfl
  · intro i hi s A
    have ew : wrap64 ((i : Int) + 1) = ((i + 1 : Nat) : Int) := w64 (by omega) (by omega)
    have ed : l.length - (l[i] :: l.drop (i + 1)).length = i := by simp; omega
    have ed2 : l.length - (l.drop (i + 1)).length = i + 1 := by simp; omega
    have A := A ()
    simp only [ed, ed2] at A ⊢
    by_cases hc : i ≤ 20
    · cases hp : isQ n l[i].f0
      · refine ⟨2, fun q hq => ?_⟩
        obtain ⟨k, rfl⟩ : ∃ k, q = k + 2 := ⟨q - 2, by omega⟩
        simp only [spec_l2Answers.l0, spec_l2Answers.j1, rd_T45_at l i hi, spec_l2Asks.eq]
        rw [if_pos (by omega), decide_eq_true (show (i : Int) ≤ 20 by omega), if_pos (by trivial), if_pos (by omega), if_pos (by omega), hp, Option.bind_some]; simp [chkV, hc, hp]
      · have A1 : Stops (fun k => spec_l2Answers.j1 k n l (i : Int) true) (chkV (fun x : S45 => isQ n x.f0) (isN n && decide ((l.length : Int) ≤ 20)) 20 (l[i] :: l.drop (i + 1)) i) := A.round fun k a => by
          simp only [spec_l2Answers.j1, rd_T45_at l i hi, spec_l2Asks.eq]
          rw [if_pos trivial, if_pos (by omega), if_pos (by omega), hp, Option.bind_some, if_pos (by trivial), ew, chkV, if_pos hc, if_pos hp]; exact a
        exact A1.round fun k a => by
          simp only [spec_l2Answers.l0]; rw [if_pos (by omega), decide_eq_true (by omega)]; exact a
    · refine ⟨2, fun q hq => ?_⟩
      obtain ⟨k, rfl⟩ : ∃ k, q = k + 2 := ⟨q - 2, by omega⟩
      simp only [spec_l2Answers.l0, spec_l2Answers.j1, spec_l2Numbers.eq]
      rw [if_pos (by omega), decide_eq_false (show ¬ (i : Int) ≤ 20 by omega), chkV, if_neg hc, if_neg (by simp)]
      cases isN n <;> rfl

theorem spec_l2False.eq (q : Int) (b : Bool) (k : Int) (h : 0 ≤ k) : spec_l2False.f q b k = some (b != hasB q k) := by
  unfold spec_l2False.f; rw [if_pos h]; rfl

theorem spec_l2Many.ev (l : List S45) (k : Int) (h0 : 0 ≤ k) (h : l.length ≤ 10000000) : Stops (fun n => spec_l2Many.f n l k) (manyV (fun x : S45 => x.f1 != hasB x.f0 k) l 0) := by
  refine Stops.over0 l (fun n (i : Nat) (s : Int) => spec_l2Many.l0 n l k s (i : Int)) (fun t s => manyV (fun x : S45 => x.f1 != hasB x.f0 k) t s) 0 (fun s => Stops.now1 fun m => ?_) fun i hi s A => ?_
  · simp only [spec_l2Many.l0]; rw [if_neg (by omega)]; rfl
  · have e : wrap64 ((i : Int) + 1) = ((i + 1 : Nat) : Int) := w64 (by omega) (by omega)
    by_cases hb : (l[i].f1 != hasB l[i].f0 k) = true
    · refine (A (wrap64 (s + 1))).round fun m a => ?_
      simp only [spec_l2Many.l0, rd_T45_at l i hi, spec_l2False.eq _ _ k h0, e, manyV, Option.bind_some]
      rw [if_pos (by omega), if_pos (by omega), if_pos hb, if_pos hb]; exact a
    · refine (A s).round fun m a => ?_
      simp only [spec_l2Many.l0, rd_T45_at l i hi, spec_l2False.eq _ _ k h0, e, manyV, Option.bind_some]
      rw [if_pos (by omega), if_pos (by omega), if_neg hb, if_neg hb]; exact a

theorem manyV_bd {γ : Type} (p : γ → Bool) (l : List γ) : ∀ s : Int, 0 ≤ s → s + l.length ≤ 1000000000 → s ≤ manyV p l s ∧ manyV p l s ≤ s + l.length := by
  induction l with
  | nil => intro s _ _; simp [manyV]
  | cons x t ih =>
    intro s h0 h1
    rw [List.length_cons] at h1 ⊢
    push_cast at h1 ⊢
    unfold manyV
    split
    · rw [w64 (by omega) (by omega)]
      have := ih (s + 1) (by omega) (by omega)
      omega
    · have := ih s h0 (by omega)
      omega
theorem leastV_pos (p : Int → Int) (i : Nat) : (leastV p (i + 1)).2.length ≠ 0 := by
  induction i with
  | zero => simp [leastV]
  | succ i ih =>
    rw [leastV]
    split
    · simp
    · split
      · simp
      · exact ih
/-- The reference's running least: it starts above all. -/
def spL (p : Int → Int) (top : Int) : Nat → Int × List Int
  | 0 => (top, [])
  | i + 1 => leastV p (i + 1)
theorem spL_step (p : Int → Int) (top : Int) (i : Nat) (h : p (i : Int) < top) : spL p top (i + 1) = if p (i : Int) < (spL p top i).1 then (p (i : Int), [(i : Int)]) else if p (i : Int) = (spL p top i).1 then ((spL p top i).1, (spL p top i).2 ++ [(i : Int)]) else spL p top i := by
  cases i with
  | zero =>
    show leastV p 1 = if p ((0 : Nat) : Int) < top then _ else _
    rw [if_pos h]
    simp [leastV]
  | succ i =>
    have := leastV_pos p i
    show leastV p (i + 1 + 1) = _
    rw [leastV]
    show (if _ ∨ _ then _ else _) = if p ((i + 1 : Nat) : Int) < (leastV p (i + 1)).1 then _ else if p ((i + 1 : Nat) : Int) = (leastV p (i + 1)).1 then _ else leastV p (i + 1)
    by_cases h1 : p ((i + 1 : Nat) : Int) < (leastV p (i + 1)).1
    · rw [if_pos (Or.inr h1), if_pos h1]
    · rw [if_neg (by rintro (g | g); exact this g; exact h1 g), if_neg h1]
      rfl
theorem spL_len (p : Int → Int) (top : Int) (i : Nat) : (spL p top i).2.length ≤ i := by
  cases i with
  | zero => exact Nat.le_refl _
  | succ i => exact leastV_len p (i + 1)
def okAnF (n : Int) (l : List S45) : Bool := isN n && decide ((l.length : Int) ≤ 20) && !(l.any fun x => !isQ n x.f0)
theorem okAnF_bd {n : Int} {l : List S45} (h : okAnF n l = true) : 1 ≤ n ∧ n ≤ 12 ∧ l.length ≤ 20 := by
  unfold okAnF at h
  simp only [Bool.and_eq_true, decide_eq_true_eq] at h
  have := isN_bd h.1.1
  omega
def ffP (l : List S45) (x : Int) : Int := manyV (fun y : S45 => y.f1 != hasB y.f0 x) l 0
def ffV (n : Int) (l : List S45) : Int × List Int × Bool := if okAnF n l = true then ((leastV (ffP l) n.toNat).1, (leastV (ffP l) n.toNat).2, true) else (0, [], false)
theorem spec_FewestFalse.ev (n : Int) (l : List S45) (h : l.length ≤ 10000000) : Stops (fun k => spec_FewestFalse.f k n l) (ffV n l) := by
  unfold ffV
  have S := spec_l2Answers.ev n l h
  rw [show (isN n && decide ((l.length : Int) ≤ 20) && !(l.any fun x => !isQ n x.f0)) = okAnF n l from rfl] at S
  by_cases hs : okAnF n l = true
  · have hb := okAnF_bd hs
    have E : Stops (fun k => spec_FewestFalse.l0 k n l [] 21 0) ((spL (ffP l) 21 n.toNat).1, (spL (ffP l) 21 n.toNat).2, true) := by
      refine Stops.count' (g := fun k (s : (Int × List Int) × Int) => spec_FewestFalse.l0 k n l s.1.2 s.1.1 s.2) (fun i => (spL (ffP l) 21 i, (i : Int))) n.toNat (Stops.now1 fun k => ?_) fun i hi A => ?_
      · simp only [spec_FewestFalse.l0]; rw [if_neg (by omega)]
      · have ew : wrap64 ((i : Int) + 1) = ((i + 1 : Nat) : Int) := w64 (by omega) (by omega)
        have hp := manyV_bd (fun y : S45 => y.f1 != hasB y.f0 (i : Int)) l 0 (by omega) (by omega)
        have hlt : ffP l (i : Int) < 21 := by unfold ffP; omega
        have hl := spL_len (ffP l) 21 i
        refine Evt.succ (A.and (spec_l2Many.ev l (i : Int) (by omega) h).evt) fun k ⟨a, b⟩ => ?_
        rw [show manyV (fun y : S45 => y.f1 != hasB y.f0 (i : Int)) l 0 = ffP l (i : Int) from rfl] at b
        rw [spL_step _ _ _ hlt] at a
        show spec_FewestFalse.l0 (k + 1) n l (spL (ffP l) 21 i).2 (spL (ffP l) 21 i).1 (i : Int) = _
        rw [spec_FewestFalse.l0, if_pos (by omega), b, Option.bind_some, ew]
        by_cases h1 : ffP l (i : Int) < (spL (ffP l) 21 i).1
        · rw [if_pos h1] at a ⊢
          rw [Option.bind_some, if_pos rfl, if_pos (by simp)]
          exact a
        · rw [if_neg h1] at a ⊢
          by_cases h2 : ffP l (i : Int) = (spL (ffP l) 21 i).1
          · rw [if_pos h2] at a ⊢
            rw [if_pos (by omega)]
            exact a
          · rw [if_neg h2] at a ⊢
            exact a
    have en : spL (ffP l) 21 n.toNat = leastV (ffP l) n.toNat := by
      obtain ⟨j, hj⟩ : ∃ j, n.toNat = j + 1 := ⟨n.toNat - 1, by omega⟩
      rw [hj]; rfl
    rw [en] at E
    refine (S.and E.evt).mono fun k ⟨a, b⟩ => ?_
    rw [hs] at a
    simp only [spec_FewestFalse.f, a, b, Option.bind_some, hs, if_true]
  · refine S.same fun k a => ?_
    simp [spec_FewestFalse.f, a, hs]

theorem laws_toAskedS.ev (l : List S42) (h : l.length ≤ 10000000) : Stops (fun k => laws_toAskedS.f k l) (l.map askI) := by
  have E : Stops (fun k => laws_toAskedS.l0 k l ((l.map askI).take 0 ++ (List.replicate l.length z45).drop 0) ((0 : Nat) : Int)) (l.map askI) := by
    refine Stops.count (g := fun k (s : List S45 × Int) => laws_toAskedS.l0 k l s.1 s.2) (fun i => ((l.map askI).take i ++ (List.replicate l.length z45).drop i, (i : Int))) l.length (Stops.now1 fun m => ?_) fun i hi m => ?_
    · have e1 : (List.replicate l.length z45).drop l.length = [] := by simp
      have e2 : (l.map askI).take l.length = l.map askI := List.take_of_length_le (by simp)
      simp only [laws_toAskedS.l0, e1, e2, List.append_nil]; rw [if_neg (by omega)]
    · have e : wrap64 ((i : Int) + 1) = (i : Int) + 1 := w64 (by omega) (by omega)
      have h1 : ((l.map askI).take i).length = i := by simp; omega
      have hl : (((l.map askI).take i ++ (List.replicate l.length z45).drop i).length : Int) = l.length := by simp; omega
      have h2 := set_splitS (List.replicate l.length z45) i ((l.map askI).take i) (askI l[i]) h1 (by simp; exact hi)
      have h3 : (l.map askI).take (i + 1) = (l.map askI).take i ++ [askI l[i]] := by rw [List.take_succ_eq_append_getElem (by simp; exact hi)]; simp
      simp only [laws_toAskedS.l0, rd_T42_at l i hi, laws_toAsked.f, Option.bind_some]
      rw [if_pos (by omega), if_pos (by omega), hl, if_pos (by omega), e, Int.toNat_natCast]
      rw [show (⟨l[i].f0, l[i].f1⟩ : S45) = askI l[i] from rfl, h2, ← h3]; rfl
  refine E.same fun m a => ?_
  simp only [laws_toAskedS.f, Int.toNat_natCast]; rw [if_pos (by omega), if_pos (by omega)]
  simpa using a

theorem impl_has.eq (q k : Int) (h : 0 ≤ k) : impl_has.f q k = some (hasB q k) := by
  unfold impl_has.f; rw [if_pos h]; rfl

theorem impl_Asked_isFalse.eq (q : Int) (b : Bool) (k : Int) (h : 0 ≤ k) : impl_Asked_isFalse.f q b k = some (b != hasB q k) := by
  unfold impl_Asked_isFalse.f; rw [impl_has.eq q k h, Option.bind_some]
  cases b <;> cases hasB q k <;> rfl

theorem impl_falseFor.ev (l : List S45) (k : Int) (h0 : 0 ≤ k) (h : l.length ≤ 10000000) : Stops (fun n => impl_falseFor.f n l k) (manyV (fun x : S45 => x.f1 != hasB x.f0 k) l 0) := by
  refine Stops.over0 l (fun n (i : Nat) (s : Int) => impl_falseFor.l0 n k s l l.length (i : Int)) (fun t s => manyV (fun x : S45 => x.f1 != hasB x.f0 k) t s) 0 (fun s => Stops.now1 fun m => ?_) fun i hi s A => ?_
  · simp only [impl_falseFor.l0]; rw [if_neg (by omega)]; rfl
  · have e : wrap64 ((i : Int) + 1) = ((i + 1 : Nat) : Int) := w64 (by omega) (by omega)
    by_cases hb : (l[i].f1 != hasB l[i].f0 k) = true
    · refine (A (wrap64 (s + 1))).round fun m a => ?_
      simp only [impl_falseFor.l0, rd_T45_at l i hi, impl_Asked_isFalse.eq _ _ k h0, e, manyV, Option.bind_some]
      rw [if_pos (by omega), if_pos (by omega), if_pos (by omega), if_pos hb, if_pos hb]; exact a
    · refine (A s).round fun m a => ?_
      simp only [impl_falseFor.l0, rd_T45_at l i hi, impl_Asked_isFalse.eq _ _ k h0, e, manyV, Option.bind_some]
      rw [if_pos (by omega), if_pos (by omega), if_pos (by omega), if_neg hb, if_neg hb]; exact a

theorem Evt.all {P : Nat → Nat → Prop} (n : Nat) (h : ∀ x, x < n → Evt (P x)) : Evt (fun k => ∀ x, x < n → P x k) := by
  induction n with
  | zero => exact ⟨0, fun k _ x hx => by omega⟩
  | succ n ih =>
    obtain ⟨K1, h1⟩ := ih fun x hx => h x (by omega)
    obtain ⟨K2, h2⟩ := h n (by omega)
    refine ⟨K1 + K2, fun k hk x hx => ?_⟩
    by_cases e : x = n
    · subst e; exact h2 k (by omega)
    · exact h1 k (by omega) x (by omega)
theorem impl_FewestFalse.ev (n : Int) (l : List S45) (h : l.length ≤ 10000000) : Stops (fun k => impl_FewestFalse.f k n l) (ffV n l) := by
  unfold ffV
  by_cases hs : okAnF n l = true
  · refine (Evt.all (P := fun x k => impl_falseFor.f k l (x : Int) = some (ffP l (x : Int))) n.toNat fun x hx => (impl_falseFor.ev l (x : Int) (by omega) h).evt).mono fun k hk => ?_
    have h1 : falseN k l n.toNat = true := by
      unfold falseN
      rw [List.all_eq_true]
      intro x hx
      rw [hk x (List.mem_range.1 hx)]; rfl
    have h2 : leastV (falseP k l) n.toNat = leastV (ffP l) n.toNat := leastV_congr _ _ _ fun x hx => by
      show (impl_falseFor.f k l (x : Int)).getD 0 = _
      rw [hk x hx]; rfl
    show impl_FewestFalse.f k n l = _
    unfold impl_FewestFalse.f
    rw [show (isN n && decide ((l.length : Int) ≤ 20) && !(l.any fun x => !isQ n x.f0)) = okAnF n l from rfl, if_pos hs, if_pos h1, h2, if_pos hs]
  · refine Evt.true.mono fun k _ => ?_
    show impl_FewestFalse.f k n l = _
    unfold impl_FewestFalse.f
    rw [show (isN n && decide ((l.length : Int) ≤ 20) && !(l.any fun x => !isQ n x.f0)) = okAnF n l from rfl, if_neg hs, if_neg hs]

theorem laws_eqAsked.eq (a : Int) (b : Bool) : laws_eqAsked.f a b a b = some true := by
  unfold laws_eqAsked.f; simp

theorem laws_eqAskedS.ev (l : List S45) (h : l.length ≤ 10000000) : Stops (fun k => laws_eqAskedS.f k l l) true := by
  have E : Stops (fun k => laws_eqAskedS.l0 k l l 0) true := by
    refine Stops.count (g := fun k (s : Int) => laws_eqAskedS.l0 k l l s) (fun i => (i : Int)) l.length (Stops.now1 fun m => ?_) fun i hi m => ?_
    · simp only [laws_eqAskedS.l0]; rw [if_neg (by omega)]
    · have e : wrap64 ((i : Int) + 1) = (i : Int) + 1 := w64 (by omega) (by omega)
      simp only [laws_eqAskedS.l0, laws_eqAsked.eq, Option.bind_some]; rw [if_pos (by omega), if_pos (by omega), if_pos (by omega), if_pos (by trivial), e]; rfl
  refine E.same fun m a => ?_
  simp only [laws_eqAskedS.f, if_true]; exact a

/-- The marks: two a record. -/
def mkA (l : List S45) (a : Int) : Nat → List S45
  | 0 => l
  | i + 1 => ((mkA l a i).set i (⟨a + 2 * i, (rd_T45 (mkA l a i) i).f1⟩ : S45)).set i (⟨(rd_T45 ((mkA l a i).set i (⟨a + 2 * i, (rd_T45 (mkA l a i) i).f1⟩ : S45)) i).f0, ((Int.tmod (wrap64 (a + 2 * i + 1)) 3) == 0)⟩ : S45)
theorem mkA_length (l : List S45) (a : Int) (n : Nat) : (mkA l a n).length = l.length := by
  induction n with
  | zero => rfl
  | succ n ih => rw [mkA, List.length_set, List.length_set, ih]
theorem laws_markAskedS.ev (l : List S45) (a : Int) (h : l.length ≤ 10000000) (h0 : 0 ≤ a) (h1 : a ≤ 1000000000000) : Stops (fun k => laws_markAskedS.f k l a) (a + 2 * l.length, mkA l a l.length) := by
  suffices E : Stops (fun k => laws_markAskedS.l0 k l (a + 2 * ((0 : Nat) : Int)) ((0 : Nat) : Int)) (a + 2 * l.length, mkA l a l.length) by
    rw [show a + 2 * ((0 : Nat) : Int) = a by omega] at E
    exact E
  refine Stops.count (g := fun k (s : List S45 × Int × Int) => laws_markAskedS.l0 k s.1 s.2.1 s.2.2) (fun i => (mkA l a i, a + 2 * i, (i : Int))) l.length (Stops.now1 fun m => ?_) fun i hi m => ?_
  · have := mkA_length l a l.length
    simp only [laws_markAskedS.l0]; rw [if_neg (by omega)]
  · have e : wrap64 ((i : Int) + 1) = ((i + 1 : Nat) : Int) := w64 (by omega) (by omega)
    have e2 : wrap64 (wrap64 (a + 2 * (i : Int) + 1) + 1) = a + 2 * ((i + 1 : Nat) : Int) := by
      have e1 : wrap64 (a + 2 * (i : Int) + 1) = a + 2 * (i : Int) + 1 := w64 (by omega) (by omega)
      rw [e1, w64 (by omega) (by omega)]
      push_cast
      omega
    have := mkA_length l a i
    simp only [laws_markAskedS.l0, Option.bind_some, e, e2, Int.toNat_natCast]
    rw [if_pos (by omega), if_pos (by omega)]
    rfl

theorem law : laws_FnExactFewestFalse.Pure := by
  intro n l _ hm
  intros
  by_cases hb : 1048576 < l.length
  · exact ⟨0, by simp [laws_FnExactFewestFalse.f, laws_szAskedS.big l hm hb]⟩
  have hvl : (ffV n (l.map askI)).2.1.length ≤ 1000 := by
    unfold ffV
    split
    · rename_i h
      have := okAnF_bd h
      have := leastV_len (ffP (l.map askI)) n.toNat
      show (leastV (ffP (l.map askI)) n.toNat).2.length ≤ _
      omega
    · simp
  have S := spec_FewestFalse.ev n (l.map askI) (by simp; omega)
  have I := impl_FewestFalse.ev n (l.map askI) (by simp; omega)
  generalize (ffV n (l.map askI)) = v at *
  obtain ⟨u, v, b⟩ := v
  simp only at hvl
  have hneg_v : ¬ (1 + (v.length : Int) < 0) := by omega
  obtain ⟨m, h⟩ := (((S).and ((I).and ((laws_toAskedS.ev l (by omega)).and ((laws_eqAskedS.ev (l.map askI) (by simp; omega)).and ((laws_markAskedS.ev (l.map askI) 1 (by simp; omega) (by omega) (by omega)).and ((laws_eqIntS.ev v (by omega)).and ((laws_markIntS.ev v 1 (by omega) (by omega) (by omega)).and (laws_heldIntS.ev v.length 1 (by omega) (by omega) (by omega)).evt)))))))).shift
  have h0 := fun j => (h j).1
  have h1 := fun j => (h j).2.1
  have h2 := fun j => (h j).2.2.1
  have h3 := fun j => (h j).2.2.2.1
  have h4 := fun j => (h j).2.2.2.2.1
  have h5 := fun j => (h j).2.2.2.2.2.1
  have h6 := fun j => (h j).2.2.2.2.2.2.1
  have h7 := fun j => (h j).2.2.2.2.2.2.2
  refine ⟨m + 7, ?_⟩
  simp [laws_FnExactFewestFalse.f, laws_FnExactFewestFalse.j0, laws_FnExactFewestFalse.j1, laws_FnExactFewestFalse.j2, h0, h1, h2, h3, h4, h5, h6, h7, laws_szAskedS.small l hb, show ¬ (1048576 - (l.length : Int) < 0) by omega, show ¬ (1 + 2 * (l.length : Int) < 0) by omega, hneg_v]

end Go.Proofs.Ytlmcoaencmfdfaa.PFnExactFewestFalse
