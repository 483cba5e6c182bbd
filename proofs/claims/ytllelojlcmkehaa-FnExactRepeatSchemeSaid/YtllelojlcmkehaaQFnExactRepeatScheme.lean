/- The plain law behind the statement FnExactRepeatScheme: what the Go functions' Lean forms come to. Written for this work; no condition. -/
import Derived.Test.YtllelojlcmkehaaPFnExactRepeatSchemex
import Derived.Test.YtllelojlcmkehaaLib2
set_option linter.unusedVariables false
set_option linter.unusedSimpArgs false
namespace Go.Proofs.Ytllelojlcmkehaa.PFnExactRepeatScheme
open Go.RowKit Go.Proofs.YtllelojlcmkehaaW.PrintWords Go.Proofs.YtllelojlcmkehaaW.PrintLast Go.Proofs.YtllelojlcmkehaaW.PrintMore Go.Proofs.Ytllelojlcmkehaa.Lib


theorem spec_l1In.eq (a b c : Int) : spec_l1In.f a b c = some (decide (b ≤ a ∧ a ≤ c)) := by
  unfold spec_l1In.f; by_cases h : b ≤ a <;> simp [h]

theorem spec_l2Numbers.eq (a : Int) : spec_l2Numbers.f a = some (isN a) := by
  unfold spec_l2Numbers.f; rw [spec_l1In.eq]; rfl

theorem spec_l2Asks.eq (n q : Int) : spec_l2Asks.f n q = some (isQ n q) := by
  unfold spec_l2Asks.f isQ; rw [spec_l2Numbers.eq, spec_l1In.eq]
  cases h : isN n
  · simp
  · have := isN_bd h
    simp [show 0 ≤ n by omega]

theorem spec_l5Scheme.ev (n : Int) (l : List Int) (h : l.length ≤ 35184372088832) : Stops (fun k => spec_l5Scheme.f k n l) (isSch n l) := by
  have e : isSch n l = chkV (fun x => isQ n x) (isN n && decide (l.length ≤ 14)) 14 l 0 := by
    rw [chkV_eq _ _ _ _ _ (fun g => by rw [Bool.and_eq_true, decide_eq_true_eq] at g; omega)]
    simp [isSch, List.all_eq_not_any_not]
  have hd : decide ((l.length : Int) ≤ 14) = decide (l.length ≤ 14) := by simp only [decide_eq_decide]; omega
  rw [e]
  have E := Stops.over0 l (fun k (i : Nat) (s : Unit) => spec_l5Scheme.l0 k n l (i : Int)) (fun t s => chkV (fun x => isQ n x) (isN n && decide (l.length ≤ 14)) 14 t (l.length - t.length)) () ?_ ?_
  · rw [Nat.sub_self] at E; exact E
  · intro s
    refine ⟨2, fun q hq => ?_⟩
    obtain ⟨k, rfl⟩ : ∃ k, q = k + 2 := ⟨q - 2, by omega⟩
    simp only [spec_l5Scheme.l0, spec_l5Scheme.j1, spec_l2Numbers.eq]; rw [if_neg (by omega), if_neg (by simp), hd]
    cases isN n <;> rfl
  · intro i hi s A
    have ew : wrap64 ((i : Int) + 1) = ((i + 1 : Nat) : Int) := w64 (by omega) (by omega)
    have ed : l.length - (l[i] :: l.drop (i + 1)).length = i := by simp; omega
    have ed2 : l.length - (l.drop (i + 1)).length = i + 1 := by simp; omega
    have A := A ()
    simp only [ed, ed2] at A ⊢
    by_cases hc : i ≤ 14
    · cases hp : isQ n l[i]
      · refine ⟨2, fun q hq => ?_⟩
        obtain ⟨k, rfl⟩ : ∃ k, q = k + 2 := ⟨q - 2, by omega⟩
        simp only [spec_l5Scheme.l0, spec_l5Scheme.j1, rd_at l i hi, spec_l2Asks.eq]
        rw [if_pos (by omega), decide_eq_true (show (i : Int) ≤ 14 by omega), if_pos (by trivial), if_pos (by omega), if_pos (by omega), hp, Option.bind_some]; simp [chkV, hc, hp]
      · have A1 : Stops (fun k => spec_l5Scheme.j1 k n l (i : Int) true) (chkV (fun x => isQ n x) (isN n && decide (l.length ≤ 14)) 14 (l[i] :: l.drop (i + 1)) i) := A.round fun k a => by
          simp only [spec_l5Scheme.j1, rd_at l i hi, spec_l2Asks.eq]
          rw [if_pos trivial, if_pos (by omega), if_pos (by omega), hp, Option.bind_some, if_pos (by trivial), ew, chkV, if_pos hc, if_pos hp]; exact a
        exact A1.round fun k a => by
          simp only [spec_l5Scheme.l0]; rw [if_pos (by omega), decide_eq_true (by omega)]; exact a
    · refine ⟨2, fun q hq => ?_⟩
      obtain ⟨k, rfl⟩ : ∃ k, q = k + 2 := ⟨q - 2, by omega⟩
      simp only [spec_l5Scheme.l0, spec_l5Scheme.j1, spec_l2Numbers.eq]
      rw [if_pos (by omega), decide_eq_false (show ¬ (i : Int) ≤ 14 by omega), chkV, if_neg hc, if_neg (by simp), hd]
      cases isN n <;> rfl

/-- The first entries of a scheme each of whose questions comes T times. -/
def repS (l : List Int) (T : Nat) : Nat → List Int
  | 0 => []
  | i + 1 => repS l T i ++ [rd l (((i / T : Nat)) : Int)]
theorem repS_length (l : List Int) (T : Nat) (i : Nat) : (repS l T i).length = i := by
  induction i with
  | zero => rfl
  | succ i ih => rw [repS, List.length_append, ih]; rfl
def okRep (n : Int) (l : List Int) (t : Int) : Bool := isSch n l && decide (1 ≤ t ∧ t ≤ 14) && !decide (wrap64 ((l.length : Int) * t) > 14)
theorem okRep_bd {n : Int} {l : List Int} {t : Int} (h : okRep n l t = true) : isSch n l = true ∧ (1 ≤ t ∧ t ≤ 14) ∧ l.length * t.toNat ≤ 14 ∧ wrap64 ((l.length : Int) * t) = ((l.length * t.toNat : Nat) : Int) := by
  unfold okRep at h
  simp only [Bool.and_eq_true, decide_eq_true_eq, Bool.not_eq_true', decide_eq_false_iff_not] at h
  obtain ⟨⟨h1, h2⟩, h3⟩ := h
  have hb := isSch_bd h1
  obtain ⟨T, rfl⟩ := Int.eq_ofNat_of_zero_le (show 0 ≤ t by omega)
  have hm : l.length * T ≤ 14 * 14 := Nat.mul_le_mul (by omega) (by omega)
  have e : wrap64 ((l.length : Int) * (T : Int)) = ((l.length * T : Nat) : Int) := by
    rw [← Int.natCast_mul]
    exact w64 (by omega) (by omega)
  rw [e] at h3
  rw [Int.toNat_natCast]
  exact ⟨h1, h2, by omega, e⟩
def rpV (n : Int) (l : List Int) (t : Int) : List Int × Bool := if okRep n l t = true then (repS l t.toNat (l.length * t.toNat), true) else ([], false)
theorem spec_RepeatScheme.ev (n : Int) (l : List Int) (t : Int) (h : l.length ≤ 35184372088832) : Stops (fun k => spec_RepeatScheme.f k n l t) (rpV n l t) := by
  unfold rpV
  by_cases hs : okRep n l t = true
  · rw [if_pos hs]
    obtain ⟨h1, h2, h3, h4⟩ := okRep_bd hs
    have hb := isSch_bd h1
    obtain ⟨T, rfl⟩ := Int.eq_ofNat_of_zero_le (show 0 ≤ t by omega)
    rw [Int.toNat_natCast] at *
    have L : Stops (fun k => spec_RepeatScheme.l0 k l (T : Int) [] 0) (repS l T (l.length * T), true) := by
      refine Stops.count (g := fun k (s : List Int × Int) => spec_RepeatScheme.l0 k l (T : Int) s.1 s.2) (fun i => (repS l T i, (i : Int))) (l.length * T) (Stops.now1 fun k => ?_) fun i hi k => ?_
      · simp only [spec_RepeatScheme.l0]; rw [h4, if_neg (by omega)]
      · have ew : wrap64 ((i : Int) + 1) = ((i + 1 : Nat) : Int) := w64 (by omega) (by omega)
        have hd : i / T < l.length := Nat.div_lt_of_lt_mul (by rw [Nat.mul_comm]; exact hi)
        have ed : wrap64 (Int.tdiv (i : Int) (T : Int)) = ((i / T : Nat) : Int) := by
          rw [show Int.tdiv (i : Int) (T : Int) = ((i / T : Nat) : Int) from rfl]
          have wq : ∀ q : Nat, q < l.length → wrap64 (q : Int) = (q : Int) := fun q hq => w64 (by omega) (by omega)
          exact wq _ hd
        have hl := repS_length l T i
        simp only [spec_RepeatScheme.l0]
        rw [h4, if_pos (by omega), if_neg (by omega), ed, if_pos (Int.natCast_nonneg _), if_pos (by exact_mod_cast hd), if_pos (by omega), ew]
        rfl
    have J : Stops (fun k => spec_RepeatScheme.j0 k l (T : Int) false) (repS l T (l.length * T), true) := L.round fun k a => by rw [spec_RepeatScheme.j0, if_neg (by simp)]; exact a
    refine ((spec_l5Scheme.ev n l h).and J.evt).mono fun k ⟨a, b⟩ => ?_
    simp only [spec_RepeatScheme.f, a, h1, spec_l1In.eq, Option.bind_some, if_true]
    rw [decide_eq_true h2, if_pos rfl, h4, decide_eq_false (by omega)]
    exact b
  · rw [if_neg hs]
    have J : Stops (fun k => spec_RepeatScheme.j0 k l t true) ([], false) := Stops.now1 fun k => by rw [spec_RepeatScheme.j0, if_pos rfl]
    refine ((spec_l5Scheme.ev n l h).and J.evt).mono fun k ⟨a, b⟩ => ?_
    simp only [spec_RepeatScheme.f, a, spec_l1In.eq, Option.bind_some]
    unfold okRep at hs
    cases e1 : isSch n l
    · simpa using b
    · cases e2 : decide (1 ≤ t ∧ t ≤ 14)
      · simpa using b
      · cases e3 : decide (wrap64 ((l.length : Int) * t) > 14)
        · exact absurd (by rw [e1, e2, e3]; rfl) hs
        · simpa using b

theorem laws_toIntS.ev (l : List Int) (h : l.length ≤ 35184372088832) : Stops (fun k => laws_toIntS.f k l) l := by
  have E : Stops (fun k => laws_toIntS.l0 k l (List.replicate l.length 0) 0) l := by
    refine Stops.count (g := fun k (s : List Int × Int) => laws_toIntS.l0 k l s.1 s.2) (fun i => (l.take i ++ List.replicate (l.length - i) 0, (i : Int))) l.length (Stops.now1 fun m => ?_) fun i hi m => ?_
    · simp only [laws_toIntS.l0]; rw [if_neg (by omega)]; simp
    · have e : wrap64 ((i : Int) + 1) = (i : Int) + 1 := w64 (by omega) (by omega)
      have hl : ((l.take i ++ List.replicate (l.length - i) (0 : Int)).length : Int) = l.length := by simp; omega
      simp only [laws_toIntS.l0]; rw [if_pos (by omega), if_pos (by omega), hl, if_pos (by omega), e, rd_at l i hi, Int.toNat_natCast, set_fill l i hi]; rfl
  refine E.same fun m a => ?_
  simp only [laws_toIntS.f, Int.toNat_natCast]; rw [if_pos (by omega), if_pos h]; exact a

/-- What comes behind the first questions. -/
def repI (l : List Int) (T : Nat) : Nat → List Int
  | 0 => []
  | i + 1 => repI l T i ++ List.replicate T (rd l (i : Int))
theorem repI_length (l : List Int) (T : Nat) (i : Nat) : (repI l T i).length = i * T := by
  induction i with
  | zero => simp [repI]
  | succ i ih => rw [repI, List.length_append, ih, List.length_replicate, Nat.succ_mul]
theorem repS_row (l : List Int) (T i : Nat) (d : Nat) : d ≤ T → repS l T (i * T + d) = repS l T (i * T) ++ List.replicate d (rd l (i : Int)) := by
  induction d with
  | zero => intro _; simp
  | succ d ih =>
    intro hd
    have e : (i * T + d) / T = i := by
      rw [Nat.mul_comm, Nat.mul_add_div (by omega), Nat.div_eq_of_lt (by omega), Nat.add_zero]
    rw [← Nat.add_assoc, repS, ih (by omega), e, List.replicate_succ', List.append_assoc]
theorem repS_all (l : List Int) (T : Nat) (i : Nat) : repS l T (i * T) = repI l T i := by
  induction i with
  | zero => simp [repS, repI]
  | succ i ih => rw [Nat.succ_mul, repS_row l T i T (Nat.le_refl _), ih, repI]
theorem impl_RepeatScheme.ev (n : Int) (l : List Int) (t : Int) : Stops (fun k => impl_RepeatScheme.f k n l t) (rpV n l t) := by
  unfold rpV
  by_cases hs : okRep n l t = true
  · rw [if_pos hs]
    obtain ⟨h1, h2, h3, h4⟩ := okRep_bd hs
    have hb := isSch_bd h1
    obtain ⟨T, rfl⟩ := Int.eq_ofNat_of_zero_le (show 0 ≤ t by omega)
    rw [Int.toNat_natCast] at *
    have L : Stops (fun k => impl_RepeatScheme.l0 k (T : Int) [] l (l.length : Int) 0) (repI l T l.length, true) := by
      refine Stops.count (g := fun k (s : List Int × Int) => impl_RepeatScheme.l0 k (T : Int) s.1 l (l.length : Int) s.2) (fun i => (repI l T i, (i : Int))) l.length (Stops.now1 fun k => ?_) fun i hi k => ?_
      · simp only [impl_RepeatScheme.l0]; rw [if_neg (by omega)]
      · have ew : wrap64 ((i : Int) + 1) = ((i + 1 : Nat) : Int) := w64 (by omega) (by omega)
        have hl := repI_length l T i
        have hm : i * T ≤ 14 * 14 := Nat.mul_le_mul (by omega) (by omega)
        have hr : slices_Repeat_int_int.f [rd l (i : Int)] (T : Int) = some (List.replicate T (rd l (i : Int))) := by
          rw [slices_Repeat_int_int.f, if_pos ⟨rfl, h2⟩, Int.toNat_natCast]; rfl
        simp only [impl_RepeatScheme.l0]
        rw [if_pos (by omega), if_pos (by omega), if_pos (by omega), hr, Option.bind_some, if_pos (by rw [hl, List.length_replicate]; omega), ew]
        rfl
    rw [← repS_all] at L
    have J : Stops (fun k => impl_RepeatScheme.j0 k l (T : Int) false) (repS l T (l.length * T), true) := L.round fun k a => by rw [impl_RepeatScheme.j0, if_neg (by simp)]; exact a
    refine J.same fun k b => ?_
    simp only [impl_RepeatScheme.f, impl_IsScheme.f, h1, impl_in.eq, Option.bind_some, if_true]
    rw [decide_eq_true h2, if_pos rfl, h4, decide_eq_false (by omega)]
    exact b
  · rw [if_neg hs]
    have J : Stops (fun k => impl_RepeatScheme.j0 k l t true) ([], false) := Stops.now1 fun k => by rw [impl_RepeatScheme.j0, if_pos rfl]
    refine J.same fun k b => ?_
    simp only [impl_RepeatScheme.f, impl_IsScheme.f, impl_in.eq, Option.bind_some]
    unfold okRep at hs
    cases e1 : isSch n l
    · simpa using b
    · cases e2 : decide (1 ≤ t ∧ t ≤ 14)
      · simpa using b
      · cases e3 : decide (wrap64 ((l.length : Int) * t) > 14)
        · exact absurd (by rw [e1, e2, e3]; rfl) hs
        · simpa using b

theorem laws_eqIntS.ev (l : List Int) (h : l.length ≤ 35184372088832) : Stops (fun k => laws_eqIntS.f k l l) true := by
  have E : Stops (fun k => laws_eqIntS.l0 k l l 0) true := by
    refine Stops.count (g := fun k (s : Int) => laws_eqIntS.l0 k l l s) (fun i => (i : Int)) l.length (Stops.now1 fun m => ?_) fun i hi m => ?_
    · simp only [laws_eqIntS.l0]; rw [if_neg (by omega)]
    · have e : wrap64 ((i : Int) + 1) = (i : Int) + 1 := w64 (by omega) (by omega)
      rw [laws_eqIntS.l0, if_pos (by omega), if_pos (by omega), if_pos (by omega), if_pos rfl, e]; rfl
  refine E.same fun m a => ?_
  simp only [laws_eqIntS.f, if_true]; exact a

theorem laws_markIntS.ev (l : List Int) (a : Int) (h : l.length ≤ 35184372088832) (h0 : 0 ≤ a) (h1 : a ≤ 1000000000000000000) : Stops (fun k => laws_markIntS.f k l a) (a + l.length, upFrom a l.length) := by
  have E : Stops (fun k => laws_markIntS.l0 k (upFrom a 0 ++ l.drop 0) (a + ((0 : Nat) : Int)) ((0 : Nat) : Int)) (a + l.length, upFrom a l.length) := by
   refine Stops.count (g := fun k (s : List Int × Int × Int) => laws_markIntS.l0 k s.1 s.2.1 s.2.2) (fun i => (upFrom a i ++ l.drop i, a + i, (i : Int))) l.length (Stops.now1 fun m => ?_) fun i hi m => ?_
   · have hl : ((upFrom a l.length ++ l.drop l.length).length : Int) = l.length := by simp [upFrom_length]
     simp only [laws_markIntS.l0]; rw [if_neg (by rw [hl]; omega)]; simp
   · have e : wrap64 ((i : Int) + 1) = (i : Int) + 1 := w64 (by omega) (by omega)
     have e2 : wrap64 (a + (i : Int) + 1) = a + ((i + 1 : Nat) : Int) := by rw [w64 (by omega) (by omega)]; omega
     have hl : ((upFrom a i ++ l.drop i).length : Int) = l.length := by simp [upFrom_length]; omega
     simp only [laws_markIntS.l0]; rw [if_pos (by rw [hl]; omega), if_pos (by omega), e, e2, Int.toNat_natCast, set_split l i (upFrom a i) (a + i) (upFrom_length i a) hi, ← upFrom_append]; rfl
  refine E.same fun m e => ?_
  simp [upFrom] at e
  exact e

theorem laws_heldIntS.ev (n : Nat) (a : Int) (h : n ≤ 35184372088832) (h0 : 0 ≤ a) (h1 : a ≤ 1000000000000000000) : Stops (fun k => laws_heldIntS.f k (upFrom a n) a) (a + n) := by
  have E : Stops (fun k => laws_heldIntS.l0 k (upFrom a n) (a + ((0 : Nat) : Int)) ((0 : Nat) : Int)) (a + n) := by
    refine Stops.count (g := fun k (s : Int × Int) => laws_heldIntS.l0 k (upFrom a n) s.1 s.2) (fun i => (a + (i : Int), (i : Int))) n (Stops.now1 fun m => ?_) fun i hi m => ?_
    · simp only [laws_heldIntS.l0, upFrom_length]; rw [if_neg (by omega)]
    · have e : wrap64 ((i : Int) + 1) = (i : Int) + 1 := w64 (by omega) (by omega)
      have e2 : wrap64 (a + (i : Int) + 1) = a + ((i + 1 : Nat) : Int) := by rw [w64 (by omega) (by omega)]; omega
      simp only [laws_heldIntS.l0, upFrom_length]; rw [if_pos (by omega), if_pos (by omega), rd_nat, upFrom_getD n a i hi, if_pos rfl, e, e2]; rfl
  refine E.same fun m e => ?_
  simp at e
  exact e

theorem law : laws_FnExactRepeatScheme.Pure := by
  intro n l t
  intros
  by_cases hb : (l.length : Int) > 1048576
  · exact ⟨0, by simp [laws_FnExactRepeatScheme.f, hb]⟩
  have hvl : (rpV n l t).1.length ≤ 35184372088832 := by
    unfold rpV
    split
    · rename_i h
      have := okRep_bd h
      rw [show (repS l t.toNat (l.length * t.toNat), true).1 = repS l t.toNat (l.length * t.toNat) from rfl, repS_length]
      omega
    · simp
  have S := spec_RepeatScheme.ev n l t (by omega)
  have I := impl_RepeatScheme.ev n l t
  generalize (rpV n l t) = v at *
  obtain ⟨v, b⟩ := v
  simp only at hvl
  have hneg_v : ¬ (1 + (v.length : Int) < 0) := by omega
  obtain ⟨m, h⟩ := (((S).and ((I).and ((laws_toIntS.ev l (by omega)).and ((laws_eqIntS.ev l (by omega)).and ((laws_markIntS.ev l 1 (by omega) (by omega) (by omega)).and ((laws_eqIntS.ev v (by omega)).and ((laws_markIntS.ev v 1 (by omega) (by omega) (by omega)).and (laws_heldIntS.ev v.length 1 (by omega) (by omega) (by omega)).evt)))))))).shift
  have h0 := fun j => (h j).1
  have h1 := fun j => (h j).2.1
  have h2 := fun j => (h j).2.2.1
  have h3 := fun j => (h j).2.2.2.1
  have h4 := fun j => (h j).2.2.2.2.1
  have h5 := fun j => (h j).2.2.2.2.2.1
  have h6 := fun j => (h j).2.2.2.2.2.2.1
  have h7 := fun j => (h j).2.2.2.2.2.2.2
  refine ⟨m + 7, ?_⟩
  simp [laws_FnExactRepeatScheme.f, laws_FnExactRepeatScheme.j0, laws_FnExactRepeatScheme.j1, laws_FnExactRepeatScheme.j2, h0, h1, h2, h3, h4, h5, h6, h7, hb, show ¬ (1 + (l.length : Int) < 0) by omega, hneg_v]

end Go.Proofs.Ytllelojlcmkehaa.PFnExactRepeatScheme
