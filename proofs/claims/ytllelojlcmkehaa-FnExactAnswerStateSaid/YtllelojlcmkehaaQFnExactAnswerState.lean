/- The plain law behind the statement FnExactAnswerState: what the Go functions' Lean forms come to. Written for this work; no condition. -/
import Derived.Test.YtllelojlcmkehaaPFnExactAnswerStatex
import Derived.Test.YtllelojlcmkehaaLib2
set_option linter.unusedVariables false
set_option linter.unusedSimpArgs false
namespace Go.Proofs.Ytllelojlcmkehaa.PFnExactAnswerState
open Go.RowKit Go.Proofs.YtllelojlcmkehaaW.PrintWords Go.Proofs.YtllelojlcmkehaaW.PrintLast Go.Proofs.YtllelojlcmkehaaW.PrintMore Go.Proofs.Ytllelojlcmkehaa.Lib


theorem laws_szIntS.eq (l : List Int) (a : Int) (h : l.length ≤ maxLen) (h0 : 0 ≤ a) (h1 : a ≤ 1048576) : laws_szIntS.f l a = some (if a < (l.length : Int) then -1 else a - (l.length : Int)) := by
  unfold maxLen at h
  unfold laws_szIntS.f; rw [w64 (by omega) (by omega)]
  by_cases hb : a < l.length
  · rw [if_pos (by omega), if_pos hb]
  · rw [if_neg (by omega), if_neg hb]

theorem laws_szState.big (l : List Int) (m : Int) (h : l.length ≤ maxLen) (hb : 1048576 < l.length) : laws_szState.f l m 1048576 = some (-1) := by
  unfold laws_szState.f; rw [laws_szIntS.eq l _ h (by omega) (by omega), if_pos (by omega)]; rfl
theorem laws_szState.small (l : List Int) (m : Int) (h : l.length ≤ maxLen) (hb : ¬ 1048576 < l.length) : laws_szState.f l m 1048576 = some (1048576 - (l.length : Int)) := by
  unfold laws_szState.f; rw [laws_szIntS.eq l _ h (by omega) (by omega), if_neg (by omega), Option.bind_some, if_neg (by omega)]

theorem spec_l1In.eq (a b c : Int) : spec_l1In.f a b c = some (decide (b ≤ a ∧ a ≤ c)) := by
  unfold spec_l1In.f; by_cases h : b ≤ a <;> simp [h]

theorem spec_l2State.ev (l : List Int) (m : Int) (h : l.length ≤ 35184372088832) : Stops (fun k => spec_l2State.f k l m) (isSt l m) := by
  have e : isSt l m = chkV (fun x => decide (-1 ≤ x ∧ x ≤ m)) (isN l.length && isM m) 12 l 0 := by
    rw [chkV_eq _ _ _ _ _ (fun g => by rw [Bool.and_eq_true] at g; have := isN_bd g.1; omega)]
    simp [isSt, List.all_eq_not_any_not]
  rw [e]
  have E := Stops.over0 l (fun k (i : Nat) (s : Unit) => spec_l2State.l0 k (i : Int) l m) (fun t s => chkV (fun x => decide (-1 ≤ x ∧ x ≤ m)) (isN l.length && isM m) 12 t (l.length - t.length)) () ?_ ?_
  · rw [Nat.sub_self] at E; exact E
  · intro s
    refine ⟨2, fun n hn => ?_⟩
    obtain ⟨k, rfl⟩ : ∃ k, n = k + 2 := ⟨n - 2, by omega⟩
    simp only [spec_l2State.l0, spec_l2State.j1, spec_l1In.eq]; rw [if_neg (by omega), if_neg (by simp)]
    exact and_bind (isN l.length) (isM m)
  · intro i hi s A
    have ew : wrap64 ((i : Int) + 1) = ((i + 1 : Nat) : Int) := w64 (by omega) (by omega)
    have ed : l.length - (l[i] :: l.drop (i + 1)).length = i := by simp; omega
    have ed2 : l.length - (l.drop (i + 1)).length = i + 1 := by simp; omega
    have A := A ()
    simp only [ed, ed2] at A ⊢
    by_cases hc : i ≤ 12
    · by_cases hp : -1 ≤ l[i] ∧ l[i] ≤ m
      · have A1 : Stops (fun k => spec_l2State.j1 k (i : Int) true l m) (chkV (fun x => decide (-1 ≤ x ∧ x ≤ m)) (isN l.length && isM m) 12 (l[i] :: l.drop (i + 1)) i) := A.round fun k a => by
          simp only [spec_l2State.j1, rd_at l i hi, spec_l1In.eq]
          rw [if_pos trivial, if_pos (by omega), if_pos (by omega), decide_eq_true hp, Option.bind_some, if_pos (by trivial), ew, chkV, if_pos hc, if_pos (by simpa using hp)]; exact a
        exact A1.round fun k a => by
          simp only [spec_l2State.l0]; rw [if_pos (by omega), decide_eq_true (by omega)]; exact a
      · refine ⟨2, fun n hn => ?_⟩
        obtain ⟨k, rfl⟩ : ∃ k, n = k + 2 := ⟨n - 2, by omega⟩
        simp only [spec_l2State.l0, spec_l2State.j1, rd_at l i hi, spec_l1In.eq]
        rw [if_pos (by omega), decide_eq_true (show (i : Int) ≤ 12 by omega), if_pos (by trivial), if_pos (by omega), if_pos (by omega), decide_eq_false hp, Option.bind_some]; simp [chkV, hc, hp]
    · refine ⟨2, fun n hn => ?_⟩
      obtain ⟨k, rfl⟩ : ∃ k, n = k + 2 := ⟨n - 2, by omega⟩
      simp only [spec_l2State.l0, spec_l2State.j1, spec_l1In.eq]
      rw [if_pos (by omega), decide_eq_false (show ¬ (i : Int) ≤ 12 by omega), chkV, if_neg hc, if_neg (by simp)]
      exact and_bind (isN l.length) (isM m)

theorem spec_l2Numbers.eq (a : Int) : spec_l2Numbers.f a = some (isN a) := by
  unfold spec_l2Numbers.f; rw [spec_l1In.eq]; rfl

theorem spec_l2Asks.eq (n q : Int) : spec_l2Asks.f n q = some (isQ n q) := by
  unfold spec_l2Asks.f isQ; rw [spec_l2Numbers.eq, spec_l1In.eq]
  cases h : isN n
  · simp
  · have := isN_bd h
    simp [show 0 ≤ n by omega]

theorem spec_l2Question.eq (l : List Int) (m0 q : Int) : spec_l2Question.f l m0 q = some (isQ l.length q) := by
  unfold spec_l2Question.f; rw [spec_l2Asks.eq]; rfl

theorem spec_l1Own.eq (l : List Int) (h : l.length ≤ 10000000) : spec_l1Own.f l = some l := by
  unfold spec_l1Own.f
  rw [Option.bind_some, if_pos (by simp; omega), List.nil_append]

theorem spec_l2False.eq (q : Int) (b : Bool) (k : Int) (h : 0 ≤ k) : spec_l2False.f q b k = some (b != hasB q k) := by
  unfold spec_l2False.f; rw [if_pos h]; rfl

theorem spec_l2After.ev (l : List Int) (m q : Int) (y : Bool) (h : l.length ≤ 10000000) : Stops (fun k => spec_l2After.f k l m q y) (aftV q y m l, m) := by
  have E : Stops (fun k => spec_l2After.l0 k q y 0 l m l m) (aftV q y m l, m) := by
    refine Stops.count' (g := fun k (s : List Int × Int) => spec_l2After.l0 k q y s.2 l m s.1 m) (fun i => (aftN (fun k => y != hasB q k) m l i, (i : Int))) l.length (Stops.now1 fun k => ?_) fun i hi A => ?_
    · have := aftN_length (fun k => y != hasB q k) m l l.length
      simp only [spec_l2After.l0]; rw [if_neg (by omega)]; rfl
    · have ew : wrap64 ((i : Int) + 1) = ((i + 1 : Nat) : Int) := w64 (by omega) (by omega)
      have hlen := aftN_length (fun k => y != hasB q k) m l i
      have A1 : Stops (fun k => spec_l2After.j1 k q y (i : Int) (decide (rd (aftN (fun k => y != hasB q k) m l i) i ≥ 0) && (y != hasB q i)) l m (aftN (fun k => y != hasB q k) m l i) m) (aftV q y m l, m) := A.round fun k a => by
        simp only [spec_l2After.j1, ew, Int.toNat_natCast, Option.bind_some]
        simp only [aftN, aft1] at a
        by_cases hc : (decide (rd (aftN (fun k => y != hasB q k) m l i) i ≥ 0) && (y != hasB q i)) = true
        · rw [if_pos hc] at a ⊢
          rw [if_pos (by omega), if_pos (by omega)]
          split at a
          · rename_i hg; rw [if_pos hg]; exact a
          · rename_i hg; rw [if_neg hg]; exact a
        · rw [if_neg hc] at a ⊢
          exact a
      refine A1.round fun k a => ?_
      simp only [spec_l2After.l0]
      rw [if_pos (by omega), if_pos (by omega)]
      by_cases hg : rd (aftN (fun k => y != hasB q k) m l i) i ≥ 0
      · rw [if_pos hg, spec_l2False.eq q y i (by omega), Option.bind_some]
        rw [decide_eq_true hg, Bool.true_and] at a
        exact a
      · rw [if_neg hg]
        rw [decide_eq_false hg, Bool.false_and] at a
        exact a
  refine E.same fun k e => ?_
  simp only [spec_l2After.f, spec_l1Own.eq l h, Option.bind_some]
  exact e

def asV (l : List Int) (m q : Int) (y : Bool) : List Int × Int × Bool := if (isSt l m && isQ l.length q) = true then (aftV q y m l, m, true) else ([], 0, false)
theorem spec_AnswerState.ev (l : List Int) (m q : Int) (y : Bool) (h : l.length ≤ 10000000) : Stops (fun k => spec_AnswerState.f k l m q y) (asV l m q y) := by
  unfold asV
  refine ((spec_l2State.ev l m (by omega)).and (spec_l2After.ev l m q y h).evt).mono fun k ⟨a, b⟩ => ?_
  simp only [spec_AnswerState.f, a, b, spec_l2Question.eq, Option.bind_some]
  cases isSt l m <;> cases isQ l.length q <;> simp

theorem laws_toIntS.ev (l : List Int) (h : l.length ≤ 35184372088832) : Stops (fun k => laws_toIntS.f k l) l := by
  have E : Stops (fun k => laws_toIntS.l0 k l (List.replicate l.length 0) 0) l := by
    refine Stops.count (g := fun k (s : List Int × Int) => laws_toIntS.l0 k l s.1 s.2) (fun i => (l.take i ++ List.replicate (l.length - i) 0, (i : Int))) l.length (Stops.now1 fun m => ?_) fun i hi m => ?_
    · simp only [laws_toIntS.l0]; rw [if_neg (by omega)]; simp
    · have e : wrap64 ((i : Int) + 1) = (i : Int) + 1 := w64 (by omega) (by omega)
      have hl : ((l.take i ++ List.replicate (l.length - i) (0 : Int)).length : Int) = l.length := by simp; omega
      simp only [laws_toIntS.l0]; rw [if_pos (by omega), if_pos (by omega), hl, if_pos (by omega), e, rd_at l i hi, Int.toNat_natCast, set_fill l i hi]; rfl
  refine E.same fun m a => ?_
  simp only [laws_toIntS.f, Int.toNat_natCast]; rw [if_pos (by omega), if_pos h]; exact a

theorem laws_toState.ev (l : List Int) (m : Int) (h : l.length ≤ 35184372088832) : Stops (fun k => laws_toState.f k l m) (l, m) := by
  refine (laws_toIntS.ev l h).same fun k e => ?_
  simp [laws_toState.f, e]

theorem impl_isQuestion.eq (n q : Int) : impl_isQuestion.f n q = some (isQ n q) := by
  unfold impl_isQuestion.f isQ; rw [impl_isCount.eq, impl_in.eq]
  cases h : isN n
  · simp
  · have := isN_bd h
    simp [show 0 ≤ n by omega]

theorem slices_Clone_int_int.eq (l : List Int) (h : l.length ≤ 10000000) : slices_Clone_int_int.f l = some l := by
  unfold slices_Clone_int_int.f
  rw [Option.bind_some, if_pos (by simp; omega), List.nil_append]

theorem impl_has.eq (q k : Int) (h : 0 ≤ k) : impl_has.f q k = some (hasB q k) := by
  unfold impl_has.f; rw [if_pos h]; rfl

theorem impl_Asked_isFalse.eq (q : Int) (b : Bool) (k : Int) (h : 0 ≤ k) : impl_Asked_isFalse.f q b k = some (b != hasB q k) := by
  unfold impl_Asked_isFalse.f; rw [impl_has.eq q k h, Option.bind_some]
  cases b <;> cases hasB q k <;> rfl

theorem impl_State_after.ev (l : List Int) (m q : Int) (y : Bool) (h : l.length ≤ 10000000) : Stops (fun k => impl_State_after.f k l m (⟨q, y⟩ : S47)) (aftV q y m l, m) := by
  have E : Stops (fun k => impl_State_after.l0 k (⟨q, y⟩ : S47) l (l.length : Int) 0 l m m) (aftV q y m l, m) := by
    refine Stops.count' (g := fun k (s : List Int × Int) => impl_State_after.l0 k (⟨q, y⟩ : S47) s.1 (l.length : Int) s.2 l m m) (fun i => (aftN (fun k => y != hasB q k) m l i, (i : Int))) l.length (Stops.now1 fun k => ?_) fun i hi A => ?_
    · simp only [impl_State_after.l0]; rw [if_neg (by omega)]; rfl
    · have ew : wrap64 ((i : Int) + 1) = ((i + 1 : Nat) : Int) := w64 (by omega) (by omega)
      have hlen := aftN_length (fun k => y != hasB q k) m l i
      have A1 : Stops (fun k => impl_State_after.j1 k (⟨q, y⟩ : S47) (i : Int) (aftN (fun k => y != hasB q k) m l i) (l.length : Int) (i : Int) (decide (rd (aftN (fun k => y != hasB q k) m l i) i ≥ 0) && (y != hasB q i)) l m (aftN (fun k => y != hasB q k) m l i) m) (aftV q y m l, m) := A.round fun k a => by
        simp only [impl_State_after.j1, ew, Int.toNat_natCast]
        simp only [aftN, aft1] at a
        by_cases hc : (decide (rd (aftN (fun k => y != hasB q k) m l i) i ≥ 0) && (y != hasB q i)) = true
        · rw [if_pos hc] at a ⊢
          rw [if_pos (by omega), if_pos (by omega)]
          split at a
          · rename_i hg; rw [if_pos hg]; exact a
          · rename_i hg; rw [if_neg hg]; exact a
        · rw [if_neg hc] at a ⊢
          exact a
      refine A1.round fun k a => ?_
      simp only [impl_State_after.l0]
      rw [if_pos (by omega), if_pos (by omega), if_pos (by omega)]
      by_cases hg : rd (aftN (fun k => y != hasB q k) m l i) i ≥ 0
      · rw [if_pos hg, virtual_isFalseF.f, impl_Asked_isFalse.eq q y i (by omega), Option.bind_some]
        rw [decide_eq_true hg, Bool.true_and] at a
        exact a
      · rw [if_neg hg]
        rw [decide_eq_false hg, Bool.false_and] at a
        exact a
  refine E.same fun k e => ?_
  simp only [impl_State_after.f, slices_Clone_int_int.eq l h, Option.bind_some]
  exact e

theorem impl_State_answered.ev (l : List Int) (m q : Int) (y : Bool) (h : l.length ≤ 10000000) : Stops (fun k => impl_State_answered.f k l m q y) (aftV q y m l, m) := (impl_State_after.ev l m q y h).same fun k e => by
  simp only [impl_State_answered.f, e, Option.bind_some]

theorem impl_AnswerState.ev (l : List Int) (m q : Int) (y : Bool) (h : l.length ≤ 10000000) : Stops (fun k => impl_AnswerState.f k l m q y) (if (isSt l m && isQ l.length q) = true then (aftV q y m l, m, true) else ([], 0, false)) := (impl_State_answered.ev l m q y h).same fun k e => by
  simp only [impl_AnswerState.f, impl_IsState.f, e, impl_isQuestion.eq, Option.bind_some]
  cases isSt l m <;> cases isQ l.length q <;> simp

theorem laws_eqIntS.ev (l : List Int) (h : l.length ≤ 35184372088832) : Stops (fun k => laws_eqIntS.f k l l) true := by
  have E : Stops (fun k => laws_eqIntS.l0 k l l 0) true := by
    refine Stops.count (g := fun k (s : Int) => laws_eqIntS.l0 k l l s) (fun i => (i : Int)) l.length (Stops.now1 fun m => ?_) fun i hi m => ?_
    · simp only [laws_eqIntS.l0]; rw [if_neg (by omega)]
    · have e : wrap64 ((i : Int) + 1) = (i : Int) + 1 := w64 (by omega) (by omega)
      rw [laws_eqIntS.l0, if_pos (by omega), if_pos (by omega), if_pos (by omega), if_pos rfl, e]; rfl
  refine E.same fun m a => ?_
  simp only [laws_eqIntS.f, if_true]; exact a

theorem laws_eqState.ev (l : List Int) (m : Int) (h : l.length ≤ 35184372088832) : Stops (fun k => laws_eqState.f k l m l m) true := by
  refine (laws_eqIntS.ev l h).same fun k e => ?_
  simp [laws_eqState.f, e]

theorem laws_markIntS.ev (l : List Int) (a : Int) (h : l.length ≤ 35184372088832) (h0 : 0 ≤ a) (h1 : a ≤ 1000000000000000000) : Stops (fun k => laws_markIntS.f k l a) (a + l.length, upFrom a l.length) := by
  have E : Stops (fun k => laws_markIntS.l0 k (upFrom a 0 ++ l.drop 0) (a + ((0 : Nat) : Int)) ((0 : Nat) : Int)) (a + l.length, upFrom a l.length) := by
   refine Stops.count (g := fun k (s : List Int × Int × Int) => laws_markIntS.l0 k s.1 s.2.1 s.2.2) (fun i => (upFrom a i ++ l.drop i, a + i, (i : Int))) l.length (Stops.now1 fun m => ?_) fun i hi m => ?_
   · have hl : ((upFrom a l.length ++ l.drop l.length).length : Int) = l.length := by simp [upFrom_length]
     simp only [laws_markIntS.l0]; rw [if_neg (by rw [hl]; omega)]; simp
   · have e : wrap64 ((i : Int) + 1) = (i : Int) + 1 := w64 (by omega) (by omega)
     have e2 : wrap64 (a + (i : Int) + 1) = a + ((i + 1 : Nat) : Int) := by rw [w64 (by omega) (by omega)]; omega
     have hl : ((upFrom a i ++ l.drop i).length : Int) = l.length := by simp [upFrom_length]; omega
     simp only [laws_markIntS.l0]; rw [if_pos (by rw [hl]; omega), if_pos (by omega), e, e2, Int.toNat_natCast, set_split l i (upFrom a i) (a + i) (upFrom_length i a) hi, ← upFrom_append]; rfl
  refine E.same fun m e => ?_
  simp [upFrom] at e
  exact e

theorem laws_markState.ev (l : List Int) (m a : Int) (h : l.length ≤ 35184372088832) (h0 : 0 ≤ a) (h1 : a ≤ 1000000000000000000) : Stops (fun k => laws_markState.f k l m a) (a + l.length, upFrom a l.length) := by
  refine (laws_markIntS.ev l a h h0 h1).same fun k e => ?_
  simp [laws_markState.f, e]

theorem laws_heldIntS.ev (n : Nat) (a : Int) (h : n ≤ 35184372088832) (h0 : 0 ≤ a) (h1 : a ≤ 1000000000000000000) : Stops (fun k => laws_heldIntS.f k (upFrom a n) a) (a + n) := by
  have E : Stops (fun k => laws_heldIntS.l0 k (upFrom a n) (a + ((0 : Nat) : Int)) ((0 : Nat) : Int)) (a + n) := by
    refine Stops.count (g := fun k (s : Int × Int) => laws_heldIntS.l0 k (upFrom a n) s.1 s.2) (fun i => (a + (i : Int), (i : Int))) n (Stops.now1 fun m => ?_) fun i hi m => ?_
    · simp only [laws_heldIntS.l0, upFrom_length]; rw [if_neg (by omega)]
    · have e : wrap64 ((i : Int) + 1) = (i : Int) + 1 := w64 (by omega) (by omega)
      have e2 : wrap64 (a + (i : Int) + 1) = a + ((i + 1 : Nat) : Int) := by rw [w64 (by omega) (by omega)]; omega
      simp only [laws_heldIntS.l0, upFrom_length]; rw [if_pos (by omega), if_pos (by omega), rd_nat, upFrom_getD n a i hi, if_pos rfl, e, e2]; rfl
  refine E.same fun m e => ?_
  simp at e
  exact e

theorem laws_heldState.ev (n : Nat) (m a : Int) (h : n ≤ 35184372088832) (h0 : 0 ≤ a) (h1 : a ≤ 1000000000000000000) : Stops (fun k => laws_heldState.f k (upFrom a n) m a) (a + n) := by
  refine (laws_heldIntS.ev n a h h0 h1).same fun k e => ?_
  simp [laws_heldState.f, e, show ¬ a + (n : Int) < 0 by omega]

theorem law : laws_FnExactAnswerState.Pure := by
  intro l m0 q y hm
  intros
  by_cases hb : 1048576 < l.length
  · exact ⟨0, by simp [laws_FnExactAnswerState.f, laws_szState.big l m0 hm hb]⟩
  have hvl : (asV l m0 q y).1.length ≤ 10000000 := by
    unfold asV
    split
    · show (aftV q y m0 l).length ≤ _
      rw [aftV_length]
      omega
    · simp
  have S := spec_AnswerState.ev l m0 q y (by omega)
  have I := show Stops (fun k => impl_AnswerState.f k l m0 q y) (asV l m0 q y) from impl_AnswerState.ev l m0 q y (by omega)
  generalize (asV l m0 q y) = v at *
  obtain ⟨v, u, b⟩ := v
  simp only at hvl
  have hneg_v : ¬ (1 + (v.length : Int) < 0) := by omega
  obtain ⟨m, h⟩ := (((S).and ((I).and ((laws_toState.ev l m0 (by omega)).and ((laws_eqState.ev l m0 (by omega)).and ((laws_markState.ev l m0 1 (by omega) (by omega) (by omega)).and ((laws_eqState.ev v u (by omega)).and ((laws_markState.ev v u 1 (by omega) (by omega) (by omega)).and (laws_heldState.ev v.length u 1 (by omega) (by omega) (by omega)).evt)))))))).shift
  have h0 := fun j => (h j).1
  have h1 := fun j => (h j).2.1
  have h2 := fun j => (h j).2.2.1
  have h3 := fun j => (h j).2.2.2.1
  have h4 := fun j => (h j).2.2.2.2.1
  have h5 := fun j => (h j).2.2.2.2.2.1
  have h6 := fun j => (h j).2.2.2.2.2.2.1
  have h7 := fun j => (h j).2.2.2.2.2.2.2
  refine ⟨m + 7, ?_⟩
  simp [laws_FnExactAnswerState.f, laws_FnExactAnswerState.j0, laws_FnExactAnswerState.j1, laws_FnExactAnswerState.j2, h0, h1, h2, h3, h4, h5, h6, h7, laws_szState.small l m0 hm hb, show ¬ (1048576 - (l.length : Int) < 0) by omega, show ¬ (1 + (l.length : Int) < 0) by omega, laws_toAsked.f, hneg_v]

end Go.Proofs.Ytllelojlcmkehaa.PFnExactAnswerState
