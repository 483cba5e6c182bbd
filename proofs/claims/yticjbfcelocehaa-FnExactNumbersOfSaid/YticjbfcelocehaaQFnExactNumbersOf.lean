/- The plain law behind the statement FnExactNumbersOf: what the Go functions' Lean forms come to. Written for this work; no condition. -/
import Derived.Test.YticjbfcelocehaaPFnExactNumbersOfx
import Derived.Test.YticjbfcelocehaaLib
set_option linter.unusedVariables false
set_option linter.unusedSimpArgs false
namespace Go.Proofs.Yticjbfcelocehaa.PFnExactNumbersOf
open Go.RowKit Go.Proofs.YticjbfcelocehaaW.PrintWords Go.Proofs.YticjbfcelocehaaW.PrintLast Go.Proofs.YticjbfcelocehaaW.PrintMore Go.Proofs.Yticjbfcelocehaa.Lib

theorem laws_eqIntS.ev (l : List Int) (h : l.length ≤ 35184372088832) : Stops (fun k => laws_eqIntS.f k l l) true := by
  have E : Stops (fun k => laws_eqIntS.l0 k l l 0) true := by
    refine Stops.count (g := fun k (s : Int) => laws_eqIntS.l0 k l l s) (fun i => (i : Int)) l.length (Stops.now1 fun m => ?_) fun i hi m => ?_
    · simp only [laws_eqIntS.l0]; rw [if_neg (by omega)]
    · have e : wrap64 ((i : Int) + 1) = (i : Int) + 1 := w64 (by omega) (by omega)
      rw [laws_eqIntS.l0, if_pos (by omega), if_pos (by omega), if_pos (by omega), if_pos rfl, e]; rfl
  refine E.same fun m a => ?_
  simp only [laws_eqIntS.f, if_true]; exact a

theorem spec_l1In.eq (a b c : Int) : spec_l1In.f a b c = some (decide (b ≤ a ∧ a ≤ c)) := by
  unfold spec_l1In.f; by_cases h : b ≤ a <;> simp [h]

theorem spec_l2Numbers.eq (a : Int) : spec_l2Numbers.f a = some (isN a) := by
  unfold spec_l2Numbers.f; rw [spec_l1In.eq]; rfl

theorem spec_l2Asks.eq (n q : Int) : spec_l2Asks.f n q = some (isQ n q) := by
  unfold spec_l2Asks.f isQ; rw [spec_l2Numbers.eq, spec_l1In.eq]
  cases h : isN n
  · simp
  · have := isN_bd h
    simp [show 0 ≤ n by omega]

theorem spec_l2NumbersOf.ev (n q : Int) (h0 : 0 ≤ n) (h : n ≤ 1000) : Stops (fun k => spec_l2NumbersOf.f k n q) (numsTo (hasB q) n.toNat) := by
  obtain ⟨n, rfl⟩ := Int.eq_ofNat_of_zero_le h0
  rw [Int.toNat_natCast]
  refine Stops.count (g := fun k (t : List Int × Int) => spec_l2NumbersOf.l0 k n q t.1 t.2) (fun i => (numsTo (hasB q) i, (i : Int))) n (Stops.now1 fun m => ?_) fun i hi m => ?_
  · simp only [spec_l2NumbersOf.l0]; rw [if_neg (by omega)]
  · have e : wrap64 ((i : Int) + 1) = (i : Int) + 1 := w64 (by omega) (by omega)
    have hl := numsTo_length (hasB q) i
    simp only [spec_l2NumbersOf.l0]; rw [if_pos (by omega), if_pos (by omega), e, numsTo]
    by_cases hb : hasB q i = true
    · rw [if_pos hb, if_pos (beq_iff_eq.1 hb), if_pos (by omega)]; rfl
    · rw [if_neg hb, if_neg (fun g => hb (beq_iff_eq.2 g))]; rfl

theorem spec_NumbersOf.ev (n q : Int) : Stops (fun k => spec_NumbersOf.f k n q) (if isQ n q = true then (numsTo (hasB q) n.toNat, true) else ([], false)) := by
  cases h : isQ n q
  · refine Evt.true.mono fun m _ => ?_
    simp [spec_NumbersOf.f, spec_l2Asks.eq, h]
  · have hb := isQ_bd h
    refine (spec_l2NumbersOf.ev n q (by omega) (by omega)).same fun m e => ?_
    simp [spec_NumbersOf.f, spec_l2Asks.eq, h, e]

theorem impl_in.eq (a b c : Int) : impl_in.f a b c = some (decide (b ≤ a ∧ a ≤ c)) := by
  unfold impl_in.f; by_cases h : b ≤ a <;> simp [h]

theorem impl_isCount.eq (a : Int) : impl_isCount.f a = some (isN a) := by
  unfold impl_isCount.f; rw [impl_in.eq]; rfl

theorem impl_isQuestion.eq (n q : Int) : impl_isQuestion.f n q = some (isQ n q) := by
  unfold impl_isQuestion.f isQ; rw [impl_isCount.eq, impl_in.eq]
  cases h : isN n
  · simp
  · have := isN_bd h
    simp [show 0 ≤ n by omega]

theorem impl_has.eq (q k : Int) (h : 0 ≤ k) : impl_has.f q k = some (hasB q k) := by
  unfold impl_has.f; rw [if_pos h]; rfl

theorem impl_NumbersOf.ev (n q : Int) : Stops (fun k => impl_NumbersOf.f k n q) (if isQ n q = true then (numsTo (hasB q) n.toNat, true) else ([], false)) := by
  cases h : isQ n q
  · refine Evt.true.mono fun m _ => ?_
    simp [impl_NumbersOf.f, impl_isQuestion.eq, h]
  · have hb := isQ_bd h
    have E : Stops (fun k => impl_NumbersOf.l0 k q [] n 0) (numsTo (hasB q) n.toNat, true) := by
      refine Stops.count (g := fun k (t : List Int × Int) => impl_NumbersOf.l0 k q t.1 n t.2) (fun i => (numsTo (hasB q) i, (i : Int))) n.toNat (Stops.now1 fun m => ?_) fun i hi m => ?_
      · simp only [impl_NumbersOf.l0]; rw [if_neg (by omega)]
      · have e : wrap64 ((i : Int) + 1) = (i : Int) + 1 := w64 (by omega) (by omega)
        have hl := numsTo_length (hasB q) i
        simp only [impl_NumbersOf.l0]; rw [if_pos (by omega), impl_has.eq q i (by omega), Option.bind_some, e, numsTo]
        by_cases hb : hasB q i = true
        · rw [if_pos hb, if_pos hb, if_pos (by omega)]; rfl
        · rw [if_neg hb, if_neg hb]; rfl
    refine E.same fun m e => ?_
    simp [impl_NumbersOf.f, impl_isQuestion.eq, h, e]

theorem laws_markIntS.ev (l : List Int) (a : Int) (h : l.length ≤ 35184372088832) (h0 : 0 ≤ a) (h1 : a ≤ 1000000000000000000) : Stops (fun k => laws_markIntS.f k l a) (a + l.length, upFrom a l.length) := by
  have E : Stops (fun k => laws_markIntS.l0 k (upFrom a 0 ++ l.drop 0) (a + ((0 : Nat) : Int)) ((0 : Nat) : Int)) (a + l.length, upFrom a l.length) := by
   refine Stops.count (g := fun k (s : List Int × Int × Int) => laws_markIntS.l0 k s.1 s.2.1 s.2.2) (fun i => (upFrom a i ++ l.drop i, a + i, (i : Int))) l.length (Stops.now1 fun m => ?_) fun i hi m => ?_
   · have hl : ((upFrom a l.length ++ l.drop l.length).length : Int) = l.length := by simp [upFrom_length]
     simp only [laws_markIntS.l0]; rw [if_neg (by rw [hl]; omega)]; simp
   · have e : wrap64 ((i : Int) + 1) = (i : Int) + 1 := w64 (by omega) (by omega)
     have e2 : wrap64 (a + (i : Int) + 1) = a + ((i + 1 : Nat) : Int) := by rw [w64 (by omega) (by omega)]; omega
     have hl : ((upFrom a i ++ l.drop i).length : Int) = l.length := by simp [upFrom_length]; omega
     simp only [laws_markIntS.l0]; rw [if_pos (by rw [hl]; omega), if_pos (by omega), e, e2, Int.toNat_natCast, set_split l i (upFrom a i) (a + i) (upFrom_length i a) hi, ← upFrom_append]; rfl
  refine E.same fun m e => ?_
  simp [upFrom] at e
  exact e

theorem laws_heldIntS.ev (n : Nat) (a : Int) (h : n ≤ 35184372088832) (h0 : 0 ≤ a) (h1 : a ≤ 1000000000000000000) : Stops (fun k => laws_heldIntS.f k (upFrom a n) a) (a + n) := by
  have E : Stops (fun k => laws_heldIntS.l0 k (upFrom a n) (a + ((0 : Nat) : Int)) ((0 : Nat) : Int)) (a + n) := by
    refine Stops.count (g := fun k (s : Int × Int) => laws_heldIntS.l0 k (upFrom a n) s.1 s.2) (fun i => (a + (i : Int), (i : Int))) n (Stops.now1 fun m => ?_) fun i hi m => ?_
    · simp only [laws_heldIntS.l0, upFrom_length]; rw [if_neg (by omega)]
    · have e : wrap64 ((i : Int) + 1) = (i : Int) + 1 := w64 (by omega) (by omega)
      have e2 : wrap64 (a + (i : Int) + 1) = a + ((i + 1 : Nat) : Int) := by rw [w64 (by omega) (by omega)]; omega
      simp only [laws_heldIntS.l0, upFrom_length]; rw [if_pos (by omega), if_pos (by omega), rd_nat, upFrom_getD n a i hi, if_pos rfl, e, e2]; rfl
  refine E.same fun m e => ?_
  simp at e
  exact e

theorem law : laws_FnExactNumbersOf.Pure := by
  intro n q _ _
  have hl : (if isQ n q = true then (numsTo (hasB q) n.toNat, true) else ([], false)).1.length ≤ 12 := by
    cases h : isQ n q
    · simp
    · have := isQ_bd h
      have := numsTo_length (hasB q) n.toNat
      simp; omega
  have S := spec_NumbersOf.ev n q
  have I := impl_NumbersOf.ev n q
  generalize (if isQ n q = true then (numsTo (hasB q) n.toNat, true) else ([], false)) = v at *
  obtain ⟨v, b⟩ := v
  obtain ⟨m, h⟩ := (S.and (I.and ((laws_eqIntS.ev v (by simp at hl; omega)).and ((laws_markIntS.ev v 1 (by simp at hl; omega) (by omega) (by omega)).and (laws_heldIntS.ev v.length 1 (by simp at hl; omega) (by omega) (by omega)).evt)))).shift
  have hs := fun j => (h j).1
  have hi := fun j => (h j).2.1
  have he := fun j => (h j).2.2.1
  have hm := fun j => (h j).2.2.2.1
  have hh := fun j => (h j).2.2.2.2
  have h1 : ¬ (1 + (v.length : Int) < 0) := by omega
  refine ⟨m + 5, ?_⟩
  simp [laws_FnExactNumbersOf.f, laws_FnExactNumbersOf.j0, laws_FnExactNumbersOf.j1, hs, hi, he, hm, hh, h1]

end Go.Proofs.Yticjbfcelocehaa.PFnExactNumbersOf
