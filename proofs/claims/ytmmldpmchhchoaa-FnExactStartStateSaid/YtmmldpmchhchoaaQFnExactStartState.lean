/- The plain law behind the statement FnExactStartState: what the Go functions' Lean forms come to. Written for this work; no condition. -/
import Derived.Test.YtmmldpmchhchoaaPFnExactStartStatex
import Derived.Test.YtmmldpmchhchoaaLib
set_option linter.unusedVariables false
set_option linter.unusedSimpArgs false
namespace Go.Proofs.Ytmmldpmchhchoaa.PFnExactStartState
open Go.RowKit Go.Proofs.YtmmldpmchhchoaaW.PrintWords Go.Proofs.YtmmldpmchhchoaaW.PrintLast Go.Proofs.YtmmldpmchhchoaaW.PrintMore Go.Proofs.Ytmmldpmchhchoaa.Lib

theorem spec_l1In.eq (a b c : Int) : spec_l1In.f a b c = some (decide (b ≤ a ∧ a ≤ c)) := by
  unfold spec_l1In.f; by_cases h : b ≤ a <;> simp [h]

theorem spec_l2Numbers.eq (a : Int) : spec_l2Numbers.f a = some (isN a) := by
  unfold spec_l2Numbers.f; rw [spec_l1In.eq]; rfl

theorem spec_l2Start.eq (n m : Int) (h0 : 0 ≤ n) (h : n ≤ 1000) : spec_l2Start.f n m = some (List.replicate n.toNat 0, m) := by
  unfold spec_l2Start.f; rw [if_pos h0, if_pos (by omega)]

theorem spec_StartState.eq (n m : Int) : spec_StartState.f n m = some (if (isN n && isM m) = true then (List.replicate n.toNat 0, m, true) else ([], 0, false)) := by
  unfold spec_StartState.f; rw [spec_l2Numbers.eq, spec_l1In.eq]
  cases h : isN n
  · simp
  · have := isN_bd h
    rw [show decide (0 ≤ m ∧ m ≤ 2) = isM m from rfl]
    cases h2 : isM m <;> simp [spec_l2Start.eq n m (by omega) (by omega)]

theorem impl_in.eq (a b c : Int) : impl_in.f a b c = some (decide (b ≤ a ∧ a ≤ c)) := by
  unfold impl_in.f; by_cases h : b ≤ a <;> simp [h]

theorem impl_isCount.eq (a : Int) : impl_isCount.f a = some (isN a) := by
  unfold impl_isCount.f; rw [impl_in.eq]; rfl

theorem impl_isMost.eq (a : Int) : impl_isMost.f a = some (isM a) := by
  unfold impl_isMost.f; rw [impl_in.eq]; rfl

theorem impl_start.eq (n m : Int) (h0 : 0 ≤ n) (h : n ≤ 1000) : impl_start.f n m = some (List.replicate n.toNat 0, m) := by
  unfold impl_start.f; rw [if_pos h0, if_pos (by omega)]

theorem impl_StartState.eq (n m : Int) : impl_StartState.f n m = some (if (isN n && isM m) = true then (List.replicate n.toNat 0, m, true) else ([], 0, false)) := by
  unfold impl_StartState.f; rw [impl_isCount.eq, impl_isMost.eq]
  cases h : isN n
  · simp
  · have := isN_bd h
    cases h2 : isM m <;> simp [impl_start.eq n m (by omega) (by omega)]

theorem laws_eqIntS.ev (l : List Int) (h : l.length ≤ 35184372088832) : Stops (fun k => laws_eqIntS.f k l l) true := by
  have E : Stops (fun k => laws_eqIntS.l0 k l l 0) true := by
    refine Stops.count (g := fun k (s : Int) => laws_eqIntS.l0 k l l s) (fun i => (i : Int)) l.length (Stops.now1 fun m => ?_) fun i hi m => ?_
    · simp only [laws_eqIntS.l0]; rw [if_neg (by omega)]
    · have e : wrap64 ((i : Int) + 1) = (i : Int) + 1 := w64 (by omega) (by omega)
      rw [laws_eqIntS.l0, if_pos (by omega), if_pos (by omega), if_pos (by omega), if_pos rfl, e]; rfl
  refine E.same fun m a => ?_
  simp only [laws_eqIntS.f, if_true]; exact a

theorem laws_eqState.ev (l : List Int) (m : Int) (h : l.length ≤ 35184372088832) : Stops (fun k => laws_eqState.f k l m l m) true := by
  refine (laws_eqIntS.ev l h).same fun k e => ?_
  simp [laws_eqState.f, e]

theorem laws_markIntS.ev (l : List Int) (a : Int) (h : l.length ≤ 35184372088832) (h0 : 0 ≤ a) (h1 : a ≤ 1000000000000000000) : Stops (fun k => laws_markIntS.f k l a) (a + l.length, upFrom a l.length) := by
  have E : Stops (fun k => laws_markIntS.l0 k (upFrom a 0 ++ l.drop 0) (a + ((0 : Nat) : Int)) ((0 : Nat) : Int)) (a + l.length, upFrom a l.length) := by
   refine Stops.count (g := fun k (s : List Int × Int × Int) => laws_markIntS.l0 k s.1 s.2.1 s.2.2) (fun i => (upFrom a i ++ l.drop i, a + i, (i : Int))) l.length (Stops.now1 fun m => ?_) fun i hi m => ?_
   · have hl : ((upFrom a l.length ++ l.drop l.length).length : Int) = l.length := by simp [upFrom_length]
     simp only [laws_markIntS.l0]; rw [if_neg (by rw [hl]; omega)]; simp
   · have e : wrap64 ((i : Int) + 1) = (i : Int) + 1 := w64 (by omega) (by omega)
     have e2 : wrap64 (a + (i : Int) + 1) = a + ((i + 1 : Nat) : Int) := by rw [w64 (by omega) (by omega)]; omega
     have hl : ((upFrom a i ++ l.drop i).length : Int) = l.length := by simp [upFrom_length]; omega
     simp only [laws_markIntS.l0]; rw [if_pos (by rw [hl]; omega), if_pos (by omega), e, e2, Int.toNat_natCast, set_split l i (upFrom a i) (a + i) (upFrom_length i a) hi, ← upFrom_append]; rfl
  refine E.same fun m e => ?_
  simp [upFrom] at e
  exact e

theorem laws_markState.ev (l : List Int) (m a : Int) (h : l.length ≤ 35184372088832) (h0 : 0 ≤ a) (h1 : a ≤ 1000000000000000000) : Stops (fun k => laws_markState.f k l m a) (a + l.length, upFrom a l.length) := by
  refine (laws_markIntS.ev l a h h0 h1).same fun k e => ?_
  simp [laws_markState.f, e]

theorem laws_heldIntS.ev (n : Nat) (a : Int) (h : n ≤ 35184372088832) (h0 : 0 ≤ a) (h1 : a ≤ 1000000000000000000) : Stops (fun k => laws_heldIntS.f k (upFrom a n) a) (a + n) := by
  have E : Stops (fun k => laws_heldIntS.l0 k (upFrom a n) (a + ((0 : Nat) : Int)) ((0 : Nat) : Int)) (a + n) := by
    refine Stops.count (g := fun k (s : Int × Int) => laws_heldIntS.l0 k (upFrom a n) s.1 s.2) (fun i => (a + (i : Int), (i : Int))) n (Stops.now1 fun m => ?_) fun i hi m => ?_
    · simp only [laws_heldIntS.l0, upFrom_length]; rw [if_neg (by omega)]
    · have e : wrap64 ((i : Int) + 1) = (i : Int) + 1 := w64 (by omega) (by omega)
      have e2 : wrap64 (a + (i : Int) + 1) = a + ((i + 1 : Nat) : Int) := by rw [w64 (by omega) (by omega)]; omega
      simp only [laws_heldIntS.l0, upFrom_length]; rw [if_pos (by omega), if_pos (by omega), rd_nat, upFrom_getD n a i hi, if_pos rfl, e, e2]; rfl
  refine E.same fun m e => ?_
  simp at e
  exact e

theorem laws_heldState.ev (n : Nat) (m a : Int) (h : n ≤ 35184372088832) (h0 : 0 ≤ a) (h1 : a ≤ 1000000000000000000) : Stops (fun k => laws_heldState.f k (upFrom a n) m a) (a + n) := by
  refine (laws_heldIntS.ev n a h h0 h1).same fun k e => ?_
  simp [laws_heldState.f, e, show ¬ a + (n : Int) < 0 by omega]

theorem law : laws_FnExactStartState.Pure := by
  intro n m0 _ _
  have hl : (if (isN n && isM m0) = true then (List.replicate n.toNat (0 : Int), m0, true) else ([], 0, false)).1.length ≤ 12 := by
    split
    · rename_i h
      rw [Bool.and_eq_true] at h
      have := isN_bd h.1
      simp; omega
    · simp
  have S := spec_StartState.eq n m0
  have I := impl_StartState.eq n m0
  generalize (if (isN n && isM m0) = true then (List.replicate n.toNat (0 : Int), m0, true) else ([], 0, false)) = v at *
  obtain ⟨v, q, b⟩ := v
  simp only at hl
  obtain ⟨m, h⟩ := ((laws_eqState.ev v q (by omega)).and ((laws_markState.ev v q 1 (by omega) (by omega) (by omega)).and (laws_heldState.ev v.length q 1 (by omega) (by omega) (by omega)).evt)).shift
  have he := fun j => (h j).1
  have hm := fun j => (h j).2.1
  have hh := fun j => (h j).2.2
  have h1 : ¬ (1 + (v.length : Int) < 0) := by omega
  refine ⟨m + 5, ?_⟩
  simp [laws_FnExactStartState.f, laws_FnExactStartState.j0, laws_FnExactStartState.j1, S, I, he, hm, hh, h1]

end Go.Proofs.Ytmmldpmchhchoaa.PFnExactStartState
