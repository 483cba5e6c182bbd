/- The plain law behind the statement FnExactWeightTable: what the Go functions' Lean forms come to. Written for this work; no condition. -/
import Derived.Test.YtmmldpmchhchoaaPFnExactWeightTablex
import Derived.Test.YtmmldpmchhchoaaLib2
set_option linter.unusedVariables false
set_option linter.unusedSimpArgs false
namespace Go.Proofs.Ytmmldpmchhchoaa.PFnExactWeightTable
open Go.RowKit Go.Proofs.YtmmldpmchhchoaaW.PrintWords Go.Proofs.YtmmldpmchhchoaaW.PrintLast Go.Proofs.YtmmldpmchhchoaaW.PrintMore Go.Proofs.Ytmmldpmchhchoaa.Lib

theorem laws_eqIntS.ev (l : List Int) (h : l.length ≤ 35184372088832) : Stops (fun k => laws_eqIntS.f k l l) true := by
  have E : Stops (fun k => laws_eqIntS.l0 k l l 0) true := by
    refine Stops.count (g := fun k (s : Int) => laws_eqIntS.l0 k l l s) (fun i => (i : Int)) l.length (Stops.now1 fun m => ?_) fun i hi m => ?_
    · simp only [laws_eqIntS.l0]; rw [if_neg (by omega)]
    · have e : wrap64 ((i : Int) + 1) = (i : Int) + 1 := w64 (by omega) (by omega)
      rw [laws_eqIntS.l0, if_pos (by omega), if_pos (by omega), if_pos (by omega), if_pos rfl, e]; rfl
  refine E.same fun m a => ?_
  simp only [laws_eqIntS.f, if_true]; exact a

theorem spec_l1In.eq (a b c : Int) : spec_l1In.f a b c = some (decide (b ≤ a ∧ a ≤ c)) := by
  unfold spec_l1In.f; by_cases h : b ≤ a <;> simp [h]

theorem spec_l3Ahead.eq (a : Int) : spec_l3Ahead.f a = some (isA a) := by
  unfold spec_l3Ahead.f; rw [spec_l1In.eq]; rfl

theorem spec_l3Ways.ev (q k : Int) (h0 : 0 ≤ k) (h : k ≤ 1000) : Stops (fun n => spec_l3Ways.f n q k) (waysV q k.toNat) := by
  obtain ⟨k, rfl⟩ := Int.eq_ofNat_of_zero_le h0
  rw [Int.toNat_natCast]
  refine Stops.count (g := fun n (s : Int × Int) => spec_l3Ways.l0 n q k s.1 s.2) (fun i => (waysV q i, (i : Int))) k (Stops.now1 fun m => ?_) fun i hi m => ?_
  · simp only [spec_l3Ways.l0]; rw [if_neg (by omega)]
  · have e : wrap64 ((i : Int) + 1) = (i : Int) + 1 := w64 (by omega) (by omega)
    simp only [spec_l3Ways.l0]; rw [if_pos (by omega), e, if_neg (by omega)]; rfl

theorem spec_l3Ball.ev (q k : Int) (h0 : 0 ≤ q) (h1 : q ≤ 100) (h2 : k ≤ 100) : Stops (fun n => spec_l3Ball.f n q k) (ballV q ((mn q k) + 1).toNat) := by
  have hmn : mn q k = if k < q then k else q := rfl
  generalize mn q k = d at hmn
  refine Stops.count' (g := fun n (s : Int × Int) => spec_l3Ball.l0 n q k s.1 s.2) (fun i => (ballV q i, (i : Int))) (d + 1).toNat (Stops.now1 fun m => ?_) fun i hi A => ?_
  · simp only [spec_l3Ball.l0]
    by_cases h : (((d + 1).toNat : Nat) : Int) ≤ k
    · rw [if_pos h, if_neg (by split at hmn <;> omega)]
    · rw [if_neg h]
  · refine Evt.succ (A.and (spec_l3Ways.ev q i (by omega) (by split at hmn <;> omega))) fun m ⟨a, b⟩ => ?_
    have e : wrap64 ((i : Int) + 1) = (i : Int) + 1 := w64 (by omega) (by split at hmn <;> omega)
    simp only [spec_l3Ball.l0]; rw [if_pos (by split at hmn <;> omega), if_pos (by split at hmn <;> omega), show spec_l3Ways.f m q i = _ from b, Option.bind_some, e]; exact a

theorem spec_WeightTable.ev (m0 q : Int) : Stops (fun k => spec_WeightTable.f k m0 q) (if (isA q && isM m0) = true then (wtV q m0 (m0 + 1).toNat, true) else ([], false)) := by
  cases ha : isA q
  · refine Stops.now1 fun m => ?_
    simp [spec_WeightTable.f, spec_l3Ahead.eq, ha, spec_WeightTable.j0]
  · cases hm : isM m0
    · refine Stops.now1 fun m => ?_
      have hm' : decide (0 ≤ m0 ∧ m0 ≤ 2) = false := hm
      simp only [spec_WeightTable.f, spec_l3Ahead.eq, ha, spec_l1In.eq, hm', spec_WeightTable.j0, Option.bind_some]
      simp
    · have h1 := isA_bd ha
      have h2 := isM_bd hm
      have E : Stops (fun k => spec_WeightTable.l0 k m0 q [] ((0 : Nat) : Int)) (wtV q m0 (m0 + 1).toNat, true) := by
        refine Stops.count' (g := fun k (s : List Int × Int) => spec_WeightTable.l0 k m0 q s.1 s.2) (fun i => (wtV q m0 i, (i : Int))) (m0 + 1).toNat (Stops.now1 fun m => ?_) fun i hi A => ?_
        · simp only [spec_WeightTable.l0]; rw [if_neg (by omega)]
        · have e : wrap64 ((i : Int) + 1) = (i : Int) + 1 := w64 (by omega) (by omega)
          have e2 : wrap64 (m0 - (i : Int)) = m0 - i := w64 (by omega) (by omega)
          have hl := wtV_length q m0 i
          refine Evt.succ (A.and (spec_l3Ball.ev q (m0 - i) (by omega) (by omega) (by omega)).evt) fun m ⟨a, b⟩ => ?_
          simp only [spec_WeightTable.l0]
          rw [if_pos (by omega), e2, show spec_l3Ball.f m q (m0 - i) = _ from b, Option.bind_some, if_pos (by omega), e]
          rw [wtV, e2] at a; exact a
      refine E.round fun m a => ?_
      have hm' : decide (0 ≤ m0 ∧ m0 ≤ 2) = true := hm
      simp only [spec_WeightTable.f, spec_l3Ahead.eq, ha, spec_l1In.eq, hm', spec_WeightTable.j0, Option.bind_some]
      simpa using a

theorem impl_in.eq (a b c : Int) : impl_in.f a b c = some (decide (b ≤ a ∧ a ≤ c)) := by
  unfold impl_in.f; by_cases h : b ≤ a <;> simp [h]

theorem impl_isMost.eq (a : Int) : impl_isMost.f a = some (isM a) := by
  unfold impl_isMost.f; rw [impl_in.eq]; rfl

theorem impl_isAhead.eq (a : Int) : impl_isAhead.f a = some (isA a) := by
  unfold impl_isAhead.f; rw [impl_in.eq]; rfl

theorem impl_ways.ev (q k : Int) (h0 : 0 ≤ k) (h : k ≤ 1000) : Stops (fun n => impl_ways.f n q k) (waysV q k.toNat) := by
  obtain ⟨k, rfl⟩ := Int.eq_ofNat_of_zero_le h0
  rw [Int.toNat_natCast]
  refine Stops.count (g := fun n (s : Int × Int) => impl_ways.l0 n q s.1 k s.2) (fun i => (waysV q i, (i : Int))) k (Stops.now1 fun m => ?_) fun i hi m => ?_
  · simp only [impl_ways.l0]; rw [if_neg (by omega)]
  · have e : wrap64 ((i : Int) + 1) = (i : Int) + 1 := w64 (by omega) (by omega)
    simp only [impl_ways.l0]; rw [if_pos (by omega), e, if_neg (by omega)]; rfl

theorem impl_ball.ev (q k : Int) (h0 : 0 ≤ q) (h1 : q ≤ 100) (h2 : k ≤ 100) (h3 : -100 ≤ k) : Stops (fun n => impl_ball.f n q k) (ballV q ((mn q k) + 1).toNat) := by
  have hmn : mn q k = if k < q then k else q := rfl
  have hb : -100 ≤ mn q k ∧ mn q k ≤ 100 := by rw [hmn]; split <;> omega
  have e0 : wrap64 (mn q k + 1) = mn q k + 1 := w64 (by omega) (by omega)
  generalize hd : mn q k = d at *
  have E : Stops (fun n => impl_ball.l0 n q 0 (d + 1) 0) (ballV q (d + 1).toNat) := by
    refine Stops.count' (g := fun n (s : Int × Int) => impl_ball.l0 n q s.1 (d + 1) s.2) (fun i => (ballV q i, (i : Int))) (d + 1).toNat (Stops.now1 fun m => ?_) fun i hi A => ?_
    · simp only [impl_ball.l0]; rw [if_neg (by omega)]
    · refine Evt.succ (A.and (impl_ways.ev q i (by omega) (by omega))) fun m ⟨a, b⟩ => ?_
      have e : wrap64 ((i : Int) + 1) = (i : Int) + 1 := w64 (by omega) (by omega)
      simp only [impl_ball.l0]; rw [if_pos (by omega), show impl_ways.f m q i = _ from b, Option.bind_some, e]; exact a
  refine E.same fun m a => ?_
  simp only [impl_ball.f, hd, e0]; exact a

theorem impl_WeightTable.ev (m0 q : Int) : Stops (fun k => impl_WeightTable.f k m0 q) (if (isA q && isM m0) = true then (wtV q m0 (m0 + 1).toNat, true) else ([], false)) := by
  cases ha : isA q
  · refine Stops.now1 fun m => ?_
    simp [impl_WeightTable.f, impl_isAhead.eq, ha, impl_WeightTable.j0]
  · cases hm : isM m0
    · refine Stops.now1 fun m => ?_
      simp only [impl_WeightTable.f, impl_isAhead.eq, ha, impl_isMost.eq, hm, impl_WeightTable.j0, Option.bind_some]
      simp
    · have h1 := isA_bd ha
      have h2 := isM_bd hm
      have e0 : wrap64 (m0 + 1) = m0 + 1 := w64 (by omega) (by omega)
      have E : Stops (fun k => impl_WeightTable.l0 k m0 q [] (m0 + 1) ((0 : Nat) : Int)) (wtV q m0 (m0 + 1).toNat, true) := by
        refine Stops.count' (g := fun k (s : List Int × Int) => impl_WeightTable.l0 k m0 q s.1 (m0 + 1) s.2) (fun i => (wtV q m0 i, (i : Int))) (m0 + 1).toNat (Stops.now1 fun m => ?_) fun i hi A => ?_
        · simp only [impl_WeightTable.l0]; rw [if_neg (by omega)]
        · have e : wrap64 ((i : Int) + 1) = (i : Int) + 1 := w64 (by omega) (by omega)
          have e2 : wrap64 (m0 - (i : Int)) = m0 - i := w64 (by omega) (by omega)
          have hl := wtV_length q m0 i
          refine Evt.succ (A.and (impl_ball.ev q (m0 - i) (by omega) (by omega) (by omega) (by omega)).evt) fun m ⟨a, b⟩ => ?_
          simp only [impl_WeightTable.l0]
          rw [if_pos (by omega), e2, show impl_ball.f m q (m0 - i) = _ from b, Option.bind_some, if_pos (by omega), e]
          rw [wtV, e2] at a; exact a
      refine E.round fun m a => ?_
      simp only [impl_WeightTable.f, impl_isAhead.eq, ha, impl_isMost.eq, hm, impl_WeightTable.j0, Option.bind_some, e0]
      simpa using a

theorem laws_markIntS.ev (l : List Int) (a : Int) (h : l.length ≤ 35184372088832) (h0 : 0 ≤ a) (h1 : a ≤ 1000000000000000000) : Stops (fun k => laws_markIntS.f k l a) (a + l.length, upFrom a l.length) := by
  have E : Stops (fun k => laws_markIntS.l0 k (upFrom a 0 ++ l.drop 0) (a + ((0 : Nat) : Int)) ((0 : Nat) : Int)) (a + l.length, upFrom a l.length) := by
   refine Stops.count (g := fun k (s : List Int × Int × Int) => laws_markIntS.l0 k s.1 s.2.1 s.2.2) (fun i => (upFrom a i ++ l.drop i, a + i, (i : Int))) l.length (Stops.now1 fun m => ?_) fun i hi m => ?_
   · have hl : ((upFrom a l.length ++ l.drop l.length).length : Int) = l.length := by simp [upFrom_length]
     simp only [laws_markIntS.l0]; rw [if_neg (by rw [hl]; omega)]; simp
   · have e : wrap64 ((i : Int) + 1) = (i : Int) + 1 := w64 (by omega) (by omega)
     have e2 : wrap64 (a + (i : Int) + 1) = a + ((i + 1 : Nat) : Int) := by rw [w64 (by omega) (by omega)]; omega
     have hl : ((upFrom a i ++ l.drop i).length : Int) = l.length := by simp [upFrom_length]; omega
     simp only [laws_markIntS.l0]; rw [if_pos (by rw [hl]; omega), if_pos (by omega), e, e2, Int.toNat_natCast, set_split l i (upFrom a i) (a + i) (upFrom_length i a) hi, ← upFrom_append]; rfl
  refine E.same fun m e => ?_
  simp [upFrom] at e
  exact e

theorem laws_heldIntS.ev (n : Nat) (a : Int) (h : n ≤ 35184372088832) (h0 : 0 ≤ a) (h1 : a ≤ 1000000000000000000) : Stops (fun k => laws_heldIntS.f k (upFrom a n) a) (a + n) := by
  have E : Stops (fun k => laws_heldIntS.l0 k (upFrom a n) (a + ((0 : Nat) : Int)) ((0 : Nat) : Int)) (a + n) := by
    refine Stops.count (g := fun k (s : Int × Int) => laws_heldIntS.l0 k (upFrom a n) s.1 s.2) (fun i => (a + (i : Int), (i : Int))) n (Stops.now1 fun m => ?_) fun i hi m => ?_
    · simp only [laws_heldIntS.l0, upFrom_length]; rw [if_neg (by omega)]
    · have e : wrap64 ((i : Int) + 1) = (i : Int) + 1 := w64 (by omega) (by omega)
      have e2 : wrap64 (a + (i : Int) + 1) = a + ((i + 1 : Nat) : Int) := by rw [w64 (by omega) (by omega)]; omega
      simp only [laws_heldIntS.l0, upFrom_length]; rw [if_pos (by omega), if_pos (by omega), rd_nat, upFrom_getD n a i hi, if_pos rfl, e, e2]; rfl
  refine E.same fun m e => ?_
  simp at e
  exact e

theorem law : laws_FnExactWeightTable.Pure := by
  intro m0 q
  intros
  have hvl : (if (isA q && isM m0) = true then (wtV q m0 (m0 + 1).toNat, true) else ([], false)).1.length ≤ 35184372088832 := by
    split
    · rename_i h
      rw [Bool.and_eq_true] at h
      have := isM_bd h.2
      rw [show (wtV q m0 (m0 + 1).toNat, true).1 = wtV q m0 (m0 + 1).toNat from rfl, wtV_length]
      omega
    · simp
  have S := spec_WeightTable.ev m0 q
  have I := impl_WeightTable.ev m0 q
  generalize (if (isA q && isM m0) = true then (wtV q m0 (m0 + 1).toNat, true) else ([], false)) = v at *
  obtain ⟨v, b⟩ := v
  simp only at hvl
  have hneg_v : ¬ (1 + (v.length : Int) < 0) := by omega
  obtain ⟨m, h⟩ := (((S).and ((I).and ((laws_eqIntS.ev v (by omega)).and ((laws_markIntS.ev v 1 (by omega) (by omega) (by omega)).and (laws_heldIntS.ev v.length 1 (by omega) (by omega) (by omega)).evt))))).shift
  have h0 := fun j => (h j).1
  have h1 := fun j => (h j).2.1
  have h2 := fun j => (h j).2.2.1
  have h3 := fun j => (h j).2.2.2.1
  have h4 := fun j => (h j).2.2.2.2
  refine ⟨m + 7, ?_⟩
  simp [laws_FnExactWeightTable.f, laws_FnExactWeightTable.j0, laws_FnExactWeightTable.j1, h0, h1, h2, h3, h4, hneg_v]

end Go.Proofs.Ytmmldpmchhchoaa.PFnExactWeightTable
