/- The plain law behind the statement FnExactMostByWeight: what the Go functions' Lean forms come to. Written for this work; no condition. -/
import Derived.Test.YticjbfcelocehaaPFnExactMostByWeightx
import Derived.Test.YticjbfcelocehaaLib2
set_option linter.unusedVariables false
set_option linter.unusedSimpArgs false
namespace Go.Proofs.Yticjbfcelocehaa.PFnExactMostByWeight
open Go.RowKit Go.Proofs.YticjbfcelocehaaW.PrintWords Go.Proofs.YticjbfcelocehaaW.PrintLast Go.Proofs.YticjbfcelocehaaW.PrintMore Go.Proofs.Yticjbfcelocehaa.Lib


theorem spec_l1In.eq (a b c : Int) : spec_l1In.f a b c = some (decide (b ≤ a ∧ a ≤ c)) := by
  unfold spec_l1In.f; by_cases h : b ≤ a <;> simp [h]

theorem spec_l3Ahead.eq (a : Int) : spec_l3Ahead.f a = some (isA a) := by
  unfold spec_l3Ahead.f; rw [spec_l1In.eq]; rfl

theorem spec_l3Ways.ev (q k : Int) (h0 : 0 ≤ k) (h : k ≤ 1000) : Stops (fun n => spec_l3Ways.f n q k) (waysV q k.toNat) := by
  obtain ⟨k, rfl⟩ := Int.eq_ofNat_of_zero_le h0
  rw [Int.toNat_natCast]
  refine Stops.count (g := fun n (s : Int × Int) => spec_l3Ways.l0 n q k s.1 s.2) (fun i => (waysV q i, (i : Int))) k (Stops.now1 fun m => ?_) fun i hi m => ?_
  · simp only [spec_l3Ways.l0]; rw [if_neg (by omega)]
  · have e : wrap64 ((i : Int) + 1) = (i : Int) + 1 := w64 (by omega) (by omega)
    simp only [spec_l3Ways.l0]; rw [if_pos (by omega), e, if_neg (by omega)]; rfl

theorem spec_l3Ball.ev (q k : Int) (h0 : 0 ≤ q) (h1 : q ≤ 100) (h2 : k ≤ 100) : Stops (fun n => spec_l3Ball.f n q k) (ballV q ((mn q k) + 1).toNat) := by
  have hmn : mn q k = if k < q then k else q := rfl
  generalize mn q k = d at hmn
  refine Stops.count' (g := fun n (s : Int × Int) => spec_l3Ball.l0 n q k s.1 s.2) (fun i => (ballV q i, (i : Int))) (d + 1).toNat (Stops.now1 fun m => ?_) fun i hi A => ?_
  · simp only [spec_l3Ball.l0]
    by_cases h : (((d + 1).toNat : Nat) : Int) ≤ k
    · rw [if_pos h, if_neg (by split at hmn <;> omega)]
    · rw [if_neg h]
  · refine Evt.succ (A.and (spec_l3Ways.ev q i (by omega) (by split at hmn <;> omega))) fun m ⟨a, b⟩ => ?_
    have e : wrap64 ((i : Int) + 1) = (i : Int) + 1 := w64 (by omega) (by split at hmn <;> omega)
    simp only [spec_l3Ball.l0]; rw [if_pos (by split at hmn <;> omega), if_pos (by split at hmn <;> omega), show spec_l3Ways.f m q i = _ from b, Option.bind_some, e]; exact a

theorem spec_l1Least.eq (a b : Int) : spec_l1Least.f a b = some (if a < b then a else b) := by
  unfold spec_l1Least.f; split <;> rfl

theorem spec_MostByWeight.ev (q k : Int) : Stops (fun n => spec_MostByWeight.f n q k) (if (isA q && isM k && decide (k ≤ q)) = true then (wrap64 (Int.tdiv (shl .i64 1 q) (ballV q ((mn q k) + 1).toNat)), true) else (0, false)) := by
  by_cases h : (isA q && isM k && decide (k ≤ q)) = true
  · have h' := h
    simp only [Bool.and_eq_true, decide_eq_true_eq] at h'
    have h1 := isA_bd h'.1.1
    have h2 := isM_bd h'.1.2
    have h3 := h'.2
    have h4 : 0 ≤ k ∧ k ≤ if 2 < q then 2 else q := by split <;> omega
    refine (spec_l3Ball.ev q k (by omega) (by omega) (by omega)).same fun m e => ?_
    simp [spec_MostByWeight.f, spec_l3Ahead.eq, spec_l1In.eq, spec_l1Least.eq, e, h'.1.1, h'.1.2, h'.2, h4, h1.1, ballV_ne q k h1.1 h1.2 h2.1 h2.2]
  · refine Evt.true.mono fun m _ => ?_
    simp only [spec_MostByWeight.f, spec_l3Ahead.eq, spec_l1In.eq, spec_l1Least.eq, Option.bind_some, if_neg h]
    cases h1 : isA q
    · simp
    · have h4 : ¬ (0 ≤ k ∧ k ≤ if 2 < q then 2 else q) := by
        rw [h1, Bool.true_and, Bool.and_eq_true, decide_eq_true_eq, isM, decide_eq_true_eq] at h
        intro g; apply h; split at g <;> omega
      simp [h4]

theorem impl_in.eq (a b c : Int) : impl_in.f a b c = some (decide (b ≤ a ∧ a ≤ c)) := by
  unfold impl_in.f; by_cases h : b ≤ a <;> simp [h]

theorem impl_isAhead.eq (a : Int) : impl_isAhead.f a = some (isA a) := by
  unfold impl_isAhead.f; rw [impl_in.eq]; rfl

theorem impl_ways.ev (q k : Int) (h0 : 0 ≤ k) (h : k ≤ 1000) : Stops (fun n => impl_ways.f n q k) (waysV q k.toNat) := by
  obtain ⟨k, rfl⟩ := Int.eq_ofNat_of_zero_le h0
  rw [Int.toNat_natCast]
  refine Stops.count (g := fun n (s : Int × Int) => impl_ways.l0 n q s.1 k s.2) (fun i => (waysV q i, (i : Int))) k (Stops.now1 fun m => ?_) fun i hi m => ?_
  · simp only [impl_ways.l0]; rw [if_neg (by omega)]
  · have e : wrap64 ((i : Int) + 1) = (i : Int) + 1 := w64 (by omega) (by omega)
    simp only [impl_ways.l0]; rw [if_pos (by omega), e, if_neg (by omega)]; rfl

theorem impl_ball.ev (q k : Int) (h0 : 0 ≤ q) (h1 : q ≤ 100) (h2 : k ≤ 100) (h3 : -100 ≤ k) : Stops (fun n => impl_ball.f n q k) (ballV q ((mn q k) + 1).toNat) := by
  have hmn : mn q k = if k < q then k else q := rfl
  have hb : -100 ≤ mn q k ∧ mn q k ≤ 100 := by rw [hmn]; split <;> omega
  have e0 : wrap64 (mn q k + 1) = mn q k + 1 := w64 (by omega) (by omega)
  generalize hd : mn q k = d at *
  have E : Stops (fun n => impl_ball.l0 n q 0 (d + 1) 0) (ballV q (d + 1).toNat) := by
    refine Stops.count' (g := fun n (s : Int × Int) => impl_ball.l0 n q s.1 (d + 1) s.2) (fun i => (ballV q i, (i : Int))) (d + 1).toNat (Stops.now1 fun m => ?_) fun i hi A => ?_
    · simp only [impl_ball.l0]; rw [if_neg (by omega)]
    · refine Evt.succ (A.and (impl_ways.ev q i (by omega) (by omega))) fun m ⟨a, b⟩ => ?_
      have e : wrap64 ((i : Int) + 1) = (i : Int) + 1 := w64 (by omega) (by omega)
      simp only [impl_ball.l0]; rw [if_pos (by omega), show impl_ways.f m q i = _ from b, Option.bind_some, e]; exact a
  refine E.same fun m a => ?_
  simp only [impl_ball.f, hd, e0]; exact a

theorem impl_isMost.eq (a : Int) : impl_isMost.f a = some (isM a) := by
  unfold impl_isMost.f; rw [impl_in.eq]; rfl

theorem impl_MostByWeight.ev (q k : Int) : Stops (fun n => impl_MostByWeight.f n q k) (if (isA q && isM k && decide (k ≤ q)) = true then (wrap64 (Int.tdiv (shl .i64 1 q) (ballV q ((mn q k) + 1).toNat)), true) else (0, false)) := by
  by_cases h : (isA q && isM k && decide (k ≤ q)) = true
  · have h' := h
    simp only [Bool.and_eq_true, decide_eq_true_eq] at h'
    have h1 := isA_bd h'.1.1
    have h2 := isM_bd h'.1.2
    have h3 := h'.2
    refine (impl_ball.ev q k (by omega) (by omega) (by omega) (by omega)).same fun m e => ?_
    simp [impl_MostByWeight.f, impl_isAhead.eq, impl_isMost.eq, e, h'.1.1, h'.1.2, h'.2, show ¬ q < k by omega, h1.1, ballV_ne q k h1.1 h1.2 h2.1 h2.2]
  · refine Evt.true.mono fun m _ => ?_
    simp only [impl_MostByWeight.f, impl_isAhead.eq, impl_isMost.eq, Option.bind_some, if_neg h]
    cases h1 : isA q
    · simp
    · cases h2 : isM k
      · simp
      · have h4 : k > q := by
          rw [h1, h2, Bool.true_and, Bool.true_and, decide_eq_true_eq] at h
          omega
        simp [h4]

theorem law : laws_FnExactMostByWeight.Pure := by
  intro q k _ _
  refine Stops.rounds (r := true) (Evt.mono ((spec_MostByWeight.ev q k).and (impl_MostByWeight.ev q k)) fun m ⟨h1, h2⟩ => ?_)
  simp [laws_FnExactMostByWeight.f, h1, h2]

end Go.Proofs.Yticjbfcelocehaa.PFnExactMostByWeight
