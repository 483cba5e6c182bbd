/- The plain law behind the statement FnExactOtherQuestion: what the Go functions' Lean forms come to. Written for this work; no condition. -/
import Derived.Test.YticjbfcelocehaaPFnExactOtherQuestionx
import Derived.Test.YticjbfcelocehaaLib
set_option linter.unusedVariables false
set_option linter.unusedSimpArgs false
namespace Go.Proofs.Yticjbfcelocehaa.PFnExactOtherQuestion
open Go.RowKit Go.Proofs.YticjbfcelocehaaW.PrintWords Go.Proofs.YticjbfcelocehaaW.PrintLast Go.Proofs.YticjbfcelocehaaW.PrintMore Go.Proofs.Yticjbfcelocehaa.Lib

theorem spec_l1In.eq (a b c : Int) : spec_l1In.f a b c = some (decide (b ≤ a ∧ a ≤ c)) := by
  unfold spec_l1In.f; by_cases h : b ≤ a <;> simp [h]

theorem spec_l2Numbers.eq (a : Int) : spec_l2Numbers.f a = some (isN a) := by
  unfold spec_l2Numbers.f; rw [spec_l1In.eq]; rfl

theorem spec_l2Asks.eq (n q : Int) : spec_l2Asks.f n q = some (isQ n q) := by
  unfold spec_l2Asks.f isQ; rw [spec_l2Numbers.eq, spec_l1In.eq]
  cases h : isN n
  · simp
  · have := isN_bd h
    simp [show 0 ≤ n by omega]

theorem spec_OtherQuestion.eq (n q : Int) : spec_OtherQuestion.f n q = some (if isQ n q = true then (wrap64 (wrap64 (shl .i64 1 n - 1) - q), true) else (0, false)) := by
  unfold spec_OtherQuestion.f; rw [spec_l2Asks.eq]
  cases h : isQ n q
  · simp
  · have := isQ_bd h
    simp [show 0 ≤ n by omega]

theorem impl_in.eq (a b c : Int) : impl_in.f a b c = some (decide (b ≤ a ∧ a ≤ c)) := by
  unfold impl_in.f; by_cases h : b ≤ a <;> simp [h]

theorem impl_isCount.eq (a : Int) : impl_isCount.f a = some (isN a) := by
  unfold impl_isCount.f; rw [impl_in.eq]; rfl

theorem impl_isQuestion.eq (n q : Int) : impl_isQuestion.f n q = some (isQ n q) := by
  unfold impl_isQuestion.f isQ; rw [impl_isCount.eq, impl_in.eq]
  cases h : isN n
  · simp
  · have := isN_bd h
    simp [show 0 ≤ n by omega]

theorem impl_other.eq (n q : Int) (h : 0 ≤ n) : impl_other.f n q = some (wrap64 (wrap64 (shl .i64 1 n - 1) - q)) := by
  unfold impl_other.f; rw [if_pos h]

theorem impl_OtherQuestion.eq (n q : Int) : impl_OtherQuestion.f n q = some (if isQ n q = true then (wrap64 (wrap64 (shl .i64 1 n - 1) - q), true) else (0, false)) := by
  unfold impl_OtherQuestion.f; rw [impl_isQuestion.eq]
  cases h : isQ n q
  · simp
  · have := isQ_bd h
    simp [impl_other.eq n q (by omega)]

theorem law : laws_FnExactOtherQuestion.Pure := by
  intro a b _ _
  unfold laws_FnExactOtherQuestion.f
  simp [spec_OtherQuestion.eq, impl_OtherQuestion.eq]

end Go.Proofs.Yticjbfcelocehaa.PFnExactOtherQuestion
