/- The plain law behind the statement FnExactLessQuestion: what the Go functions' Lean forms come to. Written for this work; no condition. -/
import Derived.Test.YticjbfcelocehaaPFnExactLessQuestionx
import Derived.Test.YticjbfcelocehaaLib
set_option linter.unusedVariables false
set_option linter.unusedSimpArgs false
namespace Go.Proofs.Yticjbfcelocehaa.PFnExactLessQuestion
open Go.RowKit Go.Proofs.YticjbfcelocehaaW.PrintWords Go.Proofs.YticjbfcelocehaaW.PrintLast Go.Proofs.YticjbfcelocehaaW.PrintMore Go.Proofs.Yticjbfcelocehaa.Lib

theorem spec_l1In.eq (a b c : Int) : spec_l1In.f a b c = some (decide (b ≤ a ∧ a ≤ c)) := by
  unfold spec_l1In.f; by_cases h : b ≤ a <;> simp [h]

theorem spec_l2Numbers.eq (a : Int) : spec_l2Numbers.f a = some (isN a) := by
  unfold spec_l2Numbers.f; rw [spec_l1In.eq]; rfl

theorem spec_l6Compare.eq (n k : Int) : spec_l6Compare.f n k = some (isN n && decide (1 ≤ k ∧ k ≤ wrap64 (n - 1))) := by
  unfold spec_l6Compare.f; rw [spec_l2Numbers.eq, spec_l1In.eq]; cases isN n <;> simp

theorem spec_LessQuestion.eq (n k : Int) : spec_LessQuestion.f n k = some (if (isN n && decide (1 ≤ k ∧ k ≤ wrap64 (n - 1))) = true then (wrap64 (shl .i64 1 k - 1), true) else (0, false)) := by
  unfold spec_LessQuestion.f; rw [spec_l6Compare.eq]
  cases h : (isN n && decide (1 ≤ k ∧ k ≤ wrap64 (n - 1)))
  · simp
  · simp at h
    simp [show 0 ≤ k by omega]

theorem impl_in.eq (a b c : Int) : impl_in.f a b c = some (decide (b ≤ a ∧ a ≤ c)) := by
  unfold impl_in.f; by_cases h : b ≤ a <;> simp [h]

theorem impl_isCount.eq (a : Int) : impl_isCount.f a = some (isN a) := by
  unfold impl_isCount.f; rw [impl_in.eq]; rfl

theorem impl_isLess.eq (n k : Int) : impl_isLess.f n k = some (isN n && decide (1 ≤ k ∧ k ≤ wrap64 (n - 1))) := by
  unfold impl_isLess.f; rw [impl_isCount.eq, impl_in.eq]; cases isN n <;> simp

theorem impl_less.eq (k : Int) (h : 0 ≤ k) : impl_less.f k = some (wrap64 (shl .i64 1 k - 1)) := by
  unfold impl_less.f; rw [if_pos h]

theorem impl_LessQuestion.eq (n k : Int) : impl_LessQuestion.f n k = some (if (isN n && decide (1 ≤ k ∧ k ≤ wrap64 (n - 1))) = true then (wrap64 (shl .i64 1 k - 1), true) else (0, false)) := by
  unfold impl_LessQuestion.f; rw [impl_isLess.eq]
  cases h : (isN n && decide (1 ≤ k ∧ k ≤ wrap64 (n - 1)))
  · simp
  · simp at h
    simp [impl_less.eq k (by omega)]

theorem law : laws_FnExactLessQuestion.Pure := by
  intro a b _ _
  unfold laws_FnExactLessQuestion.f
  simp [spec_LessQuestion.eq, impl_LessQuestion.eq]

end Go.Proofs.Yticjbfcelocehaa.PFnExactLessQuestion
