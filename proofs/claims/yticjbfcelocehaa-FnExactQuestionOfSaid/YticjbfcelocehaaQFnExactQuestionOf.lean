/- The plain law behind the statement FnExactQuestionOf: what the Go functions' Lean forms come to. Written for this work; no condition. -/
import Derived.Test.YticjbfcelocehaaPFnExactQuestionOfx
import Derived.Test.YticjbfcelocehaaLib2
set_option linter.unusedVariables false
set_option linter.unusedSimpArgs false
namespace Go.Proofs.Yticjbfcelocehaa.PFnExactQuestionOf
open Go.RowKit Go.Proofs.YticjbfcelocehaaW.PrintWords Go.Proofs.YticjbfcelocehaaW.PrintLast Go.Proofs.YticjbfcelocehaaW.PrintMore Go.Proofs.Yticjbfcelocehaa.Lib


theorem laws_toIntS.ev (l : List Int) (h : l.length ≤ 35184372088832) : Stops (fun k => laws_toIntS.f k l) l := by
  have E : Stops (fun k => laws_toIntS.l0 k l (List.replicate l.length 0) 0) l := by
    refine Stops.count (g := fun k (s : List Int × Int) => laws_toIntS.l0 k l s.1 s.2) (fun i => (l.take i ++ List.replicate (l.length - i) 0, (i : Int))) l.length (Stops.now1 fun m => ?_) fun i hi m => ?_
    · simp only [laws_toIntS.l0]; rw [if_neg (by omega)]; simp
    · have e : wrap64 ((i : Int) + 1) = (i : Int) + 1 := w64 (by omega) (by omega)
      have hl : ((l.take i ++ List.replicate (l.length - i) (0 : Int)).length : Int) = l.length := by simp; omega
      simp only [laws_toIntS.l0]; rw [if_pos (by omega), if_pos (by omega), hl, if_pos (by omega), e, rd_at l i hi, Int.toNat_natCast, set_fill l i hi]; rfl
  refine E.same fun m a => ?_
  simp only [laws_toIntS.f, Int.toNat_natCast]; rw [if_pos (by omega), if_pos h]; exact a

theorem laws_eqIntS.ev (l : List Int) (h : l.length ≤ 35184372088832) : Stops (fun k => laws_eqIntS.f k l l) true := by
  have E : Stops (fun k => laws_eqIntS.l0 k l l 0) true := by
    refine Stops.count (g := fun k (s : Int) => laws_eqIntS.l0 k l l s) (fun i => (i : Int)) l.length (Stops.now1 fun m => ?_) fun i hi m => ?_
    · simp only [laws_eqIntS.l0]; rw [if_neg (by omega)]
    · have e : wrap64 ((i : Int) + 1) = (i : Int) + 1 := w64 (by omega) (by omega)
      rw [laws_eqIntS.l0, if_pos (by omega), if_pos (by omega), if_pos (by omega), if_pos rfl, e]; rfl
  refine E.same fun m a => ?_
  simp only [laws_eqIntS.f, if_true]; exact a

theorem spec_l1In.eq (a b c : Int) : spec_l1In.f a b c = some (decide (b ≤ a ∧ a ≤ c)) := by
  unfold spec_l1In.f; by_cases h : b ≤ a <;> simp [h]

theorem spec_l2Numbers.eq (a : Int) : spec_l2Numbers.f a = some (isN a) := by
  unfold spec_l2Numbers.f; rw [spec_l1In.eq]; rfl

theorem spec_QuestionOf.ev (n : Int) (l : List Int) (hl : l.length ≤ 35184372088832) : Stops (fun k => spec_QuestionOf.f k n l) (if isN n = true ∧ l.length ≤ 24 then qOf n l 0 else (0, false)) := by
  by_cases hn : isN n = true
  · by_cases h2 : l.length ≤ 24
    · have E : Stops (fun k => spec_QuestionOf.l0 k n l 0 0) (qOf n l 0) := by
        refine Stops.over0 l (fun k (i : Nat) (s : Int) => spec_QuestionOf.l0 k n l s (i : Int)) (fun t s => qOf n t s) 0 (fun s => Stops.now1 fun m => ?_) fun i hi s A => ?_
        · simp only [spec_QuestionOf.l0]; rw [if_neg (by omega)]; rfl
        · have e : wrap64 ((i : Int) + 1) = ((i + 1 : Nat) : Int) := w64 (by omega) (by omega)
          by_cases hx : 0 ≤ l[i] ∧ l[i] ≤ wrap64 (n - 1)
          · refine (A (Go.bits .or .i64 s (shl .i64 1 l[i]))).round fun m a => ?_
            simp only [spec_QuestionOf.l0, rd_at l i hi, spec_l1In.eq, Option.bind_some, qOf]
            simpa [hi, hx, e] using a
          · refine Stops.now1 fun m => ?_
            simp only [spec_QuestionOf.l0, rd_at l i hi, spec_l1In.eq, Option.bind_some, qOf]
            simp [hi, hx]
      refine Evt.succ E fun m e => ?_
      rw [if_pos ⟨hn, h2⟩]
      simp only [spec_QuestionOf.f, spec_l2Numbers.eq, hn, Option.bind_some, spec_QuestionOf.j0, if_true]
      rw [if_neg (by simp; omega)]
      exact e
    · refine Stops.now1 fun m => ?_
      rw [if_neg (fun g => h2 g.2)]
      simp only [spec_QuestionOf.f, spec_l2Numbers.eq, hn, Option.bind_some, spec_QuestionOf.j0, if_true]
      rw [if_pos (by simp; omega)]
  · refine Stops.now1 fun m => ?_
    rw [if_neg (fun g => hn g.1)]
    simp [spec_QuestionOf.f, spec_l2Numbers.eq, hn, spec_QuestionOf.j0]

theorem impl_in.eq (a b c : Int) : impl_in.f a b c = some (decide (b ≤ a ∧ a ≤ c)) := by
  unfold impl_in.f; by_cases h : b ≤ a <;> simp [h]

theorem impl_isCount.eq (a : Int) : impl_isCount.f a = some (isN a) := by
  unfold impl_isCount.f; rw [impl_in.eq]; rfl

theorem impl_isNumber.eq (n k : Int) : impl_isNumber.f n k = some (isN n && decide (0 ≤ k ∧ k ≤ wrap64 (n - 1))) := by
  unfold impl_isNumber.f; rw [impl_isCount.eq, impl_in.eq]; cases isN n <;> simp

theorem impl_QuestionOf.ev (n : Int) (l : List Int) (hl : l.length ≤ 35184372088832) : Stops (fun k => impl_QuestionOf.f k n l) (if isN n = true ∧ l.length ≤ 24 then qOf n l 0 else (0, false)) := by
  by_cases hn : isN n = true
  · by_cases h2 : l.length ≤ 24
    · have E : Stops (fun k => impl_QuestionOf.l0 k n 0 l (l.length : Int) 0) (qOf n l 0) := by
        refine Stops.over0 l (fun k (i : Nat) (s : Int) => impl_QuestionOf.l0 k n s l (l.length : Int) (i : Int)) (fun t s => qOf n t s) 0 (fun s => Stops.now1 fun m => ?_) fun i hi s A => ?_
        · simp only [impl_QuestionOf.l0]; rw [if_neg (by omega)]; rfl
        · have e : wrap64 ((i : Int) + 1) = ((i + 1 : Nat) : Int) := w64 (by omega) (by omega)
          by_cases hx : 0 ≤ l[i] ∧ l[i] ≤ wrap64 (n - 1)
          · refine (A (Go.bits .or .i64 s (shl .i64 1 l[i]))).round fun m a => ?_
            simp only [impl_QuestionOf.l0, rd_at l i hi, impl_isNumber.eq, hn, Bool.true_and, Option.bind_some, qOf]
            simpa [hi, hx, e] using a
          · refine Stops.now1 fun m => ?_
            simp only [impl_QuestionOf.l0, rd_at l i hi, impl_isNumber.eq, hn, Bool.true_and, Option.bind_some, qOf]
            simp [hi, hx]
      refine Evt.succ E fun m e => ?_
      rw [if_pos ⟨hn, h2⟩]
      simp only [impl_QuestionOf.f, impl_isCount.eq, hn, Option.bind_some, impl_QuestionOf.j0, if_true]
      rw [if_neg (by simp; omega)]
      exact e
    · refine Stops.now1 fun m => ?_
      rw [if_neg (fun g => h2 g.2)]
      simp only [impl_QuestionOf.f, impl_isCount.eq, hn, Option.bind_some, impl_QuestionOf.j0, if_true]
      rw [if_pos (by simp; omega)]
  · refine Stops.now1 fun m => ?_
    rw [if_neg (fun g => hn g.1)]
    simp [impl_QuestionOf.f, impl_isCount.eq, hn, impl_QuestionOf.j0]

theorem law : laws_FnExactQuestionOf.Pure := by
  intro n l
  intros
  by_cases hb : (l.length : Int) > 1048576
  · exact ⟨0, by simp [laws_FnExactQuestionOf.f, hb]⟩
  have hl : l.length ≤ 35184372088832 := by omega
  obtain ⟨m, h⟩ := ((laws_toIntS.ev l hl).and ((spec_QuestionOf.ev n l hl).and ((impl_QuestionOf.ev n l hl).and (laws_eqIntS.ev l hl).evt))).shift
  have ht := fun j => (h j).1
  have hs := fun j => (h j).2.1
  have hi := fun j => (h j).2.2.1
  have he := fun j => (h j).2.2.2
  refine ⟨m + 3, ?_⟩
  simp [laws_FnExactQuestionOf.f, hb, laws_FnExactQuestionOf.j0, ht, hs, hi, he]

end Go.Proofs.Yticjbfcelocehaa.PFnExactQuestionOf
