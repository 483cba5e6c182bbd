/- The plain law behind the statement FnExactAreCounts: what the Go functions' Lean forms come to. Written for this work; no condition. -/
import Derived.Test.YticjbfcelocehaaPFnExactAreCountsx
import Derived.Test.YticjbfcelocehaaLib2
set_option linter.unusedVariables false
set_option linter.unusedSimpArgs false
namespace Go.Proofs.Yticjbfcelocehaa.PFnExactAreCounts
open Go.RowKit Go.Proofs.YticjbfcelocehaaW.PrintWords Go.Proofs.YticjbfcelocehaaW.PrintLast Go.Proofs.YticjbfcelocehaaW.PrintMore Go.Proofs.Yticjbfcelocehaa.Lib


theorem laws_toIntS.ev (l : List Int) (h : l.length ≤ 35184372088832) : Stops (fun k => laws_toIntS.f k l) l := by
  have E : Stops (fun k => laws_toIntS.l0 k l (List.replicate l.length 0) 0) l := by
    refine Stops.count (g := fun k (s : List Int × Int) => laws_toIntS.l0 k l s.1 s.2) (fun i => (l.take i ++ List.replicate (l.length - i) 0, (i : Int))) l.length (Stops.now1 fun m => ?_) fun i hi m => ?_
    · simp only [laws_toIntS.l0]; rw [if_neg (by omega)]; simp
    · have e : wrap64 ((i : Int) + 1) = (i : Int) + 1 := w64 (by omega) (by omega)
      have hl : ((l.take i ++ List.replicate (l.length - i) (0 : Int)).length : Int) = l.length := by simp; omega
      simp only [laws_toIntS.l0]; rw [if_pos (by omega), if_pos (by omega), hl, if_pos (by omega), e, rd_at l i hi, Int.toNat_natCast, set_fill l i hi]; rfl
  refine E.same fun m a => ?_
  simp only [laws_toIntS.f, Int.toNat_natCast]; rw [if_pos (by omega), if_pos h]; exact a

theorem laws_eqIntS.ev (l : List Int) (h : l.length ≤ 35184372088832) : Stops (fun k => laws_eqIntS.f k l l) true := by
  have E : Stops (fun k => laws_eqIntS.l0 k l l 0) true := by
    refine Stops.count (g := fun k (s : Int) => laws_eqIntS.l0 k l l s) (fun i => (i : Int)) l.length (Stops.now1 fun m => ?_) fun i hi m => ?_
    · simp only [laws_eqIntS.l0]; rw [if_neg (by omega)]
    · have e : wrap64 ((i : Int) + 1) = (i : Int) + 1 := w64 (by omega) (by omega)
      rw [laws_eqIntS.l0, if_pos (by omega), if_pos (by omega), if_pos (by omega), if_pos rfl, e]; rfl
  refine E.same fun m a => ?_
  simp only [laws_eqIntS.f, if_true]; exact a

theorem spec_l1In.eq (a b c : Int) : spec_l1In.f a b c = some (decide (b ≤ a ∧ a ≤ c)) := by
  unfold spec_l1In.f; by_cases h : b ≤ a <;> simp [h]

def areV : List Int → Int → Bool
  | [], s => decide (s ≤ 8)
  | x :: t, s => if decide (0 ≤ x ∧ x ≤ 8) = true then areV t (wrap64 (s + x)) else false
theorem areV_eq (l : List Int) : ∀ s, areV l s = (!(l.any fun x => !decide (0 ≤ x ∧ x ≤ 8)) && decide (sumI l s ≤ 8)) := by
  induction l with
  | nil => intro s; rfl
  | cons x t ih =>
    intro s
    rw [areV, ih, List.any_cons, sumI]
    cases decide (0 ≤ x ∧ x ≤ 8) <;> simp
theorem spec_l4Counts.ev (l : List Int) (h : l.length ≤ 35184372088832) : Stops (fun k => spec_l4Counts.f k l) (areC l) := by
  have hd : decide (1 ≤ (l.length : Int) ∧ (l.length : Int) ≤ 3) = decide (1 ≤ l.length ∧ l.length ≤ 3) := by simp only [decide_eq_decide]; omega
  have E := Stops.over0 l (fun k (i : Nat) (s : Int) => spec_l4Counts.l0 k l s (i : Int)) (fun t s => areV t s) 0 (fun s => Stops.now1 fun m => by simp only [spec_l4Counts.l0]; rw [if_neg (by omega)]; rfl) fun i hi s A => by
    have ew : wrap64 ((i : Int) + 1) = ((i + 1 : Nat) : Int) := w64 (by omega) (by omega)
    cases hp : decide (0 ≤ l[i] ∧ l[i] ≤ 8)
    · refine Stops.now1 fun m => ?_
      simp only [spec_l4Counts.l0, rd_at l i hi, spec_l1In.eq, hp, Option.bind_some, areV]
      rw [if_pos (by omega), if_pos (by omega), if_neg (by simp), if_neg (by simp)]
    · refine (A (wrap64 (s + l[i]))).round fun m a => ?_
      simp only [spec_l4Counts.l0, rd_at l i hi, spec_l1In.eq, hp, Option.bind_some, areV, ew]
      rw [if_pos (by omega), if_pos (by omega)]
      simpa using a
  unfold areC
  cases hn : decide (1 ≤ l.length ∧ l.length ≤ 3)
  · refine Evt.true.mono fun m _ => ?_
    simp only [spec_l4Counts.f, spec_l1In.eq, hd, hn, Option.bind_some]
    simp
  · refine E.same fun m e => ?_
    simp only [spec_l4Counts.f, spec_l1In.eq, hd, hn, Option.bind_some]
    rw [if_pos (by trivial), Bool.true_and, ← areV_eq]
    exact e

theorem spec_AreCounts.ev (l : List Int) (h : l.length ≤ 35184372088832) : Stops (fun k => spec_AreCounts.f k l) (areC l) := (spec_l4Counts.ev l h).same fun m e => by simp only [spec_AreCounts.f, e, Option.bind_some]

theorem law : laws_FnExactAreCounts.Pure := by
  intro l
  intros
  by_cases hb : (l.length : Int) > 1048576
  · exact ⟨0, by simp [laws_FnExactAreCounts.f, hb]⟩
  have S := spec_AreCounts.ev l (by omega)
  have I := Stops.const (o := impl_AreCounts.f l) (r := areC l) rfl
  generalize (areC l) = v at *
  obtain ⟨m, h⟩ := (((S).and ((I).and ((laws_toIntS.ev l (by omega)).and (laws_eqIntS.ev l (by omega)).evt)))).shift
  have h0 := fun j => (h j).1
  have h1 := fun j => (h j).2.1
  have h2 := fun j => (h j).2.2.1
  have h3 := fun j => (h j).2.2.2
  refine ⟨m + 7, ?_⟩
  simp [laws_FnExactAreCounts.f, h0, h1, h2, h3, hb, h1 0]

end Go.Proofs.Yticjbfcelocehaa.PFnExactAreCounts
