/- The plain law behind the statement FnExactTrueWord: what the Go functions' Lean forms come to. Written for this work; no condition. -/
import Derived.Test.YtmmldpmchhchoaaPFnExactTrueWordx
import Derived.Test.YtmmldpmchhchoaaLib2
set_option linter.unusedVariables false
set_option linter.unusedSimpArgs false
namespace Go.Proofs.Ytmmldpmchhchoaa.PFnExactTrueWord
open Go.RowKit Go.Proofs.YtmmldpmchhchoaaW.PrintWords Go.Proofs.YtmmldpmchhchoaaW.PrintLast Go.Proofs.YtmmldpmchhchoaaW.PrintMore Go.Proofs.Ytmmldpmchhchoaa.Lib

theorem spec_l1In.eq (a b c : Int) : spec_l1In.f a b c = some (decide (b ≤ a ∧ a ≤ c)) := by
  unfold spec_l1In.f; by_cases h : b ≤ a <;> simp [h]

theorem spec_l2Numbers.eq (a : Int) : spec_l2Numbers.f a = some (isN a) := by
  unfold spec_l2Numbers.f; rw [spec_l1In.eq]; rfl

theorem spec_l2Asks.eq (n q : Int) : spec_l2Asks.f n q = some (isQ n q) := by
  unfold spec_l2Asks.f isQ; rw [spec_l2Numbers.eq, spec_l1In.eq]
  cases h : isN n
  · simp
  · have := isN_bd h
    simp [show 0 ≤ n by omega]

theorem spec_l5Scheme.ev (n : Int) (l : List Int) (h : l.length ≤ 35184372088832) : Stops (fun k => spec_l5Scheme.f k n l) (isSch n l) := by
  have e : isSch n l = chkV (fun x => isQ n x) (isN n && decide (l.length ≤ 14)) 14 l 0 := by
    rw [chkV_eq _ _ _ _ _ (fun g => by rw [Bool.and_eq_true, decide_eq_true_eq] at g; omega)]
    simp [isSch, List.all_eq_not_any_not]
  have hd : decide ((l.length : Int) ≤ 14) = decide (l.length ≤ 14) := by simp only [decide_eq_decide]; omega
  rw [e]
  have E := Stops.over0 l (fun k (i : Nat) (s : Unit) => spec_l5Scheme.l0 k n l (i : Int)) (fun t s => chkV (fun x => isQ n x) (isN n && decide (l.length ≤ 14)) 14 t (l.length - t.length)) () ?_ ?_
  · rw [Nat.sub_self] at E; exact E
  · intro s
    refine ⟨2, fun q hq => ?_⟩
    obtain ⟨k, rfl⟩ : ∃ k, q = k + 2 := ⟨q - 2, by omega⟩
    simp only [spec_l5Scheme.l0, spec_l5Scheme.j1, spec_l2Numbers.eq]; rw [if_neg (by omega), if_neg (by simp), hd]
    cases isN n <;> rfl
  · intro i hi s A
    have ew : wrap64 ((i : Int) + 1) = ((i + 1 : Nat) : Int) := w64 (by omega) (by omega)
    have ed : l.length - (l[i] :: l.drop (i + 1)).length = i := by simp; omega
    have ed2 : l.length - (l.drop (i + 1)).length = i + 1 := by simp; omega
    have A := A ()
    simp only [ed, ed2] at A ⊢
    by_cases hc : i ≤ 14
    · cases hp : isQ n l[i]
      · refine ⟨2, fun q hq => ?_⟩
        obtain ⟨k, rfl⟩ : ∃ k, q = k + 2 := ⟨q - 2, by omega⟩
        simp only [spec_l5Scheme.l0, spec_l5Scheme.j1, rd_at l i hi, spec_l2Asks.eq]
        rw [if_pos (by omega), decide_eq_true (show (i : Int) ≤ 14 by omega), if_pos (by trivial), if_pos (by omega), if_pos (by omega), hp, Option.bind_some]; simp [chkV, hc, hp]
      · have A1 : Stops (fun k => spec_l5Scheme.j1 k n l (i : Int) true) (chkV (fun x => isQ n x) (isN n && decide (l.length ≤ 14)) 14 (l[i] :: l.drop (i + 1)) i) := A.round fun k a => by
          simp only [spec_l5Scheme.j1, rd_at l i hi, spec_l2Asks.eq]
          rw [if_pos trivial, if_pos (by omega), if_pos (by omega), hp, Option.bind_some, if_pos (by trivial), ew, chkV, if_pos hc, if_pos hp]; exact a
        exact A1.round fun k a => by
          simp only [spec_l5Scheme.l0]; rw [if_pos (by omega), decide_eq_true (by omega)]; exact a
    · refine ⟨2, fun q hq => ?_⟩
      obtain ⟨k, rfl⟩ : ∃ k, q = k + 2 := ⟨q - 2, by omega⟩
      simp only [spec_l5Scheme.l0, spec_l5Scheme.j1, spec_l2Numbers.eq]
      rw [if_pos (by omega), decide_eq_false (show ¬ (i : Int) ≤ 14 by omega), chkV, if_neg hc, if_neg (by simp), hd]
      cases isN n <;> rfl

theorem spec_l5True.ev (l : List Int) (k : Int) (h0 : 0 ≤ k) (hl : l.length ≤ 35184372088832) : Stops (fun n => spec_l5True.f n l k) (twV l k l.length) := by
  refine Stops.count (g := fun n (s : Int × Int) => spec_l5True.l0 n l k s.1 s.2) (fun i => (twV l k i, (i : Int))) l.length (Stops.now1 fun m => ?_) fun i hi m => ?_
  · simp only [spec_l5True.l0]; rw [if_neg (by omega)]
  · have e : wrap64 ((i : Int) + 1) = (i : Int) + 1 := w64 (by omega) (by omega)
    simp only [spec_l5True.l0]; rw [if_pos (by omega), if_pos (by omega), if_pos (by omega), rd_nat, twV_step, e]; rfl

theorem spec_TrueWord.ev (n : Int) (l : List Int) (k : Int) (hl : l.length ≤ 35184372088832) : Stops (fun q => spec_TrueWord.f q n l k) (if (isSch n l && decide (0 ≤ k ∧ k ≤ wrap64 (n - 1))) = true then (twV l k l.length, true) else (0, false)) := by
  by_cases hk : 0 ≤ k ∧ k ≤ wrap64 (n - 1)
  · refine Evt.mono ((spec_l5Scheme.ev n l hl).and (spec_l5True.ev l k hk.1 hl).evt) fun m ⟨a, b⟩ => ?_
    simp only [spec_TrueWord.f, a, b, spec_l1In.eq, Option.bind_some, decide_eq_true hk]
    cases isSch n l <;> simp
  · refine (spec_l5Scheme.ev n l hl).same fun m a => ?_
    simp only [spec_TrueWord.f, a, spec_l1In.eq, Option.bind_some, decide_eq_false hk]
    cases isSch n l <;> simp

theorem laws_toIntS.ev (l : List Int) (h : l.length ≤ 35184372088832) : Stops (fun k => laws_toIntS.f k l) l := by
  have E : Stops (fun k => laws_toIntS.l0 k l (List.replicate l.length 0) 0) l := by
    refine Stops.count (g := fun k (s : List Int × Int) => laws_toIntS.l0 k l s.1 s.2) (fun i => (l.take i ++ List.replicate (l.length - i) 0, (i : Int))) l.length (Stops.now1 fun m => ?_) fun i hi m => ?_
    · simp only [laws_toIntS.l0]; rw [if_neg (by omega)]; simp
    · have e : wrap64 ((i : Int) + 1) = (i : Int) + 1 := w64 (by omega) (by omega)
      have hl : ((l.take i ++ List.replicate (l.length - i) (0 : Int)).length : Int) = l.length := by simp; omega
      simp only [laws_toIntS.l0]; rw [if_pos (by omega), if_pos (by omega), hl, if_pos (by omega), e, rd_at l i hi, Int.toNat_natCast, set_fill l i hi]; rfl
  refine E.same fun m a => ?_
  simp only [laws_toIntS.f, Int.toNat_natCast]; rw [if_pos (by omega), if_pos h]; exact a

theorem impl_isNumber.eq (n k : Int) : impl_isNumber.f n k = some (isN n && decide (0 ≤ k ∧ k ≤ wrap64 (n - 1))) := by
  unfold impl_isNumber.f; rw [impl_isCount.eq, impl_in.eq]; cases isN n <;> simp

theorem impl_has.eq (q k : Int) (h : 0 ≤ k) : impl_has.f q k = some (hasB q k) := by
  unfold impl_has.f; rw [if_pos h]; rfl

theorem impl_trueWord.ev (l : List Int) (k : Int) (h0 : 0 ≤ k) (hl : l.length ≤ 35184372088832) : Stops (fun n => impl_trueWord.f n l k) (twV l k l.length) := by
  refine Stops.count (g := fun n (s : Int × Int) => impl_trueWord.l0 n k s.1 l l.length s.2) (fun i => (twV l k i, (i : Int))) l.length (Stops.now1 fun m => ?_) fun i hi m => ?_
  · simp only [impl_trueWord.l0]; rw [if_neg (by omega)]
  · have e : wrap64 ((i : Int) + 1) = (i : Int) + 1 := w64 (by omega) (by omega)
    simp only [impl_trueWord.l0]; rw [if_pos (by omega), if_pos (by omega), if_pos (by omega), rd_nat, impl_has.eq _ _ h0, Option.bind_some, e, twV]
    by_cases hb : hasB (l.getD i 0) k = true
    · rw [if_pos hb, if_pos hb]; rfl
    · rw [if_neg hb, if_neg hb]; rfl

theorem impl_TrueWord.ev (n : Int) (l : List Int) (k : Int) (hl : l.length ≤ 35184372088832) : Stops (fun q => impl_TrueWord.f q n l k) (if (isSch n l && decide (0 ≤ k ∧ k ≤ wrap64 (n - 1))) = true then (twV l k l.length, true) else (0, false)) := by
  have hs : isSch n l = true → isN n = true := by unfold isSch; simp only [Bool.and_eq_true]; exact fun h => h.1.1
  by_cases hk : 0 ≤ k ∧ k ≤ wrap64 (n - 1)
  · refine (impl_trueWord.ev l k hk.1 hl).same fun m b => ?_
    simp only [impl_TrueWord.f, b, impl_IsScheme.f, impl_isNumber.eq, Option.bind_some, decide_eq_true hk]
    cases h : isSch n l
    · simp
    · simp [hs h]
  · refine Evt.true.mono fun m _ => ?_
    simp only [impl_TrueWord.f, impl_IsScheme.f, impl_isNumber.eq, Option.bind_some, decide_eq_false hk]
    cases isSch n l <;> simp

theorem laws_eqIntS.ev (l : List Int) (h : l.length ≤ 35184372088832) : Stops (fun k => laws_eqIntS.f k l l) true := by
  have E : Stops (fun k => laws_eqIntS.l0 k l l 0) true := by
    refine Stops.count (g := fun k (s : Int) => laws_eqIntS.l0 k l l s) (fun i => (i : Int)) l.length (Stops.now1 fun m => ?_) fun i hi m => ?_
    · simp only [laws_eqIntS.l0]; rw [if_neg (by omega)]
    · have e : wrap64 ((i : Int) + 1) = (i : Int) + 1 := w64 (by omega) (by omega)
      rw [laws_eqIntS.l0, if_pos (by omega), if_pos (by omega), if_pos (by omega), if_pos rfl, e]; rfl
  refine E.same fun m a => ?_
  simp only [laws_eqIntS.f, if_true]; exact a

theorem law : laws_FnExactTrueWord.Pure := by
  intro n l k0
  intros
  by_cases hb : (l.length : Int) > 1048576
  · exact ⟨0, by simp [laws_FnExactTrueWord.f, hb]⟩
  have S := spec_TrueWord.ev n l k0 (by omega)
  have I := impl_TrueWord.ev n l k0 (by omega)
  generalize (if (isSch n l && decide (0 ≤ k0 ∧ k0 ≤ wrap64 (n - 1))) = true then (twV l k0 l.length, true) else (0, false)) = v at *
  obtain ⟨m, h⟩ := (((S).and ((I).and ((laws_toIntS.ev l (by omega)).and (laws_eqIntS.ev l (by omega)).evt)))).shift
  have h0 := fun j => (h j).1
  have h1 := fun j => (h j).2.1
  have h2 := fun j => (h j).2.2.1
  have h3 := fun j => (h j).2.2.2
  refine ⟨m + 7, ?_⟩
  simp [laws_FnExactTrueWord.f, laws_FnExactTrueWord.j0, h0, h1, h2, h3, hb]

end Go.Proofs.Ytmmldpmchhchoaa.PFnExactTrueWord
