/- The plain law behind the statement FnExactVainQuestion: what the Go functions' Lean forms come to. Written for this work; no condition. -/
import Derived.Test.YtamoldckpoengaaPFnExactVainQuestionx
import Derived.Test.YtamoldckpoengaaLib2
set_option linter.unusedVariables false
set_option linter.unusedSimpArgs false
namespace Go.Proofs.Ytamoldckpoengaa.PFnExactVainQuestion
open Go.RowKit Go.Proofs.YtamoldckpoengaaW.PrintWords Go.Proofs.YtamoldckpoengaaW.PrintLast Go.Proofs.YtamoldckpoengaaW.PrintMore Go.Proofs.Ytamoldckpoengaa.Lib

theorem laws_szIntS.eq (l : List Int) (a : Int) (h : l.length ≤ maxLen) (h0 : 0 ≤ a) (h1 : a ≤ 1048576) : laws_szIntS.f l a = some (if a < (l.length : Int) then -1 else a - (l.length : Int)) := by
  unfold maxLen at h
  unfold laws_szIntS.f; rw [w64 (by omega) (by omega)]
  by_cases hb : a < l.length
  · rw [if_pos (by omega), if_pos hb]
  · rw [if_neg (by omega), if_neg hb]

theorem laws_szState.big (l : List Int) (m : Int) (h : l.length ≤ maxLen) (hb : 1048576 < l.length) : laws_szState.f l m 1048576 = some (-1) := by
  unfold laws_szState.f; rw [laws_szIntS.eq l _ h (by omega) (by omega), if_pos (by omega)]; rfl
theorem laws_szState.small (l : List Int) (m : Int) (h : l.length ≤ maxLen) (hb : ¬ 1048576 < l.length) : laws_szState.f l m 1048576 = some (1048576 - (l.length : Int)) := by
  unfold laws_szState.f; rw [laws_szIntS.eq l _ h (by omega) (by omega), if_neg (by omega), Option.bind_some, if_neg (by omega)]

theorem laws_toIntS.ev (l : List Int) (h : l.length ≤ 35184372088832) : Stops (fun k => laws_toIntS.f k l) l := by
  have E : Stops (fun k => laws_toIntS.l0 k l (List.replicate l.length 0) 0) l := by
    refine Stops.count (g := fun k (s : List Int × Int) => laws_toIntS.l0 k l s.1 s.2) (fun i => (l.take i ++ List.replicate (l.length - i) 0, (i : Int))) l.length (Stops.now1 fun m => ?_) fun i hi m => ?_
    · simp only [laws_toIntS.l0]; rw [if_neg (by omega)]; simp
    · have e : wrap64 ((i : Int) + 1) = (i : Int) + 1 := w64 (by omega) (by omega)
      have hl : ((l.take i ++ List.replicate (l.length - i) (0 : Int)).length : Int) = l.length := by simp; omega
      simp only [laws_toIntS.l0]; rw [if_pos (by omega), if_pos (by omega), hl, if_pos (by omega), e, rd_at l i hi, Int.toNat_natCast, set_fill l i hi]; rfl
  refine E.same fun m a => ?_
  simp only [laws_toIntS.f, Int.toNat_natCast]; rw [if_pos (by omega), if_pos h]; exact a

theorem laws_toState.ev (l : List Int) (m : Int) (h : l.length ≤ 35184372088832) : Stops (fun k => laws_toState.f k l m) (l, m) := by
  refine (laws_toIntS.ev l h).same fun k e => ?_
  simp [laws_toState.f, e]

theorem laws_eqIntS.ev (l : List Int) (h : l.length ≤ 35184372088832) : Stops (fun k => laws_eqIntS.f k l l) true := by
  have E : Stops (fun k => laws_eqIntS.l0 k l l 0) true := by
    refine Stops.count (g := fun k (s : Int) => laws_eqIntS.l0 k l l s) (fun i => (i : Int)) l.length (Stops.now1 fun m => ?_) fun i hi m => ?_
    · simp only [laws_eqIntS.l0]; rw [if_neg (by omega)]
    · have e : wrap64 ((i : Int) + 1) = (i : Int) + 1 := w64 (by omega) (by omega)
      rw [laws_eqIntS.l0, if_pos (by omega), if_pos (by omega), if_pos (by omega), if_pos rfl, e]; rfl
  refine E.same fun m a => ?_
  simp only [laws_eqIntS.f, if_true]; exact a

theorem laws_eqState.ev (l : List Int) (m : Int) (h : l.length ≤ 35184372088832) : Stops (fun k => laws_eqState.f k l m l m) true := by
  refine (laws_eqIntS.ev l h).same fun k e => ?_
  simp [laws_eqState.f, e]

theorem spec_l1In.eq (a b c : Int) : spec_l1In.f a b c = some (decide (b ≤ a ∧ a ≤ c)) := by
  unfold spec_l1In.f; by_cases h : b ≤ a <;> simp [h]

theorem spec_l2State.ev (l : List Int) (m : Int) (h : l.length ≤ 35184372088832) : Stops (fun k => spec_l2State.f k l m) (isSt l m) := by
  have e : isSt l m = chkV (fun x => decide (-1 ≤ x ∧ x ≤ m)) (isN l.length && isM m) 12 l 0 := by
    rw [chkV_eq _ _ _ _ _ (fun g => by rw [Bool.and_eq_true] at g; have := isN_bd g.1; omega)]
    simp [isSt, List.all_eq_not_any_not]
  rw [e]
  have E := Stops.over0 l (fun k (i : Nat) (s : Unit) => spec_l2State.l0 k (i : Int) l m) (fun t s => chkV (fun x => decide (-1 ≤ x ∧ x ≤ m)) (isN l.length && isM m) 12 t (l.length - t.length)) () ?_ ?_
  · rw [Nat.sub_self] at E; exact E
  · intro s
    refine ⟨2, fun n hn => ?_⟩
    obtain ⟨k, rfl⟩ : ∃ k, n = k + 2 := ⟨n - 2, by omega⟩
    simp only [spec_l2State.l0, spec_l2State.j1, spec_l1In.eq]; rw [if_neg (by omega), if_neg (by simp)]
    exact and_bind (isN l.length) (isM m)
  · intro i hi s A
    have ew : wrap64 ((i : Int) + 1) = ((i + 1 : Nat) : Int) := w64 (by omega) (by omega)
    have ed : l.length - (l[i] :: l.drop (i + 1)).length = i := by simp; omega
    have ed2 : l.length - (l.drop (i + 1)).length = i + 1 := by simp; omega
    have A := A ()
    simp only [ed, ed2] at A ⊢
    by_cases hc : i ≤ 12
    · by_cases hp : -1 ≤ l[i] ∧ l[i] ≤ m
      · have A1 : Stops (fun k => spec_l2State.j1 k (i : Int) true l m) (chkV (fun x => decide (-1 ≤ x ∧ x ≤ m)) (isN l.length && isM m) 12 (l[i] :: l.drop (i + 1)) i) := A.round fun k a => by
          simp only [spec_l2State.j1, rd_at l i hi, spec_l1In.eq]
          rw [if_pos trivial, if_pos (by omega), if_pos (by omega), decide_eq_true hp, Option.bind_some, if_pos (by trivial), ew, chkV, if_pos hc, if_pos (by simpa using hp)]; exact a
        exact A1.round fun k a => by
          simp only [spec_l2State.l0]; rw [if_pos (by omega), decide_eq_true (by omega)]; exact a
      · refine ⟨2, fun n hn => ?_⟩
        obtain ⟨k, rfl⟩ : ∃ k, n = k + 2 := ⟨n - 2, by omega⟩
        simp only [spec_l2State.l0, spec_l2State.j1, rd_at l i hi, spec_l1In.eq]
        rw [if_pos (by omega), decide_eq_true (show (i : Int) ≤ 12 by omega), if_pos (by trivial), if_pos (by omega), if_pos (by omega), decide_eq_false hp, Option.bind_some]; simp [chkV, hc, hp]
    · refine ⟨2, fun n hn => ?_⟩
      obtain ⟨k, rfl⟩ : ∃ k, n = k + 2 := ⟨n - 2, by omega⟩
      simp only [spec_l2State.l0, spec_l2State.j1, spec_l1In.eq]
      rw [if_pos (by omega), decide_eq_false (show ¬ (i : Int) ≤ 12 by omega), chkV, if_neg hc, if_neg (by simp)]
      exact and_bind (isN l.length) (isM m)

theorem spec_l2Numbers.eq (a : Int) : spec_l2Numbers.f a = some (isN a) := by
  unfold spec_l2Numbers.f; rw [spec_l1In.eq]; rfl

theorem spec_l2Asks.eq (n q : Int) : spec_l2Asks.f n q = some (isQ n q) := by
  unfold spec_l2Asks.f isQ; rw [spec_l2Numbers.eq, spec_l1In.eq]
  cases h : isN n
  · simp
  · have := isN_bd h
    simp [show 0 ≤ n by omega]

theorem spec_l2Question.eq (l : List Int) (m0 q : Int) : spec_l2Question.f l m0 q = some (isQ l.length q) := by
  unfold spec_l2Question.f; rw [spec_l2Asks.eq]; rfl

theorem spec_l2Open.ev (l : List Int) (m0 : Int) (hl : l.length ≤ 10000000) : Stops (fun k => spec_l2Open.f k l m0) (openV l l.length) := by
  refine Stops.count (g := fun k (s : List Int × Int) => spec_l2Open.l0 k s.1 s.2 l m0) (fun i => (openV l i, (i : Int))) l.length (Stops.now1 fun m => ?_) fun i hi m => ?_
  · simp only [spec_l2Open.l0]; rw [if_neg (by omega)]
  · have e : wrap64 ((i : Int) + 1) = (i : Int) + 1 := w64 (by omega) (by omega)
    have hw := openV_length l i
    simp only [spec_l2Open.l0]; rw [if_pos (by omega), if_pos (by omega), e]
    by_cases hb : rd l (i : Int) ≥ 0
    · rw [if_pos hb, if_pos (by omega), openV, numsTo, if_pos (by simpa using hb)]; rfl
    · rw [if_neg hb, openV, numsTo, if_neg (by simpa using hb)]; rfl

theorem spec_l2Vain.ev (l : List Int) (m0 q : Int) (hl : l.length ≤ 10000000) : Stops (fun k => spec_l2Vain.f k l m0 q) (vainV (manyV (hasB q) (openV l l.length) 0) (openV l l.length).length) := by
  have hp : ∀ x ∈ openV l l.length, 0 ≤ x := fun x hx => (numsTo_mem _ _ x hx).1
  have hw := openV_length l l.length
  have E0 := spec_l2Open.ev l m0 hl
  generalize openV l l.length = o at *
  have E : Stops (fun k => spec_l2Vain.l0 k q o 0 ((0 : Nat) : Int)) (vainV (manyB (fun x => Go.bits .and .i64 (shr .i64 q x) 1) o 0) o.length) := by
    refine Stops.over0 o (fun k (i : Nat) (s : Int) => spec_l2Vain.l0 k q o s (i : Int)) (fun t s => vainV (manyB (fun x => Go.bits .and .i64 (shr .i64 q x) 1) t s) o.length) 0 (fun s => Stops.now1 fun m => ?_) fun i hi s A => ?_
    · simp only [spec_l2Vain.l0, manyB, vainV]; rw [if_neg (by omega)]
      split <;> simp_all
    · have e : wrap64 ((i : Int) + 1) = ((i + 1 : Nat) : Int) := w64 (by omega) (by omega)
      refine (A (wrap64 (s + Go.bits .and .i64 (shr .i64 q o[i]) 1))).round fun m a => ?_
      simp only [spec_l2Vain.l0, rd_at o i hi, manyB, e]
      rw [if_pos (by omega), if_pos (by omega), if_pos (hp _ (List.getElem_mem hi))]; exact a
  rw [manyB_eq (hasB q) _ (fun x => by unfold hasB; rcases and_one (shr .i64 q x) with e | e <;> rw [e] <;> rfl) o 0 (by omega) (by omega)] at E
  refine Evt.mono (E0.and E.evt) fun m ⟨a, b⟩ => ?_
  simp only [spec_l2Vain.f, a, Option.bind_some]; exact b

theorem spec_VainQuestion.ev (l : List Int) (m0 q : Int) (hl : l.length ≤ 10000000) : Stops (fun k => spec_VainQuestion.f k l m0 q) (if (isSt l m0 && isQ l.length q) = true then (vainV (manyV (hasB q) (openV l l.length) 0) (openV l l.length).length, true) else (false, false)) := by
  refine Evt.mono ((spec_l2State.ev l m0 (by omega)).and (spec_l2Vain.ev l m0 q hl).evt) fun m ⟨a, b⟩ => ?_
  simp only [spec_VainQuestion.f, a, b, spec_l2Question.eq, Option.bind_some]
  cases isSt l m0 <;> cases isQ l.length q <;> simp

theorem impl_isQuestion.eq (n q : Int) : impl_isQuestion.f n q = some (isQ n q) := by
  unfold impl_isQuestion.f isQ; rw [impl_isCount.eq, impl_in.eq]
  cases h : isN n
  · simp
  · have := isN_bd h
    simp [show 0 ≤ n by omega]

theorem impl_State_open.ev (l : List Int) (m0 : Int) (hl : l.length ≤ 10000000) : Stops (fun k => impl_State_open.f k l m0) (openV l l.length) := by
  refine Stops.count (g := fun k (s : List Int × Int) => impl_State_open.l0 k s.1 l l.length s.2) (fun i => (openV l i, (i : Int))) l.length (Stops.now1 fun m => ?_) fun i hi m => ?_
  · simp only [impl_State_open.l0]; rw [if_neg (by omega)]
  · have e : wrap64 ((i : Int) + 1) = (i : Int) + 1 := w64 (by omega) (by omega)
    have hw := openV_length l i
    simp only [impl_State_open.l0]; rw [if_pos (by omega), if_pos (by omega), if_pos (by omega), e]
    by_cases hb : rd l (i : Int) ≥ 0
    · rw [if_pos hb, if_pos (by omega), openV, numsTo, if_pos (by simpa using hb)]; rfl
    · rw [if_neg hb, openV, numsTo, if_neg (by simpa using hb)]; rfl

theorem impl_has.eq (q k : Int) (h : 0 ≤ k) : impl_has.f q k = some (hasB q k) := by
  unfold impl_has.f; rw [if_pos h]; rfl

theorem impl_State_isVain.ev (l : List Int) (m0 q : Int) (hl : l.length ≤ 10000000) : Stops (fun k => impl_State_isVain.f k l m0 q) (vainV (manyV (hasB q) (openV l l.length) 0) (openV l l.length).length) := by
  have hp : ∀ x ∈ openV l l.length, 0 ≤ x := fun x hx => (numsTo_mem _ _ x hx).1
  have hw := openV_length l l.length
  have E0 := impl_State_open.ev l m0 hl
  generalize openV l l.length = o at *
  have E : Stops (fun k => impl_State_isVain.l0 k q 0 o o o.length ((0 : Nat) : Int)) (vainV (manyV (hasB q) o 0) o.length) := by
    refine Stops.over0 o (fun k (i : Nat) (s : Int) => impl_State_isVain.l0 k q s o o o.length (i : Int)) (fun t s => vainV (manyV (hasB q) t s) o.length) 0 (fun s => Stops.now1 fun m => ?_) fun i hi s A => ?_
    · simp only [impl_State_isVain.l0, manyV, vainV]; rw [if_neg (by omega)]
      split <;> simp_all
    · have e : wrap64 ((i : Int) + 1) = ((i + 1 : Nat) : Int) := w64 (by omega) (by omega)
      by_cases hb : hasB q o[i] = true
      · refine (A (wrap64 (s + 1))).round fun m a => ?_
        simp only [impl_State_isVain.l0, rd_at o i hi, manyV, e, impl_has.eq q _ (hp _ (List.getElem_mem hi)), Option.bind_some]
        rw [if_pos (by omega), if_pos (by omega), if_pos (by omega), if_pos hb, if_pos hb]; exact a
      · refine (A s).round fun m a => ?_
        simp only [impl_State_isVain.l0, rd_at o i hi, manyV, e, impl_has.eq q _ (hp _ (List.getElem_mem hi)), Option.bind_some]
        rw [if_pos (by omega), if_pos (by omega), if_pos (by omega), if_neg hb, if_neg hb]; exact a
  refine Evt.mono (E0.and E.evt) fun m ⟨a, b⟩ => ?_
  simp only [impl_State_isVain.f, a, Option.bind_some]; exact b

theorem impl_VainQuestion.ev (l : List Int) (m0 q : Int) (hl : l.length ≤ 10000000) : Stops (fun k => impl_VainQuestion.f k l m0 q) (if (isSt l m0 && isQ l.length q) = true then (vainV (manyV (hasB q) (openV l l.length) 0) (openV l l.length).length, true) else (false, false)) := by
  refine (impl_State_isVain.ev l m0 q hl).same fun m b => ?_
  simp only [impl_VainQuestion.f, impl_IsState.f, b, impl_isQuestion.eq, Option.bind_some]
  cases isSt l m0 <;> cases isQ l.length q <;> simp

theorem law : laws_FnExactVainQuestion.Pure := by
  intro l m0 q hm
  intros
  by_cases hb : 1048576 < l.length
  · exact ⟨0, by simp [laws_FnExactVainQuestion.f, laws_szState.big l m0 hm hb]⟩
  have S := spec_VainQuestion.ev l m0 q (by omega)
  have I := impl_VainQuestion.ev l m0 q (by omega)
  generalize (if (isSt l m0 && isQ l.length q) = true then (vainV (manyV (hasB q) (openV l l.length) 0) (openV l l.length).length, true) else (false, false)) = v at *
  obtain ⟨m, h⟩ := (((S).and ((I).and ((laws_toState.ev l m0 (by omega)).and (laws_eqState.ev l m0 (by omega)).evt)))).shift
  have h0 := fun j => (h j).1
  have h1 := fun j => (h j).2.1
  have h2 := fun j => (h j).2.2.1
  have h3 := fun j => (h j).2.2.2
  refine ⟨m + 7, ?_⟩
  simp [laws_FnExactVainQuestion.f, laws_FnExactVainQuestion.j0, h0, h1, h2, h3, laws_szState.small l m0 hm hb, show ¬ (1048576 - (l.length : Int) < 0) by omega]

end Go.Proofs.Ytamoldckpoengaa.PFnExactVainQuestion
