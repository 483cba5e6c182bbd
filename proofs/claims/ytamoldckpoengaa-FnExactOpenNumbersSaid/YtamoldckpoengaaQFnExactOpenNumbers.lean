/- The plain law behind the statement FnExactOpenNumbers: what the Go functions' Lean forms come to. Written for this work; no condition. -/
import Derived.Test.YtamoldckpoengaaPFnExactOpenNumbersx
import Derived.Test.YtamoldckpoengaaLib2
set_option linter.unusedVariables false
set_option linter.unusedSimpArgs false
namespace Go.Proofs.Ytamoldckpoengaa.PFnExactOpenNumbers
open Go.RowKit Go.Proofs.YtamoldckpoengaaW.PrintWords Go.Proofs.YtamoldckpoengaaW.PrintLast Go.Proofs.YtamoldckpoengaaW.PrintMore Go.Proofs.Ytamoldckpoengaa.Lib

theorem laws_szIntS.eq (l : List Int) (a : Int) (h : l.length ≤ maxLen) (h0 : 0 ≤ a) (h1 : a ≤ 1048576) : laws_szIntS.f l a = some (if a < (l.length : Int) then -1 else a - (l.length : Int)) := by
  unfold maxLen at h
  unfold laws_szIntS.f; rw [w64 (by omega) (by omega)]
  by_cases hb : a < l.length
  · rw [if_pos (by omega), if_pos hb]
  · rw [if_neg (by omega), if_neg hb]

theorem laws_szState.big (l : List Int) (m : Int) (h : l.length ≤ maxLen) (hb : 1048576 < l.length) : laws_szState.f l m 1048576 = some (-1) := by
  unfold laws_szState.f; rw [laws_szIntS.eq l _ h (by omega) (by omega), if_pos (by omega)]; rfl
theorem laws_szState.small (l : List Int) (m : Int) (h : l.length ≤ maxLen) (hb : ¬ 1048576 < l.length) : laws_szState.f l m 1048576 = some (1048576 - (l.length : Int)) := by
  unfold laws_szState.f; rw [laws_szIntS.eq l _ h (by omega) (by omega), if_neg (by omega), Option.bind_some, if_neg (by omega)]

theorem laws_toIntS.ev (l : List Int) (h : l.length ≤ 35184372088832) : Stops (fun k => laws_toIntS.f k l) l := by
  have E : Stops (fun k => laws_toIntS.l0 k l (List.replicate l.length 0) 0) l := by
    refine Stops.count (g := fun k (s : List Int × Int) => laws_toIntS.l0 k l s.1 s.2) (fun i => (l.take i ++ List.replicate (l.length - i) 0, (i : Int))) l.length (Stops.now1 fun m => ?_) fun i hi m => ?_
    · simp only [laws_toIntS.l0]; rw [if_neg (by omega)]; simp
    · have e : wrap64 ((i : Int) + 1) = (i : Int) + 1 := w64 (by omega) (by omega)
      have hl : ((l.take i ++ List.replicate (l.length - i) (0 : Int)).length : Int) = l.length := by simp; omega
      simp only [laws_toIntS.l0]; rw [if_pos (by omega), if_pos (by omega), hl, if_pos (by omega), e, rd_at l i hi, Int.toNat_natCast, set_fill l i hi]; rfl
  refine E.same fun m a => ?_
  simp only [laws_toIntS.f, Int.toNat_natCast]; rw [if_pos (by omega), if_pos h]; exact a

theorem laws_toState.ev (l : List Int) (m : Int) (h : l.length ≤ 35184372088832) : Stops (fun k => laws_toState.f k l m) (l, m) := by
  refine (laws_toIntS.ev l h).same fun k e => ?_
  simp [laws_toState.f, e]

theorem laws_eqIntS.ev (l : List Int) (h : l.length ≤ 35184372088832) : Stops (fun k => laws_eqIntS.f k l l) true := by
  have E : Stops (fun k => laws_eqIntS.l0 k l l 0) true := by
    refine Stops.count (g := fun k (s : Int) => laws_eqIntS.l0 k l l s) (fun i => (i : Int)) l.length (Stops.now1 fun m => ?_) fun i hi m => ?_
    · simp only [laws_eqIntS.l0]; rw [if_neg (by omega)]
    · have e : wrap64 ((i : Int) + 1) = (i : Int) + 1 := w64 (by omega) (by omega)
      rw [laws_eqIntS.l0, if_pos (by omega), if_pos (by omega), if_pos (by omega), if_pos rfl, e]; rfl
  refine E.same fun m a => ?_
  simp only [laws_eqIntS.f, if_true]; exact a

theorem laws_eqState.ev (l : List Int) (m : Int) (h : l.length ≤ 35184372088832) : Stops (fun k => laws_eqState.f k l m l m) true := by
  refine (laws_eqIntS.ev l h).same fun k e => ?_
  simp [laws_eqState.f, e]

theorem laws_markIntS.ev (l : List Int) (a : Int) (h : l.length ≤ 35184372088832) (h0 : 0 ≤ a) (h1 : a ≤ 1000000000000000000) : Stops (fun k => laws_markIntS.f k l a) (a + l.length, upFrom a l.length) := by
  have E : Stops (fun k => laws_markIntS.l0 k (upFrom a 0 ++ l.drop 0) (a + ((0 : Nat) : Int)) ((0 : Nat) : Int)) (a + l.length, upFrom a l.length) := by
   refine Stops.count (g := fun k (s : List Int × Int × Int) => laws_markIntS.l0 k s.1 s.2.1 s.2.2) (fun i => (upFrom a i ++ l.drop i, a + i, (i : Int))) l.length (Stops.now1 fun m => ?_) fun i hi m => ?_
   · have hl : ((upFrom a l.length ++ l.drop l.length).length : Int) = l.length := by simp [upFrom_length]
     simp only [laws_markIntS.l0]; rw [if_neg (by rw [hl]; omega)]; simp
   · have e : wrap64 ((i : Int) + 1) = (i : Int) + 1 := w64 (by omega) (by omega)
     have e2 : wrap64 (a + (i : Int) + 1) = a + ((i + 1 : Nat) : Int) := by rw [w64 (by omega) (by omega)]; omega
     have hl : ((upFrom a i ++ l.drop i).length : Int) = l.length := by simp [upFrom_length]; omega
     simp only [laws_markIntS.l0]; rw [if_pos (by rw [hl]; omega), if_pos (by omega), e, e2, Int.toNat_natCast, set_split l i (upFrom a i) (a + i) (upFrom_length i a) hi, ← upFrom_append]; rfl
  refine E.same fun m e => ?_
  simp [upFrom] at e
  exact e

theorem laws_markState.ev (l : List Int) (m a : Int) (h : l.length ≤ 35184372088832) (h0 : 0 ≤ a) (h1 : a ≤ 1000000000000000000) : Stops (fun k => laws_markState.f k l m a) (a + l.length, upFrom a l.length) := by
  refine (laws_markIntS.ev l a h h0 h1).same fun k e => ?_
  simp [laws_markState.f, e]

theorem laws_heldIntS.ev (n : Nat) (a : Int) (h : n ≤ 35184372088832) (h0 : 0 ≤ a) (h1 : a ≤ 1000000000000000000) : Stops (fun k => laws_heldIntS.f k (upFrom a n) a) (a + n) := by
  have E : Stops (fun k => laws_heldIntS.l0 k (upFrom a n) (a + ((0 : Nat) : Int)) ((0 : Nat) : Int)) (a + n) := by
    refine Stops.count (g := fun k (s : Int × Int) => laws_heldIntS.l0 k (upFrom a n) s.1 s.2) (fun i => (a + (i : Int), (i : Int))) n (Stops.now1 fun m => ?_) fun i hi m => ?_
    · simp only [laws_heldIntS.l0, upFrom_length]; rw [if_neg (by omega)]
    · have e : wrap64 ((i : Int) + 1) = (i : Int) + 1 := w64 (by omega) (by omega)
      have e2 : wrap64 (a + (i : Int) + 1) = a + ((i + 1 : Nat) : Int) := by rw [w64 (by omega) (by omega)]; omega
      simp only [laws_heldIntS.l0, upFrom_length]; rw [if_pos (by omega), if_pos (by omega), rd_nat, upFrom_getD n a i hi, if_pos rfl, e, e2]; rfl
  refine E.same fun m e => ?_
  simp at e
  exact e

theorem spec_l1In.eq (a b c : Int) : spec_l1In.f a b c = some (decide (b ≤ a ∧ a ≤ c)) := by
  unfold spec_l1In.f; by_cases h : b ≤ a <;> simp [h]

theorem spec_l2State.ev (l : List Int) (m : Int) (h : l.length ≤ 35184372088832) : Stops (fun k => spec_l2State.f k l m) (isSt l m) := by
  have e : isSt l m = chkV (fun x => decide (-1 ≤ x ∧ x ≤ m)) (isN l.length && isM m) 12 l 0 := by
    rw [chkV_eq _ _ _ _ _ (fun g => by rw [Bool.and_eq_true] at g; have := isN_bd g.1; omega)]
    simp [isSt, List.all_eq_not_any_not]
  rw [e]
  have E := Stops.over0 l (fun k (i : Nat) (s : Unit) => spec_l2State.l0 k (i : Int) l m) (fun t s => chkV (fun x => decide (-1 ≤ x ∧ x ≤ m)) (isN l.length && isM m) 12 t (l.length - t.length)) () ?_ ?_
  · rw [Nat.sub_self] at E; exact E
  · intro s
    refine ⟨2, fun n hn => ?_⟩
    obtain ⟨k, rfl⟩ : ∃ k, n = k + 2 := ⟨n - 2, by omega⟩
    simp only [spec_l2State.l0, spec_l2State.j1, spec_l1In.eq]; rw [if_neg (by omega), if_neg (by simp)]
    exact and_bind (isN l.length) (isM m)
  · intro i hi s A
    have ew : wrap64 ((i : Int) + 1) = ((i + 1 : Nat) : Int) := w64 (by omega) (by omega)
    have ed : l.length - (l[i] :: l.drop (i + 1)).length = i := by simp; omega
    have ed2 : l.length - (l.drop (i + 1)).length = i + 1 := by simp; omega
    have A := A ()
    simp only [ed, ed2] at A ⊢
    by_cases hc : i ≤ 12
    · by_cases hp : -1 ≤ l[i] ∧ l[i] ≤ m
      · have A1 : Stops (fun k => spec_l2State.j1 k (i : Int) true l m) (chkV (fun x => decide (-1 ≤ x ∧ x ≤ m)) (isN l.length && isM m) 12 (l[i] :: l.drop (i + 1)) i) := A.round fun k a => by
          simp only [spec_l2State.j1, rd_at l i hi, spec_l1In.eq]
          rw [if_pos trivial, if_pos (by omega), if_pos (by omega), decide_eq_true hp, Option.bind_some, if_pos (by trivial), ew, chkV, if_pos hc, if_pos (by simpa using hp)]; exact a
        exact A1.round fun k a => by
          simp only [spec_l2State.l0]; rw [if_pos (by omega), decide_eq_true (by omega)]; exact a
      · refine ⟨2, fun n hn => ?_⟩
        obtain ⟨k, rfl⟩ : ∃ k, n = k + 2 := ⟨n - 2, by omega⟩
        simp only [spec_l2State.l0, spec_l2State.j1, rd_at l i hi, spec_l1In.eq]
        rw [if_pos (by omega), decide_eq_true (show (i : Int) ≤ 12 by omega), if_pos (by trivial), if_pos (by omega), if_pos (by omega), decide_eq_false hp, Option.bind_some]; simp [chkV, hc, hp]
    · refine ⟨2, fun n hn => ?_⟩
      obtain ⟨k, rfl⟩ : ∃ k, n = k + 2 := ⟨n - 2, by omega⟩
      simp only [spec_l2State.l0, spec_l2State.j1, spec_l1In.eq]
      rw [if_pos (by omega), decide_eq_false (show ¬ (i : Int) ≤ 12 by omega), chkV, if_neg hc, if_neg (by simp)]
      exact and_bind (isN l.length) (isM m)

theorem spec_l2Open.ev (l : List Int) (m0 : Int) (hl : l.length ≤ 10000000) : Stops (fun k => spec_l2Open.f k l m0) (openV l l.length) := by
  refine Stops.count (g := fun k (s : List Int × Int) => spec_l2Open.l0 k s.1 s.2 l m0) (fun i => (openV l i, (i : Int))) l.length (Stops.now1 fun m => ?_) fun i hi m => ?_
  · simp only [spec_l2Open.l0]; rw [if_neg (by omega)]
  · have e : wrap64 ((i : Int) + 1) = (i : Int) + 1 := w64 (by omega) (by omega)
    have hw := openV_length l i
    simp only [spec_l2Open.l0]; rw [if_pos (by omega), if_pos (by omega), e]
    by_cases hb : rd l (i : Int) ≥ 0
    · rw [if_pos hb, if_pos (by omega), openV, numsTo, if_pos (by simpa using hb)]; rfl
    · rw [if_neg hb, openV, numsTo, if_neg (by simpa using hb)]; rfl

theorem spec_OpenNumbers.ev (l : List Int) (m0 : Int) (hl : l.length ≤ 10000000) : Stops (fun k => spec_OpenNumbers.f k l m0) (if isSt l m0 = true then (openV l l.length, true) else ([], false)) := by
  refine Evt.mono ((spec_l2State.ev l m0 (by omega)).and (spec_l2Open.ev l m0 hl).evt) fun m ⟨a, b⟩ => ?_
  simp only [spec_OpenNumbers.f, a, b, Option.bind_some]
  cases isSt l m0 <;> simp

theorem impl_State_open.ev (l : List Int) (m0 : Int) (hl : l.length ≤ 10000000) : Stops (fun k => impl_State_open.f k l m0) (openV l l.length) := by
  refine Stops.count (g := fun k (s : List Int × Int) => impl_State_open.l0 k s.1 l l.length s.2) (fun i => (openV l i, (i : Int))) l.length (Stops.now1 fun m => ?_) fun i hi m => ?_
  · simp only [impl_State_open.l0]; rw [if_neg (by omega)]
  · have e : wrap64 ((i : Int) + 1) = (i : Int) + 1 := w64 (by omega) (by omega)
    have hw := openV_length l i
    simp only [impl_State_open.l0]; rw [if_pos (by omega), if_pos (by omega), if_pos (by omega), e]
    by_cases hb : rd l (i : Int) ≥ 0
    · rw [if_pos hb, if_pos (by omega), openV, numsTo, if_pos (by simpa using hb)]; rfl
    · rw [if_neg hb, openV, numsTo, if_neg (by simpa using hb)]; rfl

theorem impl_OpenNumbers.ev (l : List Int) (m0 : Int) (hl : l.length ≤ 10000000) : Stops (fun k => impl_OpenNumbers.f k l m0) (if isSt l m0 = true then (openV l l.length, true) else ([], false)) := by
  refine (impl_State_open.ev l m0 hl).same fun m b => ?_
  simp only [impl_OpenNumbers.f, impl_IsState.f, b, Option.bind_some]
  cases isSt l m0 <;> simp

theorem law : laws_FnExactOpenNumbers.Pure := by
  intro l m0 hm
  intros
  by_cases hb : 1048576 < l.length
  · exact ⟨0, by simp [laws_FnExactOpenNumbers.f, laws_szState.big l m0 hm hb]⟩
  have hvl : (if isSt l m0 = true then (openV l l.length, true) else ([], false)).1.length ≤ 10000000 := by
    split
    · have := openV_length l l.length
      rw [show (openV l l.length, true).1 = openV l l.length from rfl]
      omega
    · simp
  have S := spec_OpenNumbers.ev l m0 (by omega)
  have I := impl_OpenNumbers.ev l m0 (by omega)
  generalize (if isSt l m0 = true then (openV l l.length, true) else ([], false)) = v at *
  obtain ⟨v, b⟩ := v
  simp only at hvl
  have hneg_v : ¬ (1 + (v.length : Int) < 0) := by omega
  obtain ⟨m, h⟩ := (((S).and ((I).and ((laws_toState.ev l m0 (by omega)).and ((laws_eqState.ev l m0 (by omega)).and ((laws_markState.ev l m0 1 (by omega) (by omega) (by omega)).and ((laws_eqIntS.ev v (by omega)).and ((laws_markIntS.ev v 1 (by omega) (by omega) (by omega)).and (laws_heldIntS.ev v.length 1 (by omega) (by omega) (by omega)).evt)))))))).shift
  have h0 := fun j => (h j).1
  have h1 := fun j => (h j).2.1
  have h2 := fun j => (h j).2.2.1
  have h3 := fun j => (h j).2.2.2.1
  have h4 := fun j => (h j).2.2.2.2.1
  have h5 := fun j => (h j).2.2.2.2.2.1
  have h6 := fun j => (h j).2.2.2.2.2.2.1
  have h7 := fun j => (h j).2.2.2.2.2.2.2
  refine ⟨m + 7, ?_⟩
  simp [laws_FnExactOpenNumbers.f, laws_FnExactOpenNumbers.j0, laws_FnExactOpenNumbers.j1, laws_FnExactOpenNumbers.j2, h0, h1, h2, h3, h4, h5, h6, h7, laws_szState.small l m0 hm hb, show ¬ (1048576 - (l.length : Int) < 0) by omega, show ¬ (1 + (l.length : Int) < 0) by omega, hneg_v]

end Go.Proofs.Ytamoldckpoengaa.PFnExactOpenNumbers
