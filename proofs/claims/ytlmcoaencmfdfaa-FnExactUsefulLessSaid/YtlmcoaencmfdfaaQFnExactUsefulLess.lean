/- The plain law behind the statement FnExactUsefulLess: what the Go functions' Lean forms come to. Written for this work; no condition. -/
import Derived.Test.YtlmcoaencmfdfaaPFnExactUsefulLessx
import Derived.Test.YtlmcoaencmfdfaaLib2
set_option linter.unusedVariables false
set_option linter.unusedSimpArgs false
namespace Go.Proofs.Ytlmcoaencmfdfaa.PFnExactUsefulLess
open Go.RowKit Go.Proofs.YtlmcoaencmfdfaaW.PrintWords Go.Proofs.YtlmcoaencmfdfaaW.PrintLast Go.Proofs.YtlmcoaencmfdfaaW.PrintMore Go.Proofs.Ytlmcoaencmfdfaa.Lib


theorem laws_eqIntS.ev (l : List Int) (h : l.length ≤ 35184372088832) : Stops (fun k => laws_eqIntS.f k l l) true := by
  have E : Stops (fun k => laws_eqIntS.l0 k l l 0) true := by
    refine Stops.count (g := fun k (s : Int) => laws_eqIntS.l0 k l l s) (fun i => (i : Int)) l.length (Stops.now1 fun m => ?_) fun i hi m => ?_
    · simp only [laws_eqIntS.l0]; rw [if_neg (by omega)]
    · have e : wrap64 ((i : Int) + 1) = (i : Int) + 1 := w64 (by omega) (by omega)
      rw [laws_eqIntS.l0, if_pos (by omega), if_pos (by omega), if_pos (by omega), if_pos rfl, e]; rfl
  refine E.same fun m a => ?_
  simp only [laws_eqIntS.f, if_true]; exact a

theorem laws_szIntS.eq (l : List Int) (a : Int) (h : l.length ≤ maxLen) (h0 : 0 ≤ a) (h1 : a ≤ 1048576) : laws_szIntS.f l a = some (if a < (l.length : Int) then -1 else a - (l.length : Int)) := by
  unfold maxLen at h
  unfold laws_szIntS.f; rw [w64 (by omega) (by omega)]
  by_cases hb : a < l.length
  · rw [if_pos (by omega), if_pos hb]
  · rw [if_neg (by omega), if_neg hb]

theorem laws_szState.big (l : List Int) (m : Int) (h : l.length ≤ maxLen) (hb : 1048576 < l.length) : laws_szState.f l m 1048576 = some (-1) := by
  unfold laws_szState.f; rw [laws_szIntS.eq l _ h (by omega) (by omega), if_pos (by omega)]; rfl
theorem laws_szState.small (l : List Int) (m : Int) (h : l.length ≤ maxLen) (hb : ¬ 1048576 < l.length) : laws_szState.f l m 1048576 = some (1048576 - (l.length : Int)) := by
  unfold laws_szState.f; rw [laws_szIntS.eq l _ h (by omega) (by omega), if_neg (by omega), Option.bind_some, if_neg (by omega)]

theorem spec_l1In.eq (a b c : Int) : spec_l1In.f a b c = some (decide (b ≤ a ∧ a ≤ c)) := by
  unfold spec_l1In.f; by_cases h : b ≤ a <;> simp [h]

theorem spec_l2State.ev (l : List Int) (m : Int) (h : l.length ≤ 35184372088832) : Stops (fun k => spec_l2State.f k l m) (isSt l m) := by
  have e : isSt l m = chkV (fun x => decide (-1 ≤ x ∧ x ≤ m)) (isN l.length && isM m) 12 l 0 := by
    rw [chkV_eq _ _ _ _ _ (fun g => by rw [Bool.and_eq_true] at g; have := isN_bd g.1; omega)]
    simp [isSt, List.all_eq_not_any_not]
  rw [e]
  have E := Stops.over0 l (fun k (i : Nat) (s : Unit) => spec_l2State.l0 k (i : Int) l m) (fun t s => chkV (fun x => decide (-1 ≤ x ∧ x ≤ m)) (isN l.length && isM m) 12 t (l.length - t.length)) () ?_ ?_
  · rw [Nat.sub_self] at E; exact E
  · intro s
    refine ⟨2, fun n hn => ?_⟩
    obtain ⟨k, rfl⟩ : ∃ k, n = k + 2 := ⟨n - 2, by omega⟩
    simp only [spec_l2State.l0, spec_l2State.j1, spec_l1In.eq]; rw [if_neg (by omega), if_neg (by simp)]
    exact and_bind (isN l.length) (isM m)
  · intro i hi s A
    have ew : wrap64 ((i : Int) + 1) = ((i + 1 : Nat) : Int) := w64 (by omega) (by omega)
    have ed : l.length - (l[i] :: l.drop (i + 1)).length = i := by simp; omega
    have ed2 : l.length - (l.drop (i + 1)).length = i + 1 := by simp; omega
    have A := A ()
    simp only [ed, ed2] at A ⊢
    by_cases hc : i ≤ 12
    · by_cases hp : -1 ≤ l[i] ∧ l[i] ≤ m
      · have A1 : Stops (fun k => spec_l2State.j1 k (i : Int) true l m) (chkV (fun x => decide (-1 ≤ x ∧ x ≤ m)) (isN l.length && isM m) 12 (l[i] :: l.drop (i + 1)) i) := A.round fun k a => by
          simp only [spec_l2State.j1, rd_at l i hi, spec_l1In.eq]
          rw [if_pos trivial, if_pos (by omega), if_pos (by omega), decide_eq_true hp, Option.bind_some, if_pos (by trivial), ew, chkV, if_pos hc, if_pos (by simpa using hp)]; exact a
        exact A1.round fun k a => by
          simp only [spec_l2State.l0]; rw [if_pos (by omega), decide_eq_true (by omega)]; exact a
      · refine ⟨2, fun n hn => ?_⟩
        obtain ⟨k, rfl⟩ : ∃ k, n = k + 2 := ⟨n - 2, by omega⟩
        simp only [spec_l2State.l0, spec_l2State.j1, rd_at l i hi, spec_l1In.eq]
        rw [if_pos (by omega), decide_eq_true (show (i : Int) ≤ 12 by omega), if_pos (by trivial), if_pos (by omega), if_pos (by omega), decide_eq_false hp, Option.bind_some]; simp [chkV, hc, hp]
    · refine ⟨2, fun n hn => ?_⟩
      obtain ⟨k, rfl⟩ : ∃ k, n = k + 2 := ⟨n - 2, by omega⟩
      simp only [spec_l2State.l0, spec_l2State.j1, spec_l1In.eq]
      rw [if_pos (by omega), decide_eq_false (show ¬ (i : Int) ≤ 12 by omega), chkV, if_neg hc, if_neg (by simp)]
      exact and_bind (isN l.length) (isM m)

theorem spec_l6Short.ev (l : List Int) (m0 : Int) (hl : l.length ≤ 10000000) : Stops (fun k => spec_l6Short.f k l m0) (isSt l m0 && decide (l.length ≤ 5) && decide (m0 ≤ 1)) := by
  refine (spec_l2State.ev l m0 (by omega)).same fun m a => ?_
  simp only [spec_l6Short.f, a, Option.bind_some]
  cases isSt l m0
  · simp
  · by_cases h : l.length ≤ 5
    · rw [if_pos rfl, if_pos (by omega), decide_eq_true h]; rfl
    · rw [if_pos rfl, if_neg (by omega), decide_eq_false h]; rfl

theorem spec_l2Open.ev (l : List Int) (m0 : Int) (hl : l.length ≤ 10000000) : Stops (fun k => spec_l2Open.f k l m0) (openV l l.length) := by
  refine Stops.count (g := fun k (s : List Int × Int) => spec_l2Open.l0 k s.1 s.2 l m0) (fun i => (openV l i, (i : Int))) l.length (Stops.now1 fun m => ?_) fun i hi m => ?_
  · simp only [spec_l2Open.l0]; rw [if_neg (by omega)]
  · have e : wrap64 ((i : Int) + 1) = (i : Int) + 1 := w64 (by omega) (by omega)
    have hw := openV_length l i
    simp only [spec_l2Open.l0]; rw [if_pos (by omega), if_pos (by omega), e]
    by_cases hb : rd l (i : Int) ≥ 0
    · rw [if_pos hb, if_pos (by omega), openV, numsTo, if_pos (by simpa using hb)]; rfl
    · rw [if_neg hb, openV, numsTo, if_neg (by simpa using hb)]; rfl

theorem spec_l2Vain.ev (l : List Int) (m0 q : Int) (hl : l.length ≤ 10000000) : Stops (fun k => spec_l2Vain.f k l m0 q) (vainV (manyV (hasB q) (openV l l.length) 0) (openV l l.length).length) := by
  have hp : ∀ x ∈ openV l l.length, 0 ≤ x := fun x hx => (numsTo_mem _ _ x hx).1
  have hw := openV_length l l.length
  have E0 := spec_l2Open.ev l m0 hl
  generalize openV l l.length = o at *
  have E : Stops (fun k => spec_l2Vain.l0 k q o 0 ((0 : Nat) : Int)) (vainV (manyB (fun x => Go.bits .and .i64 (shr .i64 q x) 1) o 0) o.length) := by
    refine Stops.over0 o (fun k (i : Nat) (s : Int) => spec_l2Vain.l0 k q o s (i : Int)) (fun t s => vainV (manyB (fun x => Go.bits .and .i64 (shr .i64 q x) 1) t s) o.length) 0 (fun s => Stops.now1 fun m => ?_) fun i hi s A => ?_
    · simp only [spec_l2Vain.l0, manyB, vainV]; rw [if_neg (by omega)]
      split <;> simp_all
    · have e : wrap64 ((i : Int) + 1) = ((i + 1 : Nat) : Int) := w64 (by omega) (by omega)
      refine (A (wrap64 (s + Go.bits .and .i64 (shr .i64 q o[i]) 1))).round fun m a => ?_
      simp only [spec_l2Vain.l0, rd_at o i hi, manyB, e]
      rw [if_pos (by omega), if_pos (by omega), if_pos (hp _ (List.getElem_mem hi))]; exact a
  rw [manyB_eq (hasB q) _ (fun x => by unfold hasB; rcases and_one (shr .i64 q x) with e | e <;> rw [e] <;> rfl) o 0 (by omega) (by omega)] at E
  refine Evt.mono (E0.and E.evt) fun m ⟨a, b⟩ => ?_
  simp only [spec_l2Vain.f, a, Option.bind_some]; exact b

/-- The comparisons that tell something. -/
def uselV (l : List Int) : Nat → List Int
  | 0 => []
  | i + 1 => if vainV (manyV (hasB (wrap64 (shl .i64 1 ((i + 1 : Nat) : Int) - 1))) (openV l l.length) 0) (openV l l.length).length = true then uselV l i else uselV l i ++ [((i + 1 : Nat) : Int)]
theorem uselV_length (l : List Int) (n : Nat) : (uselV l n).length ≤ n := by
  induction n with
  | zero => simp [uselV]
  | succ n ih =>
    unfold uselV
    split
    · omega
    · rw [List.length_append, List.length_singleton]; omega
def ulV (l : List Int) (m : Int) : List Int × Bool := if (isSt l m && decide (l.length ≤ 5) && decide (m ≤ 1)) = true then (uselV l (l.length - 1), true) else ([], false)
theorem ulV_st {l : List Int} {m : Int} (h : (isSt l m && decide (l.length ≤ 5) && decide (m ≤ 1)) = true) : 1 ≤ l.length ∧ l.length ≤ 5 := by
  simp only [Bool.and_eq_true, decide_eq_true_eq] at h
  have := isSt_bd h.1.1
  omega
theorem spec_UsefulLess.ev (l : List Int) (m0 : Int) (hl : l.length ≤ 10000000) : Stops (fun k => spec_UsefulLess.f k l m0) (ulV l m0) := by
  have S := spec_l6Short.ev l m0 hl
  by_cases h : (isSt l m0 && decide (l.length ≤ 5) && decide (m0 ≤ 1)) = true
  · have hb := ulV_st h
    have E : Stops (fun k => spec_UsefulLess.l0 k [] 1 l m0) (uselV l (l.length - 1), true) := by
      refine Stops.count' (g := fun k (s : List Int × Int) => spec_UsefulLess.l0 k s.1 s.2 l m0) (fun i => (uselV l i, ((i + 1 : Nat) : Int))) (l.length - 1) (Stops.now1 fun m => ?_) fun i hi A => ?_
      · simp only [spec_UsefulLess.l0]; rw [if_neg (by omega)]
      · have e : wrap64 (((i + 1 : Nat) : Int) + 1) = ((i + 1 + 1 : Nat) : Int) := w64 (by omega) (by omega)
        have hw := uselV_length l i
        refine Evt.succ (A.and (spec_l2Vain.ev l m0 (wrap64 (shl .i64 1 ((i + 1 : Nat) : Int) - 1)) hl).evt) fun m ⟨a, b⟩ => ?_
        simp only [spec_UsefulLess.l0, e, b, Option.bind_some]
        rw [if_pos (by omega), if_pos (by omega)]
        simp only [uselV] at a
        split at a
        · rename_i g; rw [if_pos g]; exact a
        · rename_i g; rw [if_neg g, if_pos (by omega)]; exact a
    refine (S.and E.evt).mono fun m ⟨a, b⟩ => ?_
    simp only [spec_UsefulLess.f, a, b, Option.bind_some, ulV, h, if_true]
  · refine S.same fun m a => ?_
    simp only [spec_UsefulLess.f, a, Option.bind_some, ulV, if_neg h]

theorem laws_toIntS.ev (l : List Int) (h : l.length ≤ 35184372088832) : Stops (fun k => laws_toIntS.f k l) l := by
  have E : Stops (fun k => laws_toIntS.l0 k l (List.replicate l.length 0) 0) l := by
    refine Stops.count (g := fun k (s : List Int × Int) => laws_toIntS.l0 k l s.1 s.2) (fun i => (l.take i ++ List.replicate (l.length - i) 0, (i : Int))) l.length (Stops.now1 fun m => ?_) fun i hi m => ?_
    · simp only [laws_toIntS.l0]; rw [if_neg (by omega)]; simp
    · have e : wrap64 ((i : Int) + 1) = (i : Int) + 1 := w64 (by omega) (by omega)
      have hl : ((l.take i ++ List.replicate (l.length - i) (0 : Int)).length : Int) = l.length := by simp; omega
      simp only [laws_toIntS.l0]; rw [if_pos (by omega), if_pos (by omega), hl, if_pos (by omega), e, rd_at l i hi, Int.toNat_natCast, set_fill l i hi]; rfl
  refine E.same fun m a => ?_
  simp only [laws_toIntS.f, Int.toNat_natCast]; rw [if_pos (by omega), if_pos h]; exact a

theorem laws_toState.ev (l : List Int) (m : Int) (h : l.length ≤ 35184372088832) : Stops (fun k => laws_toState.f k l m) (l, m) := by
  refine (laws_toIntS.ev l h).same fun k e => ?_
  simp [laws_toState.f, e]

theorem impl_isShort.eq (l : List Int) (m0 : Int) : impl_isShort.f l m0 = some (isSt l m0 && decide (l.length ≤ 5) && decide (m0 ≤ 1)) := by
  simp only [impl_isShort.f, impl_IsState.f, Option.bind_some]
  cases isSt l m0
  · simp
  · by_cases h : l.length ≤ 5
    · rw [if_pos rfl, if_pos (by omega), decide_eq_true h]; rfl
    · rw [if_pos rfl, if_neg (by omega), decide_eq_false h]; rfl

theorem impl_State_open.ev (l : List Int) (m0 : Int) (hl : l.length ≤ 10000000) : Stops (fun k => impl_State_open.f k l m0) (openV l l.length) := by
  refine Stops.count (g := fun k (s : List Int × Int) => impl_State_open.l0 k s.1 l l.length s.2) (fun i => (openV l i, (i : Int))) l.length (Stops.now1 fun m => ?_) fun i hi m => ?_
  · simp only [impl_State_open.l0]; rw [if_neg (by omega)]
  · have e : wrap64 ((i : Int) + 1) = (i : Int) + 1 := w64 (by omega) (by omega)
    have hw := openV_length l i
    simp only [impl_State_open.l0]; rw [if_pos (by omega), if_pos (by omega), if_pos (by omega), e]
    by_cases hb : rd l (i : Int) ≥ 0
    · rw [if_pos hb, if_pos (by omega), openV, numsTo, if_pos (by simpa using hb)]; rfl
    · rw [if_neg hb, openV, numsTo, if_neg (by simpa using hb)]; rfl

theorem impl_has.eq (q k : Int) (h : 0 ≤ k) : impl_has.f q k = some (hasB q k) := by
  unfold impl_has.f; rw [if_pos h]; rfl

theorem impl_State_isVain.ev (l : List Int) (m0 q : Int) (hl : l.length ≤ 10000000) : Stops (fun k => impl_State_isVain.f k l m0 q) (vainV (manyV (hasB q) (openV l l.length) 0) (openV l l.length).length) := by
  have hp : ∀ x ∈ openV l l.length, 0 ≤ x := fun x hx => (numsTo_mem _ _ x hx).1
  have hw := openV_length l l.length
  have E0 := impl_State_open.ev l m0 hl
  generalize openV l l.length = o at *
  have E : Stops (fun k => impl_State_isVain.l0 k q 0 o o o.length ((0 : Nat) : Int)) (vainV (manyV (hasB q) o 0) o.length) := by
    refine Stops.over0 o (fun k (i : Nat) (s : Int) => impl_State_isVain.l0 k q s o o o.length (i : Int)) (fun t s => vainV (manyV (hasB q) t s) o.length) 0 (fun s => Stops.now1 fun m => ?_) fun i hi s A => ?_
    · simp only [impl_State_isVain.l0, manyV, vainV]; rw [if_neg (by omega)]
      split <;> simp_all
    · have e : wrap64 ((i : Int) + 1) = ((i + 1 : Nat) : Int) := w64 (by omega) (by omega)
      by_cases hb : hasB q o[i] = true
      · refine (A (wrap64 (s + 1))).round fun m a => ?_
        simp only [impl_State_isVain.l0, rd_at o i hi, manyV, e, impl_has.eq q _ (hp _ (List.getElem_mem hi)), Option.bind_some]
        rw [if_pos (by omega), if_pos (by omega), if_pos (by omega), if_pos hb, if_pos hb]; exact a
      · refine (A s).round fun m a => ?_
        simp only [impl_State_isVain.l0, rd_at o i hi, manyV, e, impl_has.eq q _ (hp _ (List.getElem_mem hi)), Option.bind_some]
        rw [if_pos (by omega), if_pos (by omega), if_pos (by omega), if_neg hb, if_neg hb]; exact a
  refine Evt.mono (E0.and E.evt) fun m ⟨a, b⟩ => ?_
  simp only [impl_State_isVain.f, a, Option.bind_some]; exact b

theorem impl_less.eq (k : Int) (h : 0 ≤ k) : impl_less.f k = some (wrap64 (shl .i64 1 k - 1)) := by
  unfold impl_less.f; rw [if_pos h]

theorem impl_UsefulLess.ev (l : List Int) (m0 : Int) (hl : l.length ≤ 10000000) : Stops (fun k => impl_UsefulLess.f k l m0) (ulV l m0) := by
  have S := impl_isShort.eq l m0
  by_cases h : (isSt l m0 && decide (l.length ≤ 5) && decide (m0 ≤ 1)) = true
  · have hb := ulV_st h
    have E : Stops (fun k => impl_UsefulLess.l0 k [] 1 l m0) (uselV l (l.length - 1), true) := by
      refine Stops.count' (g := fun k (s : List Int × Int) => impl_UsefulLess.l0 k s.1 s.2 l m0) (fun i => (uselV l i, ((i + 1 : Nat) : Int))) (l.length - 1) (Stops.now1 fun m => ?_) fun i hi A => ?_
      · simp only [impl_UsefulLess.l0]; rw [if_neg (by omega)]
      · have e : wrap64 (((i + 1 : Nat) : Int) + 1) = ((i + 1 + 1 : Nat) : Int) := w64 (by omega) (by omega)
        have hw := uselV_length l i
        refine Evt.succ (A.and (impl_State_isVain.ev l m0 (wrap64 (shl .i64 1 ((i + 1 : Nat) : Int) - 1)) hl).evt) fun m ⟨a, b⟩ => ?_
        have el : impl_less.f ((i + 1 : Nat) : Int) = some (wrap64 (shl .i64 1 ((i + 1 : Nat) : Int) - 1)) := by unfold impl_less.f; rw [if_pos (by omega)]
        simp only [impl_UsefulLess.l0, e, el, b, Option.bind_some]
        rw [if_pos (by omega)]
        simp only [uselV] at a
        split at a
        · rename_i g; rw [if_pos g]; exact a
        · rename_i g; rw [if_neg g, if_pos (by omega)]; exact a
    refine E.same fun m b => ?_
    simp only [impl_UsefulLess.f, S, b, Option.bind_some, ulV, h, if_true]
  · refine Evt.true.mono fun m _ => ?_
    simp only [impl_UsefulLess.f, S, Option.bind_some, ulV, if_neg h]

theorem laws_eqState.ev (l : List Int) (m : Int) (h : l.length ≤ 35184372088832) : Stops (fun k => laws_eqState.f k l m l m) true := by
  refine (laws_eqIntS.ev l h).same fun k e => ?_
  simp [laws_eqState.f, e]

theorem laws_markIntS.ev (l : List Int) (a : Int) (h : l.length ≤ 35184372088832) (h0 : 0 ≤ a) (h1 : a ≤ 1000000000000000000) : Stops (fun k => laws_markIntS.f k l a) (a + l.length, upFrom a l.length) := by
  have E : Stops (fun k => laws_markIntS.l0 k (upFrom a 0 ++ l.drop 0) (a + ((0 : Nat) : Int)) ((0 : Nat) : Int)) (a + l.length, upFrom a l.length) := by
   refine Stops.count (g := fun k (s : List Int × Int × Int) => laws_markIntS.l0 k s.1 s.2.1 s.2.2) (fun i => (upFrom a i ++ l.drop i, a + i, (i : Int))) l.length (Stops.now1 fun m => ?_) fun i hi m => ?_
   · have hl : ((upFrom a l.length ++ l.drop l.length).length : Int) = l.length := by simp [upFrom_length]
     simp only [laws_markIntS.l0]; rw [if_neg (by rw [hl]; omega)]; simp
   · have e : wrap64 ((i : Int) + 1) = (i : Int) + 1 := w64 (by omega) (by omega)
     have e2 : wrap64 (a + (i : Int) + 1) = a + ((i + 1 : Nat) : Int) := by rw [w64 (by omega) (by omega)]; omega
     have hl : ((upFrom a i ++ l.drop i).length : Int) = l.length := by simp [upFrom_length]; omega
     simp only [laws_markIntS.l0]; rw [if_pos (by rw [hl]; omega), if_pos (by omega), e, e2, Int.toNat_natCast, set_split l i (upFrom a i) (a + i) (upFrom_length i a) hi, ← upFrom_append]; rfl
  refine E.same fun m e => ?_
  simp [upFrom] at e
  exact e

theorem laws_markState.ev (l : List Int) (m a : Int) (h : l.length ≤ 35184372088832) (h0 : 0 ≤ a) (h1 : a ≤ 1000000000000000000) : Stops (fun k => laws_markState.f k l m a) (a + l.length, upFrom a l.length) := by
  refine (laws_markIntS.ev l a h h0 h1).same fun k e => ?_
  simp [laws_markState.f, e]

theorem laws_heldIntS.ev (n : Nat) (a : Int) (h : n ≤ 35184372088832) (h0 : 0 ≤ a) (h1 : a ≤ 1000000000000000000) : Stops (fun k => laws_heldIntS.f k (upFrom a n) a) (a + n) := by
  have E : Stops (fun k => laws_heldIntS.l0 k (upFrom a n) (a + ((0 : Nat) : Int)) ((0 : Nat) : Int)) (a + n) := by
    refine Stops.count (g := fun k (s : Int × Int) => laws_heldIntS.l0 k (upFrom a n) s.1 s.2) (fun i => (a + (i : Int), (i : Int))) n (Stops.now1 fun m => ?_) fun i hi m => ?_
    · simp only [laws_heldIntS.l0, upFrom_length]; rw [if_neg (by omega)]
    · have e : wrap64 ((i : Int) + 1) = (i : Int) + 1 := w64 (by omega) (by omega)
      have e2 : wrap64 (a + (i : Int) + 1) = a + ((i + 1 : Nat) : Int) := by rw [w64 (by omega) (by omega)]; omega
      simp only [laws_heldIntS.l0, upFrom_length]; rw [if_pos (by omega), if_pos (by omega), rd_nat, upFrom_getD n a i hi, if_pos rfl, e, e2]; rfl
  refine E.same fun m e => ?_
  simp at e
  exact e

theorem law : laws_FnExactUsefulLess.Pure := by
  intro l m0 hm
  intros
  by_cases hb : 1048576 < l.length
  · exact ⟨0, by simp [laws_FnExactUsefulLess.f, laws_szState.big l m0 hm hb]⟩
  have hvl : (ulV l m0).1.length ≤ 10000000 := by
    unfold ulV
    split
    · have := uselV_length l (l.length - 1)
      show (uselV l (l.length - 1)).length ≤ _
      omega
    · simp
  have S := spec_UsefulLess.ev l m0 (by omega)
  have I := impl_UsefulLess.ev l m0 (by omega)
  generalize (ulV l m0) = v at *
  obtain ⟨v, b⟩ := v
  simp only at hvl
  have hneg_v : ¬ (1 + (v.length : Int) < 0) := by omega
  obtain ⟨m, h⟩ := (((S).and ((I).and ((laws_toState.ev l m0 (by omega)).and ((laws_eqState.ev l m0 (by omega)).and ((laws_markState.ev l m0 1 (by omega) (by omega) (by omega)).and ((laws_eqIntS.ev v (by omega)).and ((laws_markIntS.ev v 1 (by omega) (by omega) (by omega)).and (laws_heldIntS.ev v.length 1 (by omega) (by omega) (by omega)).evt)))))))).shift
  have h0 := fun j => (h j).1
  have h1 := fun j => (h j).2.1
  have h2 := fun j => (h j).2.2.1
  have h3 := fun j => (h j).2.2.2.1
  have h4 := fun j => (h j).2.2.2.2.1
  have h5 := fun j => (h j).2.2.2.2.2.1
  have h6 := fun j => (h j).2.2.2.2.2.2.1
  have h7 := fun j => (h j).2.2.2.2.2.2.2
  refine ⟨m + 7, ?_⟩
  simp [laws_FnExactUsefulLess.f, laws_FnExactUsefulLess.j0, laws_FnExactUsefulLess.j1, laws_FnExactUsefulLess.j2, h0, h1, h2, h3, h4, h5, h6, h7, laws_szState.small l m0 hm hb, show ¬ (1048576 - (l.length : Int) < 0) by omega, show ¬ (1 + (l.length : Int) < 0) by omega, hneg_v]

end Go.Proofs.Ytlmcoaencmfdfaa.PFnExactUsefulLess
