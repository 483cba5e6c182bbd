/- The plain law behind the statement FnExactRoomOf: what the Go functions' Lean forms come to. Written for this work; no condition. -/
import Derived.Test.YtamoldckpoengaaPFnExactRoomOfx
import Derived.Test.YtamoldckpoengaaLib2
set_option linter.unusedVariables false
set_option linter.unusedSimpArgs false
namespace Go.Proofs.Ytamoldckpoengaa.PFnExactRoomOf
open Go.RowKit Go.Proofs.YtamoldckpoengaaW.PrintWords Go.Proofs.YtamoldckpoengaaW.PrintLast Go.Proofs.YtamoldckpoengaaW.PrintMore Go.Proofs.Ytamoldckpoengaa.Lib

theorem laws_szIntS.eq (l : List Int) (a : Int) (h : l.length ≤ maxLen) (h0 : 0 ≤ a) (h1 : a ≤ 1048576) : laws_szIntS.f l a = some (if a < (l.length : Int) then -1 else a - (l.length : Int)) := by
  unfold maxLen at h
  unfold laws_szIntS.f; rw [w64 (by omega) (by omega)]
  by_cases hb : a < l.length
  · rw [if_pos (by omega), if_pos hb]
  · rw [if_neg (by omega), if_neg hb]

theorem laws_szState.big (l : List Int) (m : Int) (h : l.length ≤ maxLen) (hb : 1048576 < l.length) : laws_szState.f l m 1048576 = some (-1) := by
  unfold laws_szState.f; rw [laws_szIntS.eq l _ h (by omega) (by omega), if_pos (by omega)]; rfl
theorem laws_szState.small (l : List Int) (m : Int) (h : l.length ≤ maxLen) (hb : ¬ 1048576 < l.length) : laws_szState.f l m 1048576 = some (1048576 - (l.length : Int)) := by
  unfold laws_szState.f; rw [laws_szIntS.eq l _ h (by omega) (by omega), if_neg (by omega), Option.bind_some, if_neg (by omega)]

theorem laws_toIntS.ev (l : List Int) (h : l.length ≤ 35184372088832) : Stops (fun k => laws_toIntS.f k l) l := by
  have E : Stops (fun k => laws_toIntS.l0 k l (List.replicate l.length 0) 0) l := by
    refine Stops.count (g := fun k (s : List Int × Int) => laws_toIntS.l0 k l s.1 s.2) (fun i => (l.take i ++ List.replicate (l.length - i) 0, (i : Int))) l.length (Stops.now1 fun m => ?_) fun i hi m => ?_
    · simp only [laws_toIntS.l0]; rw [if_neg (by omega)]; simp
    · have e : wrap64 ((i : Int) + 1) = (i : Int) + 1 := w64 (by omega) (by omega)
      have hl : ((l.take i ++ List.replicate (l.length - i) (0 : Int)).length : Int) = l.length := by simp; omega
      simp only [laws_toIntS.l0]; rw [if_pos (by omega), if_pos (by omega), hl, if_pos (by omega), e, rd_at l i hi, Int.toNat_natCast, set_fill l i hi]; rfl
  refine E.same fun m a => ?_
  simp only [laws_toIntS.f, Int.toNat_natCast]; rw [if_pos (by omega), if_pos h]; exact a

theorem laws_toState.ev (l : List Int) (m : Int) (h : l.length ≤ 35184372088832) : Stops (fun k => laws_toState.f k l m) (l, m) := by
  refine (laws_toIntS.ev l h).same fun k e => ?_
  simp [laws_toState.f, e]

theorem laws_eqIntS.ev (l : List Int) (h : l.length ≤ 35184372088832) : Stops (fun k => laws_eqIntS.f k l l) true := by
  have E : Stops (fun k => laws_eqIntS.l0 k l l 0) true := by
    refine Stops.count (g := fun k (s : Int) => laws_eqIntS.l0 k l l s) (fun i => (i : Int)) l.length (Stops.now1 fun m => ?_) fun i hi m => ?_
    · simp only [laws_eqIntS.l0]; rw [if_neg (by omega)]
    · have e : wrap64 ((i : Int) + 1) = (i : Int) + 1 := w64 (by omega) (by omega)
      rw [laws_eqIntS.l0, if_pos (by omega), if_pos (by omega), if_pos (by omega), if_pos rfl, e]; rfl
  refine E.same fun m a => ?_
  simp only [laws_eqIntS.f, if_true]; exact a

theorem laws_eqState.ev (l : List Int) (m : Int) (h : l.length ≤ 35184372088832) : Stops (fun k => laws_eqState.f k l m l m) true := by
  refine (laws_eqIntS.ev l h).same fun k e => ?_
  simp [laws_eqState.f, e]

theorem spec_l1In.eq (a b c : Int) : spec_l1In.f a b c = some (decide (b ≤ a ∧ a ≤ c)) := by
  unfold spec_l1In.f; by_cases h : b ≤ a <;> simp [h]

theorem spec_l2State.ev (l : List Int) (m : Int) (h : l.length ≤ 35184372088832) : Stops (fun k => spec_l2State.f k l m) (isSt l m) := by
  have e : isSt l m = chkV (fun x => decide (-1 ≤ x ∧ x ≤ m)) (isN l.length && isM m) 12 l 0 := by
    rw [chkV_eq _ _ _ _ _ (fun g => by rw [Bool.and_eq_true] at g; have := isN_bd g.1; omega)]
    simp [isSt, List.all_eq_not_any_not]
  rw [e]
  have E := Stops.over0 l (fun k (i : Nat) (s : Unit) => spec_l2State.l0 k (i : Int) l m) (fun t s => chkV (fun x => decide (-1 ≤ x ∧ x ≤ m)) (isN l.length && isM m) 12 t (l.length - t.length)) () ?_ ?_
  · rw [Nat.sub_self] at E; exact E
  · intro s
    refine ⟨2, fun n hn => ?_⟩
    obtain ⟨k, rfl⟩ : ∃ k, n = k + 2 := ⟨n - 2, by omega⟩
    simp only [spec_l2State.l0, spec_l2State.j1, spec_l1In.eq]; rw [if_neg (by omega), if_neg (by simp)]
    exact and_bind (isN l.length) (isM m)
  · intro i hi s A
    have ew : wrap64 ((i : Int) + 1) = ((i + 1 : Nat) : Int) := w64 (by omega) (by omega)
    have ed : l.length - (l[i] :: l.drop (i + 1)).length = i := by simp; omega
    have ed2 : l.length - (l.drop (i + 1)).length = i + 1 := by simp; omega
    have A := A ()
    simp only [ed, ed2] at A ⊢
    by_cases hc : i ≤ 12
    · by_cases hp : -1 ≤ l[i] ∧ l[i] ≤ m
      · have A1 : Stops (fun k => spec_l2State.j1 k (i : Int) true l m) (chkV (fun x => decide (-1 ≤ x ∧ x ≤ m)) (isN l.length && isM m) 12 (l[i] :: l.drop (i + 1)) i) := A.round fun k a => by
          simp only [spec_l2State.j1, rd_at l i hi, spec_l1In.eq]
          rw [if_pos trivial, if_pos (by omega), if_pos (by omega), decide_eq_true hp, Option.bind_some, if_pos (by trivial), ew, chkV, if_pos hc, if_pos (by simpa using hp)]; exact a
        exact A1.round fun k a => by
          simp only [spec_l2State.l0]; rw [if_pos (by omega), decide_eq_true (by omega)]; exact a
      · refine ⟨2, fun n hn => ?_⟩
        obtain ⟨k, rfl⟩ : ∃ k, n = k + 2 := ⟨n - 2, by omega⟩
        simp only [spec_l2State.l0, spec_l2State.j1, rd_at l i hi, spec_l1In.eq]
        rw [if_pos (by omega), decide_eq_true (show (i : Int) ≤ 12 by omega), if_pos (by trivial), if_pos (by omega), if_pos (by omega), decide_eq_false hp, Option.bind_some]; simp [chkV, hc, hp]
    · refine ⟨2, fun n hn => ?_⟩
      obtain ⟨k, rfl⟩ : ∃ k, n = k + 2 := ⟨n - 2, by omega⟩
      simp only [spec_l2State.l0, spec_l2State.j1, spec_l1In.eq]
      rw [if_pos (by omega), decide_eq_false (show ¬ (i : Int) ≤ 12 by omega), chkV, if_neg hc, if_neg (by simp)]
      exact and_bind (isN l.length) (isM m)

theorem spec_l3Ahead.eq (a : Int) : spec_l3Ahead.f a = some (isA a) := by
  unfold spec_l3Ahead.f; rw [spec_l1In.eq]; rfl

theorem spec_l3Ways.ev (q k : Int) (h0 : 0 ≤ k) (h : k ≤ 1000) : Stops (fun n => spec_l3Ways.f n q k) (waysV q k.toNat) := by
  obtain ⟨k, rfl⟩ := Int.eq_ofNat_of_zero_le h0
  rw [Int.toNat_natCast]
  refine Stops.count (g := fun n (s : Int × Int) => spec_l3Ways.l0 n q k s.1 s.2) (fun i => (waysV q i, (i : Int))) k (Stops.now1 fun m => ?_) fun i hi m => ?_
  · simp only [spec_l3Ways.l0]; rw [if_neg (by omega)]
  · have e : wrap64 ((i : Int) + 1) = (i : Int) + 1 := w64 (by omega) (by omega)
    simp only [spec_l3Ways.l0]; rw [if_pos (by omega), e, if_neg (by omega)]; rfl

theorem spec_l3Ball.ev (q k : Int) (h0 : 0 ≤ q) (h1 : q ≤ 100) (h2 : k ≤ 100) : Stops (fun n => spec_l3Ball.f n q k) (ballV q ((mn q k) + 1).toNat) := by
  have hmn : mn q k = if k < q then k else q := rfl
  generalize mn q k = d at hmn
  refine Stops.count' (g := fun n (s : Int × Int) => spec_l3Ball.l0 n q k s.1 s.2) (fun i => (ballV q i, (i : Int))) (d + 1).toNat (Stops.now1 fun m => ?_) fun i hi A => ?_
  · simp only [spec_l3Ball.l0]
    by_cases h : (((d + 1).toNat : Nat) : Int) ≤ k
    · rw [if_pos h, if_neg (by split at hmn <;> omega)]
    · rw [if_neg h]
  · refine Evt.succ (A.and (spec_l3Ways.ev q i (by omega) (by split at hmn <;> omega))) fun m ⟨a, b⟩ => ?_
    have e : wrap64 ((i : Int) + 1) = (i : Int) + 1 := w64 (by omega) (by split at hmn <;> omega)
    simp only [spec_l3Ball.l0]; rw [if_pos (by split at hmn <;> omega), if_pos (by split at hmn <;> omega), show spec_l3Ways.f m q i = _ from b, Option.bind_some, e]; exact a

theorem spec_l3Number.ev (l : List Int) (m0 k q : Int) (hs : isSt l m0 = true) (h0 : 0 ≤ k) (h1 : k < l.length) (h2 : 0 ≤ q) (h3 : q ≤ 30) : Stops (fun n => spec_l3Number.f n l m0 k q) (numW l m0 q k) := by
  have hb := isSt_bd hs
  obtain ⟨k, rfl⟩ := Int.eq_ofNat_of_zero_le h0
  have hx := hb.2.2.2 k (by omega)
  by_cases hn : rd l (k : Int) < 0
  · refine Evt.true.mono fun m _ => ?_
    simp only [spec_l3Number.f, numW]; rw [if_pos h0, if_pos h1, if_pos hn, if_pos hn]
  · have e : wrap64 (m0 - rd l (k : Int)) = m0 - rd l (k : Int) := w64 (by omega) (by omega)
    refine (spec_l3Ball.ev q (m0 - rd l (k : Int)) h2 (by omega) (by omega) ).same fun m a => ?_
    simp only [spec_l3Number.f, numW, e]; rw [if_pos h0, if_pos h1, if_neg hn, if_neg hn, a]; rfl

theorem spec_l3Weight.ev (l : List Int) (m0 q : Int) (hs : isSt l m0 = true) (h2 : 0 ≤ q) (h3 : q ≤ 30) : Stops (fun n => spec_l3Weight.f n l m0 q) (sumW l m0 q l.length) := by
  have hb := isSt_bd hs
  refine Stops.count' (g := fun k (s : Int × Int) => spec_l3Weight.l0 k q s.1 s.2 l m0) (fun i => (sumW l m0 q i, (i : Int))) l.length (Stops.now1 fun m => ?_) fun i hi A => ?_
  · simp only [spec_l3Weight.l0]; rw [if_neg (by omega)]
  · have e : wrap64 ((i : Int) + 1) = (i : Int) + 1 := w64 (by omega) (by omega)
    refine Evt.succ (A.and (spec_l3Number.ev l m0 i q hs (by omega) (by omega) h2 h3).evt) fun m ⟨a, b⟩ => ?_
    simp only [spec_l3Weight.l0]; rw [if_pos (by omega), show spec_l3Number.f m l m0 i q = _ from b, Option.bind_some, e]; exact a

theorem spec_RoomOf.ev (l : List Int) (m0 q : Int) (hl : l.length ≤ 10000000) : Stops (fun n => spec_RoomOf.f n l m0 q) (if (isSt l m0 && isA q) = true then (wrap64 (shl .i64 1 q - sumW l m0 q l.length), true) else (0, false)) := by
  cases hs : isSt l m0
  · refine (spec_l2State.ev l m0 (by omega)).same fun m a => ?_
    simp [spec_RoomOf.f, a, hs]
  · cases ha : isA q
    · refine (spec_l2State.ev l m0 (by omega)).same fun m a => ?_
      simp [spec_RoomOf.f, a, hs, spec_l3Ahead.eq, ha]
    · have hb := isA_bd ha
      refine Evt.mono ((spec_l2State.ev l m0 (by omega)).and (spec_l3Weight.ev l m0 q hs hb.1 hb.2).evt) fun m ⟨a, b⟩ => ?_
      simp [spec_RoomOf.f, a, b, hs, spec_l3Ahead.eq, ha, hb.1]

theorem impl_isAhead.eq (a : Int) : impl_isAhead.f a = some (isA a) := by
  unfold impl_isAhead.f; rw [impl_in.eq]; rfl

theorem impl_ways.ev (q k : Int) (h0 : 0 ≤ k) (h : k ≤ 1000) : Stops (fun n => impl_ways.f n q k) (waysV q k.toNat) := by
  obtain ⟨k, rfl⟩ := Int.eq_ofNat_of_zero_le h0
  rw [Int.toNat_natCast]
  refine Stops.count (g := fun n (s : Int × Int) => impl_ways.l0 n q s.1 k s.2) (fun i => (waysV q i, (i : Int))) k (Stops.now1 fun m => ?_) fun i hi m => ?_
  · simp only [impl_ways.l0]; rw [if_neg (by omega)]
  · have e : wrap64 ((i : Int) + 1) = (i : Int) + 1 := w64 (by omega) (by omega)
    simp only [impl_ways.l0]; rw [if_pos (by omega), e, if_neg (by omega)]; rfl

theorem impl_ball.ev (q k : Int) (h0 : 0 ≤ q) (h1 : q ≤ 100) (h2 : k ≤ 100) (h3 : -100 ≤ k) : Stops (fun n => impl_ball.f n q k) (ballV q ((mn q k) + 1).toNat) := by
  have hmn : mn q k = if k < q then k else q := rfl
  have hb : -100 ≤ mn q k ∧ mn q k ≤ 100 := by rw [hmn]; split <;> omega
  have e0 : wrap64 (mn q k + 1) = mn q k + 1 := w64 (by omega) (by omega)
  generalize hd : mn q k = d at *
  have E : Stops (fun n => impl_ball.l0 n q 0 (d + 1) 0) (ballV q (d + 1).toNat) := by
    refine Stops.count' (g := fun n (s : Int × Int) => impl_ball.l0 n q s.1 (d + 1) s.2) (fun i => (ballV q i, (i : Int))) (d + 1).toNat (Stops.now1 fun m => ?_) fun i hi A => ?_
    · simp only [impl_ball.l0]; rw [if_neg (by omega)]
    · refine Evt.succ (A.and (impl_ways.ev q i (by omega) (by omega))) fun m ⟨a, b⟩ => ?_
      have e : wrap64 ((i : Int) + 1) = (i : Int) + 1 := w64 (by omega) (by omega)
      simp only [impl_ball.l0]; rw [if_pos (by omega), show impl_ways.f m q i = _ from b, Option.bind_some, e]; exact a
  refine E.same fun m a => ?_
  simp only [impl_ball.f, hd, e0]; exact a

theorem impl_State_weight.ev (l : List Int) (m0 k q : Int) (hs : isSt l m0 = true) (h0 : 0 ≤ k) (h1 : k < l.length) (h2 : 0 ≤ q) (h3 : q ≤ 30) : Stops (fun n => impl_State_weight.f n l m0 k q) (numW l m0 q k) := by
  have hb := isSt_bd hs
  obtain ⟨k, rfl⟩ := Int.eq_ofNat_of_zero_le h0
  have hx := hb.2.2.2 k (by omega)
  by_cases hn : rd l (k : Int) < 0
  · refine Evt.true.mono fun m _ => ?_
    simp only [impl_State_weight.f, numW]; rw [if_pos h0, if_pos h1, if_pos hn, if_pos hn]
  · have e : wrap64 (m0 - rd l (k : Int)) = m0 - rd l (k : Int) := w64 (by omega) (by omega)
    refine (impl_ball.ev q (m0 - rd l (k : Int)) h2 (by omega) (by omega) (by omega)).same fun m a => ?_
    simp only [impl_State_weight.f, numW, e]; rw [if_pos h0, if_pos h1, if_neg hn, if_neg hn, a]; rfl

theorem impl_State_allWeight.ev (l : List Int) (m0 q : Int) (hs : isSt l m0 = true) (h2 : 0 ≤ q) (h3 : q ≤ 30) : Stops (fun n => impl_State_allWeight.f n l m0 q) (sumW l m0 q l.length) := by
  have hb := isSt_bd hs
  refine Stops.count' (g := fun k (s : Int × Int) => impl_State_allWeight.l0 k q s.1 l.length s.2 l m0) (fun i => (sumW l m0 q i, (i : Int))) l.length (Stops.now1 fun m => ?_) fun i hi A => ?_
  · simp only [impl_State_allWeight.l0]; rw [if_neg (by omega)]
  · have e : wrap64 ((i : Int) + 1) = (i : Int) + 1 := w64 (by omega) (by omega)
    refine Evt.succ (A.and (impl_State_weight.ev l m0 i q hs (by omega) (by omega) h2 h3).evt) fun m ⟨a, b⟩ => ?_
    simp only [impl_State_allWeight.l0]; rw [if_pos (by omega), show impl_State_weight.f m l m0 i q = _ from b, Option.bind_some, e]; exact a

theorem impl_StateWeight.ev (l : List Int) (m0 q : Int) (hl : l.length ≤ 10000000) : Stops (fun n => impl_StateWeight.f n l m0 q) (if (isSt l m0 && isA q) = true then (sumW l m0 q l.length, true) else (0, false)) := by
  cases hs : isSt l m0
  · refine Evt.true.mono fun m _ => ?_
    simp [impl_StateWeight.f, impl_IsState.f, hs]
  · cases ha : isA q
    · refine Evt.true.mono fun m _ => ?_
      simp [impl_StateWeight.f, impl_IsState.f, hs, impl_isAhead.eq, ha]
    · have hb := isA_bd ha
      refine (impl_State_allWeight.ev l m0 q hs hb.1 hb.2).same fun m b => ?_
      simp [impl_StateWeight.f, impl_IsState.f, b, hs, impl_isAhead.eq, ha]

theorem impl_RoomOf.ev (l : List Int) (m0 q : Int) (hl : l.length ≤ 10000000) : Stops (fun n => impl_RoomOf.f n l m0 q) (if (isSt l m0 && isA q) = true then (wrap64 (shl .i64 1 q - sumW l m0 q l.length), true) else (0, false)) := by
  refine (impl_StateWeight.ev l m0 q hl).same fun m b => ?_
  cases h : (isSt l m0 && isA q)
  · rw [h] at b
    simp [impl_RoomOf.f, b]
  · rw [h] at b
    rw [Bool.and_eq_true] at h
    have hb := isA_bd h.2
    simp [impl_RoomOf.f, b, hb.1]

theorem law : laws_FnExactRoomOf.Pure := by
  intro l m0 q hm
  intros
  by_cases hb : 1048576 < l.length
  · exact ⟨0, by simp [laws_FnExactRoomOf.f, laws_szState.big l m0 hm hb]⟩
  have S := spec_RoomOf.ev l m0 q (by omega)
  have I := impl_RoomOf.ev l m0 q (by omega)
  generalize (if (isSt l m0 && isA q) = true then (wrap64 (shl .i64 1 q - sumW l m0 q l.length), true) else (0, false)) = v at *
  obtain ⟨m, h⟩ := (((S).and ((I).and ((laws_toState.ev l m0 (by omega)).and (laws_eqState.ev l m0 (by omega)).evt)))).shift
  have h0 := fun j => (h j).1
  have h1 := fun j => (h j).2.1
  have h2 := fun j => (h j).2.2.1
  have h3 := fun j => (h j).2.2.2
  refine ⟨m + 7, ?_⟩
  simp [laws_FnExactRoomOf.f, laws_FnExactRoomOf.j0, h0, h1, h2, h3, laws_szState.small l m0 hm hb, show ¬ (1048576 - (l.length : Int) < 0) by omega]

end Go.Proofs.Ytamoldckpoengaa.PFnExactRoomOf
