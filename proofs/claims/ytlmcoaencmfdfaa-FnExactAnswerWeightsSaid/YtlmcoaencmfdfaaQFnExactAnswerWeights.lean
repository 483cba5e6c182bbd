/- The plain law behind the statement FnExactAnswerWeights: what the Go functions' Lean forms come to. Written for this work; no condition. -/
import Derived.Test.YtlmcoaencmfdfaaPFnExactAnswerWeightsx
import Derived.Test.YtlmcoaencmfdfaaLib2
set_option linter.unusedVariables false
set_option linter.unusedSimpArgs false
namespace Go.Proofs.Ytlmcoaencmfdfaa.PFnExactAnswerWeights
open Go.RowKit Go.Proofs.YtlmcoaencmfdfaaW.PrintWords Go.Proofs.YtlmcoaencmfdfaaW.PrintLast Go.Proofs.YtlmcoaencmfdfaaW.PrintMore Go.Proofs.Ytlmcoaencmfdfaa.Lib


theorem laws_szIntS.eq (l : List Int) (a : Int) (h : l.length ≤ maxLen) (h0 : 0 ≤ a) (h1 : a ≤ 1048576) : laws_szIntS.f l a = some (if a < (l.length : Int) then -1 else a - (l.length : Int)) := by
  unfold maxLen at h
  unfold laws_szIntS.f; rw [w64 (by omega) (by omega)]
  by_cases hb : a < l.length
  · rw [if_pos (by omega), if_pos hb]
  · rw [if_neg (by omega), if_neg hb]

theorem laws_szState.big (l : List Int) (m : Int) (h : l.length ≤ maxLen) (hb : 1048576 < l.length) : laws_szState.f l m 1048576 = some (-1) := by
  unfold laws_szState.f; rw [laws_szIntS.eq l _ h (by omega) (by omega), if_pos (by omega)]; rfl
theorem laws_szState.small (l : List Int) (m : Int) (h : l.length ≤ maxLen) (hb : ¬ 1048576 < l.length) : laws_szState.f l m 1048576 = some (1048576 - (l.length : Int)) := by
  unfold laws_szState.f; rw [laws_szIntS.eq l _ h (by omega) (by omega), if_neg (by omega), Option.bind_some, if_neg (by omega)]

theorem laws_toIntS.ev (l : List Int) (h : l.length ≤ 35184372088832) : Stops (fun k => laws_toIntS.f k l) l := by
  have E : Stops (fun k => laws_toIntS.l0 k l (List.replicate l.length 0) 0) l := by
    refine Stops.count (g := fun k (s : List Int × Int) => laws_toIntS.l0 k l s.1 s.2) (fun i => (l.take i ++ List.replicate (l.length - i) 0, (i : Int))) l.length (Stops.now1 fun m => ?_) fun i hi m => ?_
    · simp only [laws_toIntS.l0]; rw [if_neg (by omega)]; simp
    · have e : wrap64 ((i : Int) + 1) = (i : Int) + 1 := w64 (by omega) (by omega)
      have hl : ((l.take i ++ List.replicate (l.length - i) (0 : Int)).length : Int) = l.length := by simp; omega
      simp only [laws_toIntS.l0]; rw [if_pos (by omega), if_pos (by omega), hl, if_pos (by omega), e, rd_at l i hi, Int.toNat_natCast, set_fill l i hi]; rfl
  refine E.same fun m a => ?_
  simp only [laws_toIntS.f, Int.toNat_natCast]; rw [if_pos (by omega), if_pos h]; exact a

theorem laws_toState.ev (l : List Int) (m : Int) (h : l.length ≤ 35184372088832) : Stops (fun k => laws_toState.f k l m) (l, m) := by
  refine (laws_toIntS.ev l h).same fun k e => ?_
  simp [laws_toState.f, e]

theorem laws_eqIntS.ev (l : List Int) (h : l.length ≤ 35184372088832) : Stops (fun k => laws_eqIntS.f k l l) true := by
  have E : Stops (fun k => laws_eqIntS.l0 k l l 0) true := by
    refine Stops.count (g := fun k (s : Int) => laws_eqIntS.l0 k l l s) (fun i => (i : Int)) l.length (Stops.now1 fun m => ?_) fun i hi m => ?_
    · simp only [laws_eqIntS.l0]; rw [if_neg (by omega)]
    · have e : wrap64 ((i : Int) + 1) = (i : Int) + 1 := w64 (by omega) (by omega)
      rw [laws_eqIntS.l0, if_pos (by omega), if_pos (by omega), if_pos (by omega), if_pos rfl, e]; rfl
  refine E.same fun m a => ?_
  simp only [laws_eqIntS.f, if_true]; exact a

theorem laws_eqState.ev (l : List Int) (m : Int) (h : l.length ≤ 35184372088832) : Stops (fun k => laws_eqState.f k l m l m) true := by
  refine (laws_eqIntS.ev l h).same fun k e => ?_
  simp [laws_eqState.f, e]

theorem spec_l1In.eq (a b c : Int) : spec_l1In.f a b c = some (decide (b ≤ a ∧ a ≤ c)) := by
  unfold spec_l1In.f; by_cases h : b ≤ a <;> simp [h]

theorem spec_l2Numbers.eq (a : Int) : spec_l2Numbers.f a = some (isN a) := by
  unfold spec_l2Numbers.f; rw [spec_l1In.eq]; rfl

theorem spec_l2Asks.eq (n q : Int) : spec_l2Asks.f n q = some (isQ n q) := by
  unfold spec_l2Asks.f isQ; rw [spec_l2Numbers.eq, spec_l1In.eq]
  cases h : isN n
  · simp
  · have := isN_bd h
    simp [show 0 ≤ n by omega]

theorem spec_l2Question.eq (l : List Int) (m0 q : Int) : spec_l2Question.f l m0 q = some (isQ l.length q) := by
  unfold spec_l2Question.f; rw [spec_l2Asks.eq]; rfl

theorem spec_l2State.ev (l : List Int) (m : Int) (h : l.length ≤ 35184372088832) : Stops (fun k => spec_l2State.f k l m) (isSt l m) := by
  have e : isSt l m = chkV (fun x => decide (-1 ≤ x ∧ x ≤ m)) (isN l.length && isM m) 12 l 0 := by
    rw [chkV_eq _ _ _ _ _ (fun g => by rw [Bool.and_eq_true] at g; have := isN_bd g.1; omega)]
    simp [isSt, List.all_eq_not_any_not]
  rw [e]
  have E := Stops.over0 l (fun k (i : Nat) (s : Unit) => spec_l2State.l0 k (i : Int) l m) (fun t s => chkV (fun x => decide (-1 ≤ x ∧ x ≤ m)) (isN l.length && isM m) 12 t (l.length - t.length)) () ?_ ?_
  · rw [Nat.sub_self] at E; exact E
  · intro s
    refine ⟨2, fun n hn => ?_⟩
    obtain ⟨k, rfl⟩ : ∃ k, n = k + 2 := ⟨n - 2, by omega⟩
    simp only [spec_l2State.l0, spec_l2State.j1, spec_l1In.eq]; rw [if_neg (by omega), if_neg (by simp)]
    exact and_bind (isN l.length) (isM m)
  · intro i hi s A
    have ew : wrap64 ((i : Int) + 1) = ((i + 1 : Nat) : Int) := w64 (by omega) (by omega)
    have ed : l.length - (l[i] :: l.drop (i + 1)).length = i := by simp; omega
    have ed2 : l.length - (l.drop (i + 1)).length = i + 1 := by simp; omega
    have A := A ()
    simp only [ed, ed2] at A ⊢
    by_cases hc : i ≤ 12
    · by_cases hp : -1 ≤ l[i] ∧ l[i] ≤ m
      · have A1 : Stops (fun k => spec_l2State.j1 k (i : Int) true l m) (chkV (fun x => decide (-1 ≤ x ∧ x ≤ m)) (isN l.length && isM m) 12 (l[i] :: l.drop (i + 1)) i) := A.round fun k a => by
          simp only [spec_l2State.j1, rd_at l i hi, spec_l1In.eq]
          rw [if_pos trivial, if_pos (by omega), if_pos (by omega), decide_eq_true hp, Option.bind_some, if_pos (by trivial), ew, chkV, if_pos hc, if_pos (by simpa using hp)]; exact a
        exact A1.round fun k a => by
          simp only [spec_l2State.l0]; rw [if_pos (by omega), decide_eq_true (by omega)]; exact a
      · refine ⟨2, fun n hn => ?_⟩
        obtain ⟨k, rfl⟩ : ∃ k, n = k + 2 := ⟨n - 2, by omega⟩
        simp only [spec_l2State.l0, spec_l2State.j1, rd_at l i hi, spec_l1In.eq]
        rw [if_pos (by omega), decide_eq_true (show (i : Int) ≤ 12 by omega), if_pos (by trivial), if_pos (by omega), if_pos (by omega), decide_eq_false hp, Option.bind_some]; simp [chkV, hc, hp]
    · refine ⟨2, fun n hn => ?_⟩
      obtain ⟨k, rfl⟩ : ∃ k, n = k + 2 := ⟨n - 2, by omega⟩
      simp only [spec_l2State.l0, spec_l2State.j1, spec_l1In.eq]
      rw [if_pos (by omega), decide_eq_false (show ¬ (i : Int) ≤ 12 by omega), chkV, if_neg hc, if_neg (by simp)]
      exact and_bind (isN l.length) (isM m)

theorem spec_l3Asks.ev (l : List Int) (m q : Int) (h : l.length ≤ 35184372088832) : Stops (fun k => spec_l3Asks.f k l m q) (isSt l m && decide (1 ≤ q ∧ q ≤ 30)) := (spec_l2State.ev l m h).same fun k a => by
  simp only [spec_l3Asks.f, a, spec_l1In.eq, Option.bind_some]
  cases isSt l m <;> simp

theorem spec_l1Own.eq (l : List Int) (h : l.length ≤ 10000000) : spec_l1Own.f l = some l := by
  unfold spec_l1Own.f
  rw [Option.bind_some, if_pos (by simp; omega), List.nil_append]

theorem spec_l2False.eq (q : Int) (b : Bool) (k : Int) (h : 0 ≤ k) : spec_l2False.f q b k = some (b != hasB q k) := by
  unfold spec_l2False.f; rw [if_pos h]; rfl

theorem spec_l2After.ev (l : List Int) (m q : Int) (y : Bool) (h : l.length ≤ 10000000) : Stops (fun k => spec_l2After.f k l m q y) (aftV q y m l, m) := by
  have E : Stops (fun k => spec_l2After.l0 k q y 0 l m l m) (aftV q y m l, m) := by
    refine Stops.count' (g := fun k (s : List Int × Int) => spec_l2After.l0 k q y s.2 l m s.1 m) (fun i => (aftN (fun k => y != hasB q k) m l i, (i : Int))) l.length (Stops.now1 fun k => ?_) fun i hi A => ?_
    · have := aftN_length (fun k => y != hasB q k) m l l.length
      simp only [spec_l2After.l0]; rw [if_neg (by omega)]; rfl
    · have ew : wrap64 ((i : Int) + 1) = ((i + 1 : Nat) : Int) := w64 (by omega) (by omega)
      have hlen := aftN_length (fun k => y != hasB q k) m l i
      have A1 : Stops (fun k => spec_l2After.j1 k q y (i : Int) (decide (rd (aftN (fun k => y != hasB q k) m l i) i ≥ 0) && (y != hasB q i)) l m (aftN (fun k => y != hasB q k) m l i) m) (aftV q y m l, m) := A.round fun k a => by
        simp only [spec_l2After.j1, ew, Int.toNat_natCast, Option.bind_some]
        simp only [aftN, aft1] at a
        by_cases hc : (decide (rd (aftN (fun k => y != hasB q k) m l i) i ≥ 0) && (y != hasB q i)) = true
        · rw [if_pos hc] at a ⊢
          rw [if_pos (by omega), if_pos (by omega)]
          split at a
          · rename_i hg; rw [if_pos hg]; exact a
          · rename_i hg; rw [if_neg hg]; exact a
        · rw [if_neg hc] at a ⊢
          exact a
      refine A1.round fun k a => ?_
      simp only [spec_l2After.l0]
      rw [if_pos (by omega), if_pos (by omega)]
      by_cases hg : rd (aftN (fun k => y != hasB q k) m l i) i ≥ 0
      · rw [if_pos hg, spec_l2False.eq q y i (by omega), Option.bind_some]
        rw [decide_eq_true hg, Bool.true_and] at a
        exact a
      · rw [if_neg hg]
        rw [decide_eq_false hg, Bool.false_and] at a
        exact a
  refine E.same fun k e => ?_
  simp only [spec_l2After.f, spec_l1Own.eq l h, Option.bind_some]
  exact e

theorem spec_l3Ways.ev (q k : Int) (h0 : 0 ≤ k) (h : k ≤ 1000) : Stops (fun n => spec_l3Ways.f n q k) (waysV q k.toNat) := by
  obtain ⟨k, rfl⟩ := Int.eq_ofNat_of_zero_le h0
  rw [Int.toNat_natCast]
  refine Stops.count (g := fun n (s : Int × Int) => spec_l3Ways.l0 n q k s.1 s.2) (fun i => (waysV q i, (i : Int))) k (Stops.now1 fun m => ?_) fun i hi m => ?_
  · simp only [spec_l3Ways.l0]; rw [if_neg (by omega)]
  · have e : wrap64 ((i : Int) + 1) = (i : Int) + 1 := w64 (by omega) (by omega)
    simp only [spec_l3Ways.l0]; rw [if_pos (by omega), e, if_neg (by omega)]; rfl

theorem spec_l3Ball.ev (q k : Int) (h0 : 0 ≤ q) (h1 : q ≤ 100) (h2 : k ≤ 100) : Stops (fun n => spec_l3Ball.f n q k) (ballV q ((mn q k) + 1).toNat) := by
  have hmn : mn q k = if k < q then k else q := rfl
  generalize mn q k = d at hmn
  refine Stops.count' (g := fun n (s : Int × Int) => spec_l3Ball.l0 n q k s.1 s.2) (fun i => (ballV q i, (i : Int))) (d + 1).toNat (Stops.now1 fun m => ?_) fun i hi A => ?_
  · simp only [spec_l3Ball.l0]
    by_cases h : (((d + 1).toNat : Nat) : Int) ≤ k
    · rw [if_pos h, if_neg (by split at hmn <;> omega)]
    · rw [if_neg h]
  · refine Evt.succ (A.and (spec_l3Ways.ev q i (by omega) (by split at hmn <;> omega))) fun m ⟨a, b⟩ => ?_
    have e : wrap64 ((i : Int) + 1) = (i : Int) + 1 := w64 (by omega) (by split at hmn <;> omega)
    simp only [spec_l3Ball.l0]; rw [if_pos (by split at hmn <;> omega), if_pos (by split at hmn <;> omega), show spec_l3Ways.f m q i = _ from b, Option.bind_some, e]; exact a

theorem spec_l3Number.ev (l : List Int) (m0 k q : Int) (hs : isSt l m0 = true) (h0 : 0 ≤ k) (h1 : k < l.length) (h2 : 0 ≤ q) (h3 : q ≤ 30) : Stops (fun n => spec_l3Number.f n l m0 k q) (numW l m0 q k) := by
  have hb := isSt_bd hs
  obtain ⟨k, rfl⟩ := Int.eq_ofNat_of_zero_le h0
  have hx := hb.2.2.2 k (by omega)
  by_cases hn : rd l (k : Int) < 0
  · refine Evt.true.mono fun m _ => ?_
    simp only [spec_l3Number.f, numW]; rw [if_pos h0, if_pos h1, if_pos hn, if_pos hn]
  · have e : wrap64 (m0 - rd l (k : Int)) = m0 - rd l (k : Int) := w64 (by omega) (by omega)
    refine (spec_l3Ball.ev q (m0 - rd l (k : Int)) h2 (by omega) (by omega) ).same fun m a => ?_
    simp only [spec_l3Number.f, numW, e]; rw [if_pos h0, if_pos h1, if_neg hn, if_neg hn, a]; rfl

theorem spec_l3Weight.ev (l : List Int) (m0 q : Int) (hs : isSt l m0 = true) (h2 : 0 ≤ q) (h3 : q ≤ 30) : Stops (fun n => spec_l3Weight.f n l m0 q) (sumW l m0 q l.length) := by
  have hb := isSt_bd hs
  refine Stops.count' (g := fun k (s : Int × Int) => spec_l3Weight.l0 k q s.1 s.2 l m0) (fun i => (sumW l m0 q i, (i : Int))) l.length (Stops.now1 fun m => ?_) fun i hi A => ?_
  · simp only [spec_l3Weight.l0]; rw [if_neg (by omega)]
  · have e : wrap64 ((i : Int) + 1) = (i : Int) + 1 := w64 (by omega) (by omega)
    refine Evt.succ (A.and (spec_l3Number.ev l m0 i q hs (by omega) (by omega) h2 h3).evt) fun m ⟨a, b⟩ => ?_
    simp only [spec_l3Weight.l0]; rw [if_pos (by omega), show spec_l3Number.f m l m0 i q = _ from b, Option.bind_some, e]; exact a

theorem isSt_iff (l : List Int) (m : Int) : isSt l m = true ↔ (isN l.length && isM m) = true ∧ ∀ x ∈ l, -1 ≤ x ∧ x ≤ m := by
  unfold isSt
  rw [Bool.and_eq_true, Bool.not_eq_true', List.any_eq_false]
  simp
theorem aft1_in (p : Int → Bool) (m : Int) (i : Nat) (xs : List Int) (hm : 0 ≤ m ∧ m ≤ 2) (hi : i < xs.length) (h : ∀ x ∈ xs, -1 ≤ x ∧ x ≤ m) : ∀ x ∈ aft1 p m i xs, -1 ≤ x ∧ x ≤ m := by
  have hx : -1 ≤ rd xs i ∧ rd xs i ≤ m := by
    rw [rd_at xs i hi]
    exact h _ (List.getElem_mem hi)
  have hw : wrap64 (rd xs i + 1) = rd xs i + 1 := w64 (by omega) (by omega)
  have hr : rd (xs.set i (wrap64 (rd xs i + 1))) i = rd xs i + 1 := by
    rw [rd_at _ i (by rw [List.length_set]; exact hi), List.getElem_set_self, hw]
  intro x hxm
  unfold aft1 at hxm
  split at hxm
  · rename_i hc
    simp only [Bool.and_eq_true, decide_eq_true_eq] at hc
    split at hxm
    · rcases List.mem_or_eq_of_mem_set hxm with g | g
      · rename_i hg
        rw [hr] at hg
        rcases List.mem_or_eq_of_mem_set g with g2 | g2
        · exact h x g2
        · exfalso
          -- the mark that is too great has been written over
          obtain ⟨j, hj, e⟩ := List.mem_iff_getElem.1 hxm
          rw [List.getElem_set] at e
          split at e
          · omega
          · rename_i hne
            rw [List.getElem_set_ne hne] at e
            have hj2 : j < xs.length := by simpa using hj
            have := h (xs[j]'hj2) (List.getElem_mem hj2)
            rw [e] at this
            omega
      · omega
    · rename_i hg
      rw [hr] at hg
      rcases List.mem_or_eq_of_mem_set hxm with g | g
      · exact h x g
      · rw [hw] at g; omega
  · exact h x hxm
theorem isSt_after (l : List Int) (m a : Int) (y : Bool) (hs : isSt l m = true) : isSt (aftV a y m l) m = true := by
  have hb := isSt_bd hs
  have h := (isSt_iff l m).1 hs
  refine (isSt_iff _ _).2 ⟨by rw [aftV_length]; exact h.1, ?_⟩
  unfold aftV
  have G : ∀ n, n ≤ l.length → ∀ x ∈ aftN (fun k => y != hasB a k) m l n, -1 ≤ x ∧ x ≤ m := by
    intro n
    induction n with
    | zero => intro _; exact h.2
    | succ n ih =>
      intro hn
      exact aft1_in _ m n _ hb.2.2.1 (by rw [aftN_length]; omega) (ih (by omega))
  exact G _ (Nat.le_refl _)
/-- The weight behind an answer. -/
def wtY (l : List Int) (m a q : Int) (y : Bool) : Int := sumW (aftV a y m l) m (wrap64 (q - 1)) l.length
def grtV (l : List Int) (m a q : Int) : Int := mx (wtY l m a q true) (wtY l m a q false)
theorem spec_l3Answers.ev (l : List Int) (m a q : Int) (hs : isSt l m = true) (hq : 1 ≤ q ∧ q ≤ 30) : Stops (fun k => spec_l3Answers.f k l m a q) (wtY l m a q true, wtY l m a q false) := by
  have hb := isSt_bd hs
  have e : wrap64 (q - 1) = q - 1 := w64 (by omega) (by omega)
  have W := fun y => spec_l3Weight.ev (aftV a y m l) m (wrap64 (q - 1)) (isSt_after l m a y hs) (by omega) (by omega)
  refine ((spec_l2After.ev l m a true (by omega)).and ((spec_l2After.ev l m a false (by omega)).and ((W true).and (W false).evt))).mono fun k ⟨a1, a2, a3, a4⟩ => ?_
  simp only [spec_l3Answers.f, a1, a2, a3, a4, Option.bind_some, wtY, aftV_length]
theorem two_st {l : List Int} (hl : l.length ≤ 12) : shl .i64 1 (l.length : Int) = ((2 ^ l.length : Nat) : Int) ∧ 2 ^ l.length ≤ 4096 := by
  refine ⟨?_, ?_⟩
  · rw [shl_one (by omega) (by omega), Int.toNat_natCast]; push_cast; rfl
  · exact Nat.pow_le_pow_right (by omega) hl
def awV (l : List Int) (m a q : Int) : Int × Int × Bool := if (isSt l m && decide (1 ≤ q ∧ q ≤ 30) && isQ l.length a) = true then (wtY l m a q true, wtY l m a q false, true) else (0, 0, false)

theorem spec_AnswerWeights.ev (l : List Int) (m a q : Int) (h : l.length ≤ 10000000) : Stops (fun k => spec_AnswerWeights.f k l m a q) (awV l m a q) := by
  unfold awV
  have S := spec_l3Asks.ev l m q (by omega)
  by_cases hc : (isSt l m && decide (1 ≤ q ∧ q ≤ 30)) = true
  · have hc' := hc
    rw [Bool.and_eq_true, decide_eq_true_eq] at hc'
    refine (S.and (spec_l3Answers.ev l m a q hc'.1 hc'.2).evt).mono fun k ⟨b, c⟩ => ?_
    rw [hc] at b
    simp only [spec_AnswerWeights.f, b, c, spec_l2Question.eq, Option.bind_some, hc, Bool.true_and, if_true]
    cases isQ l.length a <;> simp
  · refine S.same fun k b => ?_
    rw [Bool.eq_false_iff.2 hc] at b
    rw [if_neg (by rw [Bool.eq_false_iff.2 hc]; simp)]
    simp [spec_AnswerWeights.f, b]

theorem impl_isQuestion.eq (n q : Int) : impl_isQuestion.f n q = some (isQ n q) := by
  unfold impl_isQuestion.f isQ; rw [impl_isCount.eq, impl_in.eq]
  cases h : isN n
  · simp
  · have := isN_bd h
    simp [show 0 ≤ n by omega]

theorem impl_areWeights.eq (l : List Int) (m q : Int) : impl_areWeights.f l m q = some (isSt l m && decide (1 ≤ q ∧ q ≤ 30)) := by
  simp only [impl_areWeights.f, impl_IsState.f, impl_in.eq, Option.bind_some]
  cases isSt l m <;> simp

theorem slices_Clone_int_int.eq (l : List Int) (h : l.length ≤ 10000000) : slices_Clone_int_int.f l = some l := by
  unfold slices_Clone_int_int.f
  rw [Option.bind_some, if_pos (by simp; omega), List.nil_append]

theorem impl_has.eq (q k : Int) (h : 0 ≤ k) : impl_has.f q k = some (hasB q k) := by
  unfold impl_has.f; rw [if_pos h]; rfl

theorem impl_Asked_isFalse.eq (q : Int) (b : Bool) (k : Int) (h : 0 ≤ k) : impl_Asked_isFalse.f q b k = some (b != hasB q k) := by
  unfold impl_Asked_isFalse.f; rw [impl_has.eq q k h, Option.bind_some]
  cases b <;> cases hasB q k <;> rfl

theorem impl_State_after.ev (l : List Int) (m q : Int) (y : Bool) (h : l.length ≤ 10000000) : Stops (fun k => impl_State_after.f k l m (⟨q, y⟩ : S45)) (aftV q y m l, m) := by
  have E : Stops (fun k => impl_State_after.l0 k (⟨q, y⟩ : S45) l (l.length : Int) 0 l m m) (aftV q y m l, m) := by
    refine Stops.count' (g := fun k (s : List Int × Int) => impl_State_after.l0 k (⟨q, y⟩ : S45) s.1 (l.length : Int) s.2 l m m) (fun i => (aftN (fun k => y != hasB q k) m l i, (i : Int))) l.length (Stops.now1 fun k => ?_) fun i hi A => ?_
    · simp only [impl_State_after.l0]; rw [if_neg (by omega)]; rfl
    · have ew : wrap64 ((i : Int) + 1) = ((i + 1 : Nat) : Int) := w64 (by omega) (by omega)
      have hlen := aftN_length (fun k => y != hasB q k) m l i
      have A1 : Stops (fun k => impl_State_after.j1 k (⟨q, y⟩ : S45) (i : Int) (aftN (fun k => y != hasB q k) m l i) (l.length : Int) (i : Int) (decide (rd (aftN (fun k => y != hasB q k) m l i) i ≥ 0) && (y != hasB q i)) l m (aftN (fun k => y != hasB q k) m l i) m) (aftV q y m l, m) := A.round fun k a => by
        simp only [impl_State_after.j1, ew, Int.toNat_natCast]
        simp only [aftN, aft1] at a
        by_cases hc : (decide (rd (aftN (fun k => y != hasB q k) m l i) i ≥ 0) && (y != hasB q i)) = true
        · rw [if_pos hc] at a ⊢
          rw [if_pos (by omega), if_pos (by omega)]
          split at a
          · rename_i hg; rw [if_pos hg]; exact a
          · rename_i hg; rw [if_neg hg]; exact a
        · rw [if_neg hc] at a ⊢
          exact a
      refine A1.round fun k a => ?_
      simp only [impl_State_after.l0]
      rw [if_pos (by omega), if_pos (by omega), if_pos (by omega)]
      by_cases hg : rd (aftN (fun k => y != hasB q k) m l i) i ≥ 0
      · rw [if_pos hg, virtual_isFalseF.f, impl_Asked_isFalse.eq q y i (by omega), Option.bind_some]
        rw [decide_eq_true hg, Bool.true_and] at a
        exact a
      · rw [if_neg hg]
        rw [decide_eq_false hg, Bool.false_and] at a
        exact a
  refine E.same fun k e => ?_
  simp only [impl_State_after.f, slices_Clone_int_int.eq l h, Option.bind_some]
  exact e

theorem impl_State_answered.ev (l : List Int) (m q : Int) (y : Bool) (h : l.length ≤ 10000000) : Stops (fun k => impl_State_answered.f k l m q y) (aftV q y m l, m) := (impl_State_after.ev l m q y h).same fun k e => by
  simp only [impl_State_answered.f, e, Option.bind_some]

theorem impl_ways.ev (q k : Int) (h0 : 0 ≤ k) (h : k ≤ 1000) : Stops (fun n => impl_ways.f n q k) (waysV q k.toNat) := by
  obtain ⟨k, rfl⟩ := Int.eq_ofNat_of_zero_le h0
  rw [Int.toNat_natCast]
  refine Stops.count (g := fun n (s : Int × Int) => impl_ways.l0 n q s.1 k s.2) (fun i => (waysV q i, (i : Int))) k (Stops.now1 fun m => ?_) fun i hi m => ?_
  · simp only [impl_ways.l0]; rw [if_neg (by omega)]
  · have e : wrap64 ((i : Int) + 1) = (i : Int) + 1 := w64 (by omega) (by omega)
    simp only [impl_ways.l0]; rw [if_pos (by omega), e, if_neg (by omega)]; rfl

theorem impl_ball.ev (q k : Int) (h0 : 0 ≤ q) (h1 : q ≤ 100) (h2 : k ≤ 100) (h3 : -100 ≤ k) : Stops (fun n => impl_ball.f n q k) (ballV q ((mn q k) + 1).toNat) := by
  have hmn : mn q k = if k < q then k else q := rfl
  have hb : -100 ≤ mn q k ∧ mn q k ≤ 100 := by rw [hmn]; split <;> omega
  have e0 : wrap64 (mn q k + 1) = mn q k + 1 := w64 (by omega) (by omega)
  generalize hd : mn q k = d at *
  have E : Stops (fun n => impl_ball.l0 n q 0 (d + 1) 0) (ballV q (d + 1).toNat) := by
    refine Stops.count' (g := fun n (s : Int × Int) => impl_ball.l0 n q s.1 (d + 1) s.2) (fun i => (ballV q i, (i : Int))) (d + 1).toNat (Stops.now1 fun m => ?_) fun i hi A => ?_
    · simp only [impl_ball.l0]; rw [if_neg (by omega)]
    · refine Evt.succ (A.and (impl_ways.ev q i (by omega) (by omega))) fun m ⟨a, b⟩ => ?_
      have e : wrap64 ((i : Int) + 1) = (i : Int) + 1 := w64 (by omega) (by omega)
      simp only [impl_ball.l0]; rw [if_pos (by omega), show impl_ways.f m q i = _ from b, Option.bind_some, e]; exact a
  refine E.same fun m a => ?_
  simp only [impl_ball.f, hd, e0]; exact a

theorem impl_State_weight.ev (l : List Int) (m0 k q : Int) (hs : isSt l m0 = true) (h0 : 0 ≤ k) (h1 : k < l.length) (h2 : 0 ≤ q) (h3 : q ≤ 30) : Stops (fun n => impl_State_weight.f n l m0 k q) (numW l m0 q k) := by
  have hb := isSt_bd hs
  obtain ⟨k, rfl⟩ := Int.eq_ofNat_of_zero_le h0
  have hx := hb.2.2.2 k (by omega)
  by_cases hn : rd l (k : Int) < 0
  · refine Evt.true.mono fun m _ => ?_
    simp only [impl_State_weight.f, numW]; rw [if_pos h0, if_pos h1, if_pos hn, if_pos hn]
  · have e : wrap64 (m0 - rd l (k : Int)) = m0 - rd l (k : Int) := w64 (by omega) (by omega)
    refine (impl_ball.ev q (m0 - rd l (k : Int)) h2 (by omega) (by omega) (by omega)).same fun m a => ?_
    simp only [impl_State_weight.f, numW, e]; rw [if_pos h0, if_pos h1, if_neg hn, if_neg hn, a]; rfl

theorem impl_State_allWeight.ev (l : List Int) (m0 q : Int) (hs : isSt l m0 = true) (h2 : 0 ≤ q) (h3 : q ≤ 30) : Stops (fun n => impl_State_allWeight.f n l m0 q) (sumW l m0 q l.length) := by
  have hb := isSt_bd hs
  refine Stops.count' (g := fun k (s : Int × Int) => impl_State_allWeight.l0 k q s.1 l.length s.2 l m0) (fun i => (sumW l m0 q i, (i : Int))) l.length (Stops.now1 fun m => ?_) fun i hi A => ?_
  · simp only [impl_State_allWeight.l0]; rw [if_neg (by omega)]
  · have e : wrap64 ((i : Int) + 1) = (i : Int) + 1 := w64 (by omega) (by omega)
    refine Evt.succ (A.and (impl_State_weight.ev l m0 i q hs (by omega) (by omega) h2 h3).evt) fun m ⟨a, b⟩ => ?_
    simp only [impl_State_allWeight.l0]; rw [if_pos (by omega), show impl_State_weight.f m l m0 i q = _ from b, Option.bind_some, e]; exact a

theorem impl_State_weights.ev (l : List Int) (m a q : Int) (hs : isSt l m = true) (hq : 1 ≤ q ∧ q ≤ 30) : Stops (fun k => impl_State_weights.f k l m a q) (wtY l m a q true, wtY l m a q false) := by
  have hb := isSt_bd hs
  have e : wrap64 (q - 1) = q - 1 := w64 (by omega) (by omega)
  have W := fun y => impl_State_allWeight.ev (aftV a y m l) m (wrap64 (q - 1)) (isSt_after l m a y hs) (by omega) (by omega)
  refine ((impl_State_answered.ev l m a true (by omega)).and ((impl_State_answered.ev l m a false (by omega)).and ((W true).and (W false).evt))).mono fun k ⟨a1, a2, a3, a4⟩ => ?_
  simp only [impl_State_weights.f, a1, a2, a3, a4, Option.bind_some, wtY, aftV_length]

theorem impl_AnswerWeights.ev (l : List Int) (m a q : Int) : Stops (fun k => impl_AnswerWeights.f k l m a q) (awV l m a q) := by
  unfold awV
  have S := impl_areWeights.eq l m q
  by_cases hc : (isSt l m && decide (1 ≤ q ∧ q ≤ 30)) = true
  · have hc' := hc
    rw [Bool.and_eq_true, decide_eq_true_eq] at hc'
    refine (impl_State_weights.ev l m a q hc'.1 hc'.2).same fun k b => ?_
    rw [hc] at S
    simp only [impl_AnswerWeights.f, S, b, impl_isQuestion.eq, Option.bind_some, hc, Bool.true_and, if_true]
    cases isQ l.length a <;> simp
  · refine Evt.true.mono fun k _ => ?_
    rw [Bool.eq_false_iff.2 hc] at S
    rw [if_neg (by rw [Bool.eq_false_iff.2 hc]; simp)]
    simp [impl_AnswerWeights.f, S]

theorem law : laws_FnExactAnswerWeights.Pure := by
  intro l m0 a q hm
  intros
  by_cases hb : 1048576 < l.length
  · exact ⟨0, by simp [laws_FnExactAnswerWeights.f, laws_szState.big l m0 hm hb]⟩
  have S := spec_AnswerWeights.ev l m0 a q (by omega)
  have I := impl_AnswerWeights.ev l m0 a q
  generalize (awV l m0 a q) = v at *
  obtain ⟨v, u, b⟩ := v
  obtain ⟨m, h⟩ := (((S).and ((I).and ((laws_toState.ev l m0 (by omega)).and (laws_eqState.ev l m0 (by omega)).evt)))).shift
  have h0 := fun j => (h j).1
  have h1 := fun j => (h j).2.1
  have h2 := fun j => (h j).2.2.1
  have h3 := fun j => (h j).2.2.2
  refine ⟨m + 7, ?_⟩
  simp [laws_FnExactAnswerWeights.f, laws_FnExactAnswerWeights.j0, h0, h1, h2, h3, laws_szState.small l m0 hm hb, show ¬ (1048576 - (l.length : Int) < 0) by omega, laws_eqIntA2.f]

end Go.Proofs.Ytlmcoaencmfdfaa.PFnExactAnswerWeights
