/- The plain law behind the statement FnExactSchemeOf: what the Go functions' Lean forms come to. Written for this work; no condition. -/
import Derived.Test.YtmmldpmchhchoaaPFnExactSchemeOfx
import Derived.Test.YtmmldpmchhchoaaLib2
set_option linter.unusedVariables false
set_option linter.unusedSimpArgs false
namespace Go.Proofs.Ytmmldpmchhchoaa.PFnExactSchemeOf
open Go.RowKit Go.Proofs.YtmmldpmchhchoaaW.PrintWords Go.Proofs.YtmmldpmchhchoaaW.PrintLast Go.Proofs.YtmmldpmchhchoaaW.PrintMore Go.Proofs.Ytmmldpmchhchoaa.Lib

theorem laws_toIntS.ev (l : List Int) (h : l.length ≤ 35184372088832) : Stops (fun k => laws_toIntS.f k l) l := by
  have E : Stops (fun k => laws_toIntS.l0 k l (List.replicate l.length 0) 0) l := by
    refine Stops.count (g := fun k (s : List Int × Int) => laws_toIntS.l0 k l s.1 s.2) (fun i => (l.take i ++ List.replicate (l.length - i) 0, (i : Int))) l.length (Stops.now1 fun m => ?_) fun i hi m => ?_
    · simp only [laws_toIntS.l0]; rw [if_neg (by omega)]; simp
    · have e : wrap64 ((i : Int) + 1) = (i : Int) + 1 := w64 (by omega) (by omega)
      have hl : ((l.take i ++ List.replicate (l.length - i) (0 : Int)).length : Int) = l.length := by simp; omega
      simp only [laws_toIntS.l0]; rw [if_pos (by omega), if_pos (by omega), hl, if_pos (by omega), e, rd_at l i hi, Int.toNat_natCast, set_fill l i hi]; rfl
  refine E.same fun m a => ?_
  simp only [laws_toIntS.f, Int.toNat_natCast]; rw [if_pos (by omega), if_pos h]; exact a

theorem laws_eqIntS.ev (l : List Int) (h : l.length ≤ 35184372088832) : Stops (fun k => laws_eqIntS.f k l l) true := by
  have E : Stops (fun k => laws_eqIntS.l0 k l l 0) true := by
    refine Stops.count (g := fun k (s : Int) => laws_eqIntS.l0 k l l s) (fun i => (i : Int)) l.length (Stops.now1 fun m => ?_) fun i hi m => ?_
    · simp only [laws_eqIntS.l0]; rw [if_neg (by omega)]
    · have e : wrap64 ((i : Int) + 1) = (i : Int) + 1 := w64 (by omega) (by omega)
      rw [laws_eqIntS.l0, if_pos (by omega), if_pos (by omega), if_pos (by omega), if_pos rfl, e]; rfl
  refine E.same fun m a => ?_
  simp only [laws_eqIntS.f, if_true]; exact a

theorem laws_markIntS.ev (l : List Int) (a : Int) (h : l.length ≤ 35184372088832) (h0 : 0 ≤ a) (h1 : a ≤ 1000000000000000000) : Stops (fun k => laws_markIntS.f k l a) (a + l.length, upFrom a l.length) := by
  have E : Stops (fun k => laws_markIntS.l0 k (upFrom a 0 ++ l.drop 0) (a + ((0 : Nat) : Int)) ((0 : Nat) : Int)) (a + l.length, upFrom a l.length) := by
   refine Stops.count (g := fun k (s : List Int × Int × Int) => laws_markIntS.l0 k s.1 s.2.1 s.2.2) (fun i => (upFrom a i ++ l.drop i, a + i, (i : Int))) l.length (Stops.now1 fun m => ?_) fun i hi m => ?_
   · have hl : ((upFrom a l.length ++ l.drop l.length).length : Int) = l.length := by simp [upFrom_length]
     simp only [laws_markIntS.l0]; rw [if_neg (by rw [hl]; omega)]; simp
   · have e : wrap64 ((i : Int) + 1) = (i : Int) + 1 := w64 (by omega) (by omega)
     have e2 : wrap64 (a + (i : Int) + 1) = a + ((i + 1 : Nat) : Int) := by rw [w64 (by omega) (by omega)]; omega
     have hl : ((upFrom a i ++ l.drop i).length : Int) = l.length := by simp [upFrom_length]; omega
     simp only [laws_markIntS.l0]; rw [if_pos (by rw [hl]; omega), if_pos (by omega), e, e2, Int.toNat_natCast, set_split l i (upFrom a i) (a + i) (upFrom_length i a) hi, ← upFrom_append]; rfl
  refine E.same fun m e => ?_
  simp [upFrom] at e
  exact e

theorem laws_heldIntS.ev (n : Nat) (a : Int) (h : n ≤ 35184372088832) (h0 : 0 ≤ a) (h1 : a ≤ 1000000000000000000) : Stops (fun k => laws_heldIntS.f k (upFrom a n) a) (a + n) := by
  have E : Stops (fun k => laws_heldIntS.l0 k (upFrom a n) (a + ((0 : Nat) : Int)) ((0 : Nat) : Int)) (a + n) := by
    refine Stops.count (g := fun k (s : Int × Int) => laws_heldIntS.l0 k (upFrom a n) s.1 s.2) (fun i => (a + (i : Int), (i : Int))) n (Stops.now1 fun m => ?_) fun i hi m => ?_
    · simp only [laws_heldIntS.l0, upFrom_length]; rw [if_neg (by omega)]
    · have e : wrap64 ((i : Int) + 1) = (i : Int) + 1 := w64 (by omega) (by omega)
      have e2 : wrap64 (a + (i : Int) + 1) = a + ((i + 1 : Nat) : Int) := by rw [w64 (by omega) (by omega)]; omega
      simp only [laws_heldIntS.l0, upFrom_length]; rw [if_pos (by omega), if_pos (by omega), rd_nat, upFrom_getD n a i hi, if_pos rfl, e, e2]; rfl
  refine E.same fun m e => ?_
  simp at e
  exact e

theorem spec_l1In.eq (a b c : Int) : spec_l1In.f a b c = some (decide (b ≤ a ∧ a ≤ c)) := by
  unfold spec_l1In.f; by_cases h : b ≤ a <;> simp [h]

theorem spec_l2Numbers.eq (a : Int) : spec_l2Numbers.f a = some (isN a) := by
  unfold spec_l2Numbers.f; rw [spec_l1In.eq]; rfl

theorem spec_l5Word.eq (x q : Int) (h : 0 ≤ q) : spec_l5Word.f x q = some (decide (0 ≤ x ∧ x ≤ wrap64 (shl .i64 1 q - 1))) := by
  unfold spec_l5Word.f; rw [if_pos h, spec_l1In.eq]; rfl

theorem spec_l5Of.ev (l : List Int) (q : Int) (h0 : 0 ≤ q) (h1 : q ≤ 1000) (hl : l.length ≤ 35184372088832) : Stops (fun k => spec_l5Of.f k l q) (colsV l q.toNat l.length) := by
  obtain ⟨q, rfl⟩ := Int.eq_ofNat_of_zero_le h0
  rw [Int.toNat_natCast]
  have E : Stops (fun k => spec_l5Of.l0 k l q (mixV l q l.length 0 0) ((0 : Nat) : Int)) (colsV l q l.length) := by
    refine Stops.count' (g := fun k (s : List Int × Int) => spec_l5Of.l0 k l q s.1 s.2) (fun i => (mixV l q l.length 0 i, (i : Int))) q (Stops.now1 fun m => ?_) fun i hi A => ?_
    · simp only [spec_l5Of.l0]; rw [if_neg (by omega), mixV_all]
    · have e : wrap64 ((i : Int) + 1) = (i : Int) + 1 := w64 (by omega) (by omega)
      have I : Stops (fun k => spec_l5Of.l1 k l q ((mixV l q l.length 0 i).set i (colV l (i : Nat) 0)) i ((0 : Nat) : Int)) (colsV l q l.length) := by
        refine Stops.count' (g := fun k (s : List Int × Int) => spec_l5Of.l1 k l q s.1 i s.2) (fun n => ((mixV l q l.length 0 i).set i (colV l (i : Nat) n), (n : Int))) l.length (A.round fun m a => ?_) fun n hn B => B.round fun m b => ?_
        · simp only [spec_l5Of.l1]; rw [if_neg (by omega), mixV_set l q _ _ i hi, e]; exact a
        · have e2 : wrap64 ((n : Int) + 1) = (n : Int) + 1 := w64 (by omega) (by omega)
          have hlen : (((mixV l q l.length 0 i).set i (colV l (i : Nat) n)).length : Int) = q := by rw [List.length_set, mixV_length]
          have hrd : rd ((mixV l q l.length 0 i).set i (colV l (i : Nat) n)) (i : Int) = colV l (i : Nat) n := by
            rw [rd_nat, List.getD_eq_getElem?_getD, List.getElem?_set_self (by rw [mixV_length]; exact hi)]; rfl
          simp only [spec_l5Of.l1]
          rw [if_pos (by omega), if_pos (by omega), if_pos (by rw [hlen]; omega), if_pos (by omega), hrd, rd_nat, Int.toNat_natCast, colV_step, List.set_set, e2]; exact b
      rw [show colV l (i : Nat) 0 = 0 from rfl, show (0 : Int) = colV l (i : Nat) 0 from rfl, mixV_same l q _ _ i hi] at I
      refine I.round fun m a => ?_
      simp only [spec_l5Of.l0]; rw [if_pos (by omega)]; exact a
  rw [mixV_zero, colsV_zero] at E
  refine E.same fun m a => ?_
  simp only [spec_l5Of.f, Int.toNat_natCast]; rw [if_pos (by omega), if_pos (by omega)]; exact a

theorem spec_SchemeOf.ev (l : List Int) (q : Int) (hl : l.length ≤ 35184372088832) : Stops (fun k => spec_SchemeOf.f k l q) (if okSo l q = true then (colsV l q.toNat l.length, true) else ([], false)) := by
  unfold okSo
  by_cases hn : isN l.length = true
  · by_cases hq : 0 ≤ q ∧ q ≤ 14
    · have E : Stops (fun k => spec_SchemeOf.l0 k l q ((0 : Nat) : Int)) (if (l.all fun x => decide (0 ≤ x ∧ x ≤ wrap64 (shl .i64 1 q - 1))) = true then (colsV l q.toNat l.length, true) else ([], false)) := by
        refine Stops.over0 l (fun k (i : Nat) (s : Unit) => spec_SchemeOf.l0 k l q (i : Int)) (fun t s => if (t.all fun x => decide (0 ≤ x ∧ x ≤ wrap64 (shl .i64 1 q - 1))) = true then (colsV l q.toNat l.length, true) else ([], false)) () (fun s => ?_) fun i hi s A => ?_
        · refine (spec_l5Of.ev l q hq.1 (by omega) hl).round fun m a => ?_
          simp only [spec_SchemeOf.l0]; rw [if_neg (by omega), a]; simp
        · have e : wrap64 ((i : Int) + 1) = ((i + 1 : Nat) : Int) := w64 (by omega) (by omega)
          by_cases hx : 0 ≤ l[i] ∧ l[i] ≤ wrap64 (shl .i64 1 q - 1)
          · refine (A ()).round fun m a => ?_
            simp only [spec_SchemeOf.l0, rd_at l i hi, spec_l5Word.eq _ q hq.1, e, List.all_cons, decide_eq_true hx, Bool.true_and, Option.bind_some]
            rw [if_pos (by omega), if_pos (by omega), if_pos (by trivial)]; exact a
          · refine Stops.now1 fun m => ?_
            simp only [spec_SchemeOf.l0, rd_at l i hi, spec_l5Word.eq _ q hq.1, e, List.all_cons, decide_eq_false hx, Bool.false_and, Option.bind_some]
            rw [if_pos (by omega), if_pos (by omega), if_neg (by simp), if_neg (by simp)]
      refine E.round fun m a => ?_
      simp only [spec_SchemeOf.f, spec_l2Numbers.eq, spec_l1In.eq, hn, decide_eq_true hq, spec_SchemeOf.j0, Option.bind_some, if_true]
      rw [if_neg (by simp)]
      simpa [List.all_eq_not_any_not] using a
    · refine Stops.now1 fun m => ?_
      simp only [spec_SchemeOf.f, spec_l2Numbers.eq, spec_l1In.eq, hn, decide_eq_false hq, spec_SchemeOf.j0, Option.bind_some, if_true]
      simp
  · refine Stops.now1 fun m => ?_
    simp [spec_SchemeOf.f, spec_l2Numbers.eq, hn, spec_SchemeOf.j0]

theorem impl_has.eq (q k : Int) (h : 0 ≤ k) : impl_has.f q k = some (hasB q k) := by
  unfold impl_has.f; rw [if_pos h]; rfl

theorem impl_schemeOf.ev (l : List Int) (q : Int) (h0 : 0 ≤ q) (h1 : q ≤ 1000) (hl : l.length ≤ 35184372088832) : Stops (fun k => impl_schemeOf.f k l q) (colsV l q.toNat l.length) := by
  obtain ⟨q, rfl⟩ := Int.eq_ofNat_of_zero_le h0
  rw [Int.toNat_natCast]
  have E : Stops (fun k => impl_schemeOf.l0 k (colsV l q 0) l l.length ((0 : Nat) : Int)) (colsV l q l.length) := by
    refine Stops.count' (g := fun k (s : List Int × Int) => impl_schemeOf.l0 k s.1 l l.length s.2) (fun n => (colsV l q n, (n : Int))) l.length (Stops.now1 fun m => ?_) fun n hn A => ?_
    · simp only [impl_schemeOf.l0]; rw [if_neg (by omega)]
    · have e : wrap64 ((n : Int) + 1) = (n : Int) + 1 := w64 (by omega) (by omega)
      have I : Stops (fun k => impl_schemeOf.l1 k (mixV l q (n + 1) n 0) n (l.getD n 0) l l.length n q ((0 : Nat) : Int)) (colsV l q l.length) := by
        refine Stops.count' (g := fun k (s : List Int × Int) => impl_schemeOf.l1 k s.1 n (l.getD n 0) l l.length n q s.2) (fun i => (mixV l q (n + 1) n i, (i : Int))) q (A.round fun m a => ?_) fun i hi B => B.round fun m b => ?_
        · simp only [impl_schemeOf.l1]; rw [if_neg (by omega), mixV_all, e]; exact a
        · have e2 : wrap64 ((i : Int) + 1) = (i : Int) + 1 := w64 (by omega) (by omega)
          have hlen : ((mixV l q (n + 1) n i).length : Int) = q := by rw [mixV_length]
          have hrd : rd (mixV l q (n + 1) n i) (i : Int) = colV l (i : Nat) n := by
            rw [rd_nat, mixV_getD l q _ _ i i hi, if_neg (by omega)]
          simp only [impl_schemeOf.l1]
          rw [if_pos (by omega), impl_has.eq _ _ (by omega), Option.bind_some, e2]
          by_cases hb : hasB (l.getD n 0) (i : Int) = true
          · rw [if_pos hb, if_pos (by omega), if_pos (by rw [hlen]; omega), if_pos (by omega), hrd, Int.toNat_natCast]
            have hs : (mixV l q (n + 1) n i).set i (Go.bits .or .i64 (colV l (i : Nat) n) (shl .i64 1 n)) = mixV l q (n + 1) n (i + 1) := by
              rw [← mixV_set l q _ _ i hi, colV, if_pos hb]
            rw [hs]; exact b
          · have hs : mixV l q (n + 1) n i = mixV l q (n + 1) n (i + 1) := by
              rw [← mixV_set l q _ _ i hi, colV, if_neg hb, mixV_same l q _ _ i hi]
            rw [if_neg hb, hs]; exact b
      rw [mixV_zero] at I
      refine I.round fun m a => ?_
      simp only [impl_schemeOf.l0, rd_nat, colsV_length]; rw [if_pos (by omega), if_pos (by omega), if_pos (by omega)]; exact a
  rw [colsV_zero] at E
  refine E.same fun m a => ?_
  simp only [impl_schemeOf.f, Int.toNat_natCast]; rw [if_pos (by omega), if_pos (by omega)]; exact a

theorem impl_SchemeOf.ev (l : List Int) (q : Int) (hl : l.length ≤ 35184372088832) : Stops (fun k => impl_SchemeOf.f k l q) (if okSo l q = true then (colsV l q.toNat l.length, true) else ([], false)) := by
  by_cases h : okSo l q = true
  · have hq : 0 ≤ q ∧ q ≤ 14 := by
      unfold okSo at h
      simp only [Bool.and_eq_true, decide_eq_true_eq] at h
      exact h.1.2
    refine (impl_schemeOf.ev l q hq.1 (by omega) hl).same fun m a => ?_
    simp only [impl_SchemeOf.f]; rw [if_pos h, if_pos h, a]; rfl
  · refine Evt.true.mono fun m _ => ?_
    simp only [impl_SchemeOf.f]; rw [if_neg h, if_neg h]

theorem law : laws_FnExactSchemeOf.Pure := by
  intro l q0
  intros
  by_cases hb : (l.length : Int) > 1048576
  · exact ⟨0, by simp [laws_FnExactSchemeOf.f, hb]⟩
  have hvl : (if okSo l q0 = true then (colsV l q0.toNat l.length, true) else ([], false)).1.length ≤ 35184372088832 := by
    split
    · rename_i h
      unfold okSo at h
      simp only [Bool.and_eq_true, decide_eq_true_eq] at h
      rw [show (colsV l q0.toNat l.length, true).1 = colsV l q0.toNat l.length from rfl, colsV_length]
      omega
    · simp
  have S := spec_SchemeOf.ev l q0 (by omega)
  have I := impl_SchemeOf.ev l q0 (by omega)
  generalize (if okSo l q0 = true then (colsV l q0.toNat l.length, true) else ([], false)) = v at *
  obtain ⟨v, b⟩ := v
  simp only at hvl
  have hneg_v : ¬ (1 + (v.length : Int) < 0) := by omega
  obtain ⟨m, h⟩ := (((S).and ((I).and ((laws_toIntS.ev l (by omega)).and ((laws_eqIntS.ev l (by omega)).and ((laws_markIntS.ev l 1 (by omega) (by omega) (by omega)).and ((laws_eqIntS.ev v (by omega)).and ((laws_markIntS.ev v 1 (by omega) (by omega) (by omega)).and (laws_heldIntS.ev v.length 1 (by omega) (by omega) (by omega)).evt)))))))).shift
  have h0 := fun j => (h j).1
  have h1 := fun j => (h j).2.1
  have h2 := fun j => (h j).2.2.1
  have h3 := fun j => (h j).2.2.2.1
  have h4 := fun j => (h j).2.2.2.2.1
  have h5 := fun j => (h j).2.2.2.2.2.1
  have h6 := fun j => (h j).2.2.2.2.2.2.1
  have h7 := fun j => (h j).2.2.2.2.2.2.2
  refine ⟨m + 7, ?_⟩
  simp [laws_FnExactSchemeOf.f, laws_FnExactSchemeOf.j0, laws_FnExactSchemeOf.j1, laws_FnExactSchemeOf.j2, h0, h1, h2, h3, h4, h5, h6, h7, hb, show ¬ (1 + (l.length : Int) < 0) by omega, hneg_v]

end Go.Proofs.Ytmmldpmchhchoaa.PFnExactSchemeOf
