/- The plain law behind the statement FnExactBitScheme: what the Go functions' Lean forms come to. Written for this work; no condition. -/
import Derived.Test.YtmmldpmchhchoaaPFnExactBitSchemex
import Derived.Test.YtmmldpmchhchoaaLib2
set_option linter.unusedVariables false
set_option linter.unusedSimpArgs false
namespace Go.Proofs.Ytmmldpmchhchoaa.PFnExactBitScheme
open Go.RowKit Go.Proofs.YtmmldpmchhchoaaW.PrintWords Go.Proofs.YtmmldpmchhchoaaW.PrintLast Go.Proofs.YtmmldpmchhchoaaW.PrintMore Go.Proofs.Ytmmldpmchhchoaa.Lib


theorem laws_eqIntS.ev (l : List Int) (h : l.length ≤ 35184372088832) : Stops (fun k => laws_eqIntS.f k l l) true := by
  have E : Stops (fun k => laws_eqIntS.l0 k l l 0) true := by
    refine Stops.count (g := fun k (s : Int) => laws_eqIntS.l0 k l l s) (fun i => (i : Int)) l.length (Stops.now1 fun m => ?_) fun i hi m => ?_
    · simp only [laws_eqIntS.l0]; rw [if_neg (by omega)]
    · have e : wrap64 ((i : Int) + 1) = (i : Int) + 1 := w64 (by omega) (by omega)
      rw [laws_eqIntS.l0, if_pos (by omega), if_pos (by omega), if_pos (by omega), if_pos rfl, e]; rfl
  refine E.same fun m a => ?_
  simp only [laws_eqIntS.f, if_true]; exact a

theorem laws_markIntS.ev (l : List Int) (a : Int) (h : l.length ≤ 35184372088832) (h0 : 0 ≤ a) (h1 : a ≤ 1000000000000000000) : Stops (fun k => laws_markIntS.f k l a) (a + l.length, upFrom a l.length) := by
  have E : Stops (fun k => laws_markIntS.l0 k (upFrom a 0 ++ l.drop 0) (a + ((0 : Nat) : Int)) ((0 : Nat) : Int)) (a + l.length, upFrom a l.length) := by
   refine Stops.count (g := fun k (s : List Int × Int × Int) => laws_markIntS.l0 k s.1 s.2.1 s.2.2) (fun i => (upFrom a i ++ l.drop i, a + i, (i : Int))) l.length (Stops.now1 fun m => ?_) fun i hi m => ?_
   · have hl : ((upFrom a l.length ++ l.drop l.length).length : Int) = l.length := by simp [upFrom_length]
     simp only [laws_markIntS.l0]; rw [if_neg (by rw [hl]; omega)]; simp
   · have e : wrap64 ((i : Int) + 1) = (i : Int) + 1 := w64 (by omega) (by omega)
     have e2 : wrap64 (a + (i : Int) + 1) = a + ((i + 1 : Nat) : Int) := by rw [w64 (by omega) (by omega)]; omega
     have hl : ((upFrom a i ++ l.drop i).length : Int) = l.length := by simp [upFrom_length]; omega
     simp only [laws_markIntS.l0]; rw [if_pos (by rw [hl]; omega), if_pos (by omega), e, e2, Int.toNat_natCast, set_split l i (upFrom a i) (a + i) (upFrom_length i a) hi, ← upFrom_append]; rfl
  refine E.same fun m e => ?_
  simp [upFrom] at e
  exact e

theorem laws_heldIntS.ev (n : Nat) (a : Int) (h : n ≤ 35184372088832) (h0 : 0 ≤ a) (h1 : a ≤ 1000000000000000000) : Stops (fun k => laws_heldIntS.f k (upFrom a n) a) (a + n) := by
  have E : Stops (fun k => laws_heldIntS.l0 k (upFrom a n) (a + ((0 : Nat) : Int)) ((0 : Nat) : Int)) (a + n) := by
    refine Stops.count (g := fun k (s : Int × Int) => laws_heldIntS.l0 k (upFrom a n) s.1 s.2) (fun i => (a + (i : Int), (i : Int))) n (Stops.now1 fun m => ?_) fun i hi m => ?_
    · simp only [laws_heldIntS.l0, upFrom_length]; rw [if_neg (by omega)]
    · have e : wrap64 ((i : Int) + 1) = (i : Int) + 1 := w64 (by omega) (by omega)
      have e2 : wrap64 (a + (i : Int) + 1) = a + ((i + 1 : Nat) : Int) := by rw [w64 (by omega) (by omega)]; omega
      simp only [laws_heldIntS.l0, upFrom_length]; rw [if_pos (by omega), if_pos (by omega), rd_nat, upFrom_getD n a i hi, if_pos rfl, e, e2]; rfl
  refine E.same fun m e => ?_
  simp at e
  exact e

theorem spec_l1In.eq (a b c : Int) : spec_l1In.f a b c = some (decide (b ≤ a ∧ a ≤ c)) := by
  unfold spec_l1In.f; by_cases h : b ≤ a <;> simp [h]

theorem spec_l2Numbers.eq (a : Int) : spec_l2Numbers.f a = some (isN a) := by
  unfold spec_l2Numbers.f; rw [spec_l1In.eq]; rfl

theorem spec_l5Of.ev (l : List Int) (q : Int) (h0 : 0 ≤ q) (h1 : q ≤ 1000) (hl : l.length ≤ 35184372088832) : Stops (fun k => spec_l5Of.f k l q) (colsV l q.toNat l.length) := by
  obtain ⟨q, rfl⟩ := Int.eq_ofNat_of_zero_le h0
  rw [Int.toNat_natCast]
  have E : Stops (fun k => spec_l5Of.l0 k l q (mixV l q l.length 0 0) ((0 : Nat) : Int)) (colsV l q l.length) := by
    refine Stops.count' (g := fun k (s : List Int × Int) => spec_l5Of.l0 k l q s.1 s.2) (fun i => (mixV l q l.length 0 i, (i : Int))) q (Stops.now1 fun m => ?_) fun i hi A => ?_
    · simp only [spec_l5Of.l0]; rw [if_neg (by omega), mixV_all]
    · have e : wrap64 ((i : Int) + 1) = (i : Int) + 1 := w64 (by omega) (by omega)
      have I : Stops (fun k => spec_l5Of.l1 k l q ((mixV l q l.length 0 i).set i (colV l (i : Nat) 0)) i ((0 : Nat) : Int)) (colsV l q l.length) := by
        refine Stops.count' (g := fun k (s : List Int × Int) => spec_l5Of.l1 k l q s.1 i s.2) (fun n => ((mixV l q l.length 0 i).set i (colV l (i : Nat) n), (n : Int))) l.length (A.round fun m a => ?_) fun n hn B => B.round fun m b => ?_
        · simp only [spec_l5Of.l1]; rw [if_neg (by omega), mixV_set l q _ _ i hi, e]; exact a
        · have e2 : wrap64 ((n : Int) + 1) = (n : Int) + 1 := w64 (by omega) (by omega)
          have hlen : (((mixV l q l.length 0 i).set i (colV l (i : Nat) n)).length : Int) = q := by rw [List.length_set, mixV_length]
          have hrd : rd ((mixV l q l.length 0 i).set i (colV l (i : Nat) n)) (i : Int) = colV l (i : Nat) n := by
            rw [rd_nat, List.getD_eq_getElem?_getD, List.getElem?_set_self (by rw [mixV_length]; exact hi)]; rfl
          simp only [spec_l5Of.l1]
          rw [if_pos (by omega), if_pos (by omega), if_pos (by rw [hlen]; omega), if_pos (by omega), hrd, rd_nat, Int.toNat_natCast, colV_step, List.set_set, e2]; exact b
      rw [show colV l (i : Nat) 0 = 0 from rfl, show (0 : Int) = colV l (i : Nat) 0 from rfl, mixV_same l q _ _ i hi] at I
      refine I.round fun m a => ?_
      simp only [spec_l5Of.l0]; rw [if_pos (by omega)]; exact a
  rw [mixV_zero, colsV_zero] at E
  refine E.same fun m a => ?_
  simp only [spec_l5Of.f, Int.toNat_natCast]; rw [if_pos (by omega), if_pos (by omega)]; exact a

def bitQ (n : Int) : Int := (_root_.Go.Lib.bitLen (n - 1).toNat : Int)
theorem bitQ_facts : ∀ n : Fin 13, 1 ≤ n.val → (∀ i : Fin 5, i.val < _root_.Go.Lib.bitLen (n.val - 1) → 2 ^ i.val < n.val) ∧ ¬ 2 ^ (_root_.Go.Lib.bitLen (n.val - 1)) < n.val ∧ _root_.Go.Lib.bitLen (n.val - 1) ≤ 4 := by decide +kernel
def wordsUp (n : Nat) : List Int := numsTo (fun _ => true) n
theorem wordsUp_length (n : Nat) : (wordsUp n).length = n := by
  induction n with
  | zero => rfl
  | succ n ih => simp only [wordsUp, numsTo, if_true, List.length_append, List.length_singleton] at ih ⊢; omega
def bitV (n : Int) : List Int × Bool := if isN n = true then (colsV (wordsUp n.toNat) (bitQ n).toNat n.toNat, true) else ([], false)
theorem spec_BitScheme.ev (n : Int) : Stops (fun k => spec_BitScheme.f k n) (bitV n) := by
  unfold bitV
  cases hn : isN n
  · refine Evt.true.mono fun m _ => ?_
    simp [spec_BitScheme.f, spec_l2Numbers.eq, hn]
  · have hb := isN_bd hn
    obtain ⟨N, rfl⟩ := Int.eq_ofNat_of_zero_le (show 0 ≤ n by omega)
    obtain ⟨f1, f2, f3⟩ := bitQ_facts ⟨N, by omega⟩ (show 1 ≤ N by omega)
    simp only at f1 f2 f3
    have e : ((N : Int) - 1).toNat = N - 1 := by omega
    have L : Stops (fun k => spec_BitScheme.l1 k (N : Int) (wordsUp N) 0) (colsV (wordsUp N) (bitQ N).toNat N, true) := by
      refine Stops.count' (g := fun k (s : Int) => spec_BitScheme.l1 k (N : Int) (wordsUp N) s) (fun i => (i : Int)) (_root_.Go.Lib.bitLen (N - 1)) ?_ fun i hi A => ?_
      · have S := spec_l5Of.ev (wordsUp N) (bitQ N) (by unfold bitQ; omega) (by unfold bitQ; rw [e]; omega) (by rw [wordsUp_length]; omega)
        rw [wordsUp_length] at S
        refine S.round fun m a => ?_
        simp only [spec_BitScheme.l1]
        have g : ¬ shl .i64 1 ((_root_.Go.Lib.bitLen (N - 1) : Nat) : Int) < (N : Int) := by
          rw [shl_one (by omega) (by omega), Int.toNat_natCast]
          intro h; apply f2; exact_mod_cast h
        rw [if_pos (by omega), if_neg g]
        have e2 : bitQ (N : Int) = ((_root_.Go.Lib.bitLen (N - 1) : Nat) : Int) := by unfold bitQ; rw [e]
        rw [e2] at a ⊢
        rw [a, Option.bind_some]
      · have ew : wrap64 ((i : Int) + 1) = ((i + 1 : Nat) : Int) := w64 (by omega) (by omega)
        refine A.round fun m a => ?_
        simp only [spec_BitScheme.l1]
        have g : shl .i64 1 (i : Int) < (N : Int) := by
          rw [shl_one (by omega) (by omega), Int.toNat_natCast]
          have := f1 ⟨i, by omega⟩ hi
          exact_mod_cast this
        rw [if_pos (by omega), if_pos g, ew]
        exact a
    have W : Stops (fun k => spec_BitScheme.l0 k (N : Int) [] 0 0) (colsV (wordsUp N) (bitQ N).toNat N, true) := by
      refine Stops.count (g := fun k (s : List Int × Int) => spec_BitScheme.l0 k (N : Int) s.1 0 s.2) (fun i => (wordsUp i, (i : Int))) N (L.round fun m a => ?_) fun i hi m => ?_
      · simp only [spec_BitScheme.l0]; rw [if_neg (by omega)]; exact a
      · have ew : wrap64 ((i : Int) + 1) = ((i + 1 : Nat) : Int) := w64 (by omega) (by omega)
        have := wordsUp_length i
        simp only [spec_BitScheme.l0, ew]
        rw [if_pos (by omega), if_pos (by omega)]
        rfl
    refine W.same fun m a => ?_
    simp only [spec_BitScheme.f, spec_l2Numbers.eq, hn, Option.bind_some, if_true]
    exact a

theorem impl_in.eq (a b c : Int) : impl_in.f a b c = some (decide (b ≤ a ∧ a ≤ c)) := by
  unfold impl_in.f; by_cases h : b ≤ a <;> simp [h]

theorem impl_isCount.eq (a : Int) : impl_isCount.f a = some (isN a) := by
  unfold impl_isCount.f; rw [impl_in.eq]; rfl

theorem impl_has.eq (q k : Int) (h : 0 ≤ k) : impl_has.f q k = some (hasB q k) := by
  unfold impl_has.f; rw [if_pos h]; rfl

theorem impl_schemeOf.ev (l : List Int) (q : Int) (h0 : 0 ≤ q) (h1 : q ≤ 1000) (hl : l.length ≤ 35184372088832) : Stops (fun k => impl_schemeOf.f k l q) (colsV l q.toNat l.length) := by
  obtain ⟨q, rfl⟩ := Int.eq_ofNat_of_zero_le h0
  rw [Int.toNat_natCast]
  have E : Stops (fun k => impl_schemeOf.l0 k (colsV l q 0) l l.length ((0 : Nat) : Int)) (colsV l q l.length) := by
    refine Stops.count' (g := fun k (s : List Int × Int) => impl_schemeOf.l0 k s.1 l l.length s.2) (fun n => (colsV l q n, (n : Int))) l.length (Stops.now1 fun m => ?_) fun n hn A => ?_
    · simp only [impl_schemeOf.l0]; rw [if_neg (by omega)]
    · have e : wrap64 ((n : Int) + 1) = (n : Int) + 1 := w64 (by omega) (by omega)
      have I : Stops (fun k => impl_schemeOf.l1 k (mixV l q (n + 1) n 0) n (l.getD n 0) l l.length n q ((0 : Nat) : Int)) (colsV l q l.length) := by
        refine Stops.count' (g := fun k (s : List Int × Int) => impl_schemeOf.l1 k s.1 n (l.getD n 0) l l.length n q s.2) (fun i => (mixV l q (n + 1) n i, (i : Int))) q (A.round fun m a => ?_) fun i hi B => B.round fun m b => ?_
        · simp only [impl_schemeOf.l1]; rw [if_neg (by omega), mixV_all, e]; exact a
        · have e2 : wrap64 ((i : Int) + 1) = (i : Int) + 1 := w64 (by omega) (by omega)
          have hlen : ((mixV l q (n + 1) n i).length : Int) = q := by rw [mixV_length]
          have hrd : rd (mixV l q (n + 1) n i) (i : Int) = colV l (i : Nat) n := by
            rw [rd_nat, mixV_getD l q _ _ i i hi, if_neg (by omega)]
          simp only [impl_schemeOf.l1]
          rw [if_pos (by omega), impl_has.eq _ _ (by omega), Option.bind_some, e2]
          by_cases hb : hasB (l.getD n 0) (i : Int) = true
          · rw [if_pos hb, if_pos (by omega), if_pos (by rw [hlen]; omega), if_pos (by omega), hrd, Int.toNat_natCast]
            have hs : (mixV l q (n + 1) n i).set i (Go.bits .or .i64 (colV l (i : Nat) n) (shl .i64 1 n)) = mixV l q (n + 1) n (i + 1) := by
              rw [← mixV_set l q _ _ i hi, colV, if_pos hb]
            rw [hs]; exact b
          · have hs : mixV l q (n + 1) n i = mixV l q (n + 1) n (i + 1) := by
              rw [← mixV_set l q _ _ i hi, colV, if_neg hb, mixV_same l q _ _ i hi]
            rw [if_neg hb, hs]; exact b
      rw [mixV_zero] at I
      refine I.round fun m a => ?_
      simp only [impl_schemeOf.l0, rd_nat, colsV_length]; rw [if_pos (by omega), if_pos (by omega), if_pos (by omega)]; exact a
  rw [colsV_zero] at E
  refine E.same fun m a => ?_
  simp only [impl_schemeOf.f, Int.toNat_natCast]; rw [if_pos (by omega), if_pos (by omega)]; exact a

theorem impl_BitScheme.ev (n : Int) : Stops (fun k => impl_BitScheme.f k n) (bitV n) := by
  unfold bitV
  cases hn : isN n
  · refine Evt.true.mono fun m _ => ?_
    simp [impl_BitScheme.f, impl_isCount.eq, hn]
  · have hb := isN_bd hn
    obtain ⟨N, rfl⟩ := Int.eq_ofNat_of_zero_le (show 0 ≤ n by omega)
    obtain ⟨f1, f2, f3⟩ := bitQ_facts ⟨N, by omega⟩ (show 1 ≤ N by omega)
    simp only at f1 f2 f3
    have e : ((N : Int) - 1).toNat = N - 1 := by omega
    have S := impl_schemeOf.ev (wordsUp N) (bitQ N) (by unfold bitQ; omega) (by unfold bitQ; rw [e]; omega) (by rw [wordsUp_length]; omega)
    rw [wordsUp_length] at S
    have hl : bits_Len.f (IntKind.u64.wrap (wrap64 ((N : Int) - 1))) = some (bitQ N) := by
      have h1 : wrap64 ((N : Int) - 1) = (N : Int) - 1 := w64 (by omega) (by omega)
      have h2 : IntKind.u64.wrap ((N : Int) - 1) = (N : Int) - 1 := by
        have : IntKind.u64.wrap ((N : Int) - 1) = ((N : Int) - 1) % 18446744073709551616 := rfl
        rw [this]; omega
      rw [h1, h2]
      unfold bits_Len.f
      rw [if_pos (by omega)]; rfl
    have W : Stops (fun k => impl_BitScheme.l0 k (N : Int) [] (N : Int) 0) (colsV (wordsUp N) (bitQ N).toNat N, true) := by
      refine Stops.count (g := fun k (s : List Int × Int) => impl_BitScheme.l0 k (N : Int) s.1 (N : Int) s.2) (fun i => (wordsUp i, (i : Int))) N (S.round fun m a => ?_) fun i hi m => ?_
      · simp only [impl_BitScheme.l0]; rw [if_neg (by omega), hl, Option.bind_some, a, Option.bind_some]
      · have ew : wrap64 ((i : Int) + 1) = ((i + 1 : Nat) : Int) := w64 (by omega) (by omega)
        have := wordsUp_length i
        simp only [impl_BitScheme.l0, ew]
        rw [if_pos (by omega), if_pos (by omega)]
        rfl
    refine W.same fun m a => ?_
    simp only [impl_BitScheme.f, impl_isCount.eq, hn, Option.bind_some, if_true]
    exact a

theorem law : laws_FnExactBitScheme.Pure := by
  intro n
  intros
  have hvl : (bitV n).1.length ≤ 35184372088832 := by
    unfold bitV
    split
    · rename_i h
      have hb := isN_bd h
      obtain ⟨f1, f2, f3⟩ := bitQ_facts ⟨n.toNat, by omega⟩ (show 1 ≤ n.toNat by omega)
      simp only at f3
      have e : (n - 1).toNat = n.toNat - 1 := by omega
      rw [show (colsV (wordsUp n.toNat) (bitQ n).toNat n.toNat, true).1 = colsV (wordsUp n.toNat) (bitQ n).toNat n.toNat from rfl, colsV_length]
      unfold bitQ
      rw [e]
      omega
    · simp
  have S := spec_BitScheme.ev n
  have I := impl_BitScheme.ev n
  generalize (bitV n) = v at *
  obtain ⟨v, b⟩ := v
  simp only at hvl
  have hneg_v : ¬ (1 + (v.length : Int) < 0) := by omega
  obtain ⟨m, h⟩ := (((S).and ((I).and ((laws_eqIntS.ev v (by omega)).and ((laws_markIntS.ev v 1 (by omega) (by omega) (by omega)).and (laws_heldIntS.ev v.length 1 (by omega) (by omega) (by omega)).evt))))).shift
  have h0 := fun j => (h j).1
  have h1 := fun j => (h j).2.1
  have h2 := fun j => (h j).2.2.1
  have h3 := fun j => (h j).2.2.2.1
  have h4 := fun j => (h j).2.2.2.2
  refine ⟨m + 7, ?_⟩
  simp [laws_FnExactBitScheme.f, laws_FnExactBitScheme.j0, laws_FnExactBitScheme.j1, h0, h1, h2, h3, h4, hneg_v]

end Go.Proofs.Ytmmldpmchhchoaa.PFnExactBitScheme
