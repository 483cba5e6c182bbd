/- The plain law behind the statement FnExactAnswerAll: what the Go functions' Lean forms come to. Written for this work; no condition. -/
import Derived.Test.YtlmcoaencmfdfaaPFnExactAnswerAllx
import Derived.Test.YtlmcoaencmfdfaaLib2
set_option linter.unusedVariables false
set_option linter.unusedSimpArgs false
namespace Go.Proofs.Ytlmcoaencmfdfaa.PFnExactAnswerAll
open Go.RowKit Go.Proofs.YtlmcoaencmfdfaaW.PrintWords Go.Proofs.YtlmcoaencmfdfaaW.PrintLast Go.Proofs.YtlmcoaencmfdfaaW.PrintMore Go.Proofs.Ytlmcoaencmfdfaa.Lib

theorem rd_T42_at (l : List S42) (i : Nat) (hi : i < l.length) : rd_T42 l (i : Int) = l[i] := by
  unfold rd_T42; rw [Int.toNat_natCast, List.getD_eq_getElem?_getD, List.getElem?_eq_getElem hi]; rfl
theorem rd_T45_at (l : List S45) (i : Nat) (hi : i < l.length) : rd_T45 l (i : Int) = l[i] := by
  unfold rd_T45; rw [Int.toNat_natCast, List.getD_eq_getElem?_getD, List.getElem?_eq_getElem hi]; rfl
def askI (x : S42) : S45 := ⟨x.f0, x.f1⟩

theorem laws_eqIntS.ev (l : List Int) (h : l.length ≤ 35184372088832) : Stops (fun k => laws_eqIntS.f k l l) true := by
  have E : Stops (fun k => laws_eqIntS.l0 k l l 0) true := by
    refine Stops.count (g := fun k (s : Int) => laws_eqIntS.l0 k l l s) (fun i => (i : Int)) l.length (Stops.now1 fun m => ?_) fun i hi m => ?_
    · simp only [laws_eqIntS.l0]; rw [if_neg (by omega)]
    · have e : wrap64 ((i : Int) + 1) = (i : Int) + 1 := w64 (by omega) (by omega)
      rw [laws_eqIntS.l0, if_pos (by omega), if_pos (by omega), if_pos (by omega), if_pos rfl, e]; rfl
  refine E.same fun m a => ?_
  simp only [laws_eqIntS.f, if_true]; exact a

theorem laws_eqState.ev (l : List Int) (m : Int) (h : l.length ≤ 35184372088832) : Stops (fun k => laws_eqState.f k l m l m) true := by
  refine (laws_eqIntS.ev l h).same fun k e => ?_
  simp [laws_eqState.f, e]

theorem laws_markIntS.ev (l : List Int) (a : Int) (h : l.length ≤ 35184372088832) (h0 : 0 ≤ a) (h1 : a ≤ 1000000000000000000) : Stops (fun k => laws_markIntS.f k l a) (a + l.length, upFrom a l.length) := by
  have E : Stops (fun k => laws_markIntS.l0 k (upFrom a 0 ++ l.drop 0) (a + ((0 : Nat) : Int)) ((0 : Nat) : Int)) (a + l.length, upFrom a l.length) := by
   refine Stops.count (g := fun k (s : List Int × Int × Int) => laws_markIntS.l0 k s.1 s.2.1 s.2.2) (fun i => (upFrom a i ++ l.drop i, a + i, (i : Int))) l.length (Stops.now1 fun m => ?_) fun i hi m => ?_
   · have hl : ((upFrom a l.length ++ l.drop l.length).length : Int) = l.length := by simp [upFrom_length]
     simp only [laws_markIntS.l0]; rw [if_neg (by rw [hl]; omega)]; simp
   · have e : wrap64 ((i : Int) + 1) = (i : Int) + 1 := w64 (by omega) (by omega)
     have e2 : wrap64 (a + (i : Int) + 1) = a + ((i + 1 : Nat) : Int) := by rw [w64 (by omega) (by omega)]; omega
     have hl : ((upFrom a i ++ l.drop i).length : Int) = l.length := by simp [upFrom_length]; omega
     simp only [laws_markIntS.l0]; rw [if_pos (by rw [hl]; omega), if_pos (by omega), e, e2, Int.toNat_natCast, set_split l i (upFrom a i) (a + i) (upFrom_length i a) hi, ← upFrom_append]; rfl
  refine E.same fun m e => ?_
  simp [upFrom] at e
  exact e

theorem laws_markState.ev (l : List Int) (m a : Int) (h : l.length ≤ 35184372088832) (h0 : 0 ≤ a) (h1 : a ≤ 1000000000000000000) : Stops (fun k => laws_markState.f k l m a) (a + l.length, upFrom a l.length) := by
  refine (laws_markIntS.ev l a h h0 h1).same fun k e => ?_
  simp [laws_markState.f, e]

theorem laws_heldIntS.ev (n : Nat) (a : Int) (h : n ≤ 35184372088832) (h0 : 0 ≤ a) (h1 : a ≤ 1000000000000000000) : Stops (fun k => laws_heldIntS.f k (upFrom a n) a) (a + n) := by
  have E : Stops (fun k => laws_heldIntS.l0 k (upFrom a n) (a + ((0 : Nat) : Int)) ((0 : Nat) : Int)) (a + n) := by
    refine Stops.count (g := fun k (s : Int × Int) => laws_heldIntS.l0 k (upFrom a n) s.1 s.2) (fun i => (a + (i : Int), (i : Int))) n (Stops.now1 fun m => ?_) fun i hi m => ?_
    · simp only [laws_heldIntS.l0, upFrom_length]; rw [if_neg (by omega)]
    · have e : wrap64 ((i : Int) + 1) = (i : Int) + 1 := w64 (by omega) (by omega)
      have e2 : wrap64 (a + (i : Int) + 1) = a + ((i + 1 : Nat) : Int) := by rw [w64 (by omega) (by omega)]; omega
      simp only [laws_heldIntS.l0, upFrom_length]; rw [if_pos (by omega), if_pos (by omega), rd_nat, upFrom_getD n a i hi, if_pos rfl, e, e2]; rfl
  refine E.same fun m e => ?_
  simp at e
  exact e

theorem laws_heldState.ev (n : Nat) (m a : Int) (h : n ≤ 35184372088832) (h0 : 0 ≤ a) (h1 : a ≤ 1000000000000000000) : Stops (fun k => laws_heldState.f k (upFrom a n) m a) (a + n) := by
  refine (laws_heldIntS.ev n a h h0 h1).same fun k e => ?_
  simp [laws_heldState.f, e, show ¬ a + (n : Int) < 0 by omega]

theorem laws_szAskedS.big (l : List S42) (h : l.length ≤ maxLen) (hb : 1048576 < l.length) : laws_szAskedS.f l 1048576 = some (-1) := by
  unfold maxLen at h
  unfold laws_szAskedS.f; rw [w64 (by omega) (by omega), if_pos (by omega)]
theorem laws_szAskedS.small (l : List S42) (hb : ¬ 1048576 < l.length) : laws_szAskedS.f l 1048576 = some (1048576 - (l.length : Int)) := by
  unfold laws_szAskedS.f; rw [w64 (by omega) (by omega), if_neg (by omega)]

theorem laws_toAskedS.ev (l : List S42) (h : l.length ≤ 10000000) : Stops (fun k => laws_toAskedS.f k l) (l.map askI) := by
  have E : Stops (fun k => laws_toAskedS.l0 k l ((l.map askI).take 0 ++ (List.replicate l.length z45).drop 0) ((0 : Nat) : Int)) (l.map askI) := by
    refine Stops.count (g := fun k (s : List S45 × Int) => laws_toAskedS.l0 k l s.1 s.2) (fun i => ((l.map askI).take i ++ (List.replicate l.length z45).drop i, (i : Int))) l.length (Stops.now1 fun m => ?_) fun i hi m => ?_
    · have e1 : (List.replicate l.length z45).drop l.length = [] := by simp
      have e2 : (l.map askI).take l.length = l.map askI := List.take_of_length_le (by simp)
      simp only [laws_toAskedS.l0, e1, e2, List.append_nil]; rw [if_neg (by omega)]
    · have e : wrap64 ((i : Int) + 1) = (i : Int) + 1 := w64 (by omega) (by omega)
      have h1 : ((l.map askI).take i).length = i := by simp; omega
      have hl : (((l.map askI).take i ++ (List.replicate l.length z45).drop i).length : Int) = l.length := by simp; omega
      have h2 := set_splitS (List.replicate l.length z45) i ((l.map askI).take i) (askI l[i]) h1 (by simp; exact hi)
      have h3 : (l.map askI).take (i + 1) = (l.map askI).take i ++ [askI l[i]] := by rw [List.take_succ_eq_append_getElem (by simp; exact hi)]; simp
      simp only [laws_toAskedS.l0, rd_T42_at l i hi, laws_toAsked.f, Option.bind_some]
      rw [if_pos (by omega), if_pos (by omega), hl, if_pos (by omega), e, Int.toNat_natCast]
      rw [show (⟨l[i].f0, l[i].f1⟩ : S45) = askI l[i] from rfl, h2, ← h3]; rfl
  refine E.same fun m a => ?_
  simp only [laws_toAskedS.f, Int.toNat_natCast]; rw [if_pos (by omega), if_pos (by omega)]
  simpa using a

theorem laws_eqAsked.eq (a : Int) (b : Bool) : laws_eqAsked.f a b a b = some true := by
  unfold laws_eqAsked.f; simp

theorem laws_eqAskedS.ev (l : List S45) (h : l.length ≤ 10000000) : Stops (fun k => laws_eqAskedS.f k l l) true := by
  have E : Stops (fun k => laws_eqAskedS.l0 k l l 0) true := by
    refine Stops.count (g := fun k (s : Int) => laws_eqAskedS.l0 k l l s) (fun i => (i : Int)) l.length (Stops.now1 fun m => ?_) fun i hi m => ?_
    · simp only [laws_eqAskedS.l0]; rw [if_neg (by omega)]
    · have e : wrap64 ((i : Int) + 1) = (i : Int) + 1 := w64 (by omega) (by omega)
      simp only [laws_eqAskedS.l0, laws_eqAsked.eq, Option.bind_some]; rw [if_pos (by omega), if_pos (by omega), if_pos (by omega), if_pos (by trivial), e]; rfl
  refine E.same fun m a => ?_
  simp only [laws_eqAskedS.f, if_true]; exact a

/-- The marks: two a record. -/
def mkA (l : List S45) (a : Int) : Nat → List S45
  | 0 => l
  | i + 1 => ((mkA l a i).set i (⟨a + 2 * i, (rd_T45 (mkA l a i) i).f1⟩ : S45)).set i (⟨(rd_T45 ((mkA l a i).set i (⟨a + 2 * i, (rd_T45 (mkA l a i) i).f1⟩ : S45)) i).f0, ((Int.tmod (wrap64 (a + 2 * i + 1)) 3) == 0)⟩ : S45)
theorem mkA_length (l : List S45) (a : Int) (n : Nat) : (mkA l a n).length = l.length := by
  induction n with
  | zero => rfl
  | succ n ih => rw [mkA, List.length_set, List.length_set, ih]
theorem laws_markAskedS.ev (l : List S45) (a : Int) (h : l.length ≤ 10000000) (h0 : 0 ≤ a) (h1 : a ≤ 1000000000000) : Stops (fun k => laws_markAskedS.f k l a) (a + 2 * l.length, mkA l a l.length) := by
  suffices E : Stops (fun k => laws_markAskedS.l0 k l (a + 2 * ((0 : Nat) : Int)) ((0 : Nat) : Int)) (a + 2 * l.length, mkA l a l.length) by
    rw [show a + 2 * ((0 : Nat) : Int) = a by omega] at E
    exact E
  refine Stops.count (g := fun k (s : List S45 × Int × Int) => laws_markAskedS.l0 k s.1 s.2.1 s.2.2) (fun i => (mkA l a i, a + 2 * i, (i : Int))) l.length (Stops.now1 fun m => ?_) fun i hi m => ?_
  · have := mkA_length l a l.length
    simp only [laws_markAskedS.l0]; rw [if_neg (by omega)]
  · have e : wrap64 ((i : Int) + 1) = ((i + 1 : Nat) : Int) := w64 (by omega) (by omega)
    have e2 : wrap64 (wrap64 (a + 2 * (i : Int) + 1) + 1) = a + 2 * ((i + 1 : Nat) : Int) := by
      have e1 : wrap64 (a + 2 * (i : Int) + 1) = a + 2 * (i : Int) + 1 := w64 (by omega) (by omega)
      rw [e1, w64 (by omega) (by omega)]
      push_cast
      omega
    have := mkA_length l a i
    simp only [laws_markAskedS.l0, Option.bind_some, e, e2, Int.toNat_natCast]
    rw [if_pos (by omega), if_pos (by omega)]
    rfl

theorem spec_l1In.eq (a b c : Int) : spec_l1In.f a b c = some (decide (b ≤ a ∧ a ≤ c)) := by
  unfold spec_l1In.f; by_cases h : b ≤ a <;> simp [h]

theorem spec_l2Numbers.eq (a : Int) : spec_l2Numbers.f a = some (isN a) := by
  unfold spec_l2Numbers.f; rw [spec_l1In.eq]; rfl

theorem spec_l2Asks.eq (n q : Int) : spec_l2Asks.f n q = some (isQ n q) := by
  unfold spec_l2Asks.f isQ; rw [spec_l2Numbers.eq, spec_l1In.eq]
  cases h : isN n
  · simp
  · have := isN_bd h
    simp [show 0 ≤ n by omega]

theorem spec_l2Answers.ev (n : Int) (l : List S45) (h : l.length ≤ 10000000) : Stops (fun k => spec_l2Answers.f k n l) (isN n && decide ((l.length : Int) ≤ 20) && !(l.any fun x => !isQ n x.f0)) := by
  have e : (isN n && decide ((l.length : Int) ≤ 20) && !(l.any fun x => !isQ n x.f0)) = chkV (fun x : S45 => isQ n x.f0) (isN n && decide ((l.length : Int) ≤ 20)) 20 l 0 := by
    rw [chkV_eq _ _ _ _ _ (fun g => by rw [Bool.and_eq_true, decide_eq_true_eq] at g; omega)]
    simp [List.all_eq_not_any_not]
  rw [e]
  have E := Stops.over0 l (fun k (i : Nat) (s : Unit) => spec_l2Answers.l0 k n l (i : Int)) (fun t s => chkV (fun x : S45 => isQ n x.f0) (isN n && decide ((l.length : Int) ≤ 20)) 20 t (l.length - t.length)) () ?_ ?_
  · rw [Nat.sub_self] at E; exact E
  · intro s
    refine ⟨2, fun q hq => ?_⟩
    obtain ⟨k, rfl⟩ : ∃ k, q = k + 2 := ⟨q - 2, by omega⟩
    simp only [spec_l2Answers.l0, spec_l2Answers.j1, spec_l2Numbers.eq]; rw [if_neg (by omega), if_neg (by simp)]
    cases isN n <;> rfl
  · intro i hi s A
    have ew : wrap64 ((i : Int) + 1) = ((i + 1 : Nat) : Int) := w64 (by omega) (by omega)
    have ed : l.length - (l[i] :: l.drop (i + 1)).length = i := by simp; omega
    have ed2 : l.length - (l.drop (i + 1)).length = i + 1 := by simp; omega
    have A := A ()
    simp only [ed, ed2] at A ⊢
    by_cases hc : i ≤ 20
    · cases hp : isQ n l[i].f0
      · refine ⟨2, fun q hq => ?_⟩
        obtain ⟨k, rfl⟩ : ∃ k, q = k + 2 := ⟨q - 2, by omega⟩
        simp only [spec_l2Answers.l0, spec_l2Answers.j1, rd_T45_at l i hi, spec_l2Asks.eq]
        rw [if_pos (by omega), decide_eq_true (show (i : Int) ≤ 20 by omega), if_pos (by trivial), if_pos (by omega), if_pos (by omega), hp, Option.bind_some]; simp [chkV, hc, hp]
      · have A1 : Stops (fun k => spec_l2Answers.j1 k n l (i : Int) true) (chkV (fun x : S45 => isQ n x.f0) (isN n && decide ((l.length : Int) ≤ 20)) 20 (l[i] :: l.drop (i + 1)) i) := A.round fun k a => by
          simp only [spec_l2Answers.j1, rd_T45_at l i hi, spec_l2Asks.eq]
          rw [if_pos trivial, if_pos (by omega), if_pos (by omega), hp, Option.bind_some, if_pos (by trivial), ew, chkV, if_pos hc, if_pos hp]; exact a
        exact A1.round fun k a => by
          simp only [spec_l2Answers.l0]; rw [if_pos (by omega), decide_eq_true (by omega)]; exact a
    · refine ⟨2, fun q hq => ?_⟩
      obtain ⟨k, rfl⟩ : ∃ k, q = k + 2 := ⟨q - 2, by omega⟩
      simp only [spec_l2Answers.l0, spec_l2Answers.j1, spec_l2Numbers.eq]
      rw [if_pos (by omega), decide_eq_false (show ¬ (i : Int) ≤ 20 by omega), chkV, if_neg hc, if_neg (by simp)]
      cases isN n <;> rfl

theorem spec_l1Own.eq (l : List Int) (h : l.length ≤ 10000000) : spec_l1Own.f l = some l := by
  unfold spec_l1Own.f
  rw [Option.bind_some, if_pos (by simp; omega), List.nil_append]

theorem spec_l2False.eq (q : Int) (b : Bool) (k : Int) (h : 0 ≤ k) : spec_l2False.f q b k = some (b != hasB q k) := by
  unfold spec_l2False.f; rw [if_pos h]; rfl

theorem spec_l2After.ev (l : List Int) (m q : Int) (y : Bool) (h : l.length ≤ 10000000) : Stops (fun k => spec_l2After.f k l m q y) (aftV q y m l, m) := by
  have E : Stops (fun k => spec_l2After.l0 k q y 0 l m l m) (aftV q y m l, m) := by
    refine Stops.count' (g := fun k (s : List Int × Int) => spec_l2After.l0 k q y s.2 l m s.1 m) (fun i => (aftN (fun k => y != hasB q k) m l i, (i : Int))) l.length (Stops.now1 fun k => ?_) fun i hi A => ?_
    · have := aftN_length (fun k => y != hasB q k) m l l.length
      simp only [spec_l2After.l0]; rw [if_neg (by omega)]; rfl
    · have ew : wrap64 ((i : Int) + 1) = ((i + 1 : Nat) : Int) := w64 (by omega) (by omega)
      have hlen := aftN_length (fun k => y != hasB q k) m l i
      have A1 : Stops (fun k => spec_l2After.j1 k q y (i : Int) (decide (rd (aftN (fun k => y != hasB q k) m l i) i ≥ 0) && (y != hasB q i)) l m (aftN (fun k => y != hasB q k) m l i) m) (aftV q y m l, m) := A.round fun k a => by
        simp only [spec_l2After.j1, ew, Int.toNat_natCast, Option.bind_some]
        simp only [aftN, aft1] at a
        by_cases hc : (decide (rd (aftN (fun k => y != hasB q k) m l i) i ≥ 0) && (y != hasB q i)) = true
        · rw [if_pos hc] at a ⊢
          rw [if_pos (by omega), if_pos (by omega)]
          split at a
          · rename_i hg; rw [if_pos hg]; exact a
          · rename_i hg; rw [if_neg hg]; exact a
        · rw [if_neg hc] at a ⊢
          exact a
      refine A1.round fun k a => ?_
      simp only [spec_l2After.l0]
      rw [if_pos (by omega), if_pos (by omega)]
      by_cases hg : rd (aftN (fun k => y != hasB q k) m l i) i ≥ 0
      · rw [if_pos hg, spec_l2False.eq q y i (by omega), Option.bind_some]
        rw [decide_eq_true hg, Bool.true_and] at a
        exact a
      · rw [if_neg hg]
        rw [decide_eq_false hg, Bool.false_and] at a
        exact a
  refine E.same fun k e => ?_
  simp only [spec_l2After.f, spec_l1Own.eq l h, Option.bind_some]
  exact e

theorem spec_l2Start.eq (n m : Int) (h0 : 0 ≤ n) (h : n ≤ 1000) : spec_l2Start.f n m = some (List.replicate n.toNat 0, m) := by
  unfold spec_l2Start.f; rw [if_pos h0, if_pos (by omega)]

/-- The rows to which answers lead. -/
def allN (n m : Int) (l : List S45) : Nat → List Int
  | 0 => List.replicate n.toNat 0
  | i + 1 => aftV (rd_T45 l (i : Int)).f0 (rd_T45 l (i : Int)).f1 m (allN n m l i)
theorem allN_length (n m : Int) (l : List S45) (i : Nat) : (allN n m l i).length = n.toNat := by
  induction i with
  | zero => simp [allN]
  | succ i ih => rw [allN, aftV_length, ih]
theorem spec_l2All.ev (n m : Int) (l : List S45) (h0 : 0 ≤ n) (hn : n ≤ 1000) (h : l.length ≤ 10000000) : Stops (fun k => spec_l2All.f k n m l) (allN n m l l.length, m) := by
  have E : Stops (fun k => spec_l2All.l0 k l 0 (List.replicate n.toNat 0) m) (allN n m l l.length, m) := by
    refine Stops.count' (g := fun k (s : List Int × Int) => spec_l2All.l0 k l s.2 s.1 m) (fun i => (allN n m l i, (i : Int))) l.length (Stops.now1 fun k => ?_) fun i hi A => ?_
    · simp only [spec_l2All.l0]; rw [if_neg (by omega)]
    · have e : wrap64 ((i : Int) + 1) = ((i + 1 : Nat) : Int) := w64 (by omega) (by omega)
      refine Evt.succ (A.and (spec_l2After.ev (allN n m l i) m (rd_T45 l (i : Int)).f0 (rd_T45 l (i : Int)).f1 (by rw [allN_length]; omega)).evt) fun k ⟨a, b⟩ => ?_
      simp only [spec_l2All.l0, b, e, Option.bind_some]
      rw [if_pos (by omega), if_pos (by omega)]
      exact a
  refine E.same fun k a => ?_
  simp only [spec_l2All.f, spec_l2Start.eq n m h0 hn, Option.bind_some]
  exact a

def okAns (n : Int) (l : List S45) : Bool := isN n && decide ((l.length : Int) ≤ 20) && !(l.any fun x => !isQ n x.f0)
def aaV (n m : Int) (l : List S45) : List Int × Int × Bool := if (okAns n l && isM m) = true then (allN n m l l.length, m, true) else ([], 0, false)
theorem okAns_bd {n : Int} {l : List S45} (h : okAns n l = true) : 1 ≤ n ∧ n ≤ 12 ∧ l.length ≤ 20 := by
  unfold okAns at h
  simp only [Bool.and_eq_true, decide_eq_true_eq] at h
  have := isN_bd h.1.1
  omega
theorem spec_AnswerAll.ev (n m : Int) (l : List S45) (h : l.length ≤ 10000000) : Stops (fun k => spec_AnswerAll.f k n m l) (aaV n m l) := by
  unfold aaV
  by_cases hs : okAns n l = true
  · have hb := okAns_bd hs
    refine ((spec_l2Answers.ev n l h).and (spec_l2All.ev n m l (by omega) (by omega) h).evt).mono fun k ⟨a, b⟩ => ?_
    rw [show (isN n && decide ((l.length : Int) ≤ 20) && !(l.any fun x => !isQ n x.f0)) = okAns n l from rfl, hs] at a
    simp only [spec_AnswerAll.f, a, b, spec_l1In.eq, hs, Option.bind_some, Bool.true_and, isM]
    by_cases hm : 0 ≤ m ∧ m ≤ 2
    · rw [decide_eq_true hm]; rfl
    · rw [decide_eq_false hm]; rfl
  · refine (spec_l2Answers.ev n l h).same fun k a => ?_
    rw [show (isN n && decide ((l.length : Int) ≤ 20) && !(l.any fun x => !isQ n x.f0)) = okAns n l from rfl, Bool.eq_false_iff.2 hs] at a
    simp [spec_AnswerAll.f, a, hs]

theorem impl_isMost.eq (a : Int) : impl_isMost.f a = some (isM a) := by
  unfold impl_isMost.f; rw [impl_in.eq]; rfl

theorem slices_Clone_int_int.eq (l : List Int) (h : l.length ≤ 10000000) : slices_Clone_int_int.f l = some l := by
  unfold slices_Clone_int_int.f
  rw [Option.bind_some, if_pos (by simp; omega), List.nil_append]

theorem impl_has.eq (q k : Int) (h : 0 ≤ k) : impl_has.f q k = some (hasB q k) := by
  unfold impl_has.f; rw [if_pos h]; rfl

theorem impl_Asked_isFalse.eq (q : Int) (b : Bool) (k : Int) (h : 0 ≤ k) : impl_Asked_isFalse.f q b k = some (b != hasB q k) := by
  unfold impl_Asked_isFalse.f; rw [impl_has.eq q k h, Option.bind_some]
  cases b <;> cases hasB q k <;> rfl

theorem impl_State_after.ev (l : List Int) (m q : Int) (y : Bool) (h : l.length ≤ 10000000) : Stops (fun k => impl_State_after.f k l m (⟨q, y⟩ : S45)) (aftV q y m l, m) := by
  have E : Stops (fun k => impl_State_after.l0 k (⟨q, y⟩ : S45) l (l.length : Int) 0 l m m) (aftV q y m l, m) := by
    refine Stops.count' (g := fun k (s : List Int × Int) => impl_State_after.l0 k (⟨q, y⟩ : S45) s.1 (l.length : Int) s.2 l m m) (fun i => (aftN (fun k => y != hasB q k) m l i, (i : Int))) l.length (Stops.now1 fun k => ?_) fun i hi A => ?_
    · simp only [impl_State_after.l0]; rw [if_neg (by omega)]; rfl
    · have ew : wrap64 ((i : Int) + 1) = ((i + 1 : Nat) : Int) := w64 (by omega) (by omega)
      have hlen := aftN_length (fun k => y != hasB q k) m l i
      have A1 : Stops (fun k => impl_State_after.j1 k (⟨q, y⟩ : S45) (i : Int) (aftN (fun k => y != hasB q k) m l i) (l.length : Int) (i : Int) (decide (rd (aftN (fun k => y != hasB q k) m l i) i ≥ 0) && (y != hasB q i)) l m (aftN (fun k => y != hasB q k) m l i) m) (aftV q y m l, m) := A.round fun k a => by
        simp only [impl_State_after.j1, ew, Int.toNat_natCast]
        simp only [aftN, aft1] at a
        by_cases hc : (decide (rd (aftN (fun k => y != hasB q k) m l i) i ≥ 0) && (y != hasB q i)) = true
        · rw [if_pos hc] at a ⊢
          rw [if_pos (by omega), if_pos (by omega)]
          split at a
          · rename_i hg; rw [if_pos hg]; exact a
          · rename_i hg; rw [if_neg hg]; exact a
        · rw [if_neg hc] at a ⊢
          exact a
      refine A1.round fun k a => ?_
      simp only [impl_State_after.l0]
      rw [if_pos (by omega), if_pos (by omega), if_pos (by omega)]
      by_cases hg : rd (aftN (fun k => y != hasB q k) m l i) i ≥ 0
      · rw [if_pos hg, virtual_isFalseF.f, impl_Asked_isFalse.eq q y i (by omega), Option.bind_some]
        rw [decide_eq_true hg, Bool.true_and] at a
        exact a
      · rw [if_neg hg]
        rw [decide_eq_false hg, Bool.false_and] at a
        exact a
  refine E.same fun k e => ?_
  simp only [impl_State_after.f, slices_Clone_int_int.eq l h, Option.bind_some]
  exact e

theorem impl_State_answered.ev (l : List Int) (m q : Int) (y : Bool) (h : l.length ≤ 10000000) : Stops (fun k => impl_State_answered.f k l m q y) (aftV q y m l, m) := (impl_State_after.ev l m q y h).same fun k e => by
  simp only [impl_State_answered.f, e, Option.bind_some]

theorem impl_start.eq (n m : Int) (h0 : 0 ≤ n) (h : n ≤ 1000) : impl_start.f n m = some (List.replicate n.toNat 0, m) := by
  unfold impl_start.f; rw [if_pos h0, if_pos (by omega)]

theorem impl_AnswerAll.ev (n m : Int) (l : List S45) (h : l.length ≤ 10000000) : Stops (fun k => impl_AnswerAll.f k n m l) (aaV n m l) := by
  unfold aaV
  have ea : impl_areAsked.f n l 20 = some (okAns n l) := rfl
  by_cases hs : okAns n l = true
  · have hb := okAns_bd hs
    have E : Stops (fun k => impl_AnswerAll.l0 k l (l.length : Int) 0 (List.replicate n.toNat 0) m) (allN n m l l.length, m, true) := by
      refine Stops.count' (g := fun k (s : List Int × Int) => impl_AnswerAll.l0 k l (l.length : Int) s.2 s.1 m) (fun i => (allN n m l i, (i : Int))) l.length (Stops.now1 fun k => ?_) fun i hi A => ?_
      · simp only [impl_AnswerAll.l0]; rw [if_neg (by omega)]
      · have e : wrap64 ((i : Int) + 1) = ((i + 1 : Nat) : Int) := w64 (by omega) (by omega)
        refine Evt.succ (A.and (impl_State_answered.ev (allN n m l i) m (rd_T45 l (i : Int)).f0 (rd_T45 l (i : Int)).f1 (by rw [allN_length]; omega)).evt) fun k ⟨a, b⟩ => ?_
        simp only [impl_AnswerAll.l0, b, e, Option.bind_some]
        rw [if_pos (by omega), if_pos (by omega), if_pos (by omega)]
        exact a
    refine Evt.succ E.evt fun k b => ?_
    simp only [impl_AnswerAll.f, impl_AnswerAll.j0, ea, hs, b, impl_isMost.eq, impl_start.eq n m (by omega) (by omega), Option.bind_some, Bool.true_and, if_true]
    cases isM m <;> simp
  · refine Evt.succ Evt.true fun k _ => ?_
    simp [impl_AnswerAll.f, impl_AnswerAll.j0, ea, hs]

theorem law : laws_FnExactAnswerAll.Pure := by
  intro n m0 l _ _ hm
  intros
  by_cases hb : 1048576 < l.length
  · exact ⟨0, by simp [laws_FnExactAnswerAll.f, laws_szAskedS.big l hm hb]⟩
  have hvl : (aaV n m0 (l.map askI)).1.length ≤ 1000 := by
    unfold aaV
    split
    · rename_i h
      rw [Bool.and_eq_true] at h
      have := okAns_bd h.1
      show (allN n m0 (l.map askI) (l.map askI).length).length ≤ _
      rw [allN_length]
      omega
    · simp
  have S := spec_AnswerAll.ev n m0 (l.map askI) (by simp; omega)
  have I := impl_AnswerAll.ev n m0 (l.map askI) (by simp; omega)
  generalize (aaV n m0 (l.map askI)) = v at *
  obtain ⟨v, q, b⟩ := v
  simp only at hvl
  have hneg_v : ¬ (1 + (v.length : Int) < 0) := by omega
  obtain ⟨m, h⟩ := (((S).and ((I).and ((laws_toAskedS.ev l (by omega)).and ((laws_eqAskedS.ev (l.map askI) (by simp; omega)).and ((laws_markAskedS.ev (l.map askI) 1 (by simp; omega) (by omega) (by omega)).and ((laws_eqState.ev v q (by omega)).and ((laws_markState.ev v q 1 (by omega) (by omega) (by omega)).and (laws_heldState.ev v.length q 1 (by omega) (by omega) (by omega)).evt)))))))).shift
  have h0 := fun j => (h j).1
  have h1 := fun j => (h j).2.1
  have h2 := fun j => (h j).2.2.1
  have h3 := fun j => (h j).2.2.2.1
  have h4 := fun j => (h j).2.2.2.2.1
  have h5 := fun j => (h j).2.2.2.2.2.1
  have h6 := fun j => (h j).2.2.2.2.2.2.1
  have h7 := fun j => (h j).2.2.2.2.2.2.2
  refine ⟨m + 7, ?_⟩
  simp [laws_FnExactAnswerAll.f, laws_FnExactAnswerAll.j0, laws_FnExactAnswerAll.j1, laws_FnExactAnswerAll.j2, h0, h1, h2, h3, h4, h5, h6, h7, laws_szAskedS.small l hb, show ¬ (1048576 - (l.length : Int) < 0) by omega, show ¬ (1 + 2 * (l.length : Int) < 0) by omega, hneg_v]

end Go.Proofs.Ytlmcoaencmfdfaa.PFnExactAnswerAll
