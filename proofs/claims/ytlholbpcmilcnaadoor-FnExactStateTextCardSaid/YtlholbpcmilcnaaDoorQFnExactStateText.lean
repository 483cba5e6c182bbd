/- The plain law behind the statement FnExactStateText: what the Go functions' Lean forms come to. Written for this work; no condition. -/
import Derived.Test.YtlholbpcmilcnaaDoorPFnExactStateTextx
import Derived.Test.YtlholbpcmilcnaaDoorLib2
set_option linter.unusedVariables false
set_option linter.unusedSimpArgs false
namespace Go.Proofs.YtlholbpcmilcnaaDoor.PFnExactStateText
open Go.RowKit Go.Proofs.YtlholbpcmilcnaaDoorW.PrintWords Go.Proofs.YtlholbpcmilcnaaDoorW.PrintLast Go.Proofs.YtlholbpcmilcnaaDoorW.PrintMore Go.Proofs.YtlholbpcmilcnaaDoor.Lib


theorem laws_szIntS.eq (l : List Int) (a : Int) (h : l.length ≤ maxLen) (h0 : 0 ≤ a) (h1 : a ≤ 1048576) : laws_szIntS.f l a = some (if a < (l.length : Int) then -1 else a - (l.length : Int)) := by
  unfold maxLen at h
  unfold laws_szIntS.f; rw [w64 (by omega) (by omega)]
  by_cases hb : a < l.length
  · rw [if_pos (by omega), if_pos hb]
  · rw [if_neg (by omega), if_neg hb]

theorem laws_szState.big (l : List Int) (m : Int) (h : l.length ≤ maxLen) (hb : 1048576 < l.length) : laws_szState.f l m 1048576 = some (-1) := by
  unfold laws_szState.f; rw [laws_szIntS.eq l _ h (by omega) (by omega), if_pos (by omega)]; rfl
theorem laws_szState.small (l : List Int) (m : Int) (h : l.length ≤ maxLen) (hb : ¬ 1048576 < l.length) : laws_szState.f l m 1048576 = some (1048576 - (l.length : Int)) := by
  unfold laws_szState.f; rw [laws_szIntS.eq l _ h (by omega) (by omega), if_neg (by omega), Option.bind_some, if_neg (by omega)]

theorem spec_l1In.eq (a b c : Int) : spec_l1In.f a b c = some (decide (b ≤ a ∧ a ≤ c)) := by
  unfold spec_l1In.f; by_cases h : b ≤ a <;> simp [h]

theorem spec_l2State.ev (l : List Int) (m : Int) (h : l.length ≤ 35184372088832) : Stops (fun k => spec_l2State.f k l m) (isSt l m) := by
  have e : isSt l m = chkV (fun x => decide (-1 ≤ x ∧ x ≤ m)) (isN l.length && isM m) 12 l 0 := by
    rw [chkV_eq _ _ _ _ _ (fun g => by rw [Bool.and_eq_true] at g; have := isN_bd g.1; omega)]
    simp [isSt, List.all_eq_not_any_not]
  rw [e]
  have E := Stops.over0 l (fun k (i : Nat) (s : Unit) => spec_l2State.l0 k (i : Int) l m) (fun t s => chkV (fun x => decide (-1 ≤ x ∧ x ≤ m)) (isN l.length && isM m) 12 t (l.length - t.length)) () ?_ ?_
  · rw [Nat.sub_self] at E; exact E
  · intro s
    refine ⟨2, fun n hn => ?_⟩
    obtain ⟨k, rfl⟩ : ∃ k, n = k + 2 := ⟨n - 2, by omega⟩
    simp only [spec_l2State.l0, spec_l2State.j1, spec_l1In.eq]; rw [if_neg (by omega), if_neg (by simp)]
    exact and_bind (isN l.length) (isM m)
  · intro i hi s A
    have ew : wrap64 ((i : Int) + 1) = ((i + 1 : Nat) : Int) := w64 (by omega) (by omega)
    have ed : l.length - (l[i] :: l.drop (i + 1)).length = i := by simp; omega
    have ed2 : l.length - (l.drop (i + 1)).length = i + 1 := by simp; omega
    have A := A ()
    simp only [ed, ed2] at A ⊢
    by_cases hc : i ≤ 12
    · by_cases hp : -1 ≤ l[i] ∧ l[i] ≤ m
      · have A1 : Stops (fun k => spec_l2State.j1 k (i : Int) true l m) (chkV (fun x => decide (-1 ≤ x ∧ x ≤ m)) (isN l.length && isM m) 12 (l[i] :: l.drop (i + 1)) i) := A.round fun k a => by
          simp only [spec_l2State.j1, rd_at l i hi, spec_l1In.eq]
          rw [if_pos trivial, if_pos (by omega), if_pos (by omega), decide_eq_true hp, Option.bind_some, if_pos (by trivial), ew, chkV, if_pos hc, if_pos (by simpa using hp)]; exact a
        exact A1.round fun k a => by
          simp only [spec_l2State.l0]; rw [if_pos (by omega), decide_eq_true (by omega)]; exact a
      · refine ⟨2, fun n hn => ?_⟩
        obtain ⟨k, rfl⟩ : ∃ k, n = k + 2 := ⟨n - 2, by omega⟩
        simp only [spec_l2State.l0, spec_l2State.j1, rd_at l i hi, spec_l1In.eq]
        rw [if_pos (by omega), decide_eq_true (show (i : Int) ≤ 12 by omega), if_pos (by trivial), if_pos (by omega), if_pos (by omega), decide_eq_false hp, Option.bind_some]; simp [chkV, hc, hp]
    · refine ⟨2, fun n hn => ?_⟩
      obtain ⟨k, rfl⟩ : ∃ k, n = k + 2 := ⟨n - 2, by omega⟩
      simp only [spec_l2State.l0, spec_l2State.j1, spec_l1In.eq]
      rw [if_pos (by omega), decide_eq_false (show ¬ (i : Int) ≤ 12 by omega), chkV, if_neg hc, if_neg (by simp)]
      exact and_bind (isN l.length) (isM m)

theorem dgB_cut : ∀ a : Fin 10, (⟨#[48, 49, 50, 51, 52, 53, 54, 55, 56, 57]⟩ : ByteArray).extract a.val (a.val + 1) = ⟨#[UInt8.ofNat (48 + a.val)]⟩ := by
  intro a
  match a with
  | 0 | 1 | 2 | 3 | 4 | 5 | 6 | 7 | 8 | 9 => rfl
theorem spec_l1Num.ev (a : Int) (h : 0 ≤ a ∧ a < 10) : Stops (fun k => spec_l1Num.f k a) (dgB a) := by
  refine Stops.now1 fun k => ?_
  obtain ⟨n, rfl⟩ := Int.eq_ofNat_of_zero_le h.1
  have ew : wrap64 ((n : Int) + 1) = ((n + 1 : Nat) : Int) := w64 (by omega) (by omega)
  simp only [spec_l1Num.f]
  rw [if_neg (by omega), if_pos h.2, if_pos h.1, ew, if_pos (by omega), if_pos (by omega), Int.toNat_natCast, Int.toNat_natCast, dgB_cut ⟨n, by omega⟩]
  rfl
/-- A list of bytes as a text. -/
def btx (l : List UInt8) : ByteArray := ⟨l.toArray⟩
theorem btx_append (a b : List UInt8) : btx a ++ btx b = btx (a ++ b) := by
  have h : (btx a ++ btx b).data = (btx (a ++ b)).data := by
    rw [ByteArray.data_append]
    show a.toArray ++ b.toArray = (a ++ b).toArray
    simp
  generalize btx a ++ btx b = x at h
  generalize btx (a ++ b) = y at h
  cases x; cases y
  simp only at h
  rw [h]
theorem btx_size (a : List UInt8) : (btx a).size = a.length := by
  show a.toArray.size = _
  simp
theorem dec_len (n : Nat) : (_root_.Go.Lib.decDigits n).length ≤ n + 1 := by
  induction n using Nat.strongRecOn with
  | _ n ih =>
    rw [_root_.Go.Lib.decDigits]
    split
    · simp
    · have := ih (n / 10) (by omega)
      rw [List.length_append, List.length_singleton]
      omega
theorem spec_l1Num.nat (n : Nat) : n ≤ 100000000 → Stops (fun k => spec_l1Num.f k (n : Int)) (btx (_root_.Go.Lib.decDigits n)) := by
  induction n using Nat.strongRecOn with
  | _ n ih =>
    intro hn
    by_cases h : n < 10
    · have := spec_l1Num.ev (n : Int) ⟨by omega, by omega⟩
      rw [_root_.Go.Lib.decDigits, dif_pos h]
      exact this
    · have A := ih (n / 10) (by omega) (by omega)
      have hl := dec_len (n / 10)
      have e1 : wrap64 (Int.tdiv (n : Int) 10) = ((n / 10 : Nat) : Int) := by
        rw [show Int.tdiv (n : Int) 10 = ((n / 10 : Nat) : Int) from rfl]
        exact w64 (by omega) (by omega)
      have e2 : Int.tmod (n : Int) 10 = ((n % 10 : Nat) : Int) := rfl
      have e3 : wrap64 (((n % 10 : Nat) : Int) + 1) = ((n % 10 + 1 : Nat) : Int) := w64 (by omega) (by omega)
      have hd := dgB_cut ⟨n % 10, by omega⟩
      simp only at hd
      refine A.round fun k a => ?_
      rw [spec_l1Num.f, if_neg (by omega), if_neg (by omega), e1, a, Option.bind_some, e2, if_pos (by omega), e3, if_pos (by omega), if_pos (by omega), Int.toNat_natCast, Int.toNat_natCast, hd]
      rw [show (⟨#[UInt8.ofNat (48 + n % 10)]⟩ : ByteArray) = btx [UInt8.ofNat (48 + n % 10)] from rfl, if_pos (by rw [btx_size, btx_size]; simp; omega), btx_append]
      rw [show _root_.Go.Lib.decDigits n = _root_.Go.Lib.decDigits (n / 10) ++ [UInt8.ofNat (48 + n % 10)] by rw [_root_.Go.Lib.decDigits.eq_def n, dif_neg h]]
theorem spec_l1Num.neg (n : Nat) : 1 ≤ n → n ≤ 100000000 → Stops (fun k => spec_l1Num.f k (-(n : Int))) (btx (45 :: _root_.Go.Lib.decDigits n)) := by
  induction n using Nat.strongRecOn with
  | _ n ih =>
    intro h1 hn
    by_cases h : n < 10
    · have A := spec_l1Num.nat n hn
      have hl := dec_len n
      have e1 : wrap64 (-(-(n : Int))) = (n : Int) := by rw [Int.neg_neg]; exact w64 (by omega) (by omega)
      refine A.round fun k a => ?_
      rw [spec_l1Num.f, if_pos (by omega), if_pos (by omega), e1, a, Option.bind_some, if_pos (by rw [btx_size]; omega)]
      rw [show (⟨#[45]⟩ : ByteArray) = btx [45] from rfl, btx_append]
      rfl
    · have A := ih (n / 10) (by omega) (by omega) (by omega)
      have B := spec_l1Num.nat (n % 10) (by omega)
      have hl := dec_len (n / 10)
      have hl2 := dec_len (n % 10)
      have e1 : wrap64 (Int.tdiv (-(n : Int)) 10) = -((n / 10 : Nat) : Int) := by
        rw [Int.neg_tdiv, show Int.tdiv (n : Int) 10 = ((n / 10 : Nat) : Int) from rfl]
        exact w64 (by omega) (by omega)
      have e2 : wrap64 (-(Int.tmod (-(n : Int)) 10)) = ((n % 10 : Nat) : Int) := by
        rw [Int.neg_tmod, Int.neg_neg, show Int.tmod (n : Int) 10 = ((n % 10 : Nat) : Int) from rfl]
        exact w64 (by omega) (by omega)
      refine Evt.succ (A.and B.evt) fun k ⟨a, b⟩ => ?_
      show spec_l1Num.f (k + 1) (-(n : Int)) = _
      rw [spec_l1Num.f, if_pos (by omega), if_neg (by omega), e1, a, Option.bind_some, e2, b, Option.bind_some, if_pos (by rw [btx_size, btx_size, List.length_cons]; omega), btx_append]
      rw [show _root_.Go.Lib.decDigits n = _root_.Go.Lib.decDigits (n / 10) ++ _root_.Go.Lib.decDigits (n % 10) by rw [_root_.Go.Lib.decDigits.eq_def n, dif_neg h, _root_.Go.Lib.decDigits.eq_def (n % 10), dif_pos (Nat.mod_lt _ (by omega))]]
      rfl
theorem spec_l1Num.num (n : Int) (h : -100000000 ≤ n ∧ n ≤ 100000000) : Stops (fun k => spec_l1Num.f k n) (btx (_root_.Go.Lib.itoa n)) := by
  by_cases h0 : n < 0
  · obtain ⟨m, rfl⟩ : ∃ m : Nat, n = -(m : Int) := ⟨n.natAbs, by omega⟩
    have := spec_l1Num.neg m (by omega) (by omega)
    rw [_root_.Go.Lib.itoa, if_pos h0, show (-(m : Int)).natAbs = m by omega]
    exact this
  · obtain ⟨m, rfl⟩ := Int.eq_ofNat_of_zero_le (show 0 ≤ n by omega)
    have := spec_l1Num.nat m (by omega)
    rw [_root_.Go.Lib.itoa, if_neg h0, Int.toNat_natCast]
    exact this

theorem spec_l2Text.ev (l : List Int) (m : Int) (h : isSt l m = true) : Stops (fun k => spec_l2Text.f k l m) (stT m l l.length) := by
  have hb := isSt_bd h
  have L : Stops (fun k => spec_l2Text.l0 k (dgB m ++ ⟨#[58]⟩) 0 l m) (stT m l l.length) := by
    refine Stops.count' (g := fun k (s : ByteArray × Int) => spec_l2Text.l0 k s.1 s.2 l m) (fun i => (stT m l i, (i : Int))) l.length (Stops.now1 fun k => ?_) fun i hi A => ?_
    · simp only [spec_l2Text.l0]; rw [if_neg (by omega)]
    · have hx := hb.2.2.2 i hi
      have hz := stT_size m l i
      have ew : wrap64 ((i : Int) + 1) = ((i + 1 : Nat) : Int) := w64 (by omega) (by omega)
      simp only [stT] at A
      by_cases hc : rd l (i : Int) < 0
      · rw [if_pos hc] at A
        refine A.round fun k a => ?_
        simp only [spec_l2Text.l0]
        rw [if_pos (by omega), if_pos (by omega), if_pos hc, if_pos (by omega), ew]; exact a
      · rw [if_neg hc] at A
        refine Evt.succ (A.and (spec_l1Num.ev (rd l (i : Int)) (by omega)).evt) fun k ⟨a, b⟩ => ?_
        simp only [spec_l2Text.l0]
        rw [if_pos (by omega), if_pos (by omega), if_neg hc, b, Option.bind_some, if_pos (by rw [dgB_size]; omega), ew]; exact a
  refine ((spec_l1Num.ev m (by omega)).and L.evt).mono fun k ⟨a, b⟩ => ?_
  simp only [spec_l2Text.f]
  rw [a, Option.bind_some, if_pos (by rw [dgB_size]; omega)]
  exact b

theorem spec_StateText.ev (l : List Int) (m : Int) (h : l.length ≤ 35184372088832) : Stops (fun k => spec_StateText.f k l m) (ttV l m) := by
  unfold ttV
  by_cases hs : isSt l m = true
  · rw [if_pos hs]
    refine ((spec_l2State.ev l m h).and (spec_l2Text.ev l m hs).evt).mono fun k ⟨a, b⟩ => ?_
    simp only [spec_StateText.f, a, b, hs, Option.bind_some, if_true]
  · rw [if_neg hs]
    refine (spec_l2State.ev l m h).same fun k a => ?_
    simp [spec_StateText.f, a, hs]

theorem laws_toIntS.ev (l : List Int) (h : l.length ≤ 35184372088832) : Stops (fun k => laws_toIntS.f k l) l := by
  have E : Stops (fun k => laws_toIntS.l0 k l (List.replicate l.length 0) 0) l := by
    refine Stops.count (g := fun k (s : List Int × Int) => laws_toIntS.l0 k l s.1 s.2) (fun i => (l.take i ++ List.replicate (l.length - i) 0, (i : Int))) l.length (Stops.now1 fun m => ?_) fun i hi m => ?_
    · simp only [laws_toIntS.l0]; rw [if_neg (by omega)]; simp
    · have e : wrap64 ((i : Int) + 1) = (i : Int) + 1 := w64 (by omega) (by omega)
      have hl : ((l.take i ++ List.replicate (l.length - i) (0 : Int)).length : Int) = l.length := by simp; omega
      simp only [laws_toIntS.l0]; rw [if_pos (by omega), if_pos (by omega), hl, if_pos (by omega), e, rd_at l i hi, Int.toNat_natCast, set_fill l i hi]; rfl
  refine E.same fun m a => ?_
  simp only [laws_toIntS.f, Int.toNat_natCast]; rw [if_pos (by omega), if_pos h]; exact a

theorem laws_toState.ev (l : List Int) (m : Int) (h : l.length ≤ 35184372088832) : Stops (fun k => laws_toState.f k l m) (l, m) := by
  refine (laws_toIntS.ev l h).same fun k e => ?_
  simp [laws_toState.f, e]

theorem itoa_dg (a : Int) (h : 0 ≤ a ∧ a < 10) : strconv_Itoa_29.f a = some (dgB a) := by
  unfold strconv_Itoa_29.f
  rw [if_pos (by omega), dgB, _root_.Go.Lib.decDigits, dif_pos (by omega)]
theorem impl_StateText.ev (l : List Int) (m : Int) (h : l.length ≤ 35184372088832) : Stops (fun k => impl_StateText.f k l m) (ttV l m) := by
  unfold ttV
  by_cases hs : isSt l m = true
  · rw [if_pos hs]
    have hb := isSt_bd hs
    have L : Stops (fun k => impl_StateText.l0 k (dgB m ++ ⟨#[58]⟩) l (l.length : Int) 0) (stT m l l.length, true) := by
      refine Stops.count (g := fun k (s : ByteArray × Int) => impl_StateText.l0 k s.1 l (l.length : Int) s.2) (fun i => (stT m l i, (i : Int))) l.length (Stops.now1 fun k => ?_) fun i hi k => ?_
      · simp only [impl_StateText.l0]; rw [if_neg (by omega)]
      · have hx := hb.2.2.2 i hi
        have hz := stT_size m l i
        have ew : wrap64 ((i : Int) + 1) = ((i + 1 : Nat) : Int) := w64 (by omega) (by omega)
        simp only [impl_StateText.l0, stT]
        by_cases hc : rd l (i : Int) < 0
        · rw [if_pos (by omega), if_pos (by omega), if_pos (by omega), if_pos hc, if_pos (by omega), ew, if_pos hc]
        · rw [if_pos (by omega), if_pos (by omega), if_pos (by omega), if_neg hc, itoa_dg _ (by omega), Option.bind_some, if_pos (by rw [dgB_size]; omega), ew, if_neg hc]
    refine L.same fun k b => ?_
    simp only [impl_StateText.f, impl_IsState.f, hs, Option.bind_some, if_true]
    rw [itoa_dg m (by omega), Option.bind_some, if_pos (by rw [dgB_size]; omega)]
    exact b
  · rw [if_neg hs]
    refine Evt.true.mono fun k _ => ?_
    simp [impl_StateText.f, impl_IsState.f, hs]

theorem laws_eqIntS.ev (l : List Int) (h : l.length ≤ 35184372088832) : Stops (fun k => laws_eqIntS.f k l l) true := by
  have E : Stops (fun k => laws_eqIntS.l0 k l l 0) true := by
    refine Stops.count (g := fun k (s : Int) => laws_eqIntS.l0 k l l s) (fun i => (i : Int)) l.length (Stops.now1 fun m => ?_) fun i hi m => ?_
    · simp only [laws_eqIntS.l0]; rw [if_neg (by omega)]
    · have e : wrap64 ((i : Int) + 1) = (i : Int) + 1 := w64 (by omega) (by omega)
      rw [laws_eqIntS.l0, if_pos (by omega), if_pos (by omega), if_pos (by omega), if_pos rfl, e]; rfl
  refine E.same fun m a => ?_
  simp only [laws_eqIntS.f, if_true]; exact a

theorem laws_eqState.ev (l : List Int) (m : Int) (h : l.length ≤ 35184372088832) : Stops (fun k => laws_eqState.f k l m l m) true := by
  refine (laws_eqIntS.ev l h).same fun k e => ?_
  simp [laws_eqState.f, e]

theorem law : laws_FnExactStateText.Pure := by
  intro l m0 hm
  intros
  by_cases hb : 1048576 < l.length
  · exact ⟨0, by simp [laws_FnExactStateText.f, laws_szState.big l m0 hm hb]⟩
  have S := spec_StateText.ev l m0 (by omega)
  have I := impl_StateText.ev l m0 (by omega)
  generalize (ttV l m0) = v at *
  obtain ⟨v, b⟩ := v
  obtain ⟨m, h⟩ := (((S).and ((I).and ((laws_toState.ev l m0 (by omega)).and (laws_eqState.ev l m0 (by omega)).evt)))).shift
  have h0 := fun j => (h j).1
  have h1 := fun j => (h j).2.1
  have h2 := fun j => (h j).2.2.1
  have h3 := fun j => (h j).2.2.2
  refine ⟨m + 7, ?_⟩
  simp [laws_FnExactStateText.f, laws_FnExactStateText.j0, h0, h1, h2, h3, laws_szState.small l m0 hm hb, show ¬ (1048576 - (l.length : Int) < 0) by omega]

end Go.Proofs.YtlholbpcmilcnaaDoor.PFnExactStateText
