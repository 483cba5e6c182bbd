/- The plain law behind the statement FnExactParseInt: what the Go functions' Lean forms come to. Written for this work; no condition. -/
import Derived.Test.YtlholbpcmilcnaaDoorPFnExactParseIntx
import Derived.Test.YtlholbpcmilcnaaDoorLib2
import Derived.Lib.AtoiTie
set_option linter.unusedVariables false
set_option linter.unusedSimpArgs false
namespace Go.Proofs.YtlholbpcmilcnaaDoor.PFnExactParseInt
open Go.RowKit Go.Proofs.YtlholbpcmilcnaaDoorW.PrintWords Go.Proofs.YtlholbpcmilcnaaDoorW.PrintLast Go.Proofs.YtlholbpcmilcnaaDoorW.PrintMore Go.Proofs.YtlholbpcmilcnaaDoor.Lib


theorem spec_l1In.eq (a b c : Int) : spec_l1In.f a b c = some (decide (b ≤ a ∧ a ≤ c)) := by
  unfold spec_l1In.f; by_cases h : b ≤ a <;> simp [h]

theorem dgB_cut : ∀ a : Fin 10, (⟨#[48, 49, 50, 51, 52, 53, 54, 55, 56, 57]⟩ : ByteArray).extract a.val (a.val + 1) = ⟨#[UInt8.ofNat (48 + a.val)]⟩ := by
  intro a
  match a with
  | 0 | 1 | 2 | 3 | 4 | 5 | 6 | 7 | 8 | 9 => rfl
theorem spec_l1Num.ev (a : Int) (h : 0 ≤ a ∧ a < 10) : Stops (fun k => spec_l1Num.f k a) (dgB a) := by
  refine Stops.now1 fun k => ?_
  obtain ⟨n, rfl⟩ := Int.eq_ofNat_of_zero_le h.1
  have ew : wrap64 ((n : Int) + 1) = ((n + 1 : Nat) : Int) := w64 (by omega) (by omega)
  simp only [spec_l1Num.f]
  rw [if_neg (by omega), if_pos h.2, if_pos h.1, ew, if_pos (by omega), if_pos (by omega), Int.toNat_natCast, Int.toNat_natCast, dgB_cut ⟨n, by omega⟩]
  rfl
theorem spec_l1Num.nat (n : Nat) : n ≤ 100000000 → Stops (fun k => spec_l1Num.f k (n : Int)) (btx (_root_.Go.Lib.decDigits n)) := by
  induction n using Nat.strongRecOn with
  | _ n ih =>
    intro hn
    by_cases h : n < 10
    · have := spec_l1Num.ev (n : Int) ⟨by omega, by omega⟩
      rw [_root_.Go.Lib.decDigits, dif_pos h]
      exact this
    · have A := ih (n / 10) (by omega) (by omega)
      have hl := dec_len (n / 10)
      have e1 : wrap64 (Int.tdiv (n : Int) 10) = ((n / 10 : Nat) : Int) := by
        rw [show Int.tdiv (n : Int) 10 = ((n / 10 : Nat) : Int) from rfl]
        exact w64 (by omega) (by omega)
      have e2 : Int.tmod (n : Int) 10 = ((n % 10 : Nat) : Int) := rfl
      have e3 : wrap64 (((n % 10 : Nat) : Int) + 1) = ((n % 10 + 1 : Nat) : Int) := w64 (by omega) (by omega)
      have hd := dgB_cut ⟨n % 10, by omega⟩
      simp only at hd
      refine A.round fun k a => ?_
      rw [spec_l1Num.f, if_neg (by omega), if_neg (by omega), e1, a, Option.bind_some, e2, if_pos (by omega), e3, if_pos (by omega), if_pos (by omega), Int.toNat_natCast, Int.toNat_natCast, hd]
      rw [show (⟨#[UInt8.ofNat (48 + n % 10)]⟩ : ByteArray) = btx [UInt8.ofNat (48 + n % 10)] from rfl, if_pos (by rw [btx_size, btx_size]; simp; omega), btx_append]
      rw [show _root_.Go.Lib.decDigits n = _root_.Go.Lib.decDigits (n / 10) ++ [UInt8.ofNat (48 + n % 10)] by rw [_root_.Go.Lib.decDigits.eq_def n, dif_neg h]]
theorem spec_l1Num.neg (n : Nat) : 1 ≤ n → n ≤ 100000000 → Stops (fun k => spec_l1Num.f k (-(n : Int))) (btx (45 :: _root_.Go.Lib.decDigits n)) := by
  induction n using Nat.strongRecOn with
  | _ n ih =>
    intro h1 hn
    by_cases h : n < 10
    · have A := spec_l1Num.nat n hn
      have hl := dec_len n
      have e1 : wrap64 (-(-(n : Int))) = (n : Int) := by rw [Int.neg_neg]; exact w64 (by omega) (by omega)
      refine A.round fun k a => ?_
      rw [spec_l1Num.f, if_pos (by omega), if_pos (by omega), e1, a, Option.bind_some, if_pos (by rw [btx_size]; omega)]
      rw [show (⟨#[45]⟩ : ByteArray) = btx [45] from rfl, btx_append]
      rfl
    · have A := ih (n / 10) (by omega) (by omega) (by omega)
      have B := spec_l1Num.nat (n % 10) (by omega)
      have hl := dec_len (n / 10)
      have hl2 := dec_len (n % 10)
      have e1 : wrap64 (Int.tdiv (-(n : Int)) 10) = -((n / 10 : Nat) : Int) := by
        rw [Int.neg_tdiv, show Int.tdiv (n : Int) 10 = ((n / 10 : Nat) : Int) from rfl]
        exact w64 (by omega) (by omega)
      have e2 : wrap64 (-(Int.tmod (-(n : Int)) 10)) = ((n % 10 : Nat) : Int) := by
        rw [Int.neg_tmod, Int.neg_neg, show Int.tmod (n : Int) 10 = ((n % 10 : Nat) : Int) from rfl]
        exact w64 (by omega) (by omega)
      refine Evt.succ (A.and B.evt) fun k ⟨a, b⟩ => ?_
      show spec_l1Num.f (k + 1) (-(n : Int)) = _
      rw [spec_l1Num.f, if_pos (by omega), if_neg (by omega), e1, a, Option.bind_some, e2, b, Option.bind_some, if_pos (by rw [btx_size, btx_size, List.length_cons]; omega), btx_append]
      rw [show _root_.Go.Lib.decDigits n = _root_.Go.Lib.decDigits (n / 10) ++ _root_.Go.Lib.decDigits (n % 10) by rw [_root_.Go.Lib.decDigits.eq_def n, dif_neg h, _root_.Go.Lib.decDigits.eq_def (n % 10), dif_pos (Nat.mod_lt _ (by omega))]]
      rfl
theorem spec_l1Num.num (n : Int) (h : -100000000 ≤ n ∧ n ≤ 100000000) : Stops (fun k => spec_l1Num.f k n) (btx (_root_.Go.Lib.itoa n)) := by
  by_cases h0 : n < 0
  · obtain ⟨m, rfl⟩ : ∃ m : Nat, n = -(m : Int) := ⟨n.natAbs, by omega⟩
    have := spec_l1Num.neg m (by omega) (by omega)
    rw [_root_.Go.Lib.itoa, if_pos h0, show (-(m : Int)).natAbs = m by omega]
    exact this
  · obtain ⟨m, rfl⟩ := Int.eq_ofNat_of_zero_le (show 0 ≤ n by omega)
    have := spec_l1Num.nat m (by omega)
    rw [_root_.Go.Lib.itoa, if_neg h0, Int.toNat_natCast]
    exact this

theorem btx_iff (l : List UInt8) (s : ByteArray) : (btx l).toList = s.toList ↔ l = s.data.toList := by
  rw [ByteArray.toList_eq, ByteArray.toList_eq]
  show l.toArray.toList = _ ↔ _
  simp
theorem decFrom_append (a b : List UInt8) : ∀ acc, _root_.Go.Lib.decFrom acc (a ++ b) = (_root_.Go.Lib.decFrom acc a).bind fun m => _root_.Go.Lib.decFrom m b := by
  induction a with
  | nil => intro acc; rfl
  | cons x t ih =>
    intro acc
    rw [List.cons_append, _root_.Go.Lib.decFrom, _root_.Go.Lib.decFrom]
    cases _root_.Go.Lib.digitVal x with
    | none => rfl
    | some d => exact ih _
theorem digit_at : ∀ d : Fin 10, _root_.Go.Lib.digitVal (UInt8.ofNat (48 + d.val)) = some d.val ∧ UInt8.ofNat (48 + d.val) ≠ 45 ∧ UInt8.ofNat (48 + d.val) ≠ 43 := by
  intro d
  match d with
  | 0 | 1 | 2 | 3 | 4 | 5 | 6 | 7 | 8 | 9 => decide
theorem decFrom_dec (n : Nat) : _root_.Go.Lib.decFrom 0 (_root_.Go.Lib.decDigits n) = some n := by
  induction n using Nat.strongRecOn with
  | _ n ih =>
    rw [_root_.Go.Lib.decDigits]
    by_cases h : n < 10
    · rw [dif_pos h, _root_.Go.Lib.decFrom, (digit_at ⟨n, h⟩).1]
      simp [_root_.Go.Lib.decFrom]
    · rw [dif_neg h, decFrom_append, ih (n / 10) (by omega), Option.bind_some, _root_.Go.Lib.decFrom, (digit_at ⟨n % 10, by omega⟩).1]
      simp only [_root_.Go.Lib.decFrom]
      congr 1
      omega
theorem dec_head (n : Nat) : ∃ (d : Fin 10) (r : List UInt8), _root_.Go.Lib.decDigits n = UInt8.ofNat (48 + d.val) :: r := by
  induction n using Nat.strongRecOn with
  | _ n ih =>
    rw [_root_.Go.Lib.decDigits]
    by_cases h : n < 10
    · rw [dif_pos h]; exact ⟨⟨n, h⟩, [], rfl⟩
    · rw [dif_neg h]
      obtain ⟨d, r, e⟩ := ih (n / 10) (by omega)
      rw [e]
      exact ⟨d, _, rfl⟩
theorem dec_short (k : Nat) : ∀ n : Nat, n < 10 ^ (k + 1) → (_root_.Go.Lib.decDigits n).length ≤ k + 1 := by
  induction k with
  | zero => intro n h; rw [_root_.Go.Lib.decDigits, dif_pos (by simpa using h)]; exact Nat.le_refl _
  | succ k ih =>
    intro n h
    rw [_root_.Go.Lib.decDigits]
    by_cases h1 : n < 10
    · rw [dif_pos h1]; simp
    · rw [dif_neg h1, List.length_append, List.length_singleton]
      have := ih (n / 10) (by rw [Nat.pow_succ] at h; omega)
      omega
/-- What comes of the digits that were read. -/
def finV (l t : List UInt8) : Option Nat → Int × Bool
  | none => (0, false)
  | some m => if t.length < l.length then (if _root_.Go.Lib.itoa (-(m : Int)) = l then (-(m : Int), true) else (0, false)) else (if _root_.Go.Lib.itoa (m : Int) = l then ((m : Int), true) else (0, false))
def rdT (l t : List UInt8) : Int × Bool := if 1 ≤ t.length ∧ t.length ≤ 6 then finV l t (_root_.Go.Lib.decFrom 0 t) else (0, false)
def tlV (l : List UInt8) : List UInt8 := if 1 < l.length ∧ l.head? = some 45 then l.drop 1 else l
def rdV (l : List UInt8) : Int × Bool := rdT l (tlV l)
theorem l1Read_loop (s t : ByteArray) (h6 : t.data.toList.length ≤ 6) : ∀ d i acc : Nat, i + d = t.data.toList.length → acc < 10 ^ i →
    Stops (fun k => spec_l1Read.l0 k s t (acc : Int) (i : Int)) (finV s.data.toList t.data.toList (_root_.Go.Lib.decFrom acc (t.data.toList.drop i))) := by
  have hs := size_list s
  have ht := size_list t
  intro d
  induction d with
  | zero =>
    intro i acc hi ha
    have h10 : 10 ^ i ≤ 10 ^ 6 := Nat.pow_le_pow_right (by decide) (by omega)
    have e6 : (10 : Nat) ^ 6 = 1000000 := by decide
    rw [List.drop_eq_nil_of_le (by omega)]
    have en : wrap64 (-(acc : Int)) = -(acc : Int) := w64 (by omega) (by omega)
    refine ((spec_l1Num.num (acc : Int) (by omega)).and (spec_l1Num.num (-(acc : Int)) (by omega)).evt).succ fun k ⟨a, b⟩ => ?_
    show spec_l1Read.l0 (k + 1) s t (acc : Int) (i : Int) = _
    rw [spec_l1Read.l0, if_neg (by omega), _root_.Go.Lib.decFrom, finV]
    by_cases hl : t.data.toList.length < s.data.toList.length
    · rw [if_pos hl, if_pos (by omega), en, b, Option.bind_some]
      by_cases hq : _root_.Go.Lib.itoa (-(acc : Int)) = s.data.toList
      · rw [if_pos hq, if_pos ((btx_iff _ _).2 hq)]
      · rw [if_neg hq, if_neg (fun g => hq ((btx_iff _ _).1 g))]
    · rw [if_neg hl, if_neg (by omega), a, Option.bind_some]
      by_cases hq : _root_.Go.Lib.itoa (acc : Int) = s.data.toList
      · rw [if_pos hq, if_pos ((btx_iff _ _).2 hq)]
      · rw [if_neg hq, if_neg (fun g => hq ((btx_iff _ _).1 g))]
  | succ d ih =>
    intro i acc hi ha
    have hlt : i < t.data.toList.length := by omega
    have h10 : 10 ^ i ≤ 10 ^ 6 := Nat.pow_le_pow_right (by decide) (by omega)
    have e6 : (10 : Nat) ^ 6 = 1000000 := by decide
    have hb := bt_list t i hlt
    rw [List.drop_eq_getElem_cons hlt]
    generalize t.data.toList[i] = c at hb ⊢
    have hc := UInt8.toNat_lt c
    by_cases h1 : c.toNat < 48
    · refine Stops.now1 fun k => ?_
      rw [spec_l1Read.l0, if_pos (by omega), if_pos (by omega), hb, if_pos (by omega), _root_.Go.Lib.decFrom, _root_.Go.Lib.digitVal, if_neg (by omega)]
      rfl
    by_cases h2 : 57 < c.toNat
    · refine Stops.now1 fun k => ?_
      rw [spec_l1Read.l0, if_pos (by omega), if_pos (by omega), hb, if_neg (by omega), if_pos (by omega), _root_.Go.Lib.decFrom, _root_.Go.Lib.digitVal, if_neg (by omega)]
      rfl
    have c1 : (i : Int) < (t.size : Int) := by omega
    have c2 : (0 : Int) ≤ (i : Int) := by omega
    have c3 : ¬ (c.toNat : Int) < 48 := by omega
    have c4 : ¬ (c.toNat : Int) > 57 := by omega
    have c5 : 48 ≤ c.toNat ∧ c.toNat ≤ 57 := by omega
    have c6 : acc * 10 + (c.toNat - 48) < 10 ^ (i + 1) := by rw [Nat.pow_succ]; omega
    have c7 : i + 1 + d = t.data.toList.length := by omega
    have ei : wrap64 ((i : Int) + 1) = ((i + 1 : Nat) : Int) := w64 (by omega) (by omega)
    have ea : wrap64 ((wrap64 (10 * (acc : Int))) + ((((c.toNat : Int)) - 48) % 256)) = ((acc * 10 + (c.toNat - 48) : Nat) : Int) := by
      have g1 : (((c.toNat : Int)) - 48) % 256 = ((c.toNat - 48 : Nat) : Int) := by omega
      rw [w64 (n := 10 * (acc : Int)) (by omega) (by omega), g1, w64 (by omega) (by omega)]
      omega
    have I := ih (i + 1) (acc * 10 + (c.toNat - 48)) c7 c6
    have ed : _root_.Go.Lib.decFrom acc (c :: t.data.toList.drop (i + 1)) = _root_.Go.Lib.decFrom (acc * 10 + (c.toNat - 48)) (t.data.toList.drop (i + 1)) := by
      rw [_root_.Go.Lib.decFrom, _root_.Go.Lib.digitVal, if_pos c5]
    rw [ed]
    refine I.round fun k a => ?_
    rw [spec_l1Read.l0, if_pos c1, if_pos c2, hb, if_neg c3, if_neg c4, ea, ei]
    exact a
theorem l1Read_j1 (s t : ByteArray) : Stops (fun k => spec_l1Read.j1 k s t) (rdT s.data.toList t.data.toList) := by
  have ht := size_list t
  unfold rdT
  by_cases h : 1 ≤ t.data.toList.length ∧ t.data.toList.length ≤ 6
  · rw [if_pos h]
    have := l1Read_loop s t h.2 t.data.toList.length 0 0 (by omega) (by decide)
    rw [List.drop_zero] at this
    refine this.round fun k a => ?_
    rw [spec_l1Read.j1, spec_l1In.eq, Option.bind_some, decide_eq_true (by omega), if_pos rfl]
    exact a
  · rw [if_neg h]
    refine Stops.now1 fun k => ?_
    rw [spec_l1Read.j1, spec_l1In.eq, Option.bind_some, decide_eq_false (by omega), if_neg (by simp)]
theorem drop1 (s : ByteArray) : (s.extract 1 s.size).data.toList = s.data.toList.drop 1 := by
  rw [ByteArray.data_extract, Array.toList_extract, List.extract_eq_take_drop, size_list, List.take_of_length_le]
  rw [List.length_drop]; omega
theorem spec_l1Read.ev (s : ByteArray) : Stops (fun k => spec_l1Read.f k s) (rdV s.data.toList) := by
  have hs := size_list s
  unfold rdV tlV
  by_cases h1 : (s.size : Int) > 1
  · have hh : s.data.toList.head? = some 45 ↔ bt s 0 = 45 := by
      have := bt_list s 0 (by omega)
      rw [List.head?_eq_getElem?, List.getElem?_eq_getElem (by omega)]
      change bt s 0 = _ at this
      constructor
      · intro g
        have g2 := Option.some.inj g
        rw [g2] at this
        exact this
      · intro g
        congr 1
        refine UInt8.toNat_inj.1 ?_
        have := this.symm.trans g
        exact_mod_cast this
    by_cases hq : bt s 0 = 45
    · rw [if_pos ⟨by omega, hh.2 hq⟩]
      have := l1Read_j1 s (s.extract 1 s.size)
      rw [drop1] at this
      refine this.round (g := fun k => spec_l1Read.f k s) fun k a => ?_
      simp only [spec_l1Read.f]
      rw [if_pos h1, if_pos (by omega), beq_iff_eq.2 hq, spec_l1Read.j0, if_pos rfl, if_pos (by omega)]
      exact a
    · rw [if_neg (fun g => hq (hh.1 g.2))]
      refine (l1Read_j1 s s).round (g := fun k => spec_l1Read.f k s) fun k a => ?_
      simp only [spec_l1Read.f]
      rw [if_pos h1, if_pos (by omega), beq_eq_false_iff_ne.2 hq, spec_l1Read.j0, if_neg (by simp)]
      exact a
  · rw [if_neg (fun g => by omega)]
    refine (l1Read_j1 s s).round (g := fun k => spec_l1Read.f k s) fun k a => ?_
    simp only [spec_l1Read.f]
    rw [if_neg h1, spec_l1Read.j0, if_neg (by simp)]
    exact a

theorem spec_ParseInt.ev (s : ByteArray) : Stops (fun k => spec_ParseInt.f k s) (rdV s.data.toList) := (spec_l1Read.ev s).same fun k e => by
  simp only [spec_ParseInt.f, e, Option.bind_some]

theorem impl_in.eq (a b c : Int) : impl_in.f a b c = some (decide (b ≤ a ∧ a ≤ c)) := by
  unfold impl_in.f; by_cases h : b ≤ a <;> simp [h]

theorem impl_FormatInt.eq (n : Int) : impl_FormatInt.f n = some (fiV n) := by
  unfold fiV
  simp only [impl_FormatInt.f, impl_in.eq, Option.bind_some]
  by_cases h : -999999 ≤ n ∧ n ≤ 999999
  · rw [if_pos h, decide_eq_true h, if_pos rfl, strconv_Itoa_29.f, if_pos (by omega)]; rfl
  · rw [if_neg h, decide_eq_false h, if_neg (by simp)]

def paV (l : List UInt8) : Int × Bool := if (atN l).2 = true ∧ (-999999 ≤ (atN l).1 ∧ (atN l).1 ≤ 999999) ∧ _root_.Go.Lib.itoa (atN l).1 = l then ((atN l).1, true) else (0, false)
theorem impl_ParseInt.eq (s : ByteArray) (h : s.size ≤ 281474976710656) : impl_ParseInt.f s = some (paV s.data.toList) := by
  unfold impl_ParseInt.f paV
  rw [if_pos h, impl_FormatInt.eq, Option.bind_some]
  by_cases h1 : (atN s.data.toList).2 = true
  · rw [if_pos h1]
    unfold fiV
    by_cases h2 : -999999 ≤ (atN s.data.toList).1 ∧ (atN s.data.toList).1 ≤ 999999
    · rw [if_pos h2, if_pos rfl]
      by_cases h3 : _root_.Go.Lib.itoa (atN s.data.toList).1 = s.data.toList
      · rw [if_pos ((btx_iff _ _).2 h3), if_pos ⟨h1, h2, h3⟩]
      · rw [if_neg (fun g => h3 ((btx_iff _ _).1 g)), if_neg (fun g => h3 g.2.2)]
    · rw [if_neg h2, if_neg (by simp), if_neg (fun g => h2 g.2.1)]
  · rw [if_neg h1, if_neg (fun g => h1 g.1)]
/-- Every numeral is read back, by either. -/
theorem both_hit (n : Int) (h : -999999 ≤ n ∧ n ≤ 999999) : rdV (_root_.Go.Lib.itoa n) = (n, true) ∧ paV (_root_.Go.Lib.itoa n) = (n, true) := by
  have ei : ∀ m : Nat, _root_.Go.Lib.itoa (m : Int) = _root_.Go.Lib.decDigits m := fun m => by rw [_root_.Go.Lib.itoa, if_neg (by omega), Int.toNat_natCast]
  by_cases h0 : n < 0
  · obtain ⟨m, rfl⟩ : ∃ m : Nat, n = -(m : Int) := ⟨n.natAbs, by omega⟩
    have en : _root_.Go.Lib.itoa (-(m : Int)) = 45 :: _root_.Go.Lib.decDigits m := by rw [_root_.Go.Lib.itoa, if_pos h0, show (-(m : Int)).natAbs = m by omega]
    have hl : (_root_.Go.Lib.decDigits m).length ≤ 6 := dec_short 5 m (by omega)
    obtain ⟨d, r, ed⟩ := dec_head m
    have hl1 : 1 ≤ (_root_.Go.Lib.decDigits m).length := by rw [ed]; simp
    have hA : atN (_root_.Go.Lib.itoa (-(m : Int))) = (-(m : Int), true) := by
      unfold atN
      rw [en, _root_.Go.Lib.atoiAll_short _ (by rw [List.length_cons]; omega)]
      have : _root_.Go.Lib.atoi (45 :: _root_.Go.Lib.decDigits m) = some (-(m : Int)) := by
        rw [_root_.Go.Lib.atoi, if_pos (by decide), _root_.Go.Lib.decNat, if_neg (by rw [ed]; simp), decFrom_dec]; rfl
      rw [this]; rfl
    refine ⟨?_, ?_⟩
    · have et : tlV (_root_.Go.Lib.itoa (-(m : Int))) = _root_.Go.Lib.decDigits m := by
        rw [tlV, en, if_pos ⟨by rw [List.length_cons]; omega, rfl⟩]; rfl
      rw [rdV, et, rdT, if_pos ⟨hl1, hl⟩, decFrom_dec, finV, if_pos (by rw [en, List.length_cons]; omega), if_pos rfl]
    · rw [paV, hA, if_pos ⟨rfl, h, rfl⟩]
  · obtain ⟨m, rfl⟩ := Int.eq_ofNat_of_zero_le (show 0 ≤ n by omega)
    have hl : (_root_.Go.Lib.decDigits m).length ≤ 6 := dec_short 5 m (by omega)
    obtain ⟨d, r, ed⟩ := dec_head m
    have hd := digit_at d
    have hl1 : 1 ≤ (_root_.Go.Lib.decDigits m).length := by rw [ed]; simp
    have hA : atN (_root_.Go.Lib.itoa (m : Int)) = ((m : Int), true) := by
      unfold atN
      rw [ei, _root_.Go.Lib.atoiAll_short _ (by omega)]
      have : _root_.Go.Lib.atoi (_root_.Go.Lib.decDigits m) = some (m : Int) := by
        have hN : _root_.Go.Lib.decNat (_root_.Go.Lib.decDigits m) = some m := by
          rw [_root_.Go.Lib.decNat, if_neg (by rw [ed]; simp), decFrom_dec]
        rw [ed] at hN ⊢
        rw [_root_.Go.Lib.atoi, if_neg (by simpa using hd.2.1), if_neg (by simpa using hd.2.2), hN]; rfl
      rw [this]; rfl
    refine ⟨?_, ?_⟩
    · have et : tlV (_root_.Go.Lib.itoa (m : Int)) = _root_.Go.Lib.itoa (m : Int) := by
        rw [tlV, if_neg]
        rintro ⟨_, g⟩
        rw [ei, ed] at g
        exact hd.2.1 (Option.some.inj g)
      rw [rdV, et, ei, rdT, if_pos ⟨hl1, hl⟩, decFrom_dec, finV, if_neg (by omega), if_pos (ei m)]
    · rw [paV, hA, if_pos ⟨rfl, h, rfl⟩]
theorem tlV_len (l : List UInt8) : tlV l = l ∨ tlV l = l.drop 1 := by
  unfold tlV; split
  · exact Or.inr rfl
  · exact Or.inl rfl
theorem rd_fine (l : List UInt8) (h : ¬ rdV l = (0, false)) : ∃ n : Int, (-999999 ≤ n ∧ n ≤ 999999) ∧ _root_.Go.Lib.itoa n = l := by
  unfold rdV rdT at h
  split at h
  case isFalse => exact absurd rfl h
  rename_i h6
  cases hd : _root_.Go.Lib.decFrom 0 (tlV l) with
  | none => rw [hd] at h; exact absurd rfl h
  | some m =>
    have hm := _root_.Go.Lib.decFrom_lt _ 0 m hd
    have h10 : 10 ^ (tlV l).length ≤ 10 ^ 6 := Nat.pow_le_pow_right (by decide) h6.2
    have e6 : (10 : Nat) ^ 6 = 1000000 := by decide
    rw [hd, finV] at h
    split at h
    · split at h
      · rename_i g; exact ⟨_, by omega, g⟩
      · exact absurd rfl h
    · split at h
      · rename_i g; exact ⟨_, by omega, g⟩
      · exact absurd rfl h
theorem rd_pa (l : List UInt8) : rdV l = paV l := by
  by_cases h : ∃ n : Int, (-999999 ≤ n ∧ n ≤ 999999) ∧ _root_.Go.Lib.itoa n = l
  · obtain ⟨n, hn, rfl⟩ := h
    rw [(both_hit n hn).1, (both_hit n hn).2]
  · have h1 : rdV l = (0, false) := Classical.byContradiction fun g => h (rd_fine l g)
    have h2 : paV l = (0, false) := by
      unfold paV
      rw [if_neg]
      exact fun g => h ⟨_, g.2.1, g.2.2⟩
    rw [h1, h2]

theorem law : laws_FnExactParseInt.Pure := by
  intro a _
  by_cases hb : (a.size : Int) > 1048576
  · exact ⟨0, by simp [laws_FnExactParseInt.f, hb]⟩
  have S := spec_ParseInt.ev a
  have I := impl_ParseInt.eq a (by omega)
  rw [← rd_pa] at I
  generalize rdV a.data.toList = v at *
  obtain ⟨k, s⟩ := S.rounds
  exact ⟨k, by simp only [laws_FnExactParseInt.f, s, I]; simp [hb]⟩

end Go.Proofs.YtlholbpcmilcnaaDoor.PFnExactParseInt
