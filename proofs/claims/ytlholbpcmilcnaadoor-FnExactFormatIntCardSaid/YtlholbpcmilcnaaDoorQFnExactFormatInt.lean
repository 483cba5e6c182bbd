/- The plain law behind the statement FnExactFormatInt: what the Go functions' Lean forms come to. Written for this work; no condition. -/
import Derived.Test.YtlholbpcmilcnaaDoorPFnExactFormatIntx
import Derived.Test.YtlholbpcmilcnaaDoorLib2
set_option linter.unusedVariables false
set_option linter.unusedSimpArgs false
namespace Go.Proofs.YtlholbpcmilcnaaDoor.PFnExactFormatInt
open Go.RowKit Go.Proofs.YtlholbpcmilcnaaDoorW.PrintWords Go.Proofs.YtlholbpcmilcnaaDoorW.PrintLast Go.Proofs.YtlholbpcmilcnaaDoorW.PrintMore Go.Proofs.YtlholbpcmilcnaaDoor.Lib


theorem spec_l1In.eq (a b c : Int) : spec_l1In.f a b c = some (decide (b ≤ a ∧ a ≤ c)) := by
  unfold spec_l1In.f; by_cases h : b ≤ a <;> simp [h]

theorem dgB_cut : ∀ a : Fin 10, (⟨#[48, 49, 50, 51, 52, 53, 54, 55, 56, 57]⟩ : ByteArray).extract a.val (a.val + 1) = ⟨#[UInt8.ofNat (48 + a.val)]⟩ := by
  intro a
  match a with
  | 0 | 1 | 2 | 3 | 4 | 5 | 6 | 7 | 8 | 9 => rfl
theorem spec_l1Num.ev (a : Int) (h : 0 ≤ a ∧ a < 10) : Stops (fun k => spec_l1Num.f k a) (dgB a) := by
  refine Stops.now1 fun k => ?_
  obtain ⟨n, rfl⟩ := Int.eq_ofNat_of_zero_le h.1
  have ew : wrap64 ((n : Int) + 1) = ((n + 1 : Nat) : Int) := w64 (by omega) (by omega)
  simp only [spec_l1Num.f]
  rw [if_neg (by omega), if_pos h.2, if_pos h.1, ew, if_pos (by omega), if_pos (by omega), Int.toNat_natCast, Int.toNat_natCast, dgB_cut ⟨n, by omega⟩]
  rfl
/-- A list of bytes as a text. -/
def btx (l : List UInt8) : ByteArray := ⟨l.toArray⟩
theorem btx_append (a b : List UInt8) : btx a ++ btx b = btx (a ++ b) := by
  have h : (btx a ++ btx b).data = (btx (a ++ b)).data := by
    rw [ByteArray.data_append]
    show a.toArray ++ b.toArray = (a ++ b).toArray
    simp
  generalize btx a ++ btx b = x at h
  generalize btx (a ++ b) = y at h
  cases x; cases y
  simp only at h
  rw [h]
theorem btx_size (a : List UInt8) : (btx a).size = a.length := by
  show a.toArray.size = _
  simp
theorem dec_len (n : Nat) : (_root_.Go.Lib.decDigits n).length ≤ n + 1 := by
  induction n using Nat.strongRecOn with
  | _ n ih =>
    rw [_root_.Go.Lib.decDigits]
    split
    · simp
    · have := ih (n / 10) (by omega)
      rw [List.length_append, List.length_singleton]
      omega
theorem spec_l1Num.nat (n : Nat) : n ≤ 100000000 → Stops (fun k => spec_l1Num.f k (n : Int)) (btx (_root_.Go.Lib.decDigits n)) := by
  induction n using Nat.strongRecOn with
  | _ n ih =>
    intro hn
    by_cases h : n < 10
    · have := spec_l1Num.ev (n : Int) ⟨by omega, by omega⟩
      rw [_root_.Go.Lib.decDigits, dif_pos h]
      exact this
    · have A := ih (n / 10) (by omega) (by omega)
      have hl := dec_len (n / 10)
      have e1 : wrap64 (Int.tdiv (n : Int) 10) = ((n / 10 : Nat) : Int) := by
        rw [show Int.tdiv (n : Int) 10 = ((n / 10 : Nat) : Int) from rfl]
        exact w64 (by omega) (by omega)
      have e2 : Int.tmod (n : Int) 10 = ((n % 10 : Nat) : Int) := rfl
      have e3 : wrap64 (((n % 10 : Nat) : Int) + 1) = ((n % 10 + 1 : Nat) : Int) := w64 (by omega) (by omega)
      have hd := dgB_cut ⟨n % 10, by omega⟩
      simp only at hd
      refine A.round fun k a => ?_
      rw [spec_l1Num.f, if_neg (by omega), if_neg (by omega), e1, a, Option.bind_some, e2, if_pos (by omega), e3, if_pos (by omega), if_pos (by omega), Int.toNat_natCast, Int.toNat_natCast, hd]
      rw [show (⟨#[UInt8.ofNat (48 + n % 10)]⟩ : ByteArray) = btx [UInt8.ofNat (48 + n % 10)] from rfl, if_pos (by rw [btx_size, btx_size]; simp; omega), btx_append]
      rw [show _root_.Go.Lib.decDigits n = _root_.Go.Lib.decDigits (n / 10) ++ [UInt8.ofNat (48 + n % 10)] by rw [_root_.Go.Lib.decDigits.eq_def n, dif_neg h]]
theorem spec_l1Num.neg (n : Nat) : 1 ≤ n → n ≤ 100000000 → Stops (fun k => spec_l1Num.f k (-(n : Int))) (btx (45 :: _root_.Go.Lib.decDigits n)) := by
  induction n using Nat.strongRecOn with
  | _ n ih =>
    intro h1 hn
    by_cases h : n < 10
    · have A := spec_l1Num.nat n hn
      have hl := dec_len n
      have e1 : wrap64 (-(-(n : Int))) = (n : Int) := by rw [Int.neg_neg]; exact w64 (by omega) (by omega)
      refine A.round fun k a => ?_
      rw [spec_l1Num.f, if_pos (by omega), if_pos (by omega), e1, a, Option.bind_some, if_pos (by rw [btx_size]; omega)]
      rw [show (⟨#[45]⟩ : ByteArray) = btx [45] from rfl, btx_append]
      rfl
    · have A := ih (n / 10) (by omega) (by omega) (by omega)
      have B := spec_l1Num.nat (n % 10) (by omega)
      have hl := dec_len (n / 10)
      have hl2 := dec_len (n % 10)
      have e1 : wrap64 (Int.tdiv (-(n : Int)) 10) = -((n / 10 : Nat) : Int) := by
        rw [Int.neg_tdiv, show Int.tdiv (n : Int) 10 = ((n / 10 : Nat) : Int) from rfl]
        exact w64 (by omega) (by omega)
      have e2 : wrap64 (-(Int.tmod (-(n : Int)) 10)) = ((n % 10 : Nat) : Int) := by
        rw [Int.neg_tmod, Int.neg_neg, show Int.tmod (n : Int) 10 = ((n % 10 : Nat) : Int) from rfl]
        exact w64 (by omega) (by omega)
      refine Evt.succ (A.and B.evt) fun k ⟨a, b⟩ => ?_
      show spec_l1Num.f (k + 1) (-(n : Int)) = _
      rw [spec_l1Num.f, if_pos (by omega), if_neg (by omega), e1, a, Option.bind_some, e2, b, Option.bind_some, if_pos (by rw [btx_size, btx_size, List.length_cons]; omega), btx_append]
      rw [show _root_.Go.Lib.decDigits n = _root_.Go.Lib.decDigits (n / 10) ++ _root_.Go.Lib.decDigits (n % 10) by rw [_root_.Go.Lib.decDigits.eq_def n, dif_neg h, _root_.Go.Lib.decDigits.eq_def (n % 10), dif_pos (Nat.mod_lt _ (by omega))]]
      rfl
theorem spec_l1Num.num (n : Int) (h : -100000000 ≤ n ∧ n ≤ 100000000) : Stops (fun k => spec_l1Num.f k n) (btx (_root_.Go.Lib.itoa n)) := by
  by_cases h0 : n < 0
  · obtain ⟨m, rfl⟩ : ∃ m : Nat, n = -(m : Int) := ⟨n.natAbs, by omega⟩
    have := spec_l1Num.neg m (by omega) (by omega)
    rw [_root_.Go.Lib.itoa, if_pos h0, show (-(m : Int)).natAbs = m by omega]
    exact this
  · obtain ⟨m, rfl⟩ := Int.eq_ofNat_of_zero_le (show 0 ≤ n by omega)
    have := spec_l1Num.nat m (by omega)
    rw [_root_.Go.Lib.itoa, if_neg h0, Int.toNat_natCast]
    exact this

def fiV (n : Int) : ByteArray × Bool := if -999999 ≤ n ∧ n ≤ 999999 then (btx (_root_.Go.Lib.itoa n), true) else (⟨#[]⟩, false)
theorem spec_FormatInt.ev (n : Int) : Stops (fun k => spec_FormatInt.f k n) (fiV n) := by
  unfold fiV
  by_cases h : -999999 ≤ n ∧ n ≤ 999999
  · rw [if_pos h]
    refine (spec_l1Num.num n (by omega)).same fun k a => ?_
    simp only [spec_FormatInt.f, spec_l1In.eq, Option.bind_some]
    rw [decide_eq_true h, if_pos rfl, a, Option.bind_some]
  · rw [if_neg h]
    refine Evt.true.mono fun k _ => ?_
    simp only [spec_FormatInt.f, spec_l1In.eq, Option.bind_some]
    rw [decide_eq_false h, if_neg (by simp)]

theorem impl_in.eq (a b c : Int) : impl_in.f a b c = some (decide (b ≤ a ∧ a ≤ c)) := by
  unfold impl_in.f; by_cases h : b ≤ a <;> simp [h]

theorem impl_FormatInt.eq (n : Int) : impl_FormatInt.f n = some (fiV n) := by
  unfold fiV
  simp only [impl_FormatInt.f, impl_in.eq, Option.bind_some]
  by_cases h : -999999 ≤ n ∧ n ≤ 999999
  · rw [if_pos h, decide_eq_true h, if_pos rfl, strconv_Itoa_29.f, if_pos (by omega)]; rfl
  · rw [if_neg h, decide_eq_false h, if_neg (by simp)]

theorem law : laws_FnExactFormatInt.Pure := by
  intro n _
  have S := spec_FormatInt.ev n
  have I := impl_FormatInt.eq n
  generalize fiV n = v at *
  obtain ⟨k, s⟩ := S.rounds
  exact ⟨k, by simp [laws_FnExactFormatInt.f, s, I]⟩

end Go.Proofs.YtlholbpcmilcnaaDoor.PFnExactFormatInt
