/- The plain law behind the statement FnExactAppendChecksum: what the Go functions' Lean forms come to. Written for this work; no condition. -/
import Derived.Test.YtlholbpcmilcnaaDoorPFnExactAppendChecksumx
import Derived.Test.YtlholbpcmilcnaaDoorLib2
set_option linter.unusedVariables false
set_option linter.unusedSimpArgs false
namespace Go.Proofs.YtlholbpcmilcnaaDoor.PFnExactAppendChecksum
open Go.RowKit Go.Proofs.YtlholbpcmilcnaaDoorW.PrintWords Go.Proofs.YtlholbpcmilcnaaDoorW.PrintLast Go.Proofs.YtlholbpcmilcnaaDoorW.PrintMore Go.Proofs.YtlholbpcmilcnaaDoor.Lib


theorem size_list (s : ByteArray) : s.size = s.data.toList.length := by rw [Array.length_toList]; rfl
theorem bt_list (s : ByteArray) (i : Nat) (hi : i < s.data.toList.length) : bt s (i : Int) = ((s.data.toList[i]).toNat : Int) := by
  have hs : (i : Int).toNat < s.size := by rw [Int.toNat_natCast, size_list]; exact hi
  rw [← bt_at s (i : Int) hs]
  rfl
/-- Does a byte stand in a text? -/
def stB (s : ByteArray) (b : Int) : Bool := s.data.toList.any fun x => decide ((x.toNat : Int) = b)
theorem spec_l1Stands.ev (s : ByteArray) (b : Int) (h : s.size ≤ 140737488355328) : Stops (fun k => spec_l1Stands.f k s b) (stB s b) := by
  have hl := size_list s
  refine Stops.over0 s.data.toList (fun k i (_ : Unit) => spec_l1Stands.l0 k s b (i : Int)) (fun r _ => r.any fun x => decide ((x.toNat : Int) = b)) () (fun _ => Stops.now1 fun k => ?_) fun i hi _ ih => ?_
  · simp only [spec_l1Stands.l0]; rw [if_neg (by omega)]; rfl
  · have ew : wrap64 ((i : Int) + 1) = ((i + 1 : Nat) : Int) := w64 (by omega) (by omega)
    refine (ih ()).round fun k a => ?_
    simp only [spec_l1Stands.l0]
    rw [if_pos (by omega), if_pos (by omega), bt_list s i hi, List.any_cons]
    by_cases hb : ((s.data.toList[i]).toNat : Int) = b
    · rw [if_pos hb, decide_eq_true hb, Bool.true_or]
    · rw [if_neg hb, decide_eq_false hb, Bool.false_or, ew]; exact a

theorem dgB_cut : ∀ a : Fin 10, (⟨#[48, 49, 50, 51, 52, 53, 54, 55, 56, 57]⟩ : ByteArray).extract a.val (a.val + 1) = ⟨#[UInt8.ofNat (48 + a.val)]⟩ := by
  intro a
  match a with
  | 0 | 1 | 2 | 3 | 4 | 5 | 6 | 7 | 8 | 9 => rfl
theorem spec_l1Num.ev (a : Int) (h : 0 ≤ a ∧ a < 10) : Stops (fun k => spec_l1Num.f k a) (dgB a) := by
  refine Stops.now1 fun k => ?_
  obtain ⟨n, rfl⟩ := Int.eq_ofNat_of_zero_le h.1
  have ew : wrap64 ((n : Int) + 1) = ((n + 1 : Nat) : Int) := w64 (by omega) (by omega)
  simp only [spec_l1Num.f]
  rw [if_neg (by omega), if_pos h.2, if_pos h.1, ew, if_pos (by omega), if_pos (by omega), Int.toNat_natCast, Int.toNat_natCast, dgB_cut ⟨n, by omega⟩]
  rfl
/-- A list of bytes as a text. -/
def btx (l : List UInt8) : ByteArray := ⟨l.toArray⟩
theorem btx_append (a b : List UInt8) : btx a ++ btx b = btx (a ++ b) := by
  have h : (btx a ++ btx b).data = (btx (a ++ b)).data := by
    rw [ByteArray.data_append]
    show a.toArray ++ b.toArray = (a ++ b).toArray
    simp
  generalize btx a ++ btx b = x at h
  generalize btx (a ++ b) = y at h
  cases x; cases y
  simp only at h
  rw [h]
theorem btx_size (a : List UInt8) : (btx a).size = a.length := by
  show a.toArray.size = _
  simp
theorem dec_len (n : Nat) : (_root_.Go.Lib.decDigits n).length ≤ n + 1 := by
  induction n using Nat.strongRecOn with
  | _ n ih =>
    rw [_root_.Go.Lib.decDigits]
    split
    · simp
    · have := ih (n / 10) (by omega)
      rw [List.length_append, List.length_singleton]
      omega
theorem spec_l1Num.nat (n : Nat) : n ≤ 100000000 → Stops (fun k => spec_l1Num.f k (n : Int)) (btx (_root_.Go.Lib.decDigits n)) := by
  induction n using Nat.strongRecOn with
  | _ n ih =>
    intro hn
    by_cases h : n < 10
    · have := spec_l1Num.ev (n : Int) ⟨by omega, by omega⟩
      rw [_root_.Go.Lib.decDigits, dif_pos h]
      exact this
    · have A := ih (n / 10) (by omega) (by omega)
      have hl := dec_len (n / 10)
      have e1 : wrap64 (Int.tdiv (n : Int) 10) = ((n / 10 : Nat) : Int) := by
        rw [show Int.tdiv (n : Int) 10 = ((n / 10 : Nat) : Int) from rfl]
        exact w64 (by omega) (by omega)
      have e2 : Int.tmod (n : Int) 10 = ((n % 10 : Nat) : Int) := rfl
      have e3 : wrap64 (((n % 10 : Nat) : Int) + 1) = ((n % 10 + 1 : Nat) : Int) := w64 (by omega) (by omega)
      have hd := dgB_cut ⟨n % 10, by omega⟩
      simp only at hd
      refine A.round fun k a => ?_
      rw [spec_l1Num.f, if_neg (by omega), if_neg (by omega), e1, a, Option.bind_some, e2, if_pos (by omega), e3, if_pos (by omega), if_pos (by omega), Int.toNat_natCast, Int.toNat_natCast, hd]
      rw [show (⟨#[UInt8.ofNat (48 + n % 10)]⟩ : ByteArray) = btx [UInt8.ofNat (48 + n % 10)] from rfl, if_pos (by rw [btx_size, btx_size]; simp; omega), btx_append]
      rw [show _root_.Go.Lib.decDigits n = _root_.Go.Lib.decDigits (n / 10) ++ [UInt8.ofNat (48 + n % 10)] by rw [_root_.Go.Lib.decDigits.eq_def n, dif_neg h]]
theorem spec_l1Num.neg (n : Nat) : 1 ≤ n → n ≤ 100000000 → Stops (fun k => spec_l1Num.f k (-(n : Int))) (btx (45 :: _root_.Go.Lib.decDigits n)) := by
  induction n using Nat.strongRecOn with
  | _ n ih =>
    intro h1 hn
    by_cases h : n < 10
    · have A := spec_l1Num.nat n hn
      have hl := dec_len n
      have e1 : wrap64 (-(-(n : Int))) = (n : Int) := by rw [Int.neg_neg]; exact w64 (by omega) (by omega)
      refine A.round fun k a => ?_
      rw [spec_l1Num.f, if_pos (by omega), if_pos (by omega), e1, a, Option.bind_some, if_pos (by rw [btx_size]; omega)]
      rw [show (⟨#[45]⟩ : ByteArray) = btx [45] from rfl, btx_append]
      rfl
    · have A := ih (n / 10) (by omega) (by omega) (by omega)
      have B := spec_l1Num.nat (n % 10) (by omega)
      have hl := dec_len (n / 10)
      have hl2 := dec_len (n % 10)
      have e1 : wrap64 (Int.tdiv (-(n : Int)) 10) = -((n / 10 : Nat) : Int) := by
        rw [Int.neg_tdiv, show Int.tdiv (n : Int) 10 = ((n / 10 : Nat) : Int) from rfl]
        exact w64 (by omega) (by omega)
      have e2 : wrap64 (-(Int.tmod (-(n : Int)) 10)) = ((n % 10 : Nat) : Int) := by
        rw [Int.neg_tmod, Int.neg_neg, show Int.tmod (n : Int) 10 = ((n % 10 : Nat) : Int) from rfl]
        exact w64 (by omega) (by omega)
      refine Evt.succ (A.and B.evt) fun k ⟨a, b⟩ => ?_
      show spec_l1Num.f (k + 1) (-(n : Int)) = _
      rw [spec_l1Num.f, if_pos (by omega), if_neg (by omega), e1, a, Option.bind_some, e2, b, Option.bind_some, if_pos (by rw [btx_size, btx_size, List.length_cons]; omega), btx_append]
      rw [show _root_.Go.Lib.decDigits n = _root_.Go.Lib.decDigits (n / 10) ++ _root_.Go.Lib.decDigits (n % 10) by rw [_root_.Go.Lib.decDigits.eq_def n, dif_neg h, _root_.Go.Lib.decDigits.eq_def (n % 10), dif_pos (Nat.mod_lt _ (by omega))]]
      rfl
theorem spec_l1Num.num (n : Int) (h : -100000000 ≤ n ∧ n ≤ 100000000) : Stops (fun k => spec_l1Num.f k n) (btx (_root_.Go.Lib.itoa n)) := by
  by_cases h0 : n < 0
  · obtain ⟨m, rfl⟩ : ∃ m : Nat, n = -(m : Int) := ⟨n.natAbs, by omega⟩
    have := spec_l1Num.neg m (by omega) (by omega)
    rw [_root_.Go.Lib.itoa, if_pos h0, show (-(m : Int)).natAbs = m by omega]
    exact this
  · obtain ⟨m, rfl⟩ := Int.eq_ofNat_of_zero_le (show 0 ≤ n by omega)
    have := spec_l1Num.nat m (by omega)
    rw [_root_.Go.Lib.itoa, if_neg h0, Int.toNat_natCast]
    exact this

theorem spec_l1Sum.ev (s : ByteArray) (h : s.size ≤ 140737488351232) : Stops (fun k => spec_l1Sum.f k s) (sumV s s.size) := by
  refine Stops.count (g := fun k (t : Int × Int) => spec_l1Sum.l0 k s t.1 t.2) (fun i => (sumV s i, (i : Int))) s.size (Stops.now1 fun m => ?_) fun i hi m => ?_
  · simp only [spec_l1Sum.l0]; rw [if_neg (by omega)]
  · have e : wrap64 ((i : Int) + 1) = (i : Int) + 1 := w64 (by omega) (by omega)
    simp only [spec_l1Sum.l0]; rw [if_pos (by omega), if_pos (by omega), e]; rfl

theorem sumV_bd (s : ByteArray) (i : Nat) : -999979 ≤ sumV s i ∧ sumV s i ≤ 999979 := by
  cases i with
  | zero => rw [sumV]; omega
  | succ i =>
    rw [sumV]
    generalize wrap64 (wrap64 (wrap64 (41 * sumV s i) + wrap64 (bt s i)) + 1) = x
    rcases Int.le_total 0 x with h | h
    · rw [Int.tmod_eq_emod_of_nonneg h]; omega
    · obtain ⟨y, hy, rfl⟩ : ∃ y : Int, 0 ≤ y ∧ x = -y := ⟨-x, by omega, by omega⟩
      rw [Int.neg_tmod, Int.tmod_eq_emod_of_nonneg hy]; omega
theorem itoa_len (n : Int) (h : -100000000 ≤ n ∧ n ≤ 100000000) : (_root_.Go.Lib.itoa n).length ≤ 100000002 := by
  unfold _root_.Go.Lib.itoa
  split
  · have := dec_len n.natAbs
    rw [List.length_cons]; omega
  · have := dec_len n.toNat
    omega
def sealV (a : ByteArray) : ByteArray := (a ++ (⟨#[35]⟩ : ByteArray)) ++ btx (_root_.Go.Lib.itoa (sumV a a.size))
theorem sealV_sz (a : ByteArray) (h : a.size ≤ 140737488351232) : (a ++ (⟨#[35]⟩ : ByteArray)).size + (btx (_root_.Go.Lib.itoa (sumV a a.size))).size ≤ 9223372036854775807 := by
  have hb := sumV_bd a a.size
  have hl := itoa_len (sumV a a.size) (by omega)
  rw [ByteArray.size_append, btx_size, show (⟨#[35]⟩ : ByteArray).size = 1 from rfl]
  omega
theorem spec_l1Seal.ev (a : ByteArray) (h : a.size ≤ 140737488351232) : Stops (fun k => spec_l1Seal.f k a) (sealV a) := by
  have hb := sumV_bd a a.size
  refine ((spec_l1Sum.ev a h).and (spec_l1Num.num (sumV a a.size) (by omega)).evt).mono fun k ⟨x, y⟩ => ?_
  simp only [spec_l1Seal.f]
  rw [if_pos (by omega), x, Option.bind_some, y, Option.bind_some, if_pos (sealV_sz a h)]
  rfl

def acV (a : ByteArray) : ByteArray × Bool := if (a.size : Int) > 4000 ∨ stB a 35 = true ∨ ((sealV a).size : Int) > 4000 then (⟨#[]⟩, false) else (sealV a, true)
theorem spec_AppendChecksum.ev (a : ByteArray) (h : a.size ≤ 140737488351232) : Stops (fun k => spec_AppendChecksum.f k a) (acV a) := by
  unfold acV
  refine ((spec_l1Stands.ev a 35 (by omega)).and (spec_l1Seal.ev a h).evt).mono fun k ⟨x, y⟩ => ?_
  simp only [spec_AppendChecksum.f, x, y, Option.bind_some]
  by_cases h1 : (a.size : Int) > 4000
  · rw [if_pos h1, if_pos (Or.inl h1)]
  · rw [if_neg h1]
    by_cases h2 : stB a 35 = true
    · rw [if_pos h2, if_pos (Or.inr (Or.inl h2))]
    · rw [if_neg h2]
      by_cases h3 : ((sealV a).size : Int) > 4000
      · rw [if_pos h3, if_pos (Or.inr (Or.inr h3))]
      · rw [if_neg h3, if_neg (by rintro (g | g | g); exact h1 g; exact h2 g; exact h3 g)]

theorem impl_checksum.ev (s : ByteArray) (h : s.size ≤ 140737488351232) : Stops (fun k => impl_checksum.f k s) (sumV s s.size) := by
  refine Stops.count (g := fun k (t : Int × Int) => impl_checksum.l0 k s t.1 (s.size : Int) t.2) (fun i => (sumV s i, (i : Int))) s.size (Stops.now1 fun m => ?_) fun i hi m => ?_
  · simp only [impl_checksum.l0]; rw [if_neg (by omega)]
  · have e : wrap64 ((i : Int) + 1) = (i : Int) + 1 := w64 (by omega) (by omega)
    simp only [impl_checksum.l0]; rw [if_pos (by omega), if_pos (by omega), if_pos (by omega), e]; rfl

theorem ib_any (l : List UInt8) (c : UInt8) : (0 ≤ _root_.Go.Lib.indexByte l c) ↔ (l.any fun x => x == c) = true := by
  induction l with
  | nil => simp [_root_.Go.Lib.indexByte]
  | cons b t ih =>
    have hg := _root_.Go.Lib.indexByte_ge t c
    rw [List.any_cons, _root_.Go.Lib.indexByte]
    by_cases h : (b == c) = true
    · rw [if_pos h, h]; simp
    · rw [if_neg h, show (b == c) = false by simpa using h, Bool.false_or, ← ih]
      by_cases h2 : (_root_.Go.Lib.indexByte t c == -1) = true
      · rw [if_pos h2]
        have : _root_.Go.Lib.indexByte t c = -1 := by simpa using h2
        omega
      · rw [if_neg h2]
        have : ¬ _root_.Go.Lib.indexByte t c = -1 := by simpa using h2
        omega
theorem ib_35 (s : ByteArray) : decide (0 ≤ _root_.Go.Lib.indexByte s.data.toList 35) = stB s 35 := by
  rw [Bool.eq_iff_iff, decide_eq_true_eq, ib_any]
  unfold stB
  have hf : (fun x : UInt8 => x == 35) = fun x => decide ((x.toNat : Int) = 35) := by
    funext x
    rw [Bool.eq_iff_iff]
    simp only [beq_iff_eq, decide_eq_true_eq]
    constructor
    · intro h; rw [h]; rfl
    · intro h; exact UInt8.toNat_inj.1 (by exact_mod_cast h)
  rw [hf]
theorem impl_AppendChecksum.ev (a : ByteArray) (h : a.size ≤ 140737488351232) : Stops (fun k => impl_AppendChecksum.f k a) (acV a) := by
  unfold acV
  have J1 : Stops (fun k => impl_AppendChecksum.j0 k a true) (⟨#[]⟩, false) := Stops.now1 fun k => by rw [impl_AppendChecksum.j0, if_pos rfl]
  by_cases h1 : (a.size : Int) > 4000
  · rw [if_pos (Or.inl h1)]
    refine J1.same fun k c => ?_
    simp only [impl_AppendChecksum.f]
    rw [if_pos h1]; exact c
  · have hf : ∀ k, impl_AppendChecksum.f k a = impl_AppendChecksum.j0 k a (stB a 35) := fun k => by
      simp only [impl_AppendChecksum.f]
      rw [if_neg h1, strings_Contains.f, if_pos rfl, Option.bind_some, ib_35]
    by_cases h2 : stB a 35 = true
    · rw [if_pos (Or.inr (Or.inl h2))]
      refine J1.same fun k c => ?_
      rw [hf, h2]; exact c
    · have h2' : stB a 35 = false := by simpa using h2
      have hb := sumV_bd a a.size
      have hsz := sealV_sz a h
      have hi : strconv_Itoa_29.f (sumV a a.size) = some (btx (_root_.Go.Lib.itoa (sumV a a.size))) := by rw [strconv_Itoa_29.f, if_pos (by omega)]; rfl
      have J : Stops (fun k => impl_AppendChecksum.j0 k a false) (if ((sealV a).size : Int) > 4000 then (⟨#[]⟩, false) else (sealV a, true)) := by
        refine (impl_checksum.ev a h).round fun k c => ?_
        rw [impl_AppendChecksum.j0, if_neg (by simp), if_pos (by omega), c, Option.bind_some, hi, Option.bind_some, if_pos hsz]
        rw [show (a ++ (⟨#[35]⟩ : ByteArray)) ++ btx (_root_.Go.Lib.itoa (sumV a a.size)) = sealV a from rfl]
        split <;> rfl
      have e : (if (a.size : Int) > 4000 ∨ stB a 35 = true ∨ ((sealV a).size : Int) > 4000 then ((⟨#[]⟩ : ByteArray), false) else (sealV a, true)) = (if ((sealV a).size : Int) > 4000 then (⟨#[]⟩, false) else (sealV a, true)) := by
        by_cases h3 : ((sealV a).size : Int) > 4000
        · rw [if_pos h3, if_pos (Or.inr (Or.inr h3))]
        · rw [if_neg h3, if_neg (by rintro (g | g | g); exact h1 g; exact h2 g; exact h3 g)]
      rw [e]
      refine J.same fun k c => ?_
      rw [hf, h2']; exact c

theorem law : laws_FnExactAppendChecksum.Pure := by
  intro a ha
  by_cases hb : (a.size : Int) > 1048576
  · exact ⟨0, by simp [laws_FnExactAppendChecksum.f, hb]⟩
  have S := spec_AppendChecksum.ev a ha
  have I := impl_AppendChecksum.ev a ha
  generalize acV a = v at *
  obtain ⟨k, h⟩ := (S.and I.evt).shift
  have h0 := (h 0).1
  have h1 := (h 0).2
  exact ⟨k + 0, by simp only [laws_FnExactAppendChecksum.f, h0, h1]; simp [hb]⟩

end Go.Proofs.YtlholbpcmilcnaaDoor.PFnExactAppendChecksum
