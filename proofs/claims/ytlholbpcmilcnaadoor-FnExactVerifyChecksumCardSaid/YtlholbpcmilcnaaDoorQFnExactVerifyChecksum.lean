/- The plain law behind the statement FnExactVerifyChecksum: what the Go functions' Lean forms come to. Written for this work; no condition. -/
import Derived.Test.YtlholbpcmilcnaaDoorPFnExactVerifyChecksumx
import Derived.Test.YtlholbpcmilcnaaDoorLib2
set_option linter.unusedVariables false
set_option linter.unusedSimpArgs false
namespace Go.Proofs.YtlholbpcmilcnaaDoor.PFnExactVerifyChecksum
open Go.RowKit Go.Proofs.YtlholbpcmilcnaaDoorW.PrintWords Go.Proofs.YtlholbpcmilcnaaDoorW.PrintLast Go.Proofs.YtlholbpcmilcnaaDoorW.PrintMore Go.Proofs.YtlholbpcmilcnaaDoor.Lib


theorem dgB_cut : ∀ a : Fin 10, (⟨#[48, 49, 50, 51, 52, 53, 54, 55, 56, 57]⟩ : ByteArray).extract a.val (a.val + 1) = ⟨#[UInt8.ofNat (48 + a.val)]⟩ := by
  intro a
  match a with
  | 0 | 1 | 2 | 3 | 4 | 5 | 6 | 7 | 8 | 9 => rfl
theorem spec_l1Num.ev (a : Int) (h : 0 ≤ a ∧ a < 10) : Stops (fun k => spec_l1Num.f k a) (dgB a) := by
  refine Stops.now1 fun k => ?_
  obtain ⟨n, rfl⟩ := Int.eq_ofNat_of_zero_le h.1
  have ew : wrap64 ((n : Int) + 1) = ((n + 1 : Nat) : Int) := w64 (by omega) (by omega)
  simp only [spec_l1Num.f]
  rw [if_neg (by omega), if_pos h.2, if_pos h.1, ew, if_pos (by omega), if_pos (by omega), Int.toNat_natCast, Int.toNat_natCast, dgB_cut ⟨n, by omega⟩]
  rfl
theorem spec_l1Num.nat (n : Nat) : n ≤ 100000000 → Stops (fun k => spec_l1Num.f k (n : Int)) (btx (_root_.Go.Lib.decDigits n)) := by
  induction n using Nat.strongRecOn with
  | _ n ih =>
    intro hn
    by_cases h : n < 10
    · have := spec_l1Num.ev (n : Int) ⟨by omega, by omega⟩
      rw [_root_.Go.Lib.decDigits, dif_pos h]
      exact this
    · have A := ih (n / 10) (by omega) (by omega)
      have hl := dec_len (n / 10)
      have e1 : wrap64 (Int.tdiv (n : Int) 10) = ((n / 10 : Nat) : Int) := by
        rw [show Int.tdiv (n : Int) 10 = ((n / 10 : Nat) : Int) from rfl]
        exact w64 (by omega) (by omega)
      have e2 : Int.tmod (n : Int) 10 = ((n % 10 : Nat) : Int) := rfl
      have e3 : wrap64 (((n % 10 : Nat) : Int) + 1) = ((n % 10 + 1 : Nat) : Int) := w64 (by omega) (by omega)
      have hd := dgB_cut ⟨n % 10, by omega⟩
      simp only at hd
      refine A.round fun k a => ?_
      rw [spec_l1Num.f, if_neg (by omega), if_neg (by omega), e1, a, Option.bind_some, e2, if_pos (by omega), e3, if_pos (by omega), if_pos (by omega), Int.toNat_natCast, Int.toNat_natCast, hd]
      rw [show (⟨#[UInt8.ofNat (48 + n % 10)]⟩ : ByteArray) = btx [UInt8.ofNat (48 + n % 10)] from rfl, if_pos (by rw [btx_size, btx_size]; simp; omega), btx_append]
      rw [show _root_.Go.Lib.decDigits n = _root_.Go.Lib.decDigits (n / 10) ++ [UInt8.ofNat (48 + n % 10)] by rw [_root_.Go.Lib.decDigits.eq_def n, dif_neg h]]
theorem spec_l1Num.neg (n : Nat) : 1 ≤ n → n ≤ 100000000 → Stops (fun k => spec_l1Num.f k (-(n : Int))) (btx (45 :: _root_.Go.Lib.decDigits n)) := by
  induction n using Nat.strongRecOn with
  | _ n ih =>
    intro h1 hn
    by_cases h : n < 10
    · have A := spec_l1Num.nat n hn
      have hl := dec_len n
      have e1 : wrap64 (-(-(n : Int))) = (n : Int) := by rw [Int.neg_neg]; exact w64 (by omega) (by omega)
      refine A.round fun k a => ?_
      rw [spec_l1Num.f, if_pos (by omega), if_pos (by omega), e1, a, Option.bind_some, if_pos (by rw [btx_size]; omega)]
      rw [show (⟨#[45]⟩ : ByteArray) = btx [45] from rfl, btx_append]
      rfl
    · have A := ih (n / 10) (by omega) (by omega) (by omega)
      have B := spec_l1Num.nat (n % 10) (by omega)
      have hl := dec_len (n / 10)
      have hl2 := dec_len (n % 10)
      have e1 : wrap64 (Int.tdiv (-(n : Int)) 10) = -((n / 10 : Nat) : Int) := by
        rw [Int.neg_tdiv, show Int.tdiv (n : Int) 10 = ((n / 10 : Nat) : Int) from rfl]
        exact w64 (by omega) (by omega)
      have e2 : wrap64 (-(Int.tmod (-(n : Int)) 10)) = ((n % 10 : Nat) : Int) := by
        rw [Int.neg_tmod, Int.neg_neg, show Int.tmod (n : Int) 10 = ((n % 10 : Nat) : Int) from rfl]
        exact w64 (by omega) (by omega)
      refine Evt.succ (A.and B.evt) fun k ⟨a, b⟩ => ?_
      show spec_l1Num.f (k + 1) (-(n : Int)) = _
      rw [spec_l1Num.f, if_pos (by omega), if_neg (by omega), e1, a, Option.bind_some, e2, b, Option.bind_some, if_pos (by rw [btx_size, btx_size, List.length_cons]; omega), btx_append]
      rw [show _root_.Go.Lib.decDigits n = _root_.Go.Lib.decDigits (n / 10) ++ _root_.Go.Lib.decDigits (n % 10) by rw [_root_.Go.Lib.decDigits.eq_def n, dif_neg h, _root_.Go.Lib.decDigits.eq_def (n % 10), dif_pos (Nat.mod_lt _ (by omega))]]
      rfl
theorem spec_l1Num.num (n : Int) (h : -100000000 ≤ n ∧ n ≤ 100000000) : Stops (fun k => spec_l1Num.f k n) (btx (_root_.Go.Lib.itoa n)) := by
  by_cases h0 : n < 0
  · obtain ⟨m, rfl⟩ : ∃ m : Nat, n = -(m : Int) := ⟨n.natAbs, by omega⟩
    have := spec_l1Num.neg m (by omega) (by omega)
    rw [_root_.Go.Lib.itoa, if_pos h0, show (-(m : Int)).natAbs = m by omega]
    exact this
  · obtain ⟨m, rfl⟩ := Int.eq_ofNat_of_zero_le (show 0 ≤ n by omega)
    have := spec_l1Num.nat m (by omega)
    rw [_root_.Go.Lib.itoa, if_neg h0, Int.toNat_natCast]
    exact this

theorem spec_l1Sum.ev (s : ByteArray) (h : s.size ≤ 140737488351232) : Stops (fun k => spec_l1Sum.f k s) (sumV s s.size) := by
  refine Stops.count (g := fun k (t : Int × Int) => spec_l1Sum.l0 k s t.1 t.2) (fun i => (sumV s i, (i : Int))) s.size (Stops.now1 fun m => ?_) fun i hi m => ?_
  · simp only [spec_l1Sum.l0]; rw [if_neg (by omega)]
  · have e : wrap64 ((i : Int) + 1) = (i : Int) + 1 := w64 (by omega) (by omega)
    simp only [spec_l1Sum.l0]; rw [if_pos (by omega), if_pos (by omega), e]; rfl

theorem spec_l1Seal.ev (a : ByteArray) (h : a.size ≤ 140737488351232) : Stops (fun k => spec_l1Seal.f k a) (sealV a) := by
  have hb := sumV_bd a a.size
  refine ((spec_l1Sum.ev a h).and (spec_l1Num.num (sumV a a.size) (by omega)).evt).mono fun k ⟨x, y⟩ => ?_
  simp only [spec_l1Seal.f]
  rw [if_pos (by omega), x, Option.bind_some, y, Option.bind_some, if_pos (sealV_sz a h)]
  rfl

theorem spec_l1Split.ev (s : ByteArray) (b : Int) (h : s.size ≤ 100000) : Stops (fun k => spec_l1Split.f k s b) ((spV s b s.size).1 ++ [s.extract (spV s b s.size).2.toNat s.size]) := by
  refine Stops.count (g := fun k (t : (List ByteArray × Int) × Int) => spec_l1Split.l0 k s b t.1.1 t.1.2 t.2) (fun i => (spV s b i, (i : Int))) s.size (Stops.now1 fun m => ?_) fun i hi m => ?_
  · have hv := spV_bd s b s.size
    simp only [spec_l1Split.l0]; rw [if_neg (by omega), if_pos (by omega), if_pos (by omega), if_pos (by omega)]
  · have hv := spV_bd s b i
    have e : wrap64 ((i : Int) + 1) = (i : Int) + 1 := w64 (by omega) (by omega)
    simp only [spec_l1Split.l0]; rw [if_pos (by omega), if_pos (by omega), e]
    by_cases hb : bt s i = b
    · rw [if_pos hb, if_pos (by omega), if_pos (by omega), if_pos (by omega), if_pos (by omega), spV, if_pos hb]; simp
    · rw [if_neg hb, spV, if_neg hb]; simp

theorem txt_iff (x y : ByteArray) : x.toList = y.toList ↔ x = y := by
  rw [ByteArray.toList_eq, ByteArray.toList_eq]
  constructor
  · intro h
    cases x; cases y
    simp only at h
    rw [Array.toList_inj.1 h]
  · intro h; rw [h]
/-- How many bytes stand ahead of the first '#'. -/
def tw : List UInt8 → Nat
  | [] => 0
  | x :: t => if x == 35 then 0 else tw t + 1
theorem tw_le (l : List UInt8) : tw l ≤ l.length := by
  induction l with
  | nil => exact Nat.le_refl _
  | cons x t ih => unfold tw; split <;> simp <;> omega
theorem tw_lt (l : List UInt8) : ∀ i : Nat, (hi : i < l.length) → i < tw l → l[i] ≠ 35 := by
  induction l with
  | nil => intro i hi; simp at hi
  | cons x t ih =>
    intro i hi h
    unfold tw at h
    split at h
    · omega
    · rename_i hx
      cases i with
      | zero => simpa using hx
      | succ i => simp only [List.getElem_cons_succ]; exact ih i (by simpa using hi) (by omega)
theorem tw_at (l : List UInt8) : (h : tw l < l.length) → l[tw l] = 35 := by
  induction l with
  | nil => intro h; simp at h
  | cons x t ih =>
    intro h
    by_cases hx : (x == 35) = true
    · have e : tw (x :: t) = 0 := by rw [tw, if_pos hx]
      simp only [e, List.getElem_cons_zero]
      simpa using hx
    · have e : tw (x :: t) = tw t + 1 := by rw [tw, if_neg hx]
      have h2 : tw t < t.length := by rw [e] at h; simpa using h
      simp only [e, List.getElem_cons_succ]
      exact ih h2
def preT (s : ByteArray) : ByteArray := btx (s.data.toList.take (tw s.data.toList))
theorem preT_size (s : ByteArray) : (preT s).size ≤ s.size := by
  rw [preT, btx_size, List.length_take, size_list]; omega
theorem preT_st (s : ByteArray) : stB (preT s) 35 = false := by
  unfold stB
  rw [List.any_eq_false]
  intro x hx
  have e : (preT s).data.toList = s.data.toList.take (tw s.data.toList) := by
    show (s.data.toList.take (tw s.data.toList)).toArray.toList = _
    simp
  rw [e] at hx
  obtain ⟨i, hi, rfl⟩ := List.getElem_of_mem hx
  rw [List.length_take] at hi
  rw [List.getElem_take]
  have := tw_lt s.data.toList i (by omega) (by omega)
  intro g
  exact this (UInt8.toNat_inj.1 (by have := of_decide_eq_true g; exact_mod_cast this))
theorem cutE (s : ByteArray) (k : Nat) : s.extract 0 k = btx (s.data.toList.take k) := by
  have h : (s.extract 0 k).data.toList = (btx (s.data.toList.take k)).data.toList := by
    rw [ByteArray.data_extract, Array.toList_extract]
    show List.extract _ _ _ = (s.data.toList.take k).toArray.toList
    simp [List.extract]
  generalize s.extract 0 k = x at h
  generalize btx (s.data.toList.take k) = y at h
  cases x; cases y
  simp only at h
  rw [Array.toList_inj.1 h]
theorem spV_head (s : ByteArray) (i : Nat) : i ≤ s.size → (i ≤ tw s.data.toList → spV s 35 i = ([], 0)) ∧ (tw s.data.toList < i → ∃ r, (spV s 35 i).1 = s.extract 0 (tw s.data.toList) :: r) := by
  have hz := size_list s
  induction i with
  | zero => intro _; exact ⟨fun _ => rfl, fun h => by omega⟩
  | succ i ih =>
    intro hi
    obtain ⟨h1, h2⟩ := ih (by omega)
    have hb := bt_list s i (by omega)
    refine ⟨fun h => ?_, fun h => ?_⟩
    · have := tw_lt s.data.toList i (by omega) (by omega)
      rw [spV, if_neg, h1 (by omega)]
      intro g
      rw [hb] at g
      exact this (UInt8.toNat_inj.1 (by exact_mod_cast g))
    · by_cases he : i = tw s.data.toList
      · have ha := tw_at s.data.toList (by omega)
        have hg : bt s (i : Int) = 35 := by
          rw [hb]
          simp only [he, ha]
          rfl
        rw [spV, if_pos hg, h1 (by omega)]
        exact ⟨[], by rw [← he]; rfl⟩
      · obtain ⟨r, hr⟩ := h2 (by omega)
        rw [spV]
        split
        · exact ⟨r ++ [s.extract (spV s 35 i).2.toNat i], by show (spV s 35 i).1 ++ _ = _; rw [hr]; rfl⟩
        · exact ⟨r, hr⟩
theorem split_head (s : ByteArray) : rdOf ByteArray.empty ((spV s 35 s.size).1 ++ [s.extract (spV s 35 s.size).2.toNat s.size]) 0 = preT s := by
  have hz := size_list s
  have ht := tw_le s.data.toList
  obtain ⟨h1, h2⟩ := spV_head s s.size (Nat.le_refl _)
  by_cases h : s.size ≤ tw s.data.toList
  · rw [h1 h]
    show s.extract 0 s.size = _
    rw [cutE, preT, show tw s.data.toList = s.size by omega]
  · obtain ⟨r, hr⟩ := h2 (by omega)
    rw [hr]
    show s.extract 0 (tw s.data.toList) = _
    rw [cutE, preT]
def vcV (s : ByteArray) : ByteArray × Bool := if ¬ (s.size : Int) > 4000 ∧ sealV (preT s) = s then (preT s, true) else (⟨#[]⟩, false)
theorem spec_VerifyChecksum.ev (s : ByteArray) (h : s.size ≤ 140737488351232) : Stops (fun k => spec_VerifyChecksum.f k s) (vcV s) := by
  unfold vcV
  by_cases h1 : (s.size : Int) > 4000
  · rw [if_neg (fun g => g.1 h1)]
    refine Evt.true.mono fun k _ => ?_
    simp only [spec_VerifyChecksum.f]
    rw [if_pos h1]
  · have hp := preT_size s
    refine ((spec_l1Split.ev s 35 (by omega)).and (spec_l1Seal.ev (preT s) (by omega)).evt).mono fun k ⟨x, y⟩ => ?_
    simp only [spec_VerifyChecksum.f]
    rw [if_neg h1, x, Option.bind_some, if_pos (by rw [List.length_append, List.length_singleton]; omega), split_head, y, Option.bind_some]
    by_cases hg : sealV (preT s) = s
    · rw [if_pos ((txt_iff _ _).2 hg), if_pos ⟨h1, hg⟩]
    · rw [if_neg (fun g => hg ((txt_iff _ _).1 g)), if_neg (fun g => hg g.2)]

theorem impl_checksum.ev (s : ByteArray) (h : s.size ≤ 140737488351232) : Stops (fun k => impl_checksum.f k s) (sumV s s.size) := by
  refine Stops.count (g := fun k (t : Int × Int) => impl_checksum.l0 k s t.1 (s.size : Int) t.2) (fun i => (sumV s i, (i : Int))) s.size (Stops.now1 fun m => ?_) fun i hi m => ?_
  · simp only [impl_checksum.l0]; rw [if_neg (by omega)]
  · have e : wrap64 ((i : Int) + 1) = (i : Int) + 1 := w64 (by omega) (by omega)
    simp only [impl_checksum.l0]; rw [if_pos (by omega), if_pos (by omega), if_pos (by omega), e]; rfl

theorem ib_any (l : List UInt8) (c : UInt8) : (0 ≤ _root_.Go.Lib.indexByte l c) ↔ (l.any fun x => x == c) = true := by
  induction l with
  | nil => simp [_root_.Go.Lib.indexByte]
  | cons b t ih =>
    have hg := _root_.Go.Lib.indexByte_ge t c
    rw [List.any_cons, _root_.Go.Lib.indexByte]
    by_cases h : (b == c) = true
    · rw [if_pos h, h]; simp
    · rw [if_neg h, show (b == c) = false by simpa using h, Bool.false_or, ← ih]
      by_cases h2 : (_root_.Go.Lib.indexByte t c == -1) = true
      · rw [if_pos h2]
        have : _root_.Go.Lib.indexByte t c = -1 := by simpa using h2
        omega
      · rw [if_neg h2]
        have : ¬ _root_.Go.Lib.indexByte t c = -1 := by simpa using h2
        omega
theorem ib_35 (s : ByteArray) : decide (0 ≤ _root_.Go.Lib.indexByte s.data.toList 35) = stB s 35 := by
  rw [Bool.eq_iff_iff, decide_eq_true_eq, ib_any]
  unfold stB
  have hf : (fun x : UInt8 => x == 35) = fun x => decide ((x.toNat : Int) = 35) := by
    funext x
    rw [Bool.eq_iff_iff]
    simp only [beq_iff_eq, decide_eq_true_eq]
    constructor
    · intro h; rw [h]; rfl
    · intro h; exact UInt8.toNat_inj.1 (by exact_mod_cast h)
  rw [hf]
theorem impl_AppendChecksum.ev (a : ByteArray) (h : a.size ≤ 140737488351232) : Stops (fun k => impl_AppendChecksum.f k a) (acV a) := by
  unfold acV
  have J1 : Stops (fun k => impl_AppendChecksum.j0 k a true) (⟨#[]⟩, false) := Stops.now1 fun k => by rw [impl_AppendChecksum.j0, if_pos rfl]
  by_cases h1 : (a.size : Int) > 4000
  · rw [if_pos (Or.inl h1)]
    refine J1.same fun k c => ?_
    simp only [impl_AppendChecksum.f]
    rw [if_pos h1]; exact c
  · have hf : ∀ k, impl_AppendChecksum.f k a = impl_AppendChecksum.j0 k a (stB a 35) := fun k => by
      simp only [impl_AppendChecksum.f]
      rw [if_neg h1, strings_Contains.f, if_pos rfl, Option.bind_some, ib_35]
    by_cases h2 : stB a 35 = true
    · rw [if_pos (Or.inr (Or.inl h2))]
      refine J1.same fun k c => ?_
      rw [hf, h2]; exact c
    · have h2' : stB a 35 = false := by simpa using h2
      have hb := sumV_bd a a.size
      have hsz := sealV_sz a h
      have hi : strconv_Itoa_29.f (sumV a a.size) = some (btx (_root_.Go.Lib.itoa (sumV a a.size))) := by rw [strconv_Itoa_29.f, if_pos (by omega)]; rfl
      have J : Stops (fun k => impl_AppendChecksum.j0 k a false) (if ((sealV a).size : Int) > 4000 then (⟨#[]⟩, false) else (sealV a, true)) := by
        refine (impl_checksum.ev a h).round fun k c => ?_
        rw [impl_AppendChecksum.j0, if_neg (by simp), if_pos (by omega), c, Option.bind_some, hi, Option.bind_some, if_pos hsz]
        rw [show (a ++ (⟨#[35]⟩ : ByteArray)) ++ btx (_root_.Go.Lib.itoa (sumV a a.size)) = sealV a from rfl]
        split <;> rfl
      have e : (if (a.size : Int) > 4000 ∨ stB a 35 = true ∨ ((sealV a).size : Int) > 4000 then ((⟨#[]⟩ : ByteArray), false) else (sealV a, true)) = (if ((sealV a).size : Int) > 4000 then (⟨#[]⟩, false) else (sealV a, true)) := by
        by_cases h3 : ((sealV a).size : Int) > 4000
        · rw [if_pos h3, if_pos (Or.inr (Or.inr h3))]
        · rw [if_neg h3, if_neg (by rintro (g | g | g); exact h1 g; exact h2 g; exact h3 g)]
      rw [e]
      refine J.same fun k c => ?_
      rw [hf, h2']; exact c

theorem ib_tw (l : List UInt8) : (tw l < l.length → _root_.Go.Lib.indexByte l 35 = (tw l : Int)) ∧ (tw l = l.length → _root_.Go.Lib.indexByte l 35 = -1) := by
  induction l with
  | nil => exact ⟨fun h => by simp at h, fun _ => rfl⟩
  | cons x t ih =>
    have ht := tw_le t
    rw [_root_.Go.Lib.indexByte]
    by_cases hx : (x == 35) = true
    · have e : tw (x :: t) = 0 := by rw [tw, if_pos hx]
      rw [if_pos hx, e]
      exact ⟨fun _ => rfl, fun h => by simp at h⟩
    · have e : tw (x :: t) = tw t + 1 := by rw [tw, if_neg hx]
      rw [if_neg hx, e, List.length_cons]
      refine ⟨fun h => ?_, fun h => ?_⟩
      · have h2 := ih.1 (by omega)
        rw [if_neg (by rw [h2]; simp), h2]; push_cast; rfl
      · have h2 := ih.2 (by omega)
        rw [if_pos (by rw [h2]; rfl)]
theorem cut_tw (s : ByteArray) : (⟨(_root_.Go.Lib.cut s.data.toList [35]).1.toArray⟩ : ByteArray) = preT s := by
  have ht := tw_le s.data.toList
  have hi := ib_tw s.data.toList
  unfold _root_.Go.Lib.cut
  rw [_root_.Go.Lib.index_one]
  by_cases h : tw s.data.toList < s.data.toList.length
  · rw [hi.1 h, if_pos (by omega)]
    show (⟨(s.data.toList.take ((tw s.data.toList : Int)).toNat).toArray⟩ : ByteArray) = preT s
    rw [Int.toNat_natCast]; rfl
  · have he : tw s.data.toList = s.data.toList.length := by omega
    rw [hi.2 he, if_neg (by omega), preT, he, List.take_length]; rfl
theorem impl_VerifyChecksum.ev (s : ByteArray) (h : s.size ≤ 2000000) : Stops (fun k => impl_VerifyChecksum.f k s) (vcV s) := by
  have hp := preT_size s
  have hst := preT_st s
  have hc : ∃ y, strings_Cut.f s (⟨#[35]⟩ : ByteArray) = some (preT s, y) := by
    rw [strings_Cut.f, if_pos ⟨rfl, h⟩, cut_tw]
    exact ⟨_, rfl⟩
  obtain ⟨y, hc⟩ := hc
  refine (impl_AppendChecksum.ev (preT s) (by omega)).same fun k a => ?_
  simp only [impl_VerifyChecksum.f]
  rw [hc, Option.bind_some]
  simp only [a, Option.bind_some]
  unfold vcV acV
  by_cases hb : ((preT s).size : Int) > 4000 ∨ stB (preT s) 35 = true ∨ ((sealV (preT s)).size : Int) > 4000
  · rw [if_pos hb]
    rw [if_neg (by simp), if_neg]
    rintro ⟨g1, g2⟩
    rcases hb with g | g | g
    · omega
    · rw [hst] at g; cases g
    · rw [g2] at g; omega
  · rw [if_neg hb]
    rw [if_pos rfl]
    by_cases hg : sealV (preT s) = s
    · have h4 : ¬ (s.size : Int) > 4000 := fun g => hb (Or.inr (Or.inr (by rw [hg]; exact g)))
      rw [if_pos ((txt_iff _ _).2 hg), if_pos ⟨h4, hg⟩]
    · rw [if_neg (fun g => hg ((txt_iff _ _).1 g)), if_neg (fun g => hg g.2)]

theorem law : laws_FnExactVerifyChecksum.Pure := by
  intro a ha
  by_cases hb : (a.size : Int) > 1048576
  · exact ⟨0, by simp [laws_FnExactVerifyChecksum.f, hb]⟩
  have S := spec_VerifyChecksum.ev a ha
  have I := impl_VerifyChecksum.ev a (by omega)
  generalize vcV a = v at *
  obtain ⟨k, h⟩ := (S.and I.evt).shift
  have h0 := (h 0).1
  have h1 := (h 0).2
  exact ⟨k + 0, by simp only [laws_FnExactVerifyChecksum.f, h0, h1]; simp [hb]⟩

end Go.Proofs.YtlholbpcmilcnaaDoor.PFnExactVerifyChecksum
