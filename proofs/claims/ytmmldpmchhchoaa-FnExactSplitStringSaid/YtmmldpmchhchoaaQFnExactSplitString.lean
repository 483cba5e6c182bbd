/- The plain law behind the statement FnExactSplitString: what the Go functions' Lean forms come to. Written for this work; no condition. -/
import Derived.Test.YtmmldpmchhchoaaPFnExactSplitStringx
import Derived.Test.YtmmldpmchhchoaaLib
set_option linter.unusedVariables false
set_option linter.unusedSimpArgs false
namespace Go.Proofs.Ytmmldpmchhchoaa.PFnExactSplitString
open Go.RowKit Go.Proofs.YtmmldpmchhchoaaW.PrintWords Go.Proofs.YtmmldpmchhchoaaW.PrintLast Go.Proofs.YtmmldpmchhchoaaW.PrintMore Go.Proofs.Ytmmldpmchhchoaa.Lib

theorem spec_l1Split.ev (s : ByteArray) (b : Int) (h : s.size ≤ 100000) : Stops (fun k => spec_l1Split.f k s b) ((spV s b s.size).1 ++ [s.extract (spV s b s.size).2.toNat s.size]) := by
  refine Stops.count (g := fun k (t : (List ByteArray × Int) × Int) => spec_l1Split.l0 k s b t.1.1 t.1.2 t.2) (fun i => (spV s b i, (i : Int))) s.size (Stops.now1 fun m => ?_) fun i hi m => ?_
  · have hv := spV_bd s b s.size
    simp only [spec_l1Split.l0]; rw [if_neg (by omega), if_pos (by omega), if_pos (by omega), if_pos (by omega)]
  · have hv := spV_bd s b i
    have e : wrap64 ((i : Int) + 1) = (i : Int) + 1 := w64 (by omega) (by omega)
    simp only [spec_l1Split.l0]; rw [if_pos (by omega), if_pos (by omega), e]
    by_cases hb : bt s i = b
    · rw [if_pos hb, if_pos (by omega), if_pos (by omega), if_pos (by omega), if_pos (by omega), spV, if_pos hb]; simp
    · rw [if_neg hb, spV, if_neg hb]; simp

theorem spec_SplitString.ev (s t : ByteArray) (h : s.size ≤ 140737488351232) : Stops (fun k => spec_SplitString.f k s t) (if (t.size : Int) = 1 ∧ ¬ (s.size : Int) > 4000 then ((spV s (bt t 0) s.size).1 ++ [s.extract (spV s (bt t 0) s.size).2.toNat s.size], true) else ([], false)) := by
  by_cases h1 : (t.size : Int) = 1
  · by_cases h2 : (s.size : Int) > 4000
    · refine Evt.true.mono fun m _ => ?_
      rw [if_neg (fun g => g.2 h2)]
      simp only [spec_SplitString.f]; rw [if_pos h1, if_pos h2]
    · refine (spec_l1Split.ev s (bt t 0) (by omega)).same fun m a => ?_
      rw [if_pos ⟨h1, h2⟩]
      simp only [spec_SplitString.f]; rw [if_pos h1, if_neg h2, if_pos (by omega), a]; rfl
  · refine Evt.true.mono fun m _ => ?_
    rw [if_neg (fun g => h1 g.1)]
    simp only [spec_SplitString.f]; rw [if_neg h1]

theorem impl_SplitString.ev (s t : ByteArray) (h : s.size ≤ 140737488351232) : Stops (fun k => impl_SplitString.f k s t) (if (t.size : Int) = 1 ∧ ¬ (s.size : Int) > 4000 then ((spV s (bt t 0) s.size).1 ++ [s.extract (spV s (bt t 0) s.size).2.toNat s.size], true) else ([], false)) := by
  by_cases h2 : (s.size : Int) > 4000
  · refine Stops.now1 fun m => ?_
    rw [if_neg (fun g => g.2 h2)]
    simp only [impl_SplitString.f, impl_SplitString.j0]; rw [if_pos h2]; rfl
  · by_cases h1 : (t.size : Int) = 1
    · have E : Stops (fun k => impl_SplitString.l0 k s t [] 0 s.size 0) ((spV s (bt t 0) s.size).1 ++ [s.extract (spV s (bt t 0) s.size).2.toNat s.size], true) := by
        refine Stops.count (g := fun k (q : (List ByteArray × Int) × Int) => impl_SplitString.l0 k s t q.1.1 q.1.2 s.size q.2) (fun i => (spV s (bt t 0) i, (i : Int))) s.size (Stops.now1 fun m => ?_) fun i hi m => ?_
        · have hv := spV_bd s (bt t 0) s.size
          simp only [impl_SplitString.l0]; rw [if_neg (by omega), if_pos (by omega), if_pos (by omega), if_pos (by omega)]
        · have hv := spV_bd s (bt t 0) i
          have e : wrap64 ((i : Int) + 1) = (i : Int) + 1 := w64 (by omega) (by omega)
          simp only [impl_SplitString.l0]; rw [if_pos (by omega), if_pos (by omega), if_pos (by omega), if_pos (by omega), e]
          by_cases hb : bt s i = bt t 0
          · rw [if_pos hb, if_pos (by omega), if_pos (by omega), if_pos (by omega), if_pos (by omega), spV, if_pos hb]; simp
          · rw [if_neg hb, spV, if_neg hb]; simp
      refine E.round fun m a => ?_
      rw [if_pos ⟨h1, h2⟩]
      simp only [impl_SplitString.f, impl_SplitString.j0]; rw [if_neg h2, h1, if_neg (by simp)]; exact a
    · refine Stops.now1 fun m => ?_
      rw [if_neg (fun g => h1 g.1)]
      simp only [impl_SplitString.f, impl_SplitString.j0]; rw [if_neg h2, if_pos (by simpa using h1)]

theorem laws_eqStringS.ev (l : List ByteArray) (h : l.length ≤ 35184372088832) : Stops (fun k => laws_eqStringS.f k l l) true := by
  have E : Stops (fun k => laws_eqStringS.l0 k l l 0) true := by
    refine Stops.count (g := fun k (s : Int) => laws_eqStringS.l0 k l l s) (fun i => (i : Int)) l.length (Stops.now1 fun m => ?_) fun i hi m => ?_
    · simp only [laws_eqStringS.l0]; rw [if_neg (by omega)]
    · have e : wrap64 ((i : Int) + 1) = (i : Int) + 1 := w64 (by omega) (by omega)
      rw [laws_eqStringS.l0, if_pos (by omega), if_pos (by omega), if_pos (by omega), if_pos rfl, e]; rfl
  refine E.same fun m a => ?_
  simp only [laws_eqStringS.f, if_true]; exact a

theorem laws_markText.ev0 (f : Nat) : ∀ (x : Int) (acc : ByteArray), 0 ≤ x → x ≤ f → acc.size + f ≤ 4611686018427387904 → Stops (fun k => laws_markText.l0 k x acc) (mtV f x acc) := by
  induction f with
  | zero =>
    intro x acc h0 h1 h2
    refine Stops.now1 fun m => ?_
    simp only [laws_markText.l0, mtV]; rw [if_neg (by omega), if_pos (by omega)]
  | succ f ih =>
    intro x acc h0 h1 h2
    by_cases hx : x > 0
    · have hs : (strOfNums [(wrap64 (48 + (Int.tmod x 10))) % 256]).size = 1 := by simp [strOfNums_size]
      have hd : Int.tdiv x 10 = x / 10 := Int.tdiv_eq_ediv_of_nonneg h0
      have hw : wrap64 (Int.tdiv x 10) = x / 10 := by rw [hd]; exact w64 (by omega) (by omega)
      refine (ih (x / 10) (strOfNums [(wrap64 (48 + (Int.tmod x 10))) % 256] ++ acc) (by omega) (by omega) (by rw [ByteArray.size_append, hs]; omega)).round fun m a => ?_
      simp only [laws_markText.l0, mtV, Option.bind_some]; rw [if_pos hx, if_pos hx, if_pos (by rw [hs]; omega), hw]; exact a
    · refine Stops.now1 fun m => ?_
      simp only [laws_markText.l0, mtV]; rw [if_neg hx, if_neg hx, if_pos (by omega)]
theorem laws_markText.ev (x : Int) (h0 : 1 ≤ x) (h : x ≤ 1000000000000000000) : Stops (fun k => laws_markText.f k x) (mtV x.toNat x ⟨#[]⟩) := by
  refine (laws_markText.ev0 x.toNat x ⟨#[]⟩ (by omega) (by omega) (by show 0 + _ ≤ _; omega)).same fun m a => ?_
  simp only [laws_markText.f]; rw [if_neg (by omega)]; exact a

theorem laws_markStringS.ev (l : List ByteArray) (a : Int) (h : l.length ≤ 35184372088832) (h0 : 1 ≤ a) (h1 : a ≤ 100000000000000000) : Stops (fun k => laws_markStringS.f k l a) (a + l.length, textsFrom a l.length) := by
  have E : Stops (fun k => laws_markStringS.l0 k (textsFrom a 0 ++ l.drop 0) (a + ((0 : Nat) : Int)) ((0 : Nat) : Int)) (a + l.length, textsFrom a l.length) := by
    refine Stops.count' (g := fun k (s : List ByteArray × Int × Int) => laws_markStringS.l0 k s.1 s.2.1 s.2.2) (fun i => (textsFrom a i ++ l.drop i, a + i, (i : Int))) l.length (Stops.now1 fun m => ?_) fun i hi A => ?_
    · have hl : ((textsFrom a l.length ++ l.drop l.length).length : Int) = l.length := by simp [textsFrom_length]
      simp only [laws_markStringS.l0]; rw [if_neg (by rw [hl]; omega)]; simp
    · refine Evt.succ (A.and (laws_markText.ev (a + i) (by omega) (by omega))) fun m ⟨b, c⟩ => ?_
      have e : wrap64 ((i : Int) + 1) = (i : Int) + 1 := w64 (by omega) (by omega)
      have e2 : wrap64 (a + (i : Int) + 1) = a + ((i + 1 : Nat) : Int) := by rw [w64 (by omega) (by omega)]; omega
      have hl : ((textsFrom a i ++ l.drop i).length : Int) = l.length := by simp [textsFrom_length]; omega
      simp only [laws_markStringS.l0]
      rw [if_pos (by rw [hl]; omega), show laws_markText.f m (a + i) = _ from c, Option.bind_some, if_pos (by omega), e, e2, Int.toNat_natCast, set_splitS l i (textsFrom a i) _ (textsFrom_length a i) hi, ← textsFrom_append]; exact b
  refine E.same fun m e => ?_
  simp [textsFrom] at e
  exact e

theorem laws_heldStringS.ev (n : Nat) (a : Int) (h : n ≤ 35184372088832) (h0 : 1 ≤ a) (h1 : a ≤ 100000000000000000) : Stops (fun k => laws_heldStringS.f k (textsFrom a n) a) (a + n) := by
  have E : Stops (fun k => laws_heldStringS.l0 k (textsFrom a n) (a + ((0 : Nat) : Int)) ((0 : Nat) : Int)) (a + n) := by
    refine Stops.count' (g := fun k (s : Int × Int) => laws_heldStringS.l0 k (textsFrom a n) s.1 s.2) (fun i => (a + (i : Int), (i : Int))) n (Stops.now1 fun m => ?_) fun i hi A => ?_
    · simp only [laws_heldStringS.l0, textsFrom_length]; rw [if_neg (by omega)]
    · refine Evt.succ (A.and (laws_markText.ev (a + i) (by omega) (by omega))) fun m ⟨b, c⟩ => ?_
      have e : wrap64 ((i : Int) + 1) = (i : Int) + 1 := w64 (by omega) (by omega)
      have e2 : wrap64 (a + (i : Int) + 1) = a + ((i + 1 : Nat) : Int) := by rw [w64 (by omega) (by omega)]; omega
      have hr : rdOf ByteArray.empty (textsFrom a n) (i : Int) = mtV (a + i).toNat (a + i) ⟨#[]⟩ := by rw [rdOf, Int.toNat_natCast, textsFrom_getD n a i hi]
      simp only [laws_heldStringS.l0, textsFrom_length]
      rw [if_pos (by omega), if_pos (by omega), show laws_markText.f m (a + i) = _ from c, Option.bind_some, hr, if_pos rfl, e, e2]; exact b
  refine E.same fun m e => ?_
  simp at e
  exact e

theorem law : laws_FnExactSplitString.Pure := by
  intro s t hs ht
  have hl : (if (t.size : Int) = 1 ∧ ¬ (s.size : Int) > 4000 then ((spV s (bt t 0) s.size).1 ++ [s.extract (spV s (bt t 0) s.size).2.toNat s.size], true) else ([], false)).1.length ≤ 10000 := by
    split
    · have := spV_bd s (bt t 0) s.size
      simp; omega
    · simp
  have S := spec_SplitString.ev s t hs
  have I := impl_SplitString.ev s t hs
  generalize (if (t.size : Int) = 1 ∧ ¬ (s.size : Int) > 4000 then ((spV s (bt t 0) s.size).1 ++ [s.extract (spV s (bt t 0) s.size).2.toNat s.size], true) else ([], false)) = v at *
  obtain ⟨v, b⟩ := v
  simp only at hl
  obtain ⟨m, h⟩ := (S.and (I.and ((laws_eqStringS.ev v (by omega)).and ((laws_markStringS.ev v 1 (by omega) (by omega) (by omega)).and (laws_heldStringS.ev v.length 1 (by omega) (by omega) (by omega)).evt)))).shift
  have hs := fun j => (h j).1
  have hi := fun j => (h j).2.1
  have he := fun j => (h j).2.2.1
  have hm := fun j => (h j).2.2.2.1
  have hh := fun j => (h j).2.2.2.2
  have h1 : ¬ (1 + (v.length : Int) < 0) := by omega
  refine ⟨m + 5, ?_⟩
  simp only [laws_FnExactSplitString.f]
  split
  · rfl
  · split
    · rfl
    · simp [laws_FnExactSplitString.j0, laws_FnExactSplitString.j1, hs, hi, he, hm, hh, h1]

end Go.Proofs.Ytmmldpmchhchoaa.PFnExactSplitString
