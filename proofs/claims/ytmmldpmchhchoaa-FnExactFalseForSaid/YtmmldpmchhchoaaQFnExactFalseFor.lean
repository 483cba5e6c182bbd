/- The plain law behind the statement FnExactFalseFor: what the Go functions' Lean forms come to. Written for this work; no condition. -/
import Derived.Test.YtmmldpmchhchoaaPFnExactFalseForx
import Derived.Test.YtmmldpmchhchoaaLib2
set_option linter.unusedVariables false
set_option linter.unusedSimpArgs false
namespace Go.Proofs.Ytmmldpmchhchoaa.PFnExactFalseFor
open Go.RowKit Go.Proofs.YtmmldpmchhchoaaW.PrintWords Go.Proofs.YtmmldpmchhchoaaW.PrintLast Go.Proofs.YtmmldpmchhchoaaW.PrintMore Go.Proofs.Ytmmldpmchhchoaa.Lib

theorem rd_T78_at (l : List S78) (i : Nat) (hi : i < l.length) : rd_T78 l (i : Int) = l[i] := by
  unfold rd_T78; rw [Int.toNat_natCast, List.getD_eq_getElem?_getD, List.getElem?_eq_getElem hi]; rfl
theorem rd_T76_at (l : List S76) (i : Nat) (hi : i < l.length) : rd_T76 l (i : Int) = l[i] := by
  unfold rd_T76; rw [Int.toNat_natCast, List.getD_eq_getElem?_getD, List.getElem?_eq_getElem hi]; rfl
def askI (x : S78) : S76 := ⟨x.f0, x.f1⟩

theorem laws_szAskedS.big (l : List S78) (h : l.length ≤ maxLen) (hb : 1048576 < l.length) : laws_szAskedS.f l 1048576 = some (-1) := by
  unfold maxLen at h
  unfold laws_szAskedS.f; rw [w64 (by omega) (by omega), if_pos (by omega)]
theorem laws_szAskedS.small (l : List S78) (hb : ¬ 1048576 < l.length) : laws_szAskedS.f l 1048576 = some (1048576 - (l.length : Int)) := by
  unfold laws_szAskedS.f; rw [w64 (by omega) (by omega), if_neg (by omega)]

theorem spec_l1In.eq (a b c : Int) : spec_l1In.f a b c = some (decide (b ≤ a ∧ a ≤ c)) := by
  unfold spec_l1In.f; by_cases h : b ≤ a <;> simp [h]

theorem spec_l2Numbers.eq (a : Int) : spec_l2Numbers.f a = some (isN a) := by
  unfold spec_l2Numbers.f; rw [spec_l1In.eq]; rfl

theorem spec_l2Asks.eq (n q : Int) : spec_l2Asks.f n q = some (isQ n q) := by
  unfold spec_l2Asks.f isQ; rw [spec_l2Numbers.eq, spec_l1In.eq]
  cases h : isN n
  · simp
  · have := isN_bd h
    simp [show 0 ≤ n by omega]

theorem spec_l2Answers.ev (n : Int) (l : List S76) (h : l.length ≤ 10000000) : Stops (fun k => spec_l2Answers.f k n l) (isN n && decide ((l.length : Int) ≤ 20) && !(l.any fun x => !isQ n x.f0)) := by
  have e : (isN n && decide ((l.length : Int) ≤ 20) && !(l.any fun x => !isQ n x.f0)) = chkV (fun x : S76 => isQ n x.f0) (isN n && decide ((l.length : Int) ≤ 20)) 20 l 0 := by
    rw [chkV_eq _ _ _ _ _ (fun g => by rw [Bool.and_eq_true, decide_eq_true_eq] at g; omega)]
    simp [List.all_eq_not_any_not]
  rw [e]
  have E := Stops.over0 l (fun k (i : Nat) (s : Unit) => spec_l2Answers.l0 k n l (i : Int)) (fun t s => chkV (fun x : S76 => isQ n x.f0) (isN n && decide ((l.length : Int) ≤ 20)) 20 t (l.length - t.length)) () ?_ ?_
  · rw [Nat.sub_self] at E; exact E
  · intro s
    refine ⟨2, fun q hq => ?_⟩
    obtain ⟨k, rfl⟩ : ∃ k, q = k + 2 := ⟨q - 2, by omega⟩
    simp only [spec_l2Answers.l0, spec_l2Answers.j1, spec_l2Numbers.eq]; rw [if_neg (by omega), if_neg (by simp)]
    cases isN n <;> rfl
  · intro i hi s A
    have ew : wrap64 ((i : Int) + 1) = ((i + 1 : Nat) : Int) := w64 (by omega) (by omega)
    have ed : l.length - (l[i] :: l.drop (i + 1)).length = i := by simp; omega
    have ed2 : l.length - (l.drop (i + 1)).length = i + 1 := by simp; omega
    have A := A ()
    simp only [ed, ed2] at A ⊢
    by_cases hc : i ≤ 20
    · cases hp : isQ n l[i].f0
      · refine ⟨2, fun q hq => ?_⟩
        obtain ⟨k, rfl⟩ : ∃ k, q = k + 2 := ⟨q - 2, by omega⟩
        simp only [spec_l2Answers.l0, spec_l2Answers.j1, rd_T76_at l i hi, spec_l2Asks.eq]
        rw [if_pos (by omega), decide_eq_true (show (i : Int) ≤ 20 by omega), if_pos (by trivial), if_pos (by omega), if_pos (by omega), hp, Option.bind_some]; simp [chkV, hc, hp]
      · have A1 : Stops (fun k => spec_l2Answers.j1 k n l (i : Int) true) (chkV (fun x : S76 => isQ n x.f0) (isN n && decide ((l.length : Int) ≤ 20)) 20 (l[i] :: l.drop (i + 1)) i) := A.round fun k a => by
          simp only [spec_l2Answers.j1, rd_T76_at l i hi, spec_l2Asks.eq]
          rw [if_pos trivial, if_pos (by omega), if_pos (by omega), hp, Option.bind_some, if_pos (by trivial), ew, chkV, if_pos hc, if_pos hp]; exact a
        exact A1.round fun k a => by
          simp only [spec_l2Answers.l0]; rw [if_pos (by omega), decide_eq_true (by omega)]; exact a
    · refine ⟨2, fun q hq => ?_⟩
      obtain ⟨k, rfl⟩ : ∃ k, q = k + 2 := ⟨q - 2, by omega⟩
      simp only [spec_l2Answers.l0, spec_l2Answers.j1, spec_l2Numbers.eq]
      rw [if_pos (by omega), decide_eq_false (show ¬ (i : Int) ≤ 20 by omega), chkV, if_neg hc, if_neg (by simp)]
      cases isN n <;> rfl

theorem spec_l2False.eq (q : Int) (b : Bool) (k : Int) (h : 0 ≤ k) : spec_l2False.f q b k = some (b != hasB q k) := by
  unfold spec_l2False.f; rw [if_pos h]; rfl

theorem spec_l2Many.ev (l : List S76) (k : Int) (h0 : 0 ≤ k) (h : l.length ≤ 10000000) : Stops (fun n => spec_l2Many.f n l k) (manyV (fun x : S76 => x.f1 != hasB x.f0 k) l 0) := by
  refine Stops.over0 l (fun n (i : Nat) (s : Int) => spec_l2Many.l0 n l k s (i : Int)) (fun t s => manyV (fun x : S76 => x.f1 != hasB x.f0 k) t s) 0 (fun s => Stops.now1 fun m => ?_) fun i hi s A => ?_
  · simp only [spec_l2Many.l0]; rw [if_neg (by omega)]; rfl
  · have e : wrap64 ((i : Int) + 1) = ((i + 1 : Nat) : Int) := w64 (by omega) (by omega)
    by_cases hb : (l[i].f1 != hasB l[i].f0 k) = true
    · refine (A (wrap64 (s + 1))).round fun m a => ?_
      simp only [spec_l2Many.l0, rd_T76_at l i hi, spec_l2False.eq _ _ k h0, e, manyV, Option.bind_some]
      rw [if_pos (by omega), if_pos (by omega), if_pos hb, if_pos hb]; exact a
    · refine (A s).round fun m a => ?_
      simp only [spec_l2Many.l0, rd_T76_at l i hi, spec_l2False.eq _ _ k h0, e, manyV, Option.bind_some]
      rw [if_pos (by omega), if_pos (by omega), if_neg hb, if_neg hb]; exact a

theorem spec_FalseFor.ev (n : Int) (l : List S76) (k : Int) (h : l.length ≤ 10000000) : Stops (fun q => spec_FalseFor.f q n l k) (if (isN n && decide ((l.length : Int) ≤ 20) && !(l.any fun x => !isQ n x.f0) && decide (0 ≤ k ∧ k ≤ wrap64 (n - 1))) = true then (manyV (fun x : S76 => x.f1 != hasB x.f0 k) l 0, true) else (0, false)) := by
  have E := spec_l2Answers.ev n l h
  generalize (isN n && decide ((l.length : Int) ≤ 20) && !(l.any fun x => !isQ n x.f0)) = c at *
  by_cases hk : 0 ≤ k ∧ k ≤ wrap64 (n - 1)
  · refine Evt.mono (E.and (spec_l2Many.ev l k hk.1 h).evt) fun m ⟨a, b⟩ => ?_
    simp only [spec_FalseFor.f, a, b, spec_l1In.eq, Option.bind_some, decide_eq_true hk]
    cases c <;> simp
  · refine E.same fun m a => ?_
    simp only [spec_FalseFor.f, a, spec_l1In.eq, Option.bind_some, decide_eq_false hk]
    cases c <;> simp

theorem laws_toAskedS.ev (l : List S78) (h : l.length ≤ 10000000) : Stops (fun k => laws_toAskedS.f k l) (l.map askI) := by
  have E : Stops (fun k => laws_toAskedS.l0 k l ((l.map askI).take 0 ++ (List.replicate l.length z76).drop 0) ((0 : Nat) : Int)) (l.map askI) := by
    refine Stops.count (g := fun k (s : List S76 × Int) => laws_toAskedS.l0 k l s.1 s.2) (fun i => ((l.map askI).take i ++ (List.replicate l.length z76).drop i, (i : Int))) l.length (Stops.now1 fun m => ?_) fun i hi m => ?_
    · have e1 : (List.replicate l.length z76).drop l.length = [] := by simp
      have e2 : (l.map askI).take l.length = l.map askI := List.take_of_length_le (by simp)
      simp only [laws_toAskedS.l0, e1, e2, List.append_nil]; rw [if_neg (by omega)]
    · have e : wrap64 ((i : Int) + 1) = (i : Int) + 1 := w64 (by omega) (by omega)
      have h1 : ((l.map askI).take i).length = i := by simp; omega
      have hl : (((l.map askI).take i ++ (List.replicate l.length z76).drop i).length : Int) = l.length := by simp; omega
      have h2 := set_splitS (List.replicate l.length z76) i ((l.map askI).take i) (askI l[i]) h1 (by simp; exact hi)
      have h3 : (l.map askI).take (i + 1) = (l.map askI).take i ++ [askI l[i]] := by rw [List.take_succ_eq_append_getElem (by simp; exact hi)]; simp
      simp only [laws_toAskedS.l0, rd_T78_at l i hi, laws_toAsked.f, Option.bind_some]
      rw [if_pos (by omega), if_pos (by omega), hl, if_pos (by omega), e, Int.toNat_natCast]
      rw [show (⟨l[i].f0, l[i].f1⟩ : S76) = askI l[i] from rfl, h2, ← h3]; rfl
  refine E.same fun m a => ?_
  simp only [laws_toAskedS.f, Int.toNat_natCast]; rw [if_pos (by omega), if_pos (by omega)]
  simpa using a

theorem impl_isNumber.eq (n k : Int) : impl_isNumber.f n k = some (isN n && decide (0 ≤ k ∧ k ≤ wrap64 (n - 1))) := by
  unfold impl_isNumber.f; rw [impl_isCount.eq, impl_in.eq]; cases isN n <;> simp

theorem impl_has.eq (q k : Int) (h : 0 ≤ k) : impl_has.f q k = some (hasB q k) := by
  unfold impl_has.f; rw [if_pos h]; rfl

theorem impl_Asked_isFalse.eq (q : Int) (b : Bool) (k : Int) (h : 0 ≤ k) : impl_Asked_isFalse.f q b k = some (b != hasB q k) := by
  unfold impl_Asked_isFalse.f; rw [impl_has.eq q k h, Option.bind_some]
  cases b <;> cases hasB q k <;> rfl

theorem impl_falseFor.ev (l : List S76) (k : Int) (h0 : 0 ≤ k) (h : l.length ≤ 10000000) : Stops (fun n => impl_falseFor.f n l k) (manyV (fun x : S76 => x.f1 != hasB x.f0 k) l 0) := by
  refine Stops.over0 l (fun n (i : Nat) (s : Int) => impl_falseFor.l0 n k s l l.length (i : Int)) (fun t s => manyV (fun x : S76 => x.f1 != hasB x.f0 k) t s) 0 (fun s => Stops.now1 fun m => ?_) fun i hi s A => ?_
  · simp only [impl_falseFor.l0]; rw [if_neg (by omega)]; rfl
  · have e : wrap64 ((i : Int) + 1) = ((i + 1 : Nat) : Int) := w64 (by omega) (by omega)
    by_cases hb : (l[i].f1 != hasB l[i].f0 k) = true
    · refine (A (wrap64 (s + 1))).round fun m a => ?_
      simp only [impl_falseFor.l0, rd_T76_at l i hi, impl_Asked_isFalse.eq _ _ k h0, e, manyV, Option.bind_some]
      rw [if_pos (by omega), if_pos (by omega), if_pos (by omega), if_pos hb, if_pos hb]; exact a
    · refine (A s).round fun m a => ?_
      simp only [impl_falseFor.l0, rd_T76_at l i hi, impl_Asked_isFalse.eq _ _ k h0, e, manyV, Option.bind_some]
      rw [if_pos (by omega), if_pos (by omega), if_pos (by omega), if_neg hb, if_neg hb]; exact a

theorem impl_FalseFor.ev (n : Int) (l : List S76) (k : Int) (h : l.length ≤ 10000000) : Stops (fun q => impl_FalseFor.f q n l k) (if (isN n && decide ((l.length : Int) ≤ 20) && !(l.any fun x => !isQ n x.f0) && decide (0 ≤ k ∧ k ≤ wrap64 (n - 1))) = true then (manyV (fun x : S76 => x.f1 != hasB x.f0 k) l 0, true) else (0, false)) := by
  have hn : (isN n && decide ((l.length : Int) ≤ 20) && !(l.any fun x => !isQ n x.f0)) = true → isN n = true := by
    simp only [Bool.and_eq_true]; exact fun g => g.1.1
  by_cases hk : 0 ≤ k ∧ k ≤ wrap64 (n - 1)
  · refine (impl_falseFor.ev l k hk.1 h).same fun m b => ?_
    simp only [impl_FalseFor.f, b, impl_areAsked.f, impl_isNumber.eq, Option.bind_some, decide_eq_true hk]
    generalize (isN n && decide ((l.length : Int) ≤ 20) && !(l.any fun x => !isQ n x.f0)) = c at *
    cases c
    · simp
    · simp [hn rfl]
  · refine Evt.true.mono fun m _ => ?_
    simp only [impl_FalseFor.f, impl_areAsked.f, impl_isNumber.eq, Option.bind_some, decide_eq_false hk]
    generalize (isN n && decide ((l.length : Int) ≤ 20) && !(l.any fun x => !isQ n x.f0)) = c at *
    cases c <;> simp

theorem laws_eqAsked.eq (a : Int) (b : Bool) : laws_eqAsked.f a b a b = some true := by
  unfold laws_eqAsked.f; simp

theorem laws_eqAskedS.ev (l : List S76) (h : l.length ≤ 10000000) : Stops (fun k => laws_eqAskedS.f k l l) true := by
  have E : Stops (fun k => laws_eqAskedS.l0 k l l 0) true := by
    refine Stops.count (g := fun k (s : Int) => laws_eqAskedS.l0 k l l s) (fun i => (i : Int)) l.length (Stops.now1 fun m => ?_) fun i hi m => ?_
    · simp only [laws_eqAskedS.l0]; rw [if_neg (by omega)]
    · have e : wrap64 ((i : Int) + 1) = (i : Int) + 1 := w64 (by omega) (by omega)
      simp only [laws_eqAskedS.l0, laws_eqAsked.eq, Option.bind_some]; rw [if_pos (by omega), if_pos (by omega), if_pos (by omega), if_pos (by trivial), e]; rfl
  refine E.same fun m a => ?_
  simp only [laws_eqAskedS.f, if_true]; exact a

theorem law : laws_FnExactFalseFor.Pure := by
  intro n l k0 _ hm
  intros
  by_cases hb : 1048576 < l.length
  · exact ⟨0, by simp [laws_FnExactFalseFor.f, laws_szAskedS.big l hm hb]⟩
  have S := spec_FalseFor.ev n (l.map askI) k0 (by simp; omega)
  have I := impl_FalseFor.ev n (l.map askI) k0 (by simp; omega)
  generalize (if (isN n && decide (((l.map askI).length : Int) ≤ 20) && !((l.map askI).any fun x => !isQ n x.f0) && decide (0 ≤ k0 ∧ k0 ≤ wrap64 (n - 1))) = true then (manyV (fun x : S76 => x.f1 != hasB x.f0 k0) (l.map askI) 0, true) else (0, false)) = v at *
  obtain ⟨m, h⟩ := (((S).and ((I).and ((laws_toAskedS.ev l (by omega)).and (laws_eqAskedS.ev (l.map askI) (by simp; omega)).evt)))).shift
  have h0 := fun j => (h j).1
  have h1 := fun j => (h j).2.1
  have h2 := fun j => (h j).2.2.1
  have h3 := fun j => (h j).2.2.2
  refine ⟨m + 7, ?_⟩
  simp [laws_FnExactFalseFor.f, laws_FnExactFalseFor.j0, h0, h1, h2, h3, laws_szAskedS.small l hb, show ¬ (1048576 - (l.length : Int) < 0) by omega]

end Go.Proofs.Ytmmldpmchhchoaa.PFnExactFalseFor
