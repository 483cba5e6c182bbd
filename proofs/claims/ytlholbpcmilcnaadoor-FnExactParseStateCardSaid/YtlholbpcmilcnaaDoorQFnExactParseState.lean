/- The plain law behind the statement FnExactParseState: what the Go functions' Lean forms come to. Written for this work; no condition. -/
import Derived.Test.YtlholbpcmilcnaaDoorPFnExactParseStatex
import Derived.Test.YtlholbpcmilcnaaDoorLib2
set_option linter.unusedVariables false
set_option linter.unusedSimpArgs false
namespace Go.Proofs.YtlholbpcmilcnaaDoor.PFnExactParseState
open Go.RowKit Go.Proofs.YtlholbpcmilcnaaDoorW.PrintWords Go.Proofs.YtlholbpcmilcnaaDoorW.PrintLast Go.Proofs.YtlholbpcmilcnaaDoorW.PrintMore Go.Proofs.YtlholbpcmilcnaaDoor.Lib


theorem laws_eqIntS.ev (l : List Int) (h : l.length ≤ 35184372088832) : Stops (fun k => laws_eqIntS.f k l l) true := by
  have E : Stops (fun k => laws_eqIntS.l0 k l l 0) true := by
    refine Stops.count (g := fun k (s : Int) => laws_eqIntS.l0 k l l s) (fun i => (i : Int)) l.length (Stops.now1 fun m => ?_) fun i hi m => ?_
    · simp only [laws_eqIntS.l0]; rw [if_neg (by omega)]
    · have e : wrap64 ((i : Int) + 1) = (i : Int) + 1 := w64 (by omega) (by omega)
      rw [laws_eqIntS.l0, if_pos (by omega), if_pos (by omega), if_pos (by omega), if_pos rfl, e]; rfl
  refine E.same fun m a => ?_
  simp only [laws_eqIntS.f, if_true]; exact a

theorem laws_eqState.ev (l : List Int) (m : Int) (h : l.length ≤ 35184372088832) : Stops (fun k => laws_eqState.f k l m l m) true := by
  refine (laws_eqIntS.ev l h).same fun k e => ?_
  simp [laws_eqState.f, e]

theorem spec_l1In.eq (a b c : Int) : spec_l1In.f a b c = some (decide (b ≤ a ∧ a ≤ c)) := by
  unfold spec_l1In.f; by_cases h : b ≤ a <;> simp [h]

theorem spec_l2State.ev (l : List Int) (m : Int) (h : l.length ≤ 35184372088832) : Stops (fun k => spec_l2State.f k l m) (isSt l m) := by
  have e : isSt l m = chkV (fun x => decide (-1 ≤ x ∧ x ≤ m)) (isN l.length && isM m) 12 l 0 := by
    rw [chkV_eq _ _ _ _ _ (fun g => by rw [Bool.and_eq_true] at g; have := isN_bd g.1; omega)]
    simp [isSt, List.all_eq_not_any_not]
  rw [e]
  have E := Stops.over0 l (fun k (i : Nat) (s : Unit) => spec_l2State.l0 k (i : Int) l m) (fun t s => chkV (fun x => decide (-1 ≤ x ∧ x ≤ m)) (isN l.length && isM m) 12 t (l.length - t.length)) () ?_ ?_
  · rw [Nat.sub_self] at E; exact E
  · intro s
    refine ⟨2, fun n hn => ?_⟩
    obtain ⟨k, rfl⟩ : ∃ k, n = k + 2 := ⟨n - 2, by omega⟩
    simp only [spec_l2State.l0, spec_l2State.j1, spec_l1In.eq]; rw [if_neg (by omega), if_neg (by simp)]
    exact and_bind (isN l.length) (isM m)
  · intro i hi s A
    have ew : wrap64 ((i : Int) + 1) = ((i + 1 : Nat) : Int) := w64 (by omega) (by omega)
    have ed : l.length - (l[i] :: l.drop (i + 1)).length = i := by simp; omega
    have ed2 : l.length - (l.drop (i + 1)).length = i + 1 := by simp; omega
    have A := A ()
    simp only [ed, ed2] at A ⊢
    by_cases hc : i ≤ 12
    · by_cases hp : -1 ≤ l[i] ∧ l[i] ≤ m
      · have A1 : Stops (fun k => spec_l2State.j1 k (i : Int) true l m) (chkV (fun x => decide (-1 ≤ x ∧ x ≤ m)) (isN l.length && isM m) 12 (l[i] :: l.drop (i + 1)) i) := A.round fun k a => by
          simp only [spec_l2State.j1, rd_at l i hi, spec_l1In.eq]
          rw [if_pos trivial, if_pos (by omega), if_pos (by omega), decide_eq_true hp, Option.bind_some, if_pos (by trivial), ew, chkV, if_pos hc, if_pos (by simpa using hp)]; exact a
        exact A1.round fun k a => by
          simp only [spec_l2State.l0]; rw [if_pos (by omega), decide_eq_true (by omega)]; exact a
      · refine ⟨2, fun n hn => ?_⟩
        obtain ⟨k, rfl⟩ : ∃ k, n = k + 2 := ⟨n - 2, by omega⟩
        simp only [spec_l2State.l0, spec_l2State.j1, rd_at l i hi, spec_l1In.eq]
        rw [if_pos (by omega), decide_eq_true (show (i : Int) ≤ 12 by omega), if_pos (by trivial), if_pos (by omega), if_pos (by omega), decide_eq_false hp, Option.bind_some]; simp [chkV, hc, hp]
    · refine ⟨2, fun n hn => ?_⟩
      obtain ⟨k, rfl⟩ : ∃ k, n = k + 2 := ⟨n - 2, by omega⟩
      simp only [spec_l2State.l0, spec_l2State.j1, spec_l1In.eq]
      rw [if_pos (by omega), decide_eq_false (show ¬ (i : Int) ≤ 12 by omega), chkV, if_neg hc, if_neg (by simp)]
      exact and_bind (isN l.length) (isM m)

theorem size_list (s : ByteArray) : s.size = s.data.toList.length := by rw [Array.length_toList]; rfl
/-- What a byte of a State's text says. -/
def lieOf (b : Int) : Int := if b = 45 then -1 else b - 48
/-- The lies of a text's bytes, from the third on. -/
def liesT (a : ByteArray) : Nat → List Int
  | 0 => []
  | i + 1 => liesT a i ++ [lieOf (bt a ((i + 2 : Nat) : Int))]
theorem liesT_length (a : ByteArray) (i : Nat) : (liesT a i).length = i := by
  induction i with
  | zero => rfl
  | succ i ih => rw [liesT, List.length_append, ih]; rfl
theorem liesT_rd (a : ByteArray) (n : Nat) : ∀ i : Nat, i < n → rd (liesT a n) (i : Int) = lieOf (bt a ((i + 2 : Nat) : Int)) := by
  induction n with
  | zero => intro i h; omega
  | succ n ih =>
    intro i h
    rw [rd_nat, liesT, List.getD_eq_getElem?_getD]
    by_cases hi : i < n
    · rw [List.getElem?_append_left (by rw [liesT_length]; exact hi), ← List.getD_eq_getElem?_getD, ← rd_nat]
      exact ih i hi
    · obtain rfl : i = n := by omega
      rw [List.getElem?_append_right (by rw [liesT_length]; exact Nat.le_refl _), liesT_length]
      simp
/-- No byte before the place i + 2 says too little. -/
def fineT (a : ByteArray) (i : Nat) : Bool := (List.range i).all fun j => decide (bt a ((j + 2 : Nat) : Int) = 45 ∨ 48 ≤ bt a ((j + 2 : Nat) : Int))
theorem fineT_iff (a : ByteArray) (n : Nat) : fineT a n = true ↔ ∀ j : Nat, j < n → (bt a ((j + 2 : Nat) : Int) = 45 ∨ 48 ≤ bt a ((j + 2 : Nat) : Int)) := by
  unfold fineT
  rw [List.all_eq_true]
  constructor
  · intro g j h; exact of_decide_eq_true (g j (List.mem_range.2 h))
  · intro g j h; exact decide_eq_true (g j (List.mem_range.1 h))
def okT (a : ByteArray) : Bool := decide (3 ≤ (a.size : Int) ∧ (a.size : Int) ≤ 14) && decide (bt a 1 = 58) && fineT a (a.size - 2) && isSt (liesT a (a.size - 2)) (bt a 0 - 48)
def psV (a : ByteArray) : List Int × Int × Bool := if okT a = true then (liesT a (a.size - 2), bt a 0 - 48, true) else ([], 0, false)
theorem psV_no (a : ByteArray) (h : okT a = false) : psV a = ([], 0, false) := by unfold psV; rw [h]; rfl
theorem spec_l2Parse.ev (a : ByteArray) : Stops (fun k => spec_l2Parse.f k a) (psV a) := by
  have hr0 := bt_range a 0
  have ew0 : wrap64 (wrap64 (bt a 0) - 48) = bt a 0 - 48 := by rw [w64 (n := bt a 0) (by omega) (by omega)]; exact w64 (by omega) (by omega)
  have J1 : Stops (fun k => spec_l2Parse.j0 k a true) ([], 0, false) := Stops.now1 fun k => by rw [spec_l2Parse.j0, if_pos rfl]
  by_cases hz : 3 ≤ (a.size : Int) ∧ (a.size : Int) ≤ 14
  · by_cases hm : 0 ≤ bt a 0 - 48 ∧ bt a 0 - 48 ≤ 2
    · by_cases hc : bt a 1 = 58
      · have hx : ∀ i : Nat, wrap64 (wrap64 (bt a ((i + 2 : Nat) : Int)) - 48) = bt a ((i + 2 : Nat) : Int) - 48 := fun i => by
          have := bt_range a ((i + 2 : Nat) : Int)
          rw [w64 (n := bt a ((i + 2 : Nat) : Int)) (by omega) (by omega)]
          exact w64 (by omega) (by omega)
        have hw : ∀ i : Nat, i ≤ 100 → wrap64 (((i + 2 : Nat) : Int) + 1) = ((i + 1 + 2 : Nat) : Int) := fun i hi => w64 (by omega) (by omega)
        obtain ⟨n, hn⟩ : ∃ n, a.size = n + 2 := ⟨a.size - 2, by omega⟩
        have hn2 : a.size - 2 = n := by omega
        have L : ∀ d i : Nat, i + d = n → fineT a i = true → Stops (fun k => spec_l2Parse.l0 k a ((i + 2 : Nat) : Int) (liesT a i) (bt a 0 - 48)) (psV a) := by
          intro d
          induction d with
          | zero =>
            intro i hi hf
            obtain rfl : i = n := by omega
            have hl := liesT_length a i
            refine (spec_l2State.ev (liesT a i) (bt a 0 - 48) (by omega)).round fun k s => ?_
            simp only [spec_l2Parse.l0]
            rw [if_neg (by omega), s, Option.bind_some]
            by_cases hs : isSt (liesT a i) (bt a 0 - 48) = true
            · rw [if_pos hs, psV, okT, hn2, decide_eq_true hz, decide_eq_true hc, hf, hs, if_pos (show (true && true && true && true) = true from rfl)]
            · have hs' : isSt (liesT a i) (bt a 0 - 48) = false := by simpa using hs
              rw [if_neg hs, psV_no a (by rw [okT, hn2, hs', Bool.and_false])]
          | succ d ih =>
            intro i hi hf
            have hl := liesT_length a i
            have hlt : i ≤ 100 := by omega
            have hlt2 : ((i + 2 : Nat) : Int) < (a.size : Int) := by omega
            by_cases h45 : bt a ((i + 2 : Nat) : Int) = 45
            · have hf2 : fineT a (i + 1) = true := (fineT_iff _ _).2 fun j hj => by
                by_cases e : j = i
                · subst e; exact Or.inl h45
                · exact (fineT_iff _ _).1 hf j (by omega)
              refine (ih (i + 1) (by omega) hf2).round fun k c => ?_
              rw [liesT, lieOf, if_pos h45] at c
              simp only [spec_l2Parse.l0]
              rw [if_pos hlt2, if_pos (Int.natCast_nonneg _), if_pos h45, if_pos (by omega), hw i hlt]
              exact c
            · by_cases h48 : bt a ((i + 2 : Nat) : Int) - 48 < 0
              · have hb : fineT a n = false := by
                  cases hx2 : fineT a n
                  · rfl
                  · have := (fineT_iff _ _).1 hx2 i (by omega)
                    omega
                rw [psV_no a (by rw [okT, hn2, hb, Bool.and_false, Bool.false_and])]
                refine Stops.now1 fun k => ?_
                simp only [spec_l2Parse.l0]
                rw [if_pos hlt2, if_pos (Int.natCast_nonneg _), if_neg h45, hx i, if_pos h48]
              · have hf2 : fineT a (i + 1) = true := (fineT_iff _ _).2 fun j hj => by
                  by_cases e : j = i
                  · subst e; exact Or.inr (by omega)
                  · exact (fineT_iff _ _).1 hf j (by omega)
                refine (ih (i + 1) (by omega) hf2).round fun k c => ?_
                rw [liesT, lieOf, if_neg h45] at c
                simp only [spec_l2Parse.l0]
                rw [if_pos hlt2, if_pos (Int.natCast_nonneg _), if_neg h45, hx i, if_neg h48, if_pos (by omega), hw i hlt]
                exact c
        have J : Stops (fun k => spec_l2Parse.j0 k a false) (psV a) := (L n 0 (by omega) rfl).round fun k c => by
          simp only [spec_l2Parse.j0]
          rw [if_neg (by simp), if_pos (by omega), ew0]; exact c
        refine J.same fun k c => ?_
        simp only [spec_l2Parse.f, spec_l1In.eq, Option.bind_some]
        rw [decide_eq_true hz, if_pos rfl, if_pos (by omega), ew0, decide_eq_true hm, if_pos rfl, if_pos (by omega), show (bt a 1 != 58) = false by rw [hc]; rfl]
        exact c
      · rw [psV_no a (by rw [okT, decide_eq_false hc, Bool.and_false, Bool.false_and, Bool.false_and])]
        refine J1.same fun k c => ?_
        simp only [spec_l2Parse.f, spec_l1In.eq, Option.bind_some]
        rw [decide_eq_true hz, if_pos rfl, if_pos (by omega), ew0, decide_eq_true hm, if_pos rfl, if_pos (by omega), show (bt a 1 != 58) = true by simpa using hc]
        exact c
    · have hs : isSt (liesT a (a.size - 2)) (bt a 0 - 48) = false := by
        cases hx : isSt (liesT a (a.size - 2)) (bt a 0 - 48)
        · rfl
        · exact absurd (isSt_bd hx).2.2.1 hm
      rw [psV_no a (by rw [okT, hs, Bool.and_false])]
      refine J1.same fun k c => ?_
      simp only [spec_l2Parse.f, spec_l1In.eq, Option.bind_some]
      rw [decide_eq_true hz, if_pos rfl, if_pos (by omega), ew0, decide_eq_false hm, if_neg (by simp)]
      exact c
  · rw [psV_no a (by rw [okT, decide_eq_false hz]; rfl)]
    refine J1.same fun k c => ?_
    simp only [spec_l2Parse.f, spec_l1In.eq, Option.bind_some]
    rw [decide_eq_false hz, if_neg (by simp)]
    exact c

theorem spec_ParseState.ev (a : ByteArray) : Stops (fun k => spec_ParseState.f k a) (psV a) := (spec_l2Parse.ev a).same fun k e => by
  simp only [spec_ParseState.f, e, Option.bind_some]

theorem itoa_dg (a : Int) (h : 0 ≤ a ∧ a < 10) : strconv_Itoa_29.f a = some (dgB a) := by
  unfold strconv_Itoa_29.f
  rw [if_pos (by omega), dgB, _root_.Go.Lib.decDigits, dif_pos (by omega)]
theorem impl_StateText.ev (l : List Int) (m : Int) (h : l.length ≤ 35184372088832) : Stops (fun k => impl_StateText.f k l m) (ttV l m) := by
  unfold ttV
  by_cases hs : isSt l m = true
  · rw [if_pos hs]
    have hb := isSt_bd hs
    have L : Stops (fun k => impl_StateText.l0 k (dgB m ++ ⟨#[58]⟩) l (l.length : Int) 0) (stT m l l.length, true) := by
      refine Stops.count (g := fun k (s : ByteArray × Int) => impl_StateText.l0 k s.1 l (l.length : Int) s.2) (fun i => (stT m l i, (i : Int))) l.length (Stops.now1 fun k => ?_) fun i hi k => ?_
      · simp only [impl_StateText.l0]; rw [if_neg (by omega)]
      · have hx := hb.2.2.2 i hi
        have hz := stT_size m l i
        have ew : wrap64 ((i : Int) + 1) = ((i + 1 : Nat) : Int) := w64 (by omega) (by omega)
        simp only [impl_StateText.l0, stT]
        by_cases hc : rd l (i : Int) < 0
        · rw [if_pos (by omega), if_pos (by omega), if_pos (by omega), if_pos hc, if_pos (by omega), ew, if_pos hc]
        · rw [if_pos (by omega), if_pos (by omega), if_pos (by omega), if_neg hc, itoa_dg _ (by omega), Option.bind_some, if_pos (by rw [dgB_size]; omega), ew, if_neg hc]
    refine L.same fun k b => ?_
    simp only [impl_StateText.f, impl_IsState.f, hs, Option.bind_some, if_true]
    rw [itoa_dg m (by omega), Option.bind_some, if_pos (by rw [dgB_size]; omega)]
    exact b
  · rw [if_neg hs]
    refine Evt.true.mono fun k _ => ?_
    simp [impl_StateText.f, impl_IsState.f, hs]

theorem bt_list (s : ByteArray) (i : Nat) (hi : i < s.data.toList.length) : bt s (i : Int) = ((s.data.toList[i]).toNat : Int) := by
  have hs : (i : Int).toNat < s.size := by rw [Int.toNat_natCast, size_list]; exact hi
  rw [← bt_at s (i : Int) hs]
  rfl
/-- The text of a State, as bytes. -/
theorem stT_list (m : Int) (l : List Int) (n : Nat) : (stT m l n).data.toList = UInt8.ofNat (48 + m.toNat) :: 58 :: (List.range n).map (fun j : Nat => if rd l (j : Int) < 0 then (45 : UInt8) else UInt8.ofNat (48 + (rd l (j : Int)).toNat)) := by
  induction n with
  | zero => rfl
  | succ n ih =>
    rw [List.range_succ, List.map_append, stT]
    by_cases h : rd l (n : Int) < 0
    · rw [if_pos h, ByteArray.data_append, Array.toList_append, ih, List.map_singleton, if_pos h]; rfl
    · rw [if_neg h, ByteArray.data_append, Array.toList_append, ih, List.map_singleton, if_neg h]; rfl
theorem list_eq_iff {n : Nat} (a : ByteArray) (hn : a.size = n + 2) (x y : UInt8) (f : Nat → UInt8) : (a.data.toList = x :: y :: (List.range n).map f) ↔ (bt a 0 = (x.toNat : Int) ∧ bt a 1 = (y.toNat : Int) ∧ ∀ j : Nat, j < n → bt a ((j + 2 : Nat) : Int) = ((f j).toNat : Int)) := by
  have hl : a.data.toList.length = n + 2 := by rw [← size_list]; exact hn
  have hb : ∀ i : Nat, (hi : i < n + 2) → bt a (i : Int) = ((a.data.toList[i]'(by omega)).toNat : Int) := fun i hi => bt_list a i (by omega)
  constructor
  · intro e
    refine ⟨?_, ?_, fun j hj => ?_⟩
    · have := hb 0 (by omega); simp only [e] at this; exact this
    · have := hb 1 (by omega); simp only [e] at this; exact this
    · have := hb (j + 2) (by omega)
      rw [this]
      simp only [e]
      simp
  · rintro ⟨h0, h1, h2⟩
    apply List.ext_getElem
    · simp [hl]
    · intro i hi hi2
      apply UInt8.toNat_inj.1
      have hi3 : i < n + 2 := by omega
      have := hb i hi3
      match i, hi3 with
      | 0, _ => have g : bt a 0 = _ := this; rw [h0] at g; exact_mod_cast g.symm
      | 1, _ => have g : bt a 1 = _ := this; rw [h1] at g; exact_mod_cast g.symm
      | j + 2, hj =>
        rw [h2 j (by omega)] at this
        have e : (x :: y :: (List.range n).map f)[j + 2] = f j := by simp
        rw [e]
        exact_mod_cast this.symm
theorem stT_same (a : ByteArray) (n : Nat) (hn : a.size = n + 2) (hs : isSt (liesT a n) (bt a 0 - 48) = true) : (stT (bt a 0 - 48) (liesT a n) n).data.toList = a.data.toList ↔ (bt a 1 = 58 ∧ fineT a n = true) := by
  have hb := isSt_bd hs
  have hlen := liesT_length a n
  have h0 := bt_range a 0
  rw [eq_comm, stT_list, list_eq_iff a hn, fineT_iff]
  have e0 : bt a 0 = ((UInt8.ofNat (48 + (bt a 0 - 48).toNat)).toNat : Int) := by
    rw [show 48 + (bt a 0 - 48).toNat = (bt a 0).toNat by omega, UInt8.toNat_ofNat']
    omega
  constructor
  · rintro ⟨_, g1, g2⟩
    refine ⟨g1, fun j hj => ?_⟩
    have h := g2 j hj
    have hr := liesT_rd a n j hj
    have hx := hb.2.2.2 j (by omega)
    rw [hr] at h hx
    have hj0 := bt_range a ((j + 2 : Nat) : Int)
    unfold lieOf at h hx
    by_cases h45 : bt a ((j + 2 : Nat) : Int) = 45
    · exact Or.inl h45
    · rw [if_neg h45] at h hx
      by_cases hneg : bt a ((j + 2 : Nat) : Int) - 48 < 0
      · rw [if_pos hneg] at h
        exact Or.inl h
      · exact Or.inr (by omega)
  · rintro ⟨g1, g2⟩
    refine ⟨e0, g1, fun j hj => ?_⟩
    have hr := liesT_rd a n j hj
    have hj0 := bt_range a ((j + 2 : Nat) : Int)
    rw [hr]
    unfold lieOf
    by_cases h45 : bt a ((j + 2 : Nat) : Int) = 45
    · rw [if_pos h45, if_pos (by omega), h45]; rfl
    · have := g2 j hj
      rw [if_neg h45, if_neg (by omega), show 48 + (bt a ((j + 2 : Nat) : Int) - 48).toNat = (bt a ((j + 2 : Nat) : Int)).toNat by omega, UInt8.toNat_ofNat']
      omega
theorem impl_ParseState.ev (a : ByteArray) : Stops (fun k => impl_ParseState.f k a) (psV a) := by
  have hr0 := bt_range a 0
  have ew0 : wrap64 (wrap64 (bt a 0) - 48) = bt a 0 - 48 := by rw [w64 (n := bt a 0) (by omega) (by omega)]; exact w64 (by omega) (by omega)
  by_cases hz : 3 ≤ (a.size : Int) ∧ (a.size : Int) ≤ 14
  · have hx : ∀ i : Nat, wrap64 (wrap64 (bt a ((i + 2 : Nat) : Int)) - 48) = bt a ((i + 2 : Nat) : Int) - 48 := fun i => by
      have := bt_range a ((i + 2 : Nat) : Int)
      rw [w64 (n := bt a ((i + 2 : Nat) : Int)) (by omega) (by omega)]
      exact w64 (by omega) (by omega)
    have hw : ∀ i : Nat, i ≤ 100 → wrap64 (((i + 2 : Nat) : Int) + 1) = ((i + 1 + 2 : Nat) : Int) := fun i hi => w64 (by omega) (by omega)
    obtain ⟨n, hn⟩ : ∃ n, a.size = n + 2 := ⟨a.size - 2, by omega⟩
    have hn2 : a.size - 2 = n := by omega
    have hl := liesT_length a n
    have E : Stops (fun k => impl_ParseState.l0 k a ((n + 2 : Nat) : Int) (liesT a n) (bt a 0 - 48)) (psV a) := by
      refine (impl_StateText.ev (liesT a n) (bt a 0 - 48) (by omega)).round fun k t => ?_
      simp only [impl_ParseState.l0]
      rw [if_neg (by omega), t, Option.bind_some]
      unfold ttV
      by_cases hs : isSt (liesT a n) (bt a 0 - 48) = true
      · rw [if_pos hs, if_pos rfl, ByteArray.toList_eq, ByteArray.toList_eq, hl]
        have he := stT_same a n hn hs
        by_cases hg : bt a 1 = 58 ∧ fineT a n = true
        · rw [if_pos (he.2 hg), psV, okT, hn2, decide_eq_true hz, decide_eq_true hg.1, hg.2, hs, if_pos (show (true && true && true && true) = true from rfl)]
        · have hk : okT a = false := by
            cases hx2 : okT a
            · rfl
            · rw [okT, hn2] at hx2
              simp only [Bool.and_eq_true, decide_eq_true_eq] at hx2
              exact absurd ⟨hx2.1.1.2, hx2.1.2⟩ hg
          rw [if_neg fun g => hg (he.1 g), psV_no a hk]
      · have hs' : isSt (liesT a n) (bt a 0 - 48) = false := by simpa using hs
        rw [if_neg hs, if_neg (by simp), psV_no a (by rw [okT, hn2, hs', Bool.and_false])]
    have L : Stops (fun k => impl_ParseState.l0 k a ((0 + 2 : Nat) : Int) (liesT a 0) (bt a 0 - 48)) (psV a) := by
      refine Stops.count (g := fun k (s : List Int × Int) => impl_ParseState.l0 k a s.2 s.1 (bt a 0 - 48)) (fun i => (liesT a i, ((i + 2 : Nat) : Int))) n E fun i hi k => ?_
      have hli := liesT_length a i
      simp only [impl_ParseState.l0]
      rw [if_pos (by omega), if_pos (Int.natCast_nonneg _), liesT, lieOf]
      by_cases h45 : bt a ((i + 2 : Nat) : Int) = 45
      · rw [if_pos h45, if_pos (by omega), hw i (by omega), if_pos h45]
      · rw [if_neg h45, if_pos (by omega), hx i, hw i (by omega), if_neg h45]
    refine L.same fun k c => ?_
    simp only [impl_ParseState.f, impl_in.eq, Option.bind_some]
    rw [decide_eq_true hz, if_pos rfl, if_pos (by omega), ew0]
    exact c
  · rw [psV_no a (by rw [okT, decide_eq_false hz]; rfl)]
    refine Evt.true.mono fun k _ => ?_
    simp only [impl_ParseState.f, impl_in.eq, Option.bind_some]
    rw [decide_eq_false hz, if_neg (by simp)]

theorem laws_markIntS.ev (l : List Int) (a : Int) (h : l.length ≤ 35184372088832) (h0 : 0 ≤ a) (h1 : a ≤ 1000000000000000000) : Stops (fun k => laws_markIntS.f k l a) (a + l.length, upFrom a l.length) := by
  have E : Stops (fun k => laws_markIntS.l0 k (upFrom a 0 ++ l.drop 0) (a + ((0 : Nat) : Int)) ((0 : Nat) : Int)) (a + l.length, upFrom a l.length) := by
   refine Stops.count (g := fun k (s : List Int × Int × Int) => laws_markIntS.l0 k s.1 s.2.1 s.2.2) (fun i => (upFrom a i ++ l.drop i, a + i, (i : Int))) l.length (Stops.now1 fun m => ?_) fun i hi m => ?_
   · have hl : ((upFrom a l.length ++ l.drop l.length).length : Int) = l.length := by simp [upFrom_length]
     simp only [laws_markIntS.l0]; rw [if_neg (by rw [hl]; omega)]; simp
   · have e : wrap64 ((i : Int) + 1) = (i : Int) + 1 := w64 (by omega) (by omega)
     have e2 : wrap64 (a + (i : Int) + 1) = a + ((i + 1 : Nat) : Int) := by rw [w64 (by omega) (by omega)]; omega
     have hl : ((upFrom a i ++ l.drop i).length : Int) = l.length := by simp [upFrom_length]; omega
     simp only [laws_markIntS.l0]; rw [if_pos (by rw [hl]; omega), if_pos (by omega), e, e2, Int.toNat_natCast, set_split l i (upFrom a i) (a + i) (upFrom_length i a) hi, ← upFrom_append]; rfl
  refine E.same fun m e => ?_
  simp [upFrom] at e
  exact e

theorem laws_markState.ev (l : List Int) (m a : Int) (h : l.length ≤ 35184372088832) (h0 : 0 ≤ a) (h1 : a ≤ 1000000000000000000) : Stops (fun k => laws_markState.f k l m a) (a + l.length, upFrom a l.length) := by
  refine (laws_markIntS.ev l a h h0 h1).same fun k e => ?_
  simp [laws_markState.f, e]

theorem laws_heldIntS.ev (n : Nat) (a : Int) (h : n ≤ 35184372088832) (h0 : 0 ≤ a) (h1 : a ≤ 1000000000000000000) : Stops (fun k => laws_heldIntS.f k (upFrom a n) a) (a + n) := by
  have E : Stops (fun k => laws_heldIntS.l0 k (upFrom a n) (a + ((0 : Nat) : Int)) ((0 : Nat) : Int)) (a + n) := by
    refine Stops.count (g := fun k (s : Int × Int) => laws_heldIntS.l0 k (upFrom a n) s.1 s.2) (fun i => (a + (i : Int), (i : Int))) n (Stops.now1 fun m => ?_) fun i hi m => ?_
    · simp only [laws_heldIntS.l0, upFrom_length]; rw [if_neg (by omega)]
    · have e : wrap64 ((i : Int) + 1) = (i : Int) + 1 := w64 (by omega) (by omega)
      have e2 : wrap64 (a + (i : Int) + 1) = a + ((i + 1 : Nat) : Int) := by rw [w64 (by omega) (by omega)]; omega
      simp only [laws_heldIntS.l0, upFrom_length]; rw [if_pos (by omega), if_pos (by omega), rd_nat, upFrom_getD n a i hi, if_pos rfl, e, e2]; rfl
  refine E.same fun m e => ?_
  simp at e
  exact e

theorem laws_heldState.ev (n : Nat) (m a : Int) (h : n ≤ 35184372088832) (h0 : 0 ≤ a) (h1 : a ≤ 1000000000000000000) : Stops (fun k => laws_heldState.f k (upFrom a n) m a) (a + n) := by
  refine (laws_heldIntS.ev n a h h0 h1).same fun k e => ?_
  simp [laws_heldState.f, e, show ¬ a + (n : Int) < 0 by omega]

theorem law : laws_FnExactParseState.Pure := by
  intro a ha
  by_cases hb : (a.size : Int) > 1048576
  · exact ⟨0, by simp [laws_FnExactParseState.f, hb]⟩
  have hvl : (psV a).1.length ≤ 10000000 := by
    unfold psV
    split
    · rw [show (liesT a (a.size - 2), bt a 0 - 48, true).1 = liesT a (a.size - 2) from rfl, liesT_length]; omega
    · simp
  have S := spec_ParseState.ev a
  have I := impl_ParseState.ev a
  generalize psV a = v at *
  obtain ⟨v, u, b⟩ := v
  simp only at hvl
  obtain ⟨m, h⟩ := (S.and (I.and ((laws_eqState.ev v u (by omega)).and ((laws_markState.ev v u 1 (by omega) (by omega) (by omega)).and (laws_heldState.ev v.length u 1 (by omega) (by omega) (by omega)).evt)))).shift
  have h0 := fun j => (h j).1
  have h1 := fun j => (h j).2.1
  have h2 := fun j => (h j).2.2.1
  have h3 := fun j => (h j).2.2.2.1
  have h4 := fun j => (h j).2.2.2.2
  refine ⟨m + 5, ?_⟩
  simp [laws_FnExactParseState.f, laws_FnExactParseState.j0, laws_FnExactParseState.j1, h0, h1, h2, h3, h4, hb, show ¬ (1 + (v.length : Int) < 0) by omega]

end Go.Proofs.YtlholbpcmilcnaaDoor.PFnExactParseState
