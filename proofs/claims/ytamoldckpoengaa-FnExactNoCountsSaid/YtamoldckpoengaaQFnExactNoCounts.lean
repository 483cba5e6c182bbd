/- The plain law behind the statement FnExactNoCounts: what the Go functions' Lean forms come to. Written for this work; no condition. -/
import Derived.Test.YtamoldckpoengaaPFnExactNoCountsx
import Derived.Test.YtamoldckpoengaaLib2
set_option linter.unusedVariables false
set_option linter.unusedSimpArgs false
namespace Go.Proofs.Ytamoldckpoengaa.PFnExactNoCounts
open Go.RowKit Go.Proofs.YtamoldckpoengaaW.PrintWords Go.Proofs.YtamoldckpoengaaW.PrintLast Go.Proofs.YtamoldckpoengaaW.PrintMore Go.Proofs.Ytamoldckpoengaa.Lib


theorem laws_eqIntS.ev (l : List Int) (h : l.length ≤ 35184372088832) : Stops (fun k => laws_eqIntS.f k l l) true := by
  have E : Stops (fun k => laws_eqIntS.l0 k l l 0) true := by
    refine Stops.count (g := fun k (s : Int) => laws_eqIntS.l0 k l l s) (fun i => (i : Int)) l.length (Stops.now1 fun m => ?_) fun i hi m => ?_
    · simp only [laws_eqIntS.l0]; rw [if_neg (by omega)]
    · have e : wrap64 ((i : Int) + 1) = (i : Int) + 1 := w64 (by omega) (by omega)
      rw [laws_eqIntS.l0, if_pos (by omega), if_pos (by omega), if_pos (by omega), if_pos rfl, e]; rfl
  refine E.same fun m a => ?_
  simp only [laws_eqIntS.f, if_true]; exact a

theorem laws_markIntS.ev (l : List Int) (a : Int) (h : l.length ≤ 35184372088832) (h0 : 0 ≤ a) (h1 : a ≤ 1000000000000000000) : Stops (fun k => laws_markIntS.f k l a) (a + l.length, upFrom a l.length) := by
  have E : Stops (fun k => laws_markIntS.l0 k (upFrom a 0 ++ l.drop 0) (a + ((0 : Nat) : Int)) ((0 : Nat) : Int)) (a + l.length, upFrom a l.length) := by
   refine Stops.count (g := fun k (s : List Int × Int × Int) => laws_markIntS.l0 k s.1 s.2.1 s.2.2) (fun i => (upFrom a i ++ l.drop i, a + i, (i : Int))) l.length (Stops.now1 fun m => ?_) fun i hi m => ?_
   · have hl : ((upFrom a l.length ++ l.drop l.length).length : Int) = l.length := by simp [upFrom_length]
     simp only [laws_markIntS.l0]; rw [if_neg (by rw [hl]; omega)]; simp
   · have e : wrap64 ((i : Int) + 1) = (i : Int) + 1 := w64 (by omega) (by omega)
     have e2 : wrap64 (a + (i : Int) + 1) = a + ((i + 1 : Nat) : Int) := by rw [w64 (by omega) (by omega)]; omega
     have hl : ((upFrom a i ++ l.drop i).length : Int) = l.length := by simp [upFrom_length]; omega
     simp only [laws_markIntS.l0]; rw [if_pos (by rw [hl]; omega), if_pos (by omega), e, e2, Int.toNat_natCast, set_split l i (upFrom a i) (a + i) (upFrom_length i a) hi, ← upFrom_append]; rfl
  refine E.same fun m e => ?_
  simp [upFrom] at e
  exact e

theorem laws_heldIntS.ev (n : Nat) (a : Int) (h : n ≤ 35184372088832) (h0 : 0 ≤ a) (h1 : a ≤ 1000000000000000000) : Stops (fun k => laws_heldIntS.f k (upFrom a n) a) (a + n) := by
  have E : Stops (fun k => laws_heldIntS.l0 k (upFrom a n) (a + ((0 : Nat) : Int)) ((0 : Nat) : Int)) (a + n) := by
    refine Stops.count (g := fun k (s : Int × Int) => laws_heldIntS.l0 k (upFrom a n) s.1 s.2) (fun i => (a + (i : Int), (i : Int))) n (Stops.now1 fun m => ?_) fun i hi m => ?_
    · simp only [laws_heldIntS.l0, upFrom_length]; rw [if_neg (by omega)]
    · have e : wrap64 ((i : Int) + 1) = (i : Int) + 1 := w64 (by omega) (by omega)
      have e2 : wrap64 (a + (i : Int) + 1) = a + ((i + 1 : Nat) : Int) := by rw [w64 (by omega) (by omega)]; omega
      simp only [laws_heldIntS.l0, upFrom_length]; rw [if_pos (by omega), if_pos (by omega), rd_nat, upFrom_getD n a i hi, if_pos rfl, e, e2]; rfl
  refine E.same fun m e => ?_
  simp at e
  exact e

theorem laws_toIntS.ev (l : List Int) (h : l.length ≤ 35184372088832) : Stops (fun k => laws_toIntS.f k l) l := by
  have E : Stops (fun k => laws_toIntS.l0 k l (List.replicate l.length 0) 0) l := by
    refine Stops.count (g := fun k (s : List Int × Int) => laws_toIntS.l0 k l s.1 s.2) (fun i => (l.take i ++ List.replicate (l.length - i) 0, (i : Int))) l.length (Stops.now1 fun m => ?_) fun i hi m => ?_
    · simp only [laws_toIntS.l0]; rw [if_neg (by omega)]; simp
    · have e : wrap64 ((i : Int) + 1) = (i : Int) + 1 := w64 (by omega) (by omega)
      have hl : ((l.take i ++ List.replicate (l.length - i) (0 : Int)).length : Int) = l.length := by simp; omega
      simp only [laws_toIntS.l0]; rw [if_pos (by omega), if_pos (by omega), hl, if_pos (by omega), e, rd_at l i hi, Int.toNat_natCast, set_fill l i hi]; rfl
  refine E.same fun m a => ?_
  simp only [laws_toIntS.f, Int.toNat_natCast]; rw [if_pos (by omega), if_pos h]; exact a

theorem spec_l1In.eq (a b c : Int) : spec_l1In.f a b c = some (decide (b ≤ a ∧ a ≤ c)) := by
  unfold spec_l1In.f; by_cases h : b ≤ a <;> simp [h]

def areV : List Int → Int → Bool
  | [], s => decide (s ≤ 8)
  | x :: t, s => if decide (0 ≤ x ∧ x ≤ 8) = true then areV t (wrap64 (s + x)) else false
theorem areV_eq (l : List Int) : ∀ s, areV l s = (!(l.any fun x => !decide (0 ≤ x ∧ x ≤ 8)) && decide (sumI l s ≤ 8)) := by
  induction l with
  | nil => intro s; rfl
  | cons x t ih =>
    intro s
    rw [areV, ih, List.any_cons, sumI]
    cases decide (0 ≤ x ∧ x ≤ 8) <;> simp
theorem spec_l4Counts.ev (l : List Int) (h : l.length ≤ 35184372088832) : Stops (fun k => spec_l4Counts.f k l) (areC l) := by
  have hd : decide (1 ≤ (l.length : Int) ∧ (l.length : Int) ≤ 3) = decide (1 ≤ l.length ∧ l.length ≤ 3) := by simp only [decide_eq_decide]; omega
  have E := Stops.over0 l (fun k (i : Nat) (s : Int) => spec_l4Counts.l0 k l s (i : Int)) (fun t s => areV t s) 0 (fun s => Stops.now1 fun m => by simp only [spec_l4Counts.l0]; rw [if_neg (by omega)]; rfl) fun i hi s A => by
    have ew : wrap64 ((i : Int) + 1) = ((i + 1 : Nat) : Int) := w64 (by omega) (by omega)
    cases hp : decide (0 ≤ l[i] ∧ l[i] ≤ 8)
    · refine Stops.now1 fun m => ?_
      simp only [spec_l4Counts.l0, rd_at l i hi, spec_l1In.eq, hp, Option.bind_some, areV]
      rw [if_pos (by omega), if_pos (by omega), if_neg (by simp), if_neg (by simp)]
    · refine (A (wrap64 (s + l[i]))).round fun m a => ?_
      simp only [spec_l4Counts.l0, rd_at l i hi, spec_l1In.eq, hp, Option.bind_some, areV, ew]
      rw [if_pos (by omega), if_pos (by omega)]
      simpa using a
  unfold areC
  cases hn : decide (1 ≤ l.length ∧ l.length ≤ 3)
  · refine Evt.true.mono fun m _ => ?_
    simp only [spec_l4Counts.f, spec_l1In.eq, hd, hn, Option.bind_some]
    simp
  · refine E.same fun m e => ?_
    simp only [spec_l4Counts.f, spec_l1In.eq, hd, hn, Option.bind_some]
    rw [if_pos (by trivial), Bool.true_and, ← areV_eq]
    exact e

def splB : List Int → List Int → Bool
  | x :: s, c :: t => decide (0 ≤ x ∧ x ≤ c) && splB s t
  | _, _ => true
def splV (c s : List Int) : Bool := decide (s.length = c.length) && splB s c
theorem spec_l4Split.ev (c s : List Int) (h : s.length ≤ 35184372088832) : Stops (fun k => spec_l4Split.f k c s) (splV c s) := by
  unfold splV
  by_cases hl : s.length = c.length
  · rw [decide_eq_true hl, Bool.true_and]
    have E := Stops.over0 s (fun k (i : Nat) (u : Unit) => spec_l4Split.l0 k c s (i : Int)) (fun t u => splB t (c.drop (s.length - t.length))) () (fun u => Stops.now1 fun m => by simp only [spec_l4Split.l0]; rw [if_neg (by omega)]; simp [splB]) fun i hi u A => by
      have ew : wrap64 ((i : Int) + 1) = ((i + 1 : Nat) : Int) := w64 (by omega) (by omega)
      have ed : s.length - (s[i] :: s.drop (i + 1)).length = i := by simp; omega
      have ed2 : s.length - (s.drop (i + 1)).length = i + 1 := by simp; omega
      have A := A ()
      have hc : i < c.length := by omega
      simp only [ed, ed2] at A ⊢
      rw [List.drop_eq_getElem_cons hc]
      cases hp : decide (0 ≤ s[i] ∧ s[i] ≤ c[i])
      · refine Stops.now1 fun m => ?_
        simp only [spec_l4Split.l0, rd_at s i hi, rd_at c i hc, spec_l1In.eq, hp, Option.bind_some, splB]
        rw [if_pos (by omega), if_pos (by omega), if_pos (by omega), if_neg (by simp), Bool.false_and]
      · refine A.round fun m a => ?_
        simp only [spec_l4Split.l0, rd_at s i hi, rd_at c i hc, spec_l1In.eq, hp, Option.bind_some, splB, ew, Bool.true_and]
        rw [if_pos (by omega), if_pos (by omega), if_pos (by omega)]
        simpa using a
    refine E.same fun m e => ?_
    unfold spec_l4Split.f
    rw [if_pos (by omega)]
    simpa using e
  · refine Evt.true.mono fun m _ => ?_
    show (if (s.length : Int) = (c.length : Int) then _ else _) = _
    rw [if_neg (by omega), decide_eq_false hl, Bool.false_and]

def rstV (c s : List Int) : Nat → List Int
  | 0 => []
  | i + 1 => rstV c s i ++ [wrap64 (rd c i - rd s i)]
theorem rstV_length (c s : List Int) (n : Nat) : (rstV c s n).length = n := by
  induction n with
  | zero => rfl
  | succ n ih => simp [rstV, ih]
theorem spec_l4Rest.ev (c s : List Int) (h : c.length ≤ 1000000) (he : s.length = c.length) : Stops (fun k => spec_l4Rest.f k c s) (rstV c s c.length) := by
  refine Stops.count (g := fun k (x : List Int × Int) => spec_l4Rest.l0 k c s x.1 x.2) (fun i => (rstV c s i, (i : Int))) c.length (Stops.now1 fun m => ?_) fun i hi k => ?_
  · simp only [spec_l4Rest.l0]; rw [if_neg (by omega)]
  · have ew : wrap64 ((i : Int) + 1) = ((i + 1 : Nat) : Int) := w64 (by omega) (by omega)
    have := rstV_length c s i
    simp only [spec_l4Rest.l0, ew, rstV]
    rw [if_pos (by omega), if_pos (by omega), if_pos (by omega), if_pos (by omega)]

theorem spec_l1Own.eq (l : List Int) (h : l.length ≤ 10000000) : spec_l1Own.f l = some l := by
  unfold spec_l1Own.f
  rw [Option.bind_some, if_pos (by simp; omega), List.nil_append]

def movV (s r : List Int) : Nat → List Int
  | 0 => s
  | i + 1 => (movV s r i).set (i + 1) (wrap64 (rd (movV s r i) ((i + 1 : Nat) : Int) + rd r i))
theorem movV_length (s r : List Int) (n : Nat) : (movV s r n).length = s.length := by
  induction n with
  | zero => rfl
  | succ n ih => simp [movV, ih]
def yesV (c s : List Int) : List Int := movV s (rstV c s c.length) (s.length - 1)
theorem yesV_length (c s : List Int) : (yesV c s).length = s.length := movV_length _ _ _
def noV (c s : List Int) : List Int := movV (rstV c s c.length) s (c.length - 1)
theorem noV_length (c s : List Int) : (noV c s).length = c.length := by unfold noV; rw [movV_length, rstV_length]
theorem l4Yes_mov (s r : List Int) (h : s.length ≤ 1000000) (hr : r.length = s.length) : Stops (fun k => spec_l4Yes.l0 k r s 1) (movV s r (s.length - 1)) := by
  refine Stops.count (g := fun k (x : List Int × Int) => spec_l4Yes.l0 k r x.1 x.2) (fun i => (movV s r i, ((i + 1 : Nat) : Int))) (s.length - 1) (Stops.now1 fun m => ?_) fun i hi k => ?_
  · have := movV_length s r (s.length - 1)
    simp only [spec_l4Yes.l0]; rw [if_neg (by omega)]
  · have ew : wrap64 (((i + 1 : Nat) : Int) + 1) = ((i + 1 + 1 : Nat) : Int) := w64 (by omega) (by omega)
    have ew2 : wrap64 (((i + 1 : Nat) : Int) - 1) = (i : Int) := (w64 (by omega) (by omega)).trans (by omega)
    have := movV_length s r i
    simp only [spec_l4Yes.l0, ew, ew2, movV, Int.toNat_natCast]
    rw [if_pos (by omega), if_pos (by omega), if_pos (by omega), if_pos (by omega)]
theorem spec_l4Yes.ev (c s : List Int) (h : c.length ≤ 1000000) (he : s.length = c.length) : Stops (fun k => spec_l4Yes.f k c s) (yesV c s) := by
  refine ((spec_l4Rest.ev c s h he).and (l4Yes_mov s (rstV c s c.length) (by omega) (by rw [rstV_length, he])).evt).mono fun m e => ?_
  simp only [spec_l4Yes.f, e.1, spec_l1Own.eq s (by omega), Option.bind_some]
  exact e.2

theorem rstV_get (c s : List Int) (n : Nat) : ∀ i : Nat, i < n → (rstV c s n)[i]? = some (wrap64 (rd c i - rd s i)) := by
  induction n with
  | zero => intro i hi; omega
  | succ n ih =>
    intro i hi
    unfold rstV
    have := rstV_length c s n
    by_cases h : i < n
    · rw [List.getElem?_append_left (by omega)]
      exact ih i h
    · obtain rfl : i = n := by omega
      rw [List.getElem?_append_right (by omega), this, Nat.sub_self]
      rfl
theorem splB_get : ∀ (s c : List Int), splB s c = true → ∀ (i : Nat) (hi : i < s.length) (hc : i < c.length), 0 ≤ s[i] ∧ s[i] ≤ c[i]
  | [], _, _, i, hi, _ => absurd hi (by simp)
  | _ :: _, [], _, i, _, hc => absurd hc (by simp)
  | x :: s, y :: c, h, i, hi, hc => by
    unfold splB at h
    rw [Bool.and_eq_true, decide_eq_true_eq] at h
    cases i with
    | zero => exact h.1
    | succ i => exact splB_get s c h.2 i (by simpa using hi) (by simpa using hc)
theorem rst_rst (c s : List Int) (ha : areC c = true) (hs : splV c s = true) : rstV c (rstV c s c.length) c.length = s := by
  unfold splV at hs
  rw [Bool.and_eq_true, decide_eq_true_eq] at hs
  unfold areC at ha
  simp only [Bool.and_eq_true, decide_eq_true_eq, Bool.not_eq_true', List.any_eq_false] at ha
  apply List.ext_getElem?
  intro i
  by_cases h : i < c.length
  · have h1 : i < s.length := by omega
    have g := splB_get s c hs.2 i h1 h
    have g2 := ha.1.2 c[i] (List.getElem_mem h)
    simp at g2
    have gl := rstV_length c s c.length
    rw [rstV_get _ _ _ i h, rd_at c i h, rd_at _ i (by omega), List.getElem?_eq_getElem h1]
    have e : (rstV c s c.length)[i]'(by omega) = wrap64 (c[i] - s[i]) := by
      have := rstV_get c s c.length i h
      rw [List.getElem?_eq_getElem (by omega), rd_at c i h, rd_at s i h1] at this
      exact Option.some.inj this
    have e1 : wrap64 (c[i] - s[i]) = c[i] - s[i] := w64 (by omega) (by omega)
    rw [e, e1, w64 (by omega) (by omega)]
    congr 1
    omega
  · rw [List.getElem?_eq_none (by rw [rstV_length]; omega), List.getElem?_eq_none (by omega)]
theorem spec_l4No.ev (c s : List Int) (h : c.length ≤ 1000000) (ha : areC c = true) (hs : splV c s = true) : Stops (fun k => spec_l4No.f k c s) (noV c s) := by
  have he : s.length = c.length := by
    unfold splV at hs
    rw [Bool.and_eq_true, decide_eq_true_eq] at hs
    exact hs.1
  refine ((spec_l4Rest.ev c s h he).and (spec_l4Yes.ev c (rstV c s c.length) h (rstV_length _ _ _)).evt).mono fun m e => ?_
  have e2 := e.2
  unfold yesV at e2
  rw [rst_rst c s ha hs, rstV_length] at e2
  simp only [spec_l4No.f, e.1, e2, Option.bind_some, noV]

theorem spec_NoCounts.ev (c s : List Int) (hc : c.length ≤ 35184372088832) (h : s.length ≤ 35184372088832) : Stops (fun k => spec_NoCounts.f k c s) (if (areC c && splV c s) = true then (noV c s, true) else ([], false)) := by
  cases ha : areC c
  · refine (spec_l4Counts.ev c hc).same fun m e => ?_
    simp [spec_NoCounts.f, ha, e]
  · cases hs : splV c s
    · refine ((spec_l4Counts.ev c hc).and (spec_l4Split.ev c s h).evt).mono fun m e => ?_
      simp [spec_NoCounts.f, ha, e.1, e.2, hs]
    · have h1 : s.length = c.length := by
        unfold splV at hs
        rw [Bool.and_eq_true, decide_eq_true_eq] at hs
        exact hs.1
      have h2 : c.length ≤ 3 := by
        unfold areC at ha
        simp only [Bool.and_eq_true, decide_eq_true_eq] at ha
        exact ha.1.1.2
      refine ((spec_l4Counts.ev c hc).and ((spec_l4Split.ev c s h).and (spec_l4No.ev c s (by omega) ha hs).evt)).mono fun m e => ?_
      simp [spec_NoCounts.f, ha, e.1, e.2.1, e.2.2, hs]

theorem impl_isSplit.ev (c s : List Int) (h : s.length ≤ 35184372088832) : Stops (fun k => impl_isSplit.f k c s) (splV c s) := by
  unfold splV
  by_cases hl : s.length = c.length
  · rw [decide_eq_true hl, Bool.true_and]
    have E := Stops.over0 s (fun k (i : Nat) (u : Unit) => impl_isSplit.l0 k c s (s.length : Int) (i : Int)) (fun t u => splB t (c.drop (s.length - t.length))) () (fun u => Stops.now1 fun m => by simp only [impl_isSplit.l0]; rw [if_neg (by omega)]; simp [splB]) fun i hi u A => by
      have ew : wrap64 ((i : Int) + 1) = ((i + 1 : Nat) : Int) := w64 (by omega) (by omega)
      have ed : s.length - (s[i] :: s.drop (i + 1)).length = i := by simp; omega
      have ed2 : s.length - (s.drop (i + 1)).length = i + 1 := by simp; omega
      have A := A ()
      have hc : i < c.length := by omega
      simp only [ed, ed2] at A ⊢
      rw [List.drop_eq_getElem_cons hc]
      cases hp : decide (0 ≤ s[i] ∧ s[i] ≤ c[i])
      · refine Stops.now1 fun m => ?_
        simp only [impl_isSplit.l0, rd_at s i hi, rd_at c i hc, impl_in.eq, hp, Option.bind_some, splB]
        rw [if_pos (by omega), if_pos (by omega), if_pos (by omega), if_pos (by omega), if_neg (by simp), Bool.false_and]
      · refine A.round fun m a => ?_
        simp only [impl_isSplit.l0, rd_at s i hi, rd_at c i hc, impl_in.eq, hp, Option.bind_some, splB, ew, Bool.true_and]
        rw [if_pos (by omega), if_pos (by omega), if_pos (by omega), if_pos (by omega)]
        simpa using a
    refine E.same fun m e => ?_
    unfold impl_isSplit.f
    rw [if_pos (by omega)]
    simpa using e
  · refine Evt.true.mono fun m _ => ?_
    show (if (s.length : Int) = (c.length : Int) then _ else _) = _
    rw [if_neg (by omega), decide_eq_false hl, Bool.false_and]

theorem impl_left.ev (c s : List Int) (h : c.length ≤ 1000000) (he : s.length = c.length) : Stops (fun k => impl_left.f k c s) (rstV c s c.length) := by
  refine Stops.count (g := fun k (x : List Int × Int) => impl_left.l0 k c x.1 s (s.length : Int) x.2) (fun i => (rstV c s i, (i : Int))) c.length (Stops.now1 fun m => ?_) fun i hi k => ?_
  · simp only [impl_left.l0]; rw [if_neg (by omega)]
  · have ew : wrap64 ((i : Int) + 1) = ((i + 1 : Nat) : Int) := w64 (by omega) (by omega)
    have := rstV_length c s i
    simp only [impl_left.l0, ew, rstV]
    rw [if_pos (by omega), if_pos (by omega), if_pos (by omega), if_pos (by omega), if_pos (by omega)]

theorem slices_Clone_int_int.eq (l : List Int) (h : l.length ≤ 10000000) : slices_Clone_int_int.f l = some l := by
  unfold slices_Clone_int_int.f
  rw [Option.bind_some, if_pos (by simp; omega), List.nil_append]

theorem impl_moved.ev (s r : List Int) (h : s.length ≤ 1000000) (hr : r.length = s.length) : Stops (fun k => impl_moved.f k s r) (movV s r (s.length - 1)) := by
  have E : Stops (fun k => impl_moved.l0 k r s 1) (movV s r (s.length - 1)) := by
    refine Stops.count (g := fun k (x : List Int × Int) => impl_moved.l0 k r x.1 x.2) (fun i => (movV s r i, ((i + 1 : Nat) : Int))) (s.length - 1) (Stops.now1 fun m => ?_) fun i hi k => ?_
    · have := movV_length s r (s.length - 1)
      simp only [impl_moved.l0]; rw [if_neg (by omega)]
    · have ew : wrap64 (((i + 1 : Nat) : Int) + 1) = ((i + 1 + 1 : Nat) : Int) := w64 (by omega) (by omega)
      have ew2 : wrap64 (((i + 1 : Nat) : Int) - 1) = (i : Int) := (w64 (by omega) (by omega)).trans (by omega)
      have := movV_length s r i
      simp only [impl_moved.l0, ew, ew2, movV, Int.toNat_natCast]
      rw [if_pos (by omega), if_pos (by omega), if_pos (by omega), if_pos (by omega)]
  refine E.same fun m e => ?_
  simp only [impl_moved.f, slices_Clone_int_int.eq s (by omega), Option.bind_some]
  exact e

theorem impl_bothWays.ev (c s : List Int) (h : c.length ≤ 1000000) (he : s.length = c.length) : Stops (fun k => impl_bothWays.f k c s) (yesV c s, noV c s) := by
  refine ((impl_left.ev c s h he).and ((impl_moved.ev s (rstV c s c.length) (by omega) (by rw [rstV_length, he])).and (impl_moved.ev (rstV c s c.length) s (by rw [rstV_length]; omega) (by rw [rstV_length, he])).evt)).mono fun m e => ?_
  have e2 := e.2.2
  rw [rstV_length] at e2
  simp only [impl_bothWays.f, e.1, e.2.1, e2, Option.bind_some, yesV, noV]

theorem splV_len {c s : List Int} (h : splV c s = true) : s.length = c.length := by
  unfold splV at h
  rw [Bool.and_eq_true, decide_eq_true_eq] at h
  exact h.1
theorem areC_len {c : List Int} (h : areC c = true) : c.length ≤ 3 := by
  unfold areC at h
  simp only [Bool.and_eq_true, decide_eq_true_eq] at h
  exact h.1.1.2
theorem impl_NoCounts.ev (c s : List Int) (h : s.length ≤ 35184372088832) : Stops (fun k => impl_NoCounts.f k c s) (if (areC c && splV c s) = true then (noV c s, true) else ([], false)) := by
  cases ha : areC c
  · refine Evt.true.mono fun m _ => ?_
    simp [impl_NoCounts.f, impl_AreCounts.f, ha]
  · cases hs : splV c s
    · refine (impl_isSplit.ev c s h).same fun m e => ?_
      simp [impl_NoCounts.f, impl_AreCounts.f, ha, e, hs]
    · have h1 := splV_len hs
      have h2 := areC_len ha
      refine ((impl_isSplit.ev c s h).and (impl_bothWays.ev c s (by omega) h1).evt).mono fun m e => ?_
      simp [impl_NoCounts.f, impl_AreCounts.f, ha, e.1, e.2, hs]

theorem law : laws_FnExactNoCounts.Pure := by
  intro l s
  intros
  by_cases hb : (l.length : Int) > 1048576
  · exact ⟨0, by simp [laws_FnExactNoCounts.f, hb]⟩
  by_cases hb2 : (s.length : Int) > 1048576
  · exact ⟨0, by simp [laws_FnExactNoCounts.f, hb, hb2]⟩
  have hvl : (if (areC l && splV l s) = true then (noV l s, true) else ([], false)).1.length ≤ 1048576 := by
    split
    · rename_i h
      simp only [noV_length]
      omega
    · simp
  have S := spec_NoCounts.ev l s (by omega) (by omega)
  have I := impl_NoCounts.ev l s (by omega)
  generalize (if (areC l && splV l s) = true then (noV l s, true) else ([], false)) = v at *
  obtain ⟨v, b⟩ := v
  simp only at hvl
  have hneg_v : ¬ (1 + (v.length : Int) < 0) := by omega
  obtain ⟨m, h⟩ := (((S).and ((I).and ((laws_toIntS.ev l (by omega)).and ((laws_eqIntS.ev l (by omega)).and ((laws_markIntS.ev l 1 (by omega) (by omega) (by omega)).and ((laws_toIntS.ev s (by omega)).and ((laws_eqIntS.ev s (by omega)).and ((laws_markIntS.ev s (1 + (l.length : Int)) (by omega) (by omega) (by omega)).and ((laws_eqIntS.ev v (by omega)).and ((laws_markIntS.ev v 1 (by omega) (by omega) (by omega)).and (laws_heldIntS.ev v.length 1 (by omega) (by omega) (by omega)).evt))))))))))).shift
  have h0 := fun j => (h j).1
  have h1 := fun j => (h j).2.1
  have h2 := fun j => (h j).2.2.1
  have h3 := fun j => (h j).2.2.2.1
  have h4 := fun j => (h j).2.2.2.2.1
  have h5 := fun j => (h j).2.2.2.2.2.1
  have h6 := fun j => (h j).2.2.2.2.2.2.1
  have h7 := fun j => (h j).2.2.2.2.2.2.2.1
  have h8 := fun j => (h j).2.2.2.2.2.2.2.2.1
  have h9 := fun j => (h j).2.2.2.2.2.2.2.2.2.1
  have h10 := fun j => (h j).2.2.2.2.2.2.2.2.2.2
  refine ⟨m + 7, ?_⟩
  simp [laws_FnExactNoCounts.f, laws_FnExactNoCounts.j0, laws_FnExactNoCounts.j1, laws_FnExactNoCounts.j2, h0, h1, h2, h3, h4, h5, h6, h7, h8, h9, h10, hb, hb2, show ¬ (1 + (l.length : Int) + (s.length : Int) < 0) by omega, hneg_v]

end Go.Proofs.Ytamoldckpoengaa.PFnExactNoCounts
