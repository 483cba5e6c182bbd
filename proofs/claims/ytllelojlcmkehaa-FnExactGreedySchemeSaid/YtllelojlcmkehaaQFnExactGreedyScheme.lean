/- The plain law behind the statement FnExactGreedyScheme: what the Go functions' Lean forms come to. Written for this work; no condition. -/
import Derived.Test.YtllelojlcmkehaaPFnExactGreedySchemex
import Derived.Test.YtllelojlcmkehaaLib2
set_option linter.unusedVariables false
set_option linter.unusedSimpArgs false
namespace Go.Proofs.Ytllelojlcmkehaa.PFnExactGreedyScheme
open Go.RowKit Go.Proofs.YtllelojlcmkehaaW.PrintWords Go.Proofs.YtllelojlcmkehaaW.PrintLast Go.Proofs.YtllelojlcmkehaaW.PrintMore Go.Proofs.Ytllelojlcmkehaa.Lib


theorem laws_eqIntS.ev (l : List Int) (h : l.length ≤ 35184372088832) : Stops (fun k => laws_eqIntS.f k l l) true := by
  have E : Stops (fun k => laws_eqIntS.l0 k l l 0) true := by
    refine Stops.count (g := fun k (s : Int) => laws_eqIntS.l0 k l l s) (fun i => (i : Int)) l.length (Stops.now1 fun m => ?_) fun i hi m => ?_
    · simp only [laws_eqIntS.l0]; rw [if_neg (by omega)]
    · have e : wrap64 ((i : Int) + 1) = (i : Int) + 1 := w64 (by omega) (by omega)
      rw [laws_eqIntS.l0, if_pos (by omega), if_pos (by omega), if_pos (by omega), if_pos rfl, e]; rfl
  refine E.same fun m a => ?_
  simp only [laws_eqIntS.f, if_true]; exact a

theorem laws_markIntS.ev (l : List Int) (a : Int) (h : l.length ≤ 35184372088832) (h0 : 0 ≤ a) (h1 : a ≤ 1000000000000000000) : Stops (fun k => laws_markIntS.f k l a) (a + l.length, upFrom a l.length) := by
  have E : Stops (fun k => laws_markIntS.l0 k (upFrom a 0 ++ l.drop 0) (a + ((0 : Nat) : Int)) ((0 : Nat) : Int)) (a + l.length, upFrom a l.length) := by
   refine Stops.count (g := fun k (s : List Int × Int × Int) => laws_markIntS.l0 k s.1 s.2.1 s.2.2) (fun i => (upFrom a i ++ l.drop i, a + i, (i : Int))) l.length (Stops.now1 fun m => ?_) fun i hi m => ?_
   · have hl : ((upFrom a l.length ++ l.drop l.length).length : Int) = l.length := by simp [upFrom_length]
     simp only [laws_markIntS.l0]; rw [if_neg (by rw [hl]; omega)]; simp
   · have e : wrap64 ((i : Int) + 1) = (i : Int) + 1 := w64 (by omega) (by omega)
     have e2 : wrap64 (a + (i : Int) + 1) = a + ((i + 1 : Nat) : Int) := by rw [w64 (by omega) (by omega)]; omega
     have hl : ((upFrom a i ++ l.drop i).length : Int) = l.length := by simp [upFrom_length]; omega
     simp only [laws_markIntS.l0]; rw [if_pos (by rw [hl]; omega), if_pos (by omega), e, e2, Int.toNat_natCast, set_split l i (upFrom a i) (a + i) (upFrom_length i a) hi, ← upFrom_append]; rfl
  refine E.same fun m e => ?_
  simp [upFrom] at e
  exact e

theorem laws_heldIntS.ev (n : Nat) (a : Int) (h : n ≤ 35184372088832) (h0 : 0 ≤ a) (h1 : a ≤ 1000000000000000000) : Stops (fun k => laws_heldIntS.f k (upFrom a n) a) (a + n) := by
  have E : Stops (fun k => laws_heldIntS.l0 k (upFrom a n) (a + ((0 : Nat) : Int)) ((0 : Nat) : Int)) (a + n) := by
    refine Stops.count (g := fun k (s : Int × Int) => laws_heldIntS.l0 k (upFrom a n) s.1 s.2) (fun i => (a + (i : Int), (i : Int))) n (Stops.now1 fun m => ?_) fun i hi m => ?_
    · simp only [laws_heldIntS.l0, upFrom_length]; rw [if_neg (by omega)]
    · have e : wrap64 ((i : Int) + 1) = (i : Int) + 1 := w64 (by omega) (by omega)
      have e2 : wrap64 (a + (i : Int) + 1) = a + ((i + 1 : Nat) : Int) := by rw [w64 (by omega) (by omega)]; omega
      simp only [laws_heldIntS.l0, upFrom_length]; rw [if_pos (by omega), if_pos (by omega), rd_nat, upFrom_getD n a i hi, if_pos rfl, e, e2]; rfl
  refine E.same fun m e => ?_
  simp at e
  exact e

theorem spec_l1In.eq (a b c : Int) : spec_l1In.f a b c = some (decide (b ≤ a ∧ a ≤ c)) := by
  unfold spec_l1In.f; by_cases h : b ≤ a <;> simp [h]

theorem spec_l2Numbers.eq (a : Int) : spec_l2Numbers.f a = some (isN a) := by
  unfold spec_l2Numbers.f; rw [spec_l1In.eq]; rfl

theorem popN_zero (f : Nat) : popN f 0 = 0 := by
  induction f with
  | zero => rfl
  | succ f ih => simp [popN, ih]
theorem l5Apart_loop (f : Nat) : ∀ (x : Nat) (s : Int), x < 2 ^ f → f ≤ 14 → 0 ≤ s → s ≤ 1000 - (f : Int) → Stops (fun k => spec_l5Apart.l0 k s (x : Int)) (s + (popN f x : Int)) := by
  induction f with
  | zero =>
    intro x s h _ _ _
    refine Stops.now1 fun m => ?_
    simp only [spec_l5Apart.l0]
    rw [if_neg (by simp at h; omega)]
    simp [popN]
  | succ f ih =>
    intro x s h hf h0 h1
    by_cases hx : x = 0
    · subst hx
      refine Stops.now1 fun m => ?_
      simp only [spec_l5Apart.l0]
      rw [if_neg (by omega), popN_zero]
      simp
    · have hp : 2 ^ (f + 1) = 2 * 2 ^ f := by rw [Nat.pow_succ]; omega
      have hlim : 2 ^ (f + 1) ≤ 2 ^ 14 := Nat.pow_le_pow_right (by omega) hf
      have e1 : wrap64 (s + Go.bits .and .i64 (x : Int) 1) = s + ((x % 2 : Nat) : Int) := by
        rw [and1 x (by omega)]
        exact w64 (by omega) (by omega)
      have e2 : (x : Int) / 2 = ((x / 2 : Nat) : Int) := by omega
      refine (ih (x / 2) (s + ((x % 2 : Nat) : Int)) (by omega) (by omega) (by omega) (by omega)).round fun m a => ?_
      simp only [spec_l5Apart.l0, e1, e2]
      rw [if_pos (by omega), a, popN]
      congr 1
      push_cast
      omega
theorem spec_l5Apart.ev (a b : Int) (ha : 0 ≤ a ∧ a < 16384) (hb : 0 ≤ b ∧ b < 16384) : Stops (fun k => spec_l5Apart.f k a b) (apI a b) := by
  have hx := xor_nat ha.1 ha.2 hb.1 hb.2
  have E := l5Apart_loop 14 (a.toNat ^^^ b.toNat) 0 (by have := hx.2; omega) (by omega) (by omega) (by omega)
  refine E.same fun m e => ?_
  simp only [spec_l5Apart.f, hx.1]
  rw [e, apI, Int.zero_add]

theorem fitV_succ (ws : List Int) (w m : Int) (i : Nat) : fitV ws w m (i + 1) = if apI (rd ws (i : Int)) w ≤ m then fitV ws w m i ++ [(i : Int)] else fitV ws w m i := by
  unfold fitV
  rw [numsTo]
  by_cases h : apI (rd ws (i : Int)) w ≤ m
  · rw [if_pos (by simpa using h), if_pos h]
  · rw [if_neg (by simpa using h), if_neg h]
theorem fitV_len (ws : List Int) (w m : Int) (i : Nat) : (fitV ws w m i).length ≤ i := numsTo_length _ _
theorem spec_l5Fit.ev (ws : List Int) (w m : Int) (hs : smallW ws) (hw : 0 ≤ w ∧ w < 16384) (h : ws.length ≤ 1000000) : Stops (fun k => spec_l5Fit.f k ws w m) (fitV ws w m ws.length) := by
  refine Stops.count' (g := fun k (x : List Int × Int) => spec_l5Fit.l0 k ws w m x.1 x.2) (fun i => (fitV ws w m i, (i : Int))) ws.length (Stops.now1 fun k => ?_) fun i hi A => ?_
  · simp only [spec_l5Fit.l0]; rw [if_neg (by omega)]
  · have ew : wrap64 ((i : Int) + 1) = ((i + 1 : Nat) : Int) := w64 (by omega) (by omega)
    have hlen := fitV_len ws w m i
    refine Evt.succ (A.and (spec_l5Apart.ev (rd ws i) w (smallW_at hs i hi) hw).evt) fun k ⟨a, b⟩ => ?_
    simp only [spec_l5Fit.l0, b, ew, Option.bind_some]
    rw [if_pos (by omega), if_pos (by omega)]
    simp only [fitV_succ] at a
    by_cases hc : apI (rd ws i) w ≤ m
    · rw [if_pos hc] at a
      rw [if_pos hc, if_pos (by omega)]
      exact a
    · rw [if_neg hc] at a
      rw [if_neg hc]
      exact a

theorem numsTo_nil (p : Int → Bool) (n : Nat) : (numsTo p n).length = 0 ↔ ∀ j : Nat, j < n → p (j : Int) = false := by
  induction n with
  | zero => simp [numsTo]
  | succ n ih =>
    unfold numsTo
    by_cases h : p (n : Int) = true
    · rw [if_pos h]
      constructor
      · intro g; simp at g
      · intro g; have := g n (by omega); rw [h] at this; cases this
    · rw [if_neg h, ih]
      constructor
      · intro g j hj
        by_cases e : j = n
        · subst e; simpa using h
        · exact g j (by omega)
      · intro g j hj; exact g j (by omega)
theorem fit_any (ws : List Int) (w M : Int) : ((fitV ws w M ws.length).length : Int) = 0 ↔ ws.any (fun x => decide (apI x w ≤ M)) = false := by
  have h := numsTo_nil (fun k => decide (apI (rd ws k) w ≤ M)) ws.length
  rw [show ((fitV ws w M ws.length).length : Int) = 0 ↔ (fitV ws w M ws.length).length = 0 by omega]
  unfold fitV
  rw [h, List.any_eq_false]
  constructor
  · intro g x hx
    obtain ⟨j, hj, rfl⟩ := List.getElem_of_mem hx
    have := g j hj
    rw [rd_at ws j hj] at this
    simpa using this
  · intro g j hj
    have := g ws[j] (List.getElem_mem hj)
    rw [rd_at ws j hj]
    simpa using this
/-- The words that are found among the first numbers. -/
def grW (n m : Int) : Nat → List Int
  | 0 => []
  | i + 1 => if ((grW n m i).length : Int) < n then (if (grW n m i).any (fun x => decide (apI x (i : Int) ≤ wrap64 (2 * m))) = true then grW n m i else grW n m i ++ [(i : Int)]) else grW n m i
theorem grW_len (n m : Int) (i : Nat) : (grW n m i).length ≤ i := by
  induction i with
  | zero => exact Nat.le_refl _
  | succ i ih =>
    unfold grW
    split
    · split
      · omega
      · rw [List.length_append, List.length_singleton]; omega
    · omega
theorem grW_stop (n m : Int) (i : Nat) (h : ¬ ((grW n m i).length : Int) < n) (d : Nat) : grW n m (i + d) = grW n m i := by
  induction d with
  | zero => rfl
  | succ d ih =>
    show grW n m (i + d + 1) = _
    rw [grW, ih, if_neg h]
theorem grW_small (n m : Int) (i : Nat) : ∀ x ∈ grW n m i, 0 ≤ x ∧ x < (i : Int) := by
  induction i with
  | zero => intro x hx; simp [grW] at hx
  | succ i ih =>
    intro x hx
    have hu : ∀ y ∈ grW n m i, 0 ≤ y ∧ y < ((i + 1 : Nat) : Int) := fun y hy => by have := ih y hy; omega
    unfold grW at hx
    split at hx
    · split at hx
      · exact hu x hx
      · rw [List.mem_append, List.mem_singleton] at hx
        rcases hx with hx | rfl
        · exact hu x hx
        · omega
    · exact hu x hx
theorem spec_l5Greedy.ev (n m : Int) (q : Nat) (hn : 1 ≤ n ∧ n ≤ 12) (hm : 0 ≤ m ∧ m ≤ 2) (hq : q ≤ 14) : Stops (fun k => spec_l5Greedy.f k n m (q : Int)) (grW n m (2 ^ q)) := by
  have hs : shl .i64 1 (q : Int) = ((2 ^ q : Nat) : Int) := by rw [shl_one (by omega) (by omega), Int.toNat_natCast]; push_cast; rfl
  have hp : 2 ^ q ≤ 2 ^ 14 := Nat.pow_le_pow_right (by omega) hq
  have hp0 : 0 < 2 ^ q := Nat.two_pow_pos q
  obtain ⟨M, hM⟩ : ∃ M, 2 ^ q = M + 1 := ⟨2 ^ q - 1, by omega⟩
  have e1 : grW n m 1 = [0] := by
    show (if (([] : List Int).length : Int) < n then (if ([] : List Int).any (fun x => decide (apI x 0 ≤ wrap64 (2 * m))) = true then ([] : List Int) else [] ++ [(0 : Int)]) else []) = [0]
    rw [if_pos (by simp; omega), if_neg (by simp)]; rfl
  have E : Stops (fun k => spec_l5Greedy.l0 k n m (q : Int) (grW n m 1) ((1 : Nat) : Int)) (grW n m (2 ^ q)) := by
    refine Stops.count' (g := fun k (s : List Int × Int) => spec_l5Greedy.l0 k n m (q : Int) s.1 s.2) (fun i => (grW n m (i + 1), ((i + 1 : Nat) : Int))) M ?_ fun i hi A => ?_
    · have J : Stops (fun k => spec_l5Greedy.j1 k n m (q : Int) (grW n m (M + 1)) ((M + 1 : Nat) : Int) false) (grW n m (2 ^ q)) := Stops.now1 fun k => by
        simp only [spec_l5Greedy.j1]; rw [if_neg (by simp), hM]
      refine J.round fun k a => ?_
      show spec_l5Greedy.l0 (k + 1) n m (q : Int) (grW n m (M + 1)) ((M + 1 : Nat) : Int) = _
      rw [spec_l5Greedy.l0, if_pos (by omega), hs, if_neg (by omega)]
      exact a
    · have ew : wrap64 (((i + 1 : Nat) : Int) + 1) = ((i + 1 + 1 : Nat) : Int) := w64 (by omega) (by omega)
      have hlen := grW_len n m (i + 1)
      by_cases hl : ((grW n m (i + 1)).length : Int) < n
      · have F := spec_l5Fit.ev (grW n m (i + 1)) ((i + 1 : Nat) : Int) (wrap64 (2 * m)) (fun x hx => by have := grW_small n m (i + 1) x hx; omega) ⟨by omega, by omega⟩ (by omega)
        have hf := fit_any (grW n m (i + 1)) ((i + 1 : Nat) : Int) (wrap64 (2 * m))
        have hstep : grW n m (i + 1 + 1) = if (grW n m (i + 1)).any (fun x => decide (apI x ((i + 1 : Nat) : Int) ≤ wrap64 (2 * m))) = true then grW n m (i + 1) else grW n m (i + 1) ++ [((i + 1 : Nat) : Int)] := by rw [grW, if_pos hl]
        rw [hstep] at A
        have J : Stops (fun k => spec_l5Greedy.j1 k n m (q : Int) (grW n m (i + 1)) ((i + 1 : Nat) : Int) true) (grW n m (2 ^ q)) := by
          refine Evt.succ (A.and F.evt) fun k ⟨a, b⟩ => ?_
          show spec_l5Greedy.j1 (k + 1) n m (q : Int) (grW n m (i + 1)) ((i + 1 : Nat) : Int) true = _
          rw [spec_l5Greedy.j1, if_pos rfl, b, Option.bind_some]
          by_cases h0 : ((fitV (grW n m (i + 1)) ((i + 1 : Nat) : Int) (wrap64 (2 * m)) (grW n m (i + 1)).length).length : Int) = 0
          · rw [if_pos h0, if_pos (by omega), ew]
            rw [hf.1 h0, if_neg (by simp)] at a
            exact a
          · rw [if_neg h0, ew]
            have h1 : (grW n m (i + 1)).any (fun x => decide (apI x ((i + 1 : Nat) : Int) ≤ wrap64 (2 * m))) = true := by
              cases hx : (grW n m (i + 1)).any (fun x => decide (apI x ((i + 1 : Nat) : Int) ≤ wrap64 (2 * m)))
              · exact absurd (hf.2 hx) h0
              · rfl
            rw [if_pos h1] at a
            exact a
        refine J.round fun k a => ?_
        show spec_l5Greedy.l0 (k + 1) n m (q : Int) (grW n m (i + 1)) ((i + 1 : Nat) : Int) = _
        rw [spec_l5Greedy.l0, if_pos (by omega), hs, if_pos (by omega), decide_eq_true hl]
        exact a
      · have he := grW_stop n m (i + 1) hl (2 ^ q - (i + 1))
        rw [show i + 1 + (2 ^ q - (i + 1)) = 2 ^ q by omega] at he
        have J : Stops (fun k => spec_l5Greedy.j1 k n m (q : Int) (grW n m (i + 1)) ((i + 1 : Nat) : Int) false) (grW n m (2 ^ q)) := Stops.now1 fun k => by
          simp only [spec_l5Greedy.j1]; rw [if_neg (by simp), he]
        refine J.round fun k a => ?_
        show spec_l5Greedy.l0 (k + 1) n m (q : Int) (grW n m (i + 1)) ((i + 1 : Nat) : Int) = _
        rw [spec_l5Greedy.l0, if_pos (by omega), hs, if_pos (by omega), decide_eq_false hl]
        exact a
  rw [e1] at E
  exact E

theorem spec_l5Of.ev (l : List Int) (q : Int) (h0 : 0 ≤ q) (h1 : q ≤ 1000) (hl : l.length ≤ 35184372088832) : Stops (fun k => spec_l5Of.f k l q) (colsV l q.toNat l.length) := by
  obtain ⟨q, rfl⟩ := Int.eq_ofNat_of_zero_le h0
  rw [Int.toNat_natCast]
  have E : Stops (fun k => spec_l5Of.l0 k l q (mixV l q l.length 0 0) ((0 : Nat) : Int)) (colsV l q l.length) := by
    refine Stops.count' (g := fun k (s : List Int × Int) => spec_l5Of.l0 k l q s.1 s.2) (fun i => (mixV l q l.length 0 i, (i : Int))) q (Stops.now1 fun m => ?_) fun i hi A => ?_
    · simp only [spec_l5Of.l0]; rw [if_neg (by omega), mixV_all]
    · have e : wrap64 ((i : Int) + 1) = (i : Int) + 1 := w64 (by omega) (by omega)
      have I : Stops (fun k => spec_l5Of.l1 k l q ((mixV l q l.length 0 i).set i (colV l (i : Nat) 0)) i ((0 : Nat) : Int)) (colsV l q l.length) := by
        refine Stops.count' (g := fun k (s : List Int × Int) => spec_l5Of.l1 k l q s.1 i s.2) (fun n => ((mixV l q l.length 0 i).set i (colV l (i : Nat) n), (n : Int))) l.length (A.round fun m a => ?_) fun n hn B => B.round fun m b => ?_
        · simp only [spec_l5Of.l1]; rw [if_neg (by omega), mixV_set l q _ _ i hi, e]; exact a
        · have e2 : wrap64 ((n : Int) + 1) = (n : Int) + 1 := w64 (by omega) (by omega)
          have hlen : (((mixV l q l.length 0 i).set i (colV l (i : Nat) n)).length : Int) = q := by rw [List.length_set, mixV_length]
          have hrd : rd ((mixV l q l.length 0 i).set i (colV l (i : Nat) n)) (i : Int) = colV l (i : Nat) n := by
            rw [rd_nat, List.getD_eq_getElem?_getD, List.getElem?_set_self (by rw [mixV_length]; exact hi)]; rfl
          simp only [spec_l5Of.l1]
          rw [if_pos (by omega), if_pos (by omega), if_pos (by rw [hlen]; omega), if_pos (by omega), hrd, rd_nat, Int.toNat_natCast, colV_step, List.set_set, e2]; exact b
      rw [show colV l (i : Nat) 0 = 0 from rfl, show (0 : Int) = colV l (i : Nat) 0 from rfl, mixV_same l q _ _ i hi] at I
      refine I.round fun m a => ?_
      simp only [spec_l5Of.l0]; rw [if_pos (by omega)]; exact a
  rw [mixV_zero, colsV_zero] at E
  refine E.same fun m a => ?_
  simp only [spec_l5Of.f, Int.toNat_natCast]; rw [if_pos (by omega), if_pos (by omega)]; exact a

/-- The first number of questions for which there are words enough. -/
def gsL (n m : Int) : Nat → Nat → List Int × Bool
  | 0, _ => ([], false)
  | d + 1, q => if ((grW n m (2 ^ q)).length : Int) = n then (colsV (grW n m (2 ^ q)) q (grW n m (2 ^ q)).length, true) else gsL n m d (q + 1)
def gsV (n m : Int) : List Int × Bool := if (isN n && isM m) = true then gsL n m 15 0 else ([], false)
theorem gsL_len (n m : Int) (d : Nat) : ∀ q, q + d ≤ 15 → (gsL n m d q).1.length ≤ 15 := by
  induction d with
  | zero => intro q _; simp [gsL]
  | succ d ih =>
    intro q h
    unfold gsL
    split
    · show (colsV (grW n m (2 ^ q)) q (grW n m (2 ^ q)).length).length ≤ _
      rw [colsV_length]; omega
    · exact ih (q + 1) (by omega)
theorem spec_GreedyScheme.ev (n m : Int) : Stops (fun k => spec_GreedyScheme.f k n m) (gsV n m) := by
  unfold gsV
  by_cases hs : (isN n && isM m) = true
  · rw [if_pos hs]
    rw [Bool.and_eq_true] at hs
    have hn := isN_bd hs.1
    have hm := isM_bd hs.2
    have L : ∀ d q : Nat, q + d = 15 → Stops (fun k => spec_GreedyScheme.l0 k n m (q : Int)) (gsL n m d q) := by
      intro d
      induction d with
      | zero =>
        intro q h
        refine Stops.now1 fun k => ?_
        rw [spec_GreedyScheme.l0, if_neg (by omega)]; rfl
      | succ d ih =>
        intro q h
        have ew : wrap64 ((q : Int) + 1) = ((q + 1 : Nat) : Int) := w64 (by omega) (by omega)
        have hlen := grW_len n m (2 ^ q)
        have hp : 2 ^ q ≤ 2 ^ 14 := Nat.pow_le_pow_right (by omega) (by omega)
        have O := spec_l5Of.ev (grW n m (2 ^ q)) (q : Int) (by omega) (by omega) (by omega)
        rw [Int.toNat_natCast] at O
        refine Evt.succ ((spec_l5Greedy.ev n m q hn hm (by omega)).and (O.and (ih (q + 1) (by omega)).evt)) fun k ⟨a, b, c⟩ => ?_
        show spec_GreedyScheme.l0 (k + 1) n m (q : Int) = _
        rw [spec_GreedyScheme.l0, if_pos (by omega), a, Option.bind_some, gsL]
        by_cases hl : ((grW n m (2 ^ q)).length : Int) = n
        · rw [if_pos hl, if_pos hl, b]; rfl
        · rw [if_neg hl, if_neg hl, ew]; exact c
    have J : Stops (fun k => spec_GreedyScheme.j0 k n m false) (gsL n m 15 0) := (L 15 0 (by omega)).round fun k a => by
      rw [spec_GreedyScheme.j0, if_neg (by simp)]; exact a
    refine J.same fun k a => ?_
    simp only [spec_GreedyScheme.f, spec_l2Numbers.eq, spec_l1In.eq, hs.1, Option.bind_some, if_true]
    rw [decide_eq_true hm]; exact a
  · rw [if_neg hs]
    have J : Stops (fun k => spec_GreedyScheme.j0 k n m true) ([], false) := Stops.now1 fun k => by rw [spec_GreedyScheme.j0, if_pos rfl]
    refine J.same fun k a => ?_
    simp only [spec_GreedyScheme.f, spec_l2Numbers.eq, spec_l1In.eq, Option.bind_some]
    cases h1 : isN n
    · simpa using a
    · have h2 : decide (0 ≤ m ∧ m ≤ 2) = false := by rw [h1] at hs; simpa [isM] using hs
      rw [h2]; simpa using a

theorem impl_in.eq (a b c : Int) : impl_in.f a b c = some (decide (b ≤ a ∧ a ≤ c)) := by
  unfold impl_in.f; by_cases h : b ≤ a <;> simp [h]

theorem impl_isCount.eq (a : Int) : impl_isCount.f a = some (isN a) := by
  unfold impl_isCount.f; rw [impl_in.eq]; rfl

theorem impl_isMost.eq (a : Int) : impl_isMost.f a = some (isM a) := by
  unfold impl_isMost.f; rw [impl_in.eq]; rfl

theorem ones_small : ∀ a b : Fin 128, bits_OnesCount64.f ((128 * a.val + b.val : Nat) : Int) = some (popN 14 (128 * a.val + b.val) : Int) := by decide +kernel
theorem impl_apart.eq (a b : Int) (ha : 0 ≤ a ∧ a < 16384) (hb : 0 ≤ b ∧ b < 16384) : impl_apart.f a b = some (apI a b) := by
  have hx := xor_nat ha.1 ha.2 hb.1 hb.2
  have hs := ones_small ⟨(a.toNat ^^^ b.toNat) / 128, by omega⟩ ⟨(a.toNat ^^^ b.toNat) % 128, by omega⟩
  simp only at hs
  rw [Nat.div_add_mod] at hs
  have e2 : IntKind.u64.wrap ((a.toNat ^^^ b.toNat : Nat) : Int) = ((a.toNat ^^^ b.toNat : Nat) : Int) := by
    have : IntKind.u64.wrap ((a.toNat ^^^ b.toNat : Nat) : Int) = ((a.toNat ^^^ b.toNat : Nat) : Int) % 18446744073709551616 := rfl
    rw [this]
    omega
  simp only [impl_apart.f, bits_OnesCount.f, hx.1, e2, hs, Option.bind_some]
  rfl

theorem impl_has.eq (q k : Int) (h : 0 ≤ k) : impl_has.f q k = some (hasB q k) := by
  unfold impl_has.f; rw [if_pos h]; rfl

theorem impl_schemeOf.ev (l : List Int) (q : Int) (h0 : 0 ≤ q) (h1 : q ≤ 1000) (hl : l.length ≤ 35184372088832) : Stops (fun k => impl_schemeOf.f k l q) (colsV l q.toNat l.length) := by
  obtain ⟨q, rfl⟩ := Int.eq_ofNat_of_zero_le h0
  rw [Int.toNat_natCast]
  have E : Stops (fun k => impl_schemeOf.l0 k (colsV l q 0) l l.length ((0 : Nat) : Int)) (colsV l q l.length) := by
    refine Stops.count' (g := fun k (s : List Int × Int) => impl_schemeOf.l0 k s.1 l l.length s.2) (fun n => (colsV l q n, (n : Int))) l.length (Stops.now1 fun m => ?_) fun n hn A => ?_
    · simp only [impl_schemeOf.l0]; rw [if_neg (by omega)]
    · have e : wrap64 ((n : Int) + 1) = (n : Int) + 1 := w64 (by omega) (by omega)
      have I : Stops (fun k => impl_schemeOf.l1 k (mixV l q (n + 1) n 0) n (l.getD n 0) l l.length n q ((0 : Nat) : Int)) (colsV l q l.length) := by
        refine Stops.count' (g := fun k (s : List Int × Int) => impl_schemeOf.l1 k s.1 n (l.getD n 0) l l.length n q s.2) (fun i => (mixV l q (n + 1) n i, (i : Int))) q (A.round fun m a => ?_) fun i hi B => B.round fun m b => ?_
        · simp only [impl_schemeOf.l1]; rw [if_neg (by omega), mixV_all, e]; exact a
        · have e2 : wrap64 ((i : Int) + 1) = (i : Int) + 1 := w64 (by omega) (by omega)
          have hlen : ((mixV l q (n + 1) n i).length : Int) = q := by rw [mixV_length]
          have hrd : rd (mixV l q (n + 1) n i) (i : Int) = colV l (i : Nat) n := by
            rw [rd_nat, mixV_getD l q _ _ i i hi, if_neg (by omega)]
          simp only [impl_schemeOf.l1]
          rw [if_pos (by omega), impl_has.eq _ _ (by omega), Option.bind_some, e2]
          by_cases hb : hasB (l.getD n 0) (i : Int) = true
          · rw [if_pos hb, if_pos (by omega), if_pos (by rw [hlen]; omega), if_pos (by omega), hrd, Int.toNat_natCast]
            have hs : (mixV l q (n + 1) n i).set i (Go.bits .or .i64 (colV l (i : Nat) n) (shl .i64 1 n)) = mixV l q (n + 1) n (i + 1) := by
              rw [← mixV_set l q _ _ i hi, colV, if_pos hb]
            rw [hs]; exact b
          · have hs : mixV l q (n + 1) n i = mixV l q (n + 1) n (i + 1) := by
              rw [← mixV_set l q _ _ i hi, colV, if_neg hb, mixV_same l q _ _ i hi]
            rw [if_neg hb, hs]; exact b
      rw [mixV_zero] at I
      refine I.round fun m a => ?_
      simp only [impl_schemeOf.l0, rd_nat, colsV_length]; rw [if_pos (by omega), if_pos (by omega), if_pos (by omega)]; exact a
  rw [colsV_zero] at E
  refine E.same fun m a => ?_
  simp only [impl_schemeOf.f, Int.toNat_natCast]; rw [if_pos (by omega), if_pos (by omega)]; exact a

theorem grV_eq (n m : Int) (hm : 0 ≤ m ∧ m ≤ 2) (i : Nat) : i ≤ 16384 → grV n m i = grW n m i := by
  induction i with
  | zero => intro _; rfl
  | succ i ih =>
    intro hi
    have ih := ih (by omega)
    have hc : ∀ x ∈ grW n m i, grP m (i : Int) x = decide (apI x (i : Int) ≤ wrap64 (2 * m)) := fun x hx => by
      have := grW_small n m i x hx
      have e : apG x (i : Int) = apI x (i : Int) := by rw [apG, impl_apart.eq x (i : Int) ⟨this.1, by omega⟩ ⟨by omega, by omega⟩, Option.getD_some]
      unfold grP
      rw [e]
    have ha : (grW n m i).any (grP m (i : Int)) = (grW n m i).any (fun x => decide (apI x (i : Int) ≤ wrap64 (2 * m))) := by
      generalize grW n m i = s at hc
      induction s with
      | nil => rw [List.any_nil, List.any_nil]
      | cons a t iht => rw [List.any_cons, List.any_cons, hc a List.mem_cons_self, iht fun x hx => hc x (List.mem_cons_of_mem _ hx)]
    rw [grV, grW, ih, ha]
theorem impl_GreedyScheme.ev (n m : Int) : Stops (fun k => impl_GreedyScheme.f k n m) (gsV n m) := by
  unfold gsV
  by_cases hs : (isN n && isM m) = true
  · rw [if_pos hs]
    rw [Bool.and_eq_true] at hs
    have hm := isM_bd hs.2
    have L : ∀ d q : Nat, q + d = 15 → Stops (fun k => impl_GreedyScheme.l0 k n m (q : Int)) (gsL n m d q) := by
      intro d
      induction d with
      | zero =>
        intro q h
        refine Stops.now1 fun k => ?_
        rw [impl_GreedyScheme.l0, if_neg (by omega)]; rfl
      | succ d ih =>
        intro q h
        have ew : wrap64 ((q : Int) + 1) = ((q + 1 : Nat) : Int) := w64 (by omega) (by omega)
        have hlen := grW_len n m (2 ^ q)
        have hp : 2 ^ q ≤ 2 ^ 14 := Nat.pow_le_pow_right (by omega) (by omega)
        have G : impl_greedy.f n m (q : Int) = some (grW n m (2 ^ q)) := by rw [impl_greedy.f, if_pos (by omega), Int.toNat_natCast, grV_eq n m hm _ (by omega)]
        have O := impl_schemeOf.ev (grW n m (2 ^ q)) (q : Int) (by omega) (by omega) (by omega)
        rw [Int.toNat_natCast] at O
        refine Evt.succ (O.and (ih (q + 1) (by omega)).evt) fun k ⟨b, c⟩ => ?_
        show impl_GreedyScheme.l0 (k + 1) n m (q : Int) = _
        rw [impl_GreedyScheme.l0, if_pos (by omega), G, Option.bind_some, gsL]
        by_cases hl : ((grW n m (2 ^ q)).length : Int) = n
        · rw [if_pos hl, if_pos hl, b]; rfl
        · rw [if_neg hl, if_neg hl, ew]; exact c
    have J : Stops (fun k => impl_GreedyScheme.j0 k n m false) (gsL n m 15 0) := (L 15 0 (by omega)).round fun k a => by
      rw [impl_GreedyScheme.j0, if_neg (by simp)]; exact a
    refine J.same fun k a => ?_
    simp only [impl_GreedyScheme.f, impl_isCount.eq, impl_isMost.eq, hs.1, hs.2, Option.bind_some, if_true]
    exact a
  · rw [if_neg hs]
    have J : Stops (fun k => impl_GreedyScheme.j0 k n m true) ([], false) := Stops.now1 fun k => by rw [impl_GreedyScheme.j0, if_pos rfl]
    refine J.same fun k a => ?_
    simp only [impl_GreedyScheme.f, impl_isCount.eq, impl_isMost.eq, Option.bind_some]
    cases h1 : isN n
    · simpa using a
    · have h2 : isM m = false := by rw [h1] at hs; simpa using hs
      rw [h2]; simpa using a

theorem law : laws_FnExactGreedyScheme.Pure := by
  intro n m0
  intros
  have hvl : (gsV n m0).1.length ≤ 35184372088832 := by
    unfold gsV
    split
    · have := gsL_len n m0 15 0 (by omega)
      omega
    · simp
  have S := spec_GreedyScheme.ev n m0
  have I := impl_GreedyScheme.ev n m0
  generalize (gsV n m0) = v at *
  obtain ⟨v, b⟩ := v
  simp only at hvl
  have hneg_v : ¬ (1 + (v.length : Int) < 0) := by omega
  obtain ⟨m, h⟩ := (((S).and ((I).and ((laws_eqIntS.ev v (by omega)).and ((laws_markIntS.ev v 1 (by omega) (by omega) (by omega)).and (laws_heldIntS.ev v.length 1 (by omega) (by omega) (by omega)).evt))))).shift
  have h0 := fun j => (h j).1
  have h1 := fun j => (h j).2.1
  have h2 := fun j => (h j).2.2.1
  have h3 := fun j => (h j).2.2.2.1
  have h4 := fun j => (h j).2.2.2.2
  refine ⟨m + 7, ?_⟩
  simp [laws_FnExactGreedyScheme.f, laws_FnExactGreedyScheme.j0, laws_FnExactGreedyScheme.j1, h0, h1, h2, h3, h4, hneg_v]

end Go.Proofs.Ytllelojlcmkehaa.PFnExactGreedyScheme
