/- The plain law behind the statement FnExactJoinStrings: what the Go functions' Lean forms come to. Written for this work; no condition. -/
import Derived.Test.YtllelojlcmkehaaPFnExactJoinStringsx
import Derived.Test.YtllelojlcmkehaaLib2
set_option linter.unusedVariables false
set_option linter.unusedSimpArgs false
namespace Go.Proofs.Ytllelojlcmkehaa.PFnExactJoinStrings
open Go.RowKit Go.Proofs.YtllelojlcmkehaaW.PrintWords Go.Proofs.YtllelojlcmkehaaW.PrintLast Go.Proofs.YtllelojlcmkehaaW.PrintMore Go.Proofs.Ytllelojlcmkehaa.Lib


theorem rdOf_at {γ : Type} (d : γ) (l : List γ) (i : Nat) (hi : i < l.length) : rdOf d l (i : Int) = l[i] := by
  unfold rdOf; rw [Int.toNat_natCast, List.getD_eq_getElem?_getD, List.getElem?_eq_getElem hi]; rfl
/-- The parts are small. -/
def smallS (l : List ByteArray) : Prop := l.length ≤ 1048576 ∧ ∀ j : Nat, j < l.length → (rdOf ByteArray.empty l (j : Int)).size ≤ 1048576
theorem laws_szStringS.ev (l : List ByteArray) (hm : l.length ≤ maxLen) (hx : ∀ x ∈ l, x.size ≤ maxLen) : ∃ r, Stops (fun k => laws_szStringS.f k l 1048576) r ∧ (r < 0 ∨ smallS l) := by
  unfold maxLen at hm hx
  have ez : wrap64 (1048576 - (l.length : Int)) = 1048576 - (l.length : Int) := w64 (by omega) (by omega)
  by_cases hb : (l.length : Int) > 1048576
  · refine ⟨-1, Evt.true.mono fun k _ => ?_, Or.inl (by omega)⟩
    show laws_szStringS.f k l 1048576 = _
    simp only [laws_szStringS.f]
    rw [ez, if_pos (by omega)]
  · have L : ∀ d i : Nat, i + d = l.length → ∀ a : Int, 0 ≤ a → a ≤ 1048576 → ∃ r, Stops (fun k => laws_szStringS.l0 k l a (i : Int)) r ∧ (r < 0 ∨ ∀ j : Nat, i ≤ j → j < l.length → (rdOf ByteArray.empty l (j : Int)).size ≤ 1048576) := by
      intro d
      induction d with
      | zero =>
        intro i hi a h0 h1
        refine ⟨a, Stops.now1 fun k => ?_, Or.inr fun j g1 g2 => by omega⟩
        simp only [laws_szStringS.l0]
        rw [if_neg (by omega)]
      | succ d ih =>
        intro i hi a h0 h1
        have hs : (rdOf ByteArray.empty l (i : Int)).size ≤ 9223372036854775807 := by
          rw [rdOf_at ByteArray.empty l i (by omega)]
          have := hx _ (List.getElem_mem (show i < l.length by omega))
          omega
        have ew : wrap64 ((i : Int) + 1) = ((i + 1 : Nat) : Int) := w64 (by omega) (by omega)
        have eq : wrap64 (a - ((rdOf ByteArray.empty l (i : Int)).size : Int)) = a - ((rdOf ByteArray.empty l (i : Int)).size : Int) := w64 (by omega) (by omega)
        by_cases hn : a - ((rdOf ByteArray.empty l (i : Int)).size : Int) < 0
        · refine ⟨-1, Stops.now1 fun k => ?_, Or.inl (by omega)⟩
          simp only [laws_szStringS.l0]
          rw [if_pos (by omega), if_pos (by omega), eq, if_pos hn]
        · obtain ⟨r, E, hr⟩ := ih (i + 1) (by omega) (a - ((rdOf ByteArray.empty l (i : Int)).size : Int)) (by omega) (by omega)
          refine ⟨r, E.round fun k c => ?_, hr.imp id fun g j g1 g2 => ?_⟩
          · simp only [laws_szStringS.l0]
            rw [if_pos (by omega), if_pos (by omega), eq, if_neg hn, ew]; exact c
          · by_cases e : j = i
            · subst e; omega
            · exact g j (by omega) g2
    obtain ⟨r, E, hr⟩ := L l.length 0 (by omega) (1048576 - (l.length : Int)) (by omega) (by omega)
    refine ⟨r, E.same fun k c => ?_, hr.imp id fun g => ⟨by omega, fun j hj => g j (by omega) hj⟩⟩
    simp only [laws_szStringS.f]
    rw [ez, if_neg (by omega)]; exact c
theorem laws_toStringS.ev (l : List ByteArray) (h : l.length ≤ 1000000000) : Stops (fun k => laws_toStringS.f k l) l := by
  have hset : ∀ i, i < l.length → (l.take i ++ List.replicate (l.length - i) (⟨#[]⟩ : ByteArray)).set i (rdOf ByteArray.empty l (i : Int)) = l.take (i + 1) ++ List.replicate (l.length - (i + 1)) (⟨#[]⟩ : ByteArray) := by
    intro i hi
    have h1 : (l.take i).length = i := by rw [List.length_take]; omega
    rw [rdOf_at ByteArray.empty l i hi, List.set_append_right _ _ (by omega), h1, Nat.sub_self, List.take_succ_eq_append_getElem hi]
    obtain ⟨d, hd⟩ : ∃ d, l.length - i = d + 1 := ⟨l.length - i - 1, by omega⟩
    rw [hd, List.replicate_succ, List.set_cons_zero, show l.length - (i + 1) = d by omega, List.append_assoc]
    rfl
  have E : Stops (fun k => laws_toStringS.l0 k l (l.take 0 ++ List.replicate (l.length - 0) (⟨#[]⟩ : ByteArray)) ((0 : Nat) : Int)) l := by
    refine Stops.count (g := fun k (s : List ByteArray × Int) => laws_toStringS.l0 k l s.1 s.2) (fun i => (l.take i ++ List.replicate (l.length - i) (⟨#[]⟩ : ByteArray), (i : Int))) l.length (Stops.now1 fun k => ?_) fun i hi k => ?_
    · simp only [laws_toStringS.l0]
      rw [if_neg (by omega), List.take_length, Nat.sub_self, List.replicate_zero, List.append_nil]
    · have ew : wrap64 ((i : Int) + 1) = ((i + 1 : Nat) : Int) := w64 (by omega) (by omega)
      have hlen : (l.take i ++ List.replicate (l.length - i) (⟨#[]⟩ : ByteArray)).length = l.length := by rw [List.length_append, List.length_take, List.length_replicate]; omega
      simp only [laws_toStringS.l0]
      rw [if_pos (by omega), if_pos (by omega), if_pos (by rw [hlen]; omega), Int.toNat_natCast, hset i hi, ew]
  refine E.same fun k c => ?_
  simp only [laws_toStringS.f, Int.toNat_natCast]
  rw [if_pos (by omega), if_pos (by omega)]
  exact c

theorem size_list (s : ByteArray) : s.size = s.data.toList.length := by rw [Array.length_toList]; rfl
theorem bt_list (s : ByteArray) (i : Nat) (hi : i < s.data.toList.length) : bt s (i : Int) = ((s.data.toList[i]).toNat : Int) := by
  have hs : (i : Int).toNat < s.size := by rw [Int.toNat_natCast, size_list]; exact hi
  rw [← bt_at s (i : Int) hs]
  rfl
/-- Does a byte stand in a text? -/
def stB (s : ByteArray) (b : Int) : Bool := s.data.toList.any fun x => decide ((x.toNat : Int) = b)
theorem spec_l1Stands.ev (s : ByteArray) (b : Int) (h : s.size ≤ 140737488355328) : Stops (fun k => spec_l1Stands.f k s b) (stB s b) := by
  have hl := size_list s
  refine Stops.over0 s.data.toList (fun k i (_ : Unit) => spec_l1Stands.l0 k s b (i : Int)) (fun r _ => r.any fun x => decide ((x.toNat : Int) = b)) () (fun _ => Stops.now1 fun k => ?_) fun i hi _ ih => ?_
  · simp only [spec_l1Stands.l0]; rw [if_neg (by omega)]; rfl
  · have ew : wrap64 ((i : Int) + 1) = ((i + 1 : Nat) : Int) := w64 (by omega) (by omega)
    refine (ih ()).round fun k a => ?_
    simp only [spec_l1Stands.l0]
    rw [if_pos (by omega), if_pos (by omega), bt_list s i hi, List.any_cons]
    by_cases hb : ((s.data.toList[i]).toNat : Int) = b
    · rw [if_pos hb, decide_eq_true hb, Bool.true_or]
    · rw [if_neg hb, decide_eq_false hb, Bool.false_or, ew]; exact a

/-- The first parts put together. -/
def outB (a : ByteArray) (l : List ByteArray) : Nat → ByteArray
  | 0 => ⟨#[]⟩
  | i + 1 => if 0 < i then (outB a l i ++ a) ++ rdOf ByteArray.empty l (i : Int) else outB a l i ++ rdOf ByteArray.empty l (i : Int)
def sumS (l : List ByteArray) : Nat → Nat
  | 0 => 0
  | i + 1 => sumS l i + (rdOf ByteArray.empty l (i : Int)).size
theorem outB_size (a : ByteArray) (l : List ByteArray) (ha : a.size = 1) (i : Nat) : (outB a l (i + 1)).size = i + sumS l (i + 1) := by
  induction i with
  | zero =>
    rw [outB, if_neg (by omega), ByteArray.size_append, sumS, sumS]
    have e : (outB a l 0).size = 0 := rfl
    omega
  | succ i ih => rw [outB, if_pos (by omega), ByteArray.size_append, ByteArray.size_append, ih, ha, sumS.eq_def l (i + 1 + 1)]; simp only; omega
theorem sumS_mono (l : List ByteArray) (i : Nat) (d : Nat) : sumS l i ≤ sumS l (i + d) := by
  induction d with
  | zero => exact Nat.le_refl _
  | succ d ih => rw [← Nat.add_assoc, sumS]; omega
/-- From the place i on no part bears the sign. -/
def goodB (l : List ByteArray) (a : ByteArray) (n i : Nat) : Bool := (List.range n).all fun j => decide (j < i) || !stB (rdOf ByteArray.empty l (j : Int)) (bt a 0)
theorem goodB_iff (l : List ByteArray) (a : ByteArray) (n i : Nat) : goodB l a n i = true ↔ ∀ j, i ≤ j → j < n → stB (rdOf ByteArray.empty l (j : Int)) (bt a 0) = false := by
  unfold goodB
  rw [List.all_eq_true]
  constructor
  · intro g j h1 h2
    have := g j (List.mem_range.2 h2)
    rw [decide_eq_false (by omega), Bool.false_or] at this
    simpa using this
  · intro g j h2
    by_cases h1 : j < i
    · rw [decide_eq_true h1, Bool.true_or]
    · rw [g j (by omega) (List.mem_range.1 h2)]; simp
def jsV (l : List ByteArray) (a : ByteArray) (n : Nat) (i : Nat) : ByteArray × Bool := if goodB l a n i = true ∧ (outB a l n).size ≤ 4000 then (outB a l n, true) else (⟨#[]⟩, false)
def jsW (l : List ByteArray) (a : ByteArray) : ByteArray × Bool := if (a.size : Int) = 1 ∧ ¬ (l.length : Int) = 0 then jsV l a l.length 0 else (⟨#[]⟩, false)
theorem jsV_bad (l : List ByteArray) (a : ByteArray) (n i : Nat) (hi : i < n) (h : stB (rdOf ByteArray.empty l (i : Int)) (bt a 0) = true) : jsV l a n i = (⟨#[]⟩, false) := by
  unfold jsV
  rw [if_neg]
  rintro ⟨g, _⟩
  rw [(goodB_iff l a n i).1 g i (Nat.le_refl _) hi] at h
  cases h
theorem jsV_long (l : List ByteArray) (a : ByteArray) (n i : Nat) (h : 4000 < (outB a l n).size) : jsV l a n i = (⟨#[]⟩, false) := by
  unfold jsV
  rw [if_neg]
  rintro ⟨_, g⟩
  omega
theorem jsV_next (l : List ByteArray) (a : ByteArray) (n i : Nat) (h : stB (rdOf ByteArray.empty l (i : Int)) (bt a 0) = false) : jsV l a n i = jsV l a n (i + 1) := by
  have e : goodB l a n i = true ↔ goodB l a n (i + 1) = true := by
    rw [goodB_iff, goodB_iff]
    constructor
    · intro g j h1 h2; exact g j (by omega) h2
    · intro g j h1 h2
      by_cases e : j = i
      · subst e; exact h
      · exact g j (by omega) h2
  unfold jsV
  by_cases hc : goodB l a n i = true ∧ (outB a l n).size ≤ 4000
  · rw [if_pos hc, if_pos ⟨e.1 hc.1, hc.2⟩]
  · rw [if_neg hc, if_neg fun g => hc ⟨e.2 g.1, g.2⟩]
theorem spec_JoinStrings.ev (l : List ByteArray) (a : ByteArray) (h : smallS l) : Stops (fun k => spec_JoinStrings.f k l a) (jsW l a) := by
  unfold jsW
  by_cases hs : (a.size : Int) = 1 ∧ ¬ (l.length : Int) = 0
  · rw [if_pos hs]
    have ha : a.size = 1 := by omega
    have hl1 := h.1
    have L : ∀ d i : Nat, i + d = l.length → (outB a l i).size ≤ 4000 → Stops (fun k => spec_JoinStrings.l0 k l a (outB a l i) (i : Int)) (jsV l a l.length i) := by
      intro d
      induction d with
      | zero =>
        intro i hi hz
        refine Stops.now1 fun k => ?_
        obtain rfl : i = l.length := by omega
        simp only [spec_JoinStrings.l0]
        rw [if_neg (by omega), jsV, if_pos ⟨(goodB_iff _ _ _ _).2 fun j h1 h2 => by omega, hz⟩]
      | succ d ih =>
        intro i hi hz
        have hp := h.2 i (by omega)
        have ew : wrap64 ((i : Int) + 1) = ((i + 1 : Nat) : Int) := w64 (by omega) (by omega)
        have hsz := outB_size a l ha i
        have T := spec_l1Stands.ev (rdOf ByteArray.empty l (i : Int)) (bt a 0) (by omega)
        have e1 : outB a l (i + 1) = if 0 < i then (outB a l i ++ a) ++ rdOf ByteArray.empty l (i : Int) else outB a l i ++ rdOf ByteArray.empty l (i : Int) := rfl
        by_cases hst : stB (rdOf ByteArray.empty l (i : Int)) (bt a 0) = true
        · rw [jsV_bad l a l.length i (by omega) hst]
          refine T.round fun k t => ?_
          simp only [spec_JoinStrings.l0]
          rw [if_pos (by omega), if_pos (by omega), if_pos (by omega), t, hst, Option.bind_some, if_pos rfl]
        · have hst : stB (rdOf ByteArray.empty l (i : Int)) (bt a 0) = false := by simpa using hst
          by_cases hb : (outB a l (i + 1)).size ≤ 4000
          · rw [jsV_next l a l.length i hst]
            refine Evt.succ (T.and (ih (i + 1) (by omega) hb).evt) fun k ⟨t, c⟩ => ?_
            rw [← ew] at c
            simp only [spec_JoinStrings.l0]
            rw [if_pos (by omega), if_pos (by omega), if_pos (by omega), t, hst, Option.bind_some, if_neg (by simp)]
            by_cases hi0 : 0 < i
            · rw [if_pos hi0] at e1
              rw [e1] at hb c
              have hb2 := hb
              rw [ByteArray.size_append, ByteArray.size_append] at hb2
              rw [if_pos (by omega), if_pos (by omega), if_pos (by rw [ByteArray.size_append]; omega), if_neg (by omega)]
              exact c
            · rw [if_neg hi0] at e1
              rw [e1] at hb c
              have hb2 := hb
              rw [ByteArray.size_append] at hb2
              rw [if_neg (by omega), if_pos (by omega), if_neg (by omega)]
              exact c
          · have hn : 4000 < (outB a l l.length).size := by
              obtain ⟨m, hm⟩ : ∃ m, l.length = m + 1 := ⟨l.length - 1, by omega⟩
              have h1 := outB_size a l ha m
              rw [← hm] at h1
              have h2 := sumS_mono l (i + 1) (l.length - (i + 1))
              rw [show i + 1 + (l.length - (i + 1)) = l.length by omega] at h2
              omega
            rw [jsV_long l a l.length i hn]
            refine T.round fun k t => ?_
            simp only [spec_JoinStrings.l0]
            rw [if_pos (by omega), if_pos (by omega), if_pos (by omega), t, hst, Option.bind_some, if_neg (by simp)]
            by_cases hi0 : 0 < i
            · rw [if_pos hi0] at e1
              rw [e1] at hb
              rw [if_pos (by omega), if_pos (by omega), if_pos (by rw [ByteArray.size_append]; omega), if_pos (by omega)]
            · rw [if_neg hi0] at e1
              rw [e1] at hb
              rw [if_neg (by omega), if_pos (by omega), if_pos (by omega)]
    have J : Stops (fun k => spec_JoinStrings.j0 k l a false) (jsV l a l.length 0) := (L l.length 0 (by omega) (by show (⟨#[]⟩ : ByteArray).size ≤ 4000; decide)).round fun k c => by
      simp only [spec_JoinStrings.j0]; rw [if_neg (by simp)]; exact c
    refine J.same fun k c => ?_
    simp only [spec_JoinStrings.f]
    rw [if_pos hs.1, show ((l.length : Int) == 0) = false by simpa using hs.2]
    exact c
  · rw [if_neg hs]
    have J : Stops (fun k => spec_JoinStrings.j0 k l a true) (⟨#[]⟩, false) := Stops.now1 fun k => by rw [spec_JoinStrings.j0, if_pos rfl]
    refine J.same fun k c => ?_
    simp only [spec_JoinStrings.f]
    by_cases h1 : (a.size : Int) = 1
    · rw [if_pos h1, show ((l.length : Int) == 0) = true by simpa [h1] using hs]; exact c
    · rw [if_neg h1]; exact c

theorem ib_any (l : List UInt8) (c : UInt8) : (0 ≤ _root_.Go.Lib.indexByte l c) ↔ (l.any fun x => x == c) = true := by
  induction l with
  | nil => simp [_root_.Go.Lib.indexByte]
  | cons b t ih =>
    have hg := _root_.Go.Lib.indexByte_ge t c
    rw [List.any_cons, _root_.Go.Lib.indexByte]
    by_cases h : (b == c) = true
    · rw [if_pos h, h]; simp
    · rw [if_neg h, show (b == c) = false by simpa using h, Bool.false_or, ← ih]
      by_cases h2 : (_root_.Go.Lib.indexByte t c == -1) = true
      · rw [if_pos h2]
        have : _root_.Go.Lib.indexByte t c = -1 := by simpa using h2
        omega
      · rw [if_neg h2]
        have : ¬ _root_.Go.Lib.indexByte t c = -1 := by simpa using h2
        omega
theorem ib_st (s : ByteArray) (u : UInt8) : (0 ≤ _root_.Go.Lib.indexByte s.data.toList (((u.toNat : Nat) : Int).toNat.toUInt8)) ↔ stB s ((u.toNat : Nat) : Int) = true := by
  rw [ib_any, Int.toNat_natCast]
  unfold stB
  have e : u.toNat.toUInt8 = u := UInt8.ofNat_toNat
  rw [e]
  have hf : (fun x : UInt8 => x == u) = fun x => decide ((x.toNat : Int) = (u.toNat : Int)) := by
    funext x
    rw [Bool.eq_iff_iff]
    simp only [beq_iff_eq, decide_eq_true_eq]
    constructor
    · intro h; rw [h]
    · intro h; exact UInt8.toNat_inj.1 (by exact_mod_cast h)
  rw [hf]
theorem outB_list (a x : ByteArray) (r : List ByteArray) (i : Nat) : i ≤ r.length → (outB a (x :: r) (i + 1)).data.toList = x.data.toList ++ _root_.Go.Lib.joinTail a.data.toList ((r.take i).map (·.data.toList)) := by
  induction i with
  | zero =>
    intro _
    rw [outB, if_neg (by omega), ByteArray.data_append, Array.toList_append, outB]
    simp [_root_.Go.Lib.joinTail, rdOf]
  | succ i ih =>
    intro hi
    have hr : rdOf ByteArray.empty (x :: r) ((i + 1 : Nat) : Int) = r[i] := by
      rw [rdOf_at ByteArray.empty (x :: r) (i + 1) (by rw [List.length_cons]; omega)]; rfl
    rw [outB, if_pos (by omega), ByteArray.data_append, Array.toList_append, ByteArray.data_append, Array.toList_append, ih (by omega), hr, List.take_succ_eq_append_getElem (by omega), List.map_append]
    simp [_root_.Go.Lib.joinTail, List.append_assoc]
theorem outB_join (l : List ByteArray) (a : ByteArray) (hl : l ≠ []) : (outB a l l.length).data.toList = _root_.Go.Lib.join (l.map (·.data.toList)) a.data.toList := by
  match l, hl with
  | x :: r, _ =>
    rw [List.length_cons, outB_list a x r r.length (Nat.le_refl _), List.take_length, List.map_cons, _root_.Go.Lib.join_cons]
theorem impl_JoinStrings.ev (l : List ByteArray) (a : ByteArray) (h : smallS l) : Stops (fun k => impl_JoinStrings.f k l a) (jsW l a) := by
  unfold jsW
  by_cases hs : (a.size : Int) = 1 ∧ ¬ (l.length : Int) = 0
  · rw [if_pos hs]
    have ha : a.size = 1 := by omega
    have hl1 := h.1
    have ha2 : 0 < a.data.toList.length := by rw [← size_list]; omega
    have hu : bt a 0 = (((a.data.toList[0]).toNat : Nat) : Int) := bt_list a 0 ha2
    have hibs : ∀ s : ByteArray, Unit → ((0 ≤ _root_.Go.Lib.indexByte s.data.toList ((bt a 0).toNat.toUInt8)) ↔ stB s (bt a 0) = true) := by
      intro s _
      rw [hu]
      exact ib_st s _
    clear hu
    obtain ⟨m, hm⟩ : ∃ m, l.length = m + 1 := ⟨l.length - 1, by omega⟩
    have hout := outB_size a l ha m
    rw [← hm] at hout
    obtain ⟨F, hF⟩ : ∃ F : Nat → Nat, ∀ i, F i = sumS l i := ⟨sumS l, fun _ => rfl⟩
    rw [← hF] at hout
    have F0 : F 0 = 0 := hF 0
    have FS : ∀ i : Nat, F (i + 1) = F i + (rdOf ByteArray.empty l (i : Int)).size := fun i => by rw [hF, hF]; rfl
    have FM : ∀ i d, F i ≤ F (i + d) := fun i d => by rw [hF, hF]; exact sumS_mono l i d
    clear hF
    have hll : l.length ≤ 1000000 ∨ 1000000 < l.length := by omega
    obtain ⟨Z, hZ⟩ : ∃ Z, Z = (outB a l l.length).size := ⟨_, rfl⟩
    have HL : 4000 < Z → ∀ i, jsV l a l.length i = (⟨#[]⟩, false) := fun h i => jsV_long l a l.length i (hZ ▸ h)
    have HG : Z ≤ 4000 → jsV l a l.length l.length = (outB a l l.length, true) ∧ (l.length ≤ 1000000 → strings_Join.f l a = some (outB a l l.length)) := by
      intro hb
      have hj := outB_join l a (by intro e; rw [e] at hm; cases hm)
      have hlen : (_root_.Go.Lib.join (l.map (·.data.toList)) a.data.toList).length ≤ 140737488355328 := by rw [← hj, ← size_list, ← hZ]; omega
      refine ⟨?_, fun h1 => ?_⟩
      · rw [jsV, if_pos ⟨(goodB_iff _ _ _ _).2 fun j h1 h2 => absurd h2 (Nat.not_lt.2 h1), hZ ▸ hb⟩]
      · rw [strings_Join.f, if_pos ⟨h1, hlen⟩, ← hj]
    rw [← hZ] at hout
    clear hZ
    have ews : ∀ i : Nat, i ≤ 2000000 → wrap64 ((i : Int) + 1) = ((i + 1 : Nat) : Int) := fun i h => w64 (by omega) (by omega)
    have L : ∀ d i : Nat, i + d = l.length → m + F i ≤ 4000 + m → Stops (fun k => impl_JoinStrings.l0 k l a ((m + F i : Nat) : Int) l (l.length : Int) (i : Int)) (jsV l a l.length i) := by
      intro d
      induction d with
      | zero =>
        intro i hi hz
        obtain rfl : i = l.length := by omega
        refine Stops.now1 fun k => ?_
        simp only [impl_JoinStrings.l0]
        rw [if_neg (by omega)]
        by_cases hb : Z ≤ 4000
        · obtain ⟨g1, g2⟩ := HG hb
          rw [if_neg (by omega), g2 (by omega), Option.bind_some, g1]
        · rw [if_pos (by omega), HL (by omega)]
      | succ d ih =>
        intro i hi hz
        have hp := h.2 i (by omega)
        have es := FS i
        have eqs : Unit → wrap64 (((m + F i : Nat) : Int) + ((rdOf ByteArray.empty l (i : Int)).size : Int)) = ((m + F (i + 1) : Nat) : Int) := by
          intro _
          have hz2 : m + F i ≤ 2000000 := by omega
          generalize (rdOf ByteArray.empty l (i : Int)).size = z at *
          rw [es]
          have : ((m + F i : Nat) : Int) + (z : Int) = ((m + (F i + z) : Nat) : Int) := by omega
          rw [this]
          exact w64 (by omega) (by omega)
        have hib := hibs (rdOf ByteArray.empty l (i : Int))
        by_cases hst : stB (rdOf ByteArray.empty l (i : Int)) (bt a 0) = true
        · rw [jsV_bad l a l.length i (by omega) hst]
          refine Stops.now1 fun k => ?_
          simp only [impl_JoinStrings.l0, strings_IndexByte.f, Option.bind_some]
          rw [if_pos (by omega), if_pos (by omega), if_pos (by omega), if_pos (by omega), if_pos ((hib ()).2 hst)]
        · have hst' : stB (rdOf ByteArray.empty l (i : Int)) (bt a 0) = false := by simpa using hst
          by_cases hb : m + F (i + 1) ≤ 4000
          · rw [jsV_next l a l.length i hst']
            refine Evt.succ (ih (i + 1) (by omega) (by omega)) fun k c => ?_
            simp only [impl_JoinStrings.l0, strings_IndexByte.f, Option.bind_some]
            rw [if_pos (by omega), if_pos (by omega), if_pos (by omega), if_pos (by omega), if_neg (fun g => hst ((hib ()).1 g)), eqs (), if_neg (by omega), ews i (by omega)]
            exact c
          · have h2 := FM (i + 1) (l.length - (i + 1))
            rw [show i + 1 + (l.length - (i + 1)) = l.length by omega] at h2
            rw [HL (by omega)]
            refine Stops.now1 fun k => ?_
            simp only [impl_JoinStrings.l0, strings_IndexByte.f, Option.bind_some]
            rw [if_pos (by omega), if_pos (by omega), if_pos (by omega), if_pos (by omega), if_neg (fun g => hst ((hib ()).1 g)), eqs (), if_pos (by omega)]
    have e0 : wrap64 ((l.length : Int) - 1) = ((m + F 0 : Nat) : Int) := by
      rw [show (l.length : Int) - 1 = ((m + F 0 : Nat) : Int) by omega]
      exact w64 (by omega) (by omega)
    have J : Stops (fun k => impl_JoinStrings.j0 k l a false) (jsV l a l.length 0) := (L l.length 0 (by omega) (by omega)).round fun k c => by
      simp only [impl_JoinStrings.j0]; rw [if_neg (by simp), e0]; exact c
    refine J.same fun k c => ?_
    simp only [impl_JoinStrings.f]
    rw [if_neg hs.2, show ((a.size : Int) != 1) = false by rw [hs.1]; rfl]
    exact c
  · rw [if_neg hs]
    have J : Stops (fun k => impl_JoinStrings.j0 k l a true) (⟨#[]⟩, false) := Stops.now1 fun k => by rw [impl_JoinStrings.j0, if_pos rfl]
    refine J.same fun k c => ?_
    simp only [impl_JoinStrings.f]
    by_cases h1 : (l.length : Int) = 0
    · rw [if_pos h1]; exact c
    · rw [if_neg h1, show ((a.size : Int) != 1) = true by
        have : ¬ (a.size : Int) = 1 := fun g => hs ⟨g, h1⟩
        simpa using this]
      exact c

theorem laws_eqStringS.ev (l : List ByteArray) (h : l.length ≤ 35184372088832) : Stops (fun k => laws_eqStringS.f k l l) true := by
  have E : Stops (fun k => laws_eqStringS.l0 k l l 0) true := by
    refine Stops.count (g := fun k (s : Int) => laws_eqStringS.l0 k l l s) (fun i => (i : Int)) l.length (Stops.now1 fun m => ?_) fun i hi m => ?_
    · simp only [laws_eqStringS.l0]; rw [if_neg (by omega)]
    · have e : wrap64 ((i : Int) + 1) = (i : Int) + 1 := w64 (by omega) (by omega)
      rw [laws_eqStringS.l0, if_pos (by omega), if_pos (by omega), if_pos (by omega), if_pos rfl, e]; rfl
  refine E.same fun m a => ?_
  simp only [laws_eqStringS.f, if_true]; exact a

theorem law : laws_FnExactJoinStrings.Pure := by
  intro l a hm hx ha
  by_cases hb : (a.size : Int) > 1048576
  · exact ⟨0, by simp [laws_FnExactJoinStrings.f, hb]⟩
  obtain ⟨r, Z, hr⟩ := laws_szStringS.ev l hm hx
  by_cases hneg : r < 0
  · obtain ⟨k, z⟩ := Z.rounds
    exact ⟨k, by simp [laws_FnExactJoinStrings.f, hb, z, hneg]⟩
  have hs : smallS l := hr.resolve_left hneg
  have S := spec_JoinStrings.ev l a hs
  have I := impl_JoinStrings.ev l a hs
  have hl := hs.1
  generalize jsW l a = v at *
  obtain ⟨m, h⟩ := (Z.and (S.and (I.and ((laws_toStringS.ev l (by omega)).and (laws_eqStringS.ev l (by omega)).evt)))).shift
  have h0 := fun j => (h j).1
  have h1 := fun j => (h j).2.1
  have h2 := fun j => (h j).2.2.1
  have h3 := fun j => (h j).2.2.2.1
  have h4 := fun j => (h j).2.2.2.2
  refine ⟨m + 3, ?_⟩
  simp [laws_FnExactJoinStrings.f, laws_FnExactJoinStrings.j0, h0, h1, h2, h3, h4, hb, hneg]

end Go.Proofs.Ytllelojlcmkehaa.PFnExactJoinStrings
