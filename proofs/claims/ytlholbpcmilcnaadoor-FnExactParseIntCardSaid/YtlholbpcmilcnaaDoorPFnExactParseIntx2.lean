/- The Go functions' Lean forms, each with the proof that the function comes to what its form says: for one law, no condition. Written by a program for this work. -/
import Derived.Test.YtlholbpcmilcnaaDoorPFnExactParseIntx0
import Derived.Test.YtlholbpcmilcnaaDoorPFnExactParseIntx1
namespace Go.Proofs.YtlholbpcmilcnaaDoor.PFnExactParseInt
open Go.RowKit Go.Proofs.YtlholbpcmilcnaaDoorW.PrintWords Go.Proofs.YtlholbpcmilcnaaDoorW.PrintLast Go.Proofs.YtlholbpcmilcnaaDoorW.PrintMore
open Go.Proofs.YtlholbpcmilcnaaDoor.Lib
attribute [local go_sem] max2_int min2_int max_two min_two max_three min_three max_four min_four   -- for this text's walks alone
set_option linter.unusedVariables false
set_option linter.unusedSimpArgs false

-- NOT PRINTED: function 56 (strconv_toError)

-- NOT PRINTED: function 46 (strconv_Atoi_46)

/-! ### impl_ParseInt: function 25 -/

/-- strconv.Atoi at every string: the number, whether the error is nil, and what lay there lies. -/
def atN (l : List UInt8) : Int × Bool := match _root_.Go.Lib.atoiAll l with
  | .ok v => (v, true)
  | .«syntax» => (0, false)
  | .range => (_root_.Go.Lib.atoiSat l, false)
theorem atoi_fine (a0 : ByteArray) (hs : a0.size ≤ 281474976710656) (h : (atN a0.data.toList).2 = true) (w : World) :
    Calls Tryd.prog 46 #[.string a0] w fun e w' => e = .returned (.tuple #[.int .i64 (atN a0.data.toList).1, .nilIface]) ∧ Below w.heap.size w w' := by
  unfold atN at h ⊢
  cases hv : _root_.Go.Lib.atoiAll a0.data.toList with
  | ok v =>
    refine (Tryd.strconv_Atoi_ok a0 (by omega) v hv w).mono ?_
    rintro e w' ⟨rfl, hw⟩
    refine ⟨rfl, ?_⟩
    rcases hw with rfl | ⟨t, rfl⟩
    · exact Below.refl _ _
    · exact _root_.Go.Lib.bytesWorld_below _ _ _
  | «syntax» => rw [hv] at h; cases h
  | range => rw [hv] at h; cases h
theorem atoi_wrong (a0 : ByteArray) (hs : a0.size ≤ 281474976710656) (h : (atN a0.data.toList).2 = false) (w : World) (ht : TabW w) :
    Calls Tryd.prog 46 #[.string a0] w fun e w' => (∃ tp a, e = .returned (.tuple #[.int .i64 (atN a0.data.toList).1, .iface tp (.pointer (some a))])) ∧ Below w.heap.size w w' := by
  obtain ⟨_, ⟨t2, p2, h2⟩, t3, p3, h3⟩ := ht
  unfold atN at h ⊢
  cases hv : _root_.Go.Lib.atoiAll a0.data.toList with
  | ok v => rw [hv] at h; cases h
  | «syntax» =>
    refine (Tryd.strconv_Atoi_syntax_var a0 hs hv t2 p2 w h2).mono ?_
    rintro e w' ⟨N, rfl, _, _, hb⟩
    exact ⟨⟨_, _, rfl⟩, hb⟩
  | range =>
    refine (Tryd.strconv_Atoi_range_var a0 hs hv t3 p3 w h3).mono ?_
    rintro e w' ⟨N, rfl, _, _, hb⟩
    exact ⟨⟨_, _, rfl⟩, hb⟩
def impl_ParseInt.f (a0 : ByteArray) : Option (Int × Bool) :=
  if a0.size ≤ 281474976710656 then
    (impl_FormatInt.f (atN a0.data.toList).1).bind fun t => (if (atN a0.data.toList).2 = true then (if t.2 = true then (if t.1.toList = a0.toList then some ((atN a0.data.toList).1, true) else some (0, false)) else some (0, false)) else some (0, false))
  else none
set_option maxHeartbeats 2000000 in
set_option maxRecDepth 100000 in
theorem impl_ParseInt.calls (a0 : ByteArray) (r1 : Int) (r2 : Bool) (w : World) (h : impl_ParseInt.f a0 = some (r1, r2)) (htab : TabW w) :
    Calls Tryd.prog 25 #[.string a0] w fun e w' => e = .returned (.tuple #[.int .i64 r1, .bool r2]) ∧ Below w.heap.size w w' := by
  unfold impl_ParseInt.f at h
  split at h
  case isFalse => cases h
  rename_i hs
  obtain ⟨⟨t1, t2⟩, hf, h⟩ := Option.bind_eq_some_iff.mp h
  have HF := Aside0.mk fun W hb => impl_FormatInt.calls (atN a0.data.toList).1 t1 t2 W hf (htab.below hb)
  clear hf
  cases hq : (atN a0.data.toList).2 with
  | true =>
    have HA := Aside0.mk (atoi_fine a0 hs hq w)
    clear htab
    simp only [hq, if_true] at h
    clear hq
    generalize (atN a0.data.toList).1 = n at HF HA h
    cases t2 with
    | true =>
      simp only [if_true] at h
      by_cases c5 : t1.toList = a0.toList
      · rw [if_pos c5] at h
        have c5b0 : (t1.toList == a0.toList) = true := beq_iff_eq.mpr c5
        have c5b1 : (t1.toList != a0.toList) = false := bne_eq_false_iff_eq.mpr c5
        clear c5
        simp only [Option.some.injEq, Prod.mk.injEq] at h
        obtain ⟨rfl, rfl⟩ := h
        go_enter Tryd.func25, Tryd.ntmps25
        go_wp2_with (go_at_call 46; refine HA.out.mono ?_; rintro e w1 ⟨rfl, hb1⟩)
        have HB := Aside0.mk hb1
        have hf1 := HF.out w1 hb1
        clear hb1
        go_wp2_with (go_at_call 10; refine hf1.mono ?_; rintro e w2 ⟨rfl, hb2⟩)
        go_ret2
        exact ⟨rfl, below_step HB.out hb2⟩
      · rw [if_neg c5] at h
        have c5b0 : (t1.toList == a0.toList) = false := beq_eq_false_iff_ne.mpr c5
        have c5b1 : (t1.toList != a0.toList) = true := bne_iff_ne.mpr c5
        clear c5
        simp only [Option.some.injEq, Prod.mk.injEq] at h
        obtain ⟨rfl, rfl⟩ := h
        go_enter Tryd.func25, Tryd.ntmps25
        go_wp2_with (go_at_call 46; refine HA.out.mono ?_; rintro e w1 ⟨rfl, hb1⟩)
        have HB := Aside0.mk hb1
        have hf1 := HF.out w1 hb1
        clear hb1
        go_wp2_with (go_at_call 10; refine hf1.mono ?_; rintro e w2 ⟨rfl, hb2⟩)
        go_ret2
        exact ⟨rfl, below_step HB.out hb2⟩
    | false =>
      simp only [Bool.false_eq_true, if_false, Option.some.injEq, Prod.mk.injEq] at h
      obtain ⟨rfl, rfl⟩ := h
      go_enter Tryd.func25, Tryd.ntmps25
      go_wp2_with (go_at_call 46; refine HA.out.mono ?_; rintro e w1 ⟨rfl, hb1⟩)
      have HB := Aside0.mk hb1
      have hf1 := HF.out w1 hb1
      clear hb1
      go_wp2_with (go_at_call 10; refine hf1.mono ?_; rintro e w2 ⟨rfl, hb2⟩)
      go_ret2
      exact ⟨rfl, below_step HB.out hb2⟩
  | false =>
    have HA := Aside0.mk (atoi_wrong a0 hs hq w htab)
    clear htab
    simp only [hq, Bool.false_eq_true, if_false, Option.some.injEq, Prod.mk.injEq] at h
    clear hq
    obtain ⟨rfl, rfl⟩ := h
    generalize (atN a0.data.toList).1 = n at HF HA
    go_enter Tryd.func25, Tryd.ntmps25
    go_wp2_with (go_at_call 46; refine HA.out.mono ?_; rintro e w1 ⟨⟨tp, a, rfl⟩, hb1⟩)
    have HB := Aside0.mk hb1
    have hf1 := HF.out w1 hb1
    clear hb1
    go_wp2_with (go_at_call 10; refine hf1.mono ?_; rintro e w2 ⟨rfl, hb2⟩)
    go_ret2
    exact ⟨rfl, below_step HB.out hb2⟩


/-! ### laws_FnExactParseInt: function 8 -/
def laws_FnExactParseInt.f (k : Nat) (a0 : ByteArray) : Option (Bool) := if (a0.size : Int) > 1048576 then (some true) else ((spec_ParseInt.f k a0).bind fun bt116 => ((impl_ParseInt.f a0).bind fun bt118 => (if bt118.1 = bt116.1 then (if (bt118.2 != bt116.2) = true then (some false) else (some true)) else (some false))))
theorem laws_FnExactParseInt.mono : ∀ a0 k, LeO (laws_FnExactParseInt.f k a0) (laws_FnExactParseInt.f (k + 1) a0) := by
  intro a0 k
  unfold laws_FnExactParseInt.f
  repeat' first
      | (with_reducible exact spec_ParseInt.mono _ _)
      | (with_reducible exact LeO.refl _)
      | (with_reducible exact LeO.none _)
      | (with_reducible refine LeO.ite ?_ ?_)
      | (with_reducible refine LeO.bind ?_ (fun _ => ?_))
      | exact spec_ParseInt.mono _ _
      | exact LeO.none _
      | refine LeO.ite ?_ ?_
      | refine LeO.bind ?_ (fun _ => ?_)
set_option maxHeartbeats 8000000 in
set_option maxRecDepth 100000 in
theorem laws_FnExactParseInt.calls (k : Nat) (a0 : ByteArray) (r : Bool) (w : World) (h : laws_FnExactParseInt.f k a0 = some r) (htab : TabW w) :
    Calls Tryd.prog 8 #[.string a0] w fun e w' => e = .returned (.bool r) ∧ Below w.heap.size w w' := by
  have HT := Aside0.mk htab
  clear htab
  have HB := Aside0.mk (Below.refl w.heap.size w)
  have H : (if (a0.size : Int) > 1048576 then (some true) else ((spec_ParseInt.f k a0).bind fun bt116 => ((impl_ParseInt.f a0).bind fun bt118 => (if bt118.1 = bt116.1 then (if (bt118.2 != bt116.2) = true then (some false) else (some true)) else (some false))))) = some r := h
  clear h
  by_cases c2 : (a0.size : Int) > 1048576
  · rw [if_pos c2] at H
    have c2b0 : decide (1048576 < (a0.size : Int)) = true := decide_eq_true c2
    have c2b1 : decide (1048576 < a0.size) = true := decide_eq_true (by omega)
    clear c2
    obtain rfl := Option.some.inj H
    go_enter Tryd.func8, Tryd.ntmps8
    go_wp2
    go_ret
    exact ⟨by first | rfl | (simp [errW_none, errW_some] <;> rfl) | (simp [*, errW_none, errW_some] <;> rfl), by repeat (first | (with_reducible first | exact HB.out | apply below_alloc | apply pw_below_drewN | apply below_drew1) | exact HB.out)⟩
  · rw [if_neg c2] at H
    have c2b0 : decide (1048576 < (a0.size : Int)) = false := decide_eq_false c2
    have c2b1 : decide (1048576 < a0.size) = false := decide_eq_false (by omega)
    clear c2
    replace H := Option.bind_eq_some_iff.mp H
    obtain ⟨⟨t116, t117⟩, A30, H⟩ := H
    replace H : ((impl_ParseInt.f a0).bind fun bt118 => (if bt118.1 = t116 then (if (bt118.2 != t117) = true then (some false) else (some true)) else (some false))) = some r := H
    have A3 := Aside0.mk A30
    clear A30
    replace H := Option.bind_eq_some_iff.mp H
    obtain ⟨⟨t118, t119⟩, A40, H⟩ := H
    replace H : (if t118 = t116 then (if (t119 != t117) = true then (some false) else (some true)) else (some false)) = some r := H
    have A4 := Aside0.mk A40
    clear A40
    by_cases c5 : t118 = t116
    · rw [if_pos c5] at H
      have c5b0 : (t118 == t116) = true := beq_iff_eq.mpr c5
      have c5b1 : (t118 != t116) = false := bne_eq_false_iff_eq.mpr c5
      clear c5
      by_cases c6 : (t119 != t117) = true
      · rw [if_pos c6] at H
        have c6b0 : (t119 != t117) = true := c6
        (try (have c6b1 : decide (t119 = t117) = false := by simpa using c6))
        (try (have c6b2 : (t119 == t117) = false := by simpa using c6))
        (try (have c6b3 : ¬ (t119 = t117) := by simpa using c6))
        clear c6
        obtain rfl := Option.some.inj H
        go_enter Tryd.func8, Tryd.ntmps8
        go_wp2_with (first | ((with_reducible refine gate_callee (f := 24) rfl ?_); refine goesL_ (some 12) rfl rfl Tryd.func24 (by kernel_rfl) rfl #[.string a0] rfl (by (try simp only [List.map_toArray, List.map_cons, List.map_nil]); first | done | rfl | (simp only [List.length_drop, List.length_take]; rfl)) ?_; (with_reducible refine (spec_ParseInt.calls k a0 t116 t117 _ A3.out).mono ?_); rintro e w7 ⟨rfl, hb⟩; refine ⟨_, rfl, ?_⟩; have n0_ := Aside0.mk (below_step (by repeat (first | (with_reducible first | exact HB.out | apply below_alloc | apply pw_below_drewN | apply below_drew1) | exact HB.out)) hb); clear HB; have HB := n0_; clear n0_; (try clear hb); (try clear hb2); (try clear hk); (try clear hi)) | ((with_reducible refine gate_callee (f := 25) rfl ?_); refine goesL_ (some 17) rfl rfl Tryd.func25 (by kernel_rfl) rfl #[.string a0] rfl (by (try simp only [List.map_toArray, List.map_cons, List.map_nil]); first | done | rfl | (simp only [List.length_drop, List.length_take]; rfl)) ?_; (with_reducible refine (impl_ParseInt.calls a0 t118 t119 _ A4.out (HT.out.below (by repeat (first | (with_reducible first | exact HB.out | apply below_alloc | apply pw_below_drewN | apply below_drew1) | exact HB.out)))).mono ?_); rintro e w8 ⟨rfl, hb⟩; refine ⟨_, rfl, ?_⟩; have n0_ := Aside0.mk (below_step (by repeat (first | (with_reducible first | exact HB.out | apply below_alloc | apply pw_below_drewN | apply below_drew1) | exact HB.out)) hb); clear HB; have HB := n0_; clear n0_; (try clear hb); (try clear hb2); (try clear hk); (try clear hi)))
        go_ret
        exact ⟨by first | rfl | (simp [errW_none, errW_some] <;> rfl) | (simp [*, errW_none, errW_some] <;> rfl), by repeat (first | (with_reducible first | exact HB.out | apply below_alloc | apply pw_below_drewN | apply below_drew1) | exact HB.out)⟩
      · rw [if_neg c6] at H
        have c6b0 : (t119 != t117) = false := by simpa using c6
        (try (have c6b1 : decide (t119 = t117) = true := by simpa using c6))
        (try (have c6b2 : (t119 == t117) = true := by simpa using c6))
        clear c6
        obtain rfl := Option.some.inj H
        go_enter Tryd.func8, Tryd.ntmps8
        go_wp2_with (first | ((with_reducible refine gate_callee (f := 24) rfl ?_); refine goesL_ (some 12) rfl rfl Tryd.func24 (by kernel_rfl) rfl #[.string a0] rfl (by (try simp only [List.map_toArray, List.map_cons, List.map_nil]); first | done | rfl | (simp only [List.length_drop, List.length_take]; rfl)) ?_; (with_reducible refine (spec_ParseInt.calls k a0 t116 t117 _ A3.out).mono ?_); rintro e w9 ⟨rfl, hb⟩; refine ⟨_, rfl, ?_⟩; have n0_ := Aside0.mk (below_step (by repeat (first | (with_reducible first | exact HB.out | apply below_alloc | apply pw_below_drewN | apply below_drew1) | exact HB.out)) hb); clear HB; have HB := n0_; clear n0_; (try clear hb); (try clear hb2); (try clear hk); (try clear hi)) | ((with_reducible refine gate_callee (f := 25) rfl ?_); refine goesL_ (some 17) rfl rfl Tryd.func25 (by kernel_rfl) rfl #[.string a0] rfl (by (try simp only [List.map_toArray, List.map_cons, List.map_nil]); first | done | rfl | (simp only [List.length_drop, List.length_take]; rfl)) ?_; (with_reducible refine (impl_ParseInt.calls a0 t118 t119 _ A4.out (HT.out.below (by repeat (first | (with_reducible first | exact HB.out | apply below_alloc | apply pw_below_drewN | apply below_drew1) | exact HB.out)))).mono ?_); rintro e w10 ⟨rfl, hb⟩; refine ⟨_, rfl, ?_⟩; have n0_ := Aside0.mk (below_step (by repeat (first | (with_reducible first | exact HB.out | apply below_alloc | apply pw_below_drewN | apply below_drew1) | exact HB.out)) hb); clear HB; have HB := n0_; clear n0_; (try clear hb); (try clear hb2); (try clear hk); (try clear hi)))
        go_ret
        exact ⟨by first | rfl | (simp [errW_none, errW_some] <;> rfl) | (simp [*, errW_none, errW_some] <;> rfl), by repeat (first | (with_reducible first | exact HB.out | apply below_alloc | apply pw_below_drewN | apply below_drew1) | exact HB.out)⟩
    · rw [if_neg c5] at H
      have c5b0 : (t118 == t116) = false := beq_eq_false_iff_ne.mpr c5
      have c5b1 : (t118 != t116) = true := bne_iff_ne.mpr c5
      obtain rfl := Option.some.inj H
      go_enter Tryd.func8, Tryd.ntmps8
      go_wp2_with (first | ((with_reducible refine gate_callee (f := 24) rfl ?_); refine goesL_ (some 12) rfl rfl Tryd.func24 (by kernel_rfl) rfl #[.string a0] rfl (by (try simp only [List.map_toArray, List.map_cons, List.map_nil]); first | done | rfl | (simp only [List.length_drop, List.length_take]; rfl)) ?_; (with_reducible refine (spec_ParseInt.calls k a0 t116 t117 _ A3.out).mono ?_); rintro e w11 ⟨rfl, hb⟩; refine ⟨_, rfl, ?_⟩; have n0_ := Aside0.mk (below_step (by repeat (first | (with_reducible first | exact HB.out | apply below_alloc | apply pw_below_drewN | apply below_drew1) | exact HB.out)) hb); clear HB; have HB := n0_; clear n0_; (try clear hb); (try clear hb2); (try clear hk); (try clear hi)) | ((with_reducible refine gate_callee (f := 25) rfl ?_); refine goesL_ (some 17) rfl rfl Tryd.func25 (by kernel_rfl) rfl #[.string a0] rfl (by (try simp only [List.map_toArray, List.map_cons, List.map_nil]); first | done | rfl | (simp only [List.length_drop, List.length_take]; rfl)) ?_; (with_reducible refine (impl_ParseInt.calls a0 t118 t119 _ A4.out (HT.out.below (by repeat (first | (with_reducible first | exact HB.out | apply below_alloc | apply pw_below_drewN | apply below_drew1) | exact HB.out)))).mono ?_); rintro e w12 ⟨rfl, hb⟩; refine ⟨_, rfl, ?_⟩; have n0_ := Aside0.mk (below_step (by repeat (first | (with_reducible first | exact HB.out | apply below_alloc | apply pw_below_drewN | apply below_drew1) | exact HB.out)) hb); clear HB; have HB := n0_; clear n0_; (try clear hb); (try clear hb2); (try clear hk); (try clear hi)))
      go_ret
      exact ⟨by first | rfl | (simp [errW_none, errW_some] <;> rfl) | (simp [*, errW_none, errW_some] <;> rfl), by repeat (first | (with_reducible first | exact HB.out | apply below_alloc | apply pw_below_drewN | apply below_drew1) | exact HB.out)⟩

/-- THE ONE PURE STATEMENT of laws_FnExactParseInt. -/
def laws_FnExactParseInt.Pure : Prop := ∀ (a0 : ByteArray), a0.size ≤ 140737488351232 → ∃ k, laws_FnExactParseInt.f k a0 = some true

end Go.Proofs.YtlholbpcmilcnaaDoor.PFnExactParseInt
