/- The Go functions' Lean forms, each with the proof that the function comes to what its form says: for one law, no condition. Written by a program for this work. -/
import Derived.Test.YtmckmagdiokhiaaPFnSchemesx0
import Derived.Test.YtmckmagdiokhiaaPFnSchemesx1
import Derived.Test.YtmckmagdiokhiaaPFnSchemesx3
import Derived.Test.YtmckmagdiokhiaaPFnSchemesx4
import Derived.Test.YtmckmagdiokhiaaPFnSchemesx5
import Derived.Test.YtmckmagdiokhiaaPFnSchemesx6
import Derived.Test.YtmckmagdiokhiaaPFnSchemesx7
import Derived.Test.YtmckmagdiokhiaaPFnSchemesx8
import Derived.Test.YtmckmagdiokhiaaPFnSchemesx9
import Derived.Test.YtmckmagdiokhiaaPFnSchemesx10
namespace Go.Proofs.Ytmckmagdiokhiaa.PFnSchemes
open Go.RowKit Go.Proofs.YtmckmagdiokhiaaW.PrintWords Go.Proofs.YtmckmagdiokhiaaW.PrintLast Go.Proofs.YtmckmagdiokhiaaW.PrintMore
open Go.Proofs.Ytmckmagdiokhiaa.Lib
attribute [local go_sem] max2_int min2_int max_two min_two max_three min_three max_four min_four   -- for this text's walks alone
set_option linter.unusedVariables false
set_option linter.unusedSimpArgs false

/-! ### laws_FnSchemes: function 3 -/
mutual
def laws_FnSchemes.j0 : Nat → Int → List Int → Int → Int → Bool → List Int → Bool → List Int → Int → List Int → Bool → Int → List Int → Int → Bool → Bool → List Int → List Int → Int → Bool → Bool → Option (Bool)
 | 0, _, _, _, _, _, _, _, _, _, _, _, _, _, _, _, _, _, _, _, _, _ => none
 | k + 1, x3, x4, x5, x6, x7, x10, x11, x18, x19, x20, x21, x24, x25, x26, x27, x28, x31, x36, x38, x39, x275 => if x275 = true then (none) else (if x11 = true then ((impl_SchemeOf.f k x10 (x4.length : Int)).bind fun bt490 => (if bt490.2 = true then ((laws_vInts.f k bt490.1 x4).bind fun t494 => (if t494 = true then (if (x10.length : Int) = x3 then (if x7 = true then (if 0 ≤ x5 then (if x5 < (x10.length : Int) then (if (rd x10 x5) = x6 then (laws_FnSchemes.j1 k x18 x19 x20 x21 x24 x25 x26 x27 x28 x31 x36 x38 x39) else (none)) else (none)) else (none)) else (laws_FnSchemes.j1 k x18 x19 x20 x21 x24 x25 x26 x27 x28 x31 x36 x38 x39)) else (none)) else (none))) else (none))) else (laws_FnSchemes.j1 k x18 x19 x20 x21 x24 x25 x26 x27 x28 x31 x36 x38 x39))
def laws_FnSchemes.j1 : Nat → List Int → Int → List Int → Bool → Int → List Int → Int → Bool → Bool → List Int → List Int → Int → Bool → Option (Bool)
 | 0, _, _, _, _, _, _, _, _, _, _, _, _, _ => none
 | k + 1, x18, x19, x20, x21, x24, x25, x26, x27, x28, x31, x36, x38, x39 => if x21 = true then ((impl_TrueWords.f k (x18.length : Int) x20).bind fun bt496 => (if bt496.2 = true then ((laws_vInts.f k bt496.1 x18).bind fun t500 => (if t500 = true then (if (x20.length : Int) = x19 then (laws_FnSchemes.j2 k x24 x25 x26 x27 x28 x31 x36 x38 x39) else (none)) else (none))) else (none))) else (laws_FnSchemes.j2 k x24 x25 x26 x27 x28 x31 x36 x38 x39)
def laws_FnSchemes.j2 : Nat → Int → List Int → Int → Bool → Bool → List Int → List Int → Int → Bool → Option (Bool)
 | 0, _, _, _, _, _, _, _, _, _ => none
 | k + 1, x24, x25, x26, x27, x28, x31, x36, x38, x39 => if x28 = true then ((impl_CountUntold.f k x24 x25 x26).bind fun bt501 => (if bt501.2 = true then (laws_FnSchemes.j3 k x24 x25 x26 x27 x31 x36 x38 x39 (x27 != (bt501.1 == 0))) else (none))) else (if x39 = true then (if x38 ≥ 0 then (some (decide (x38 ≤ (shl .i64 1 (x36.length : Int))))) else (none)) else (some true))
def laws_FnSchemes.j3 : Nat → Int → List Int → Int → Bool → List Int → List Int → Int → Bool → Bool → Option (Bool)
 | 0, _, _, _, _, _, _, _, _, _ => none
 | k + 1, x24, x25, x26, x27, x31, x36, x38, x39, x346 => if x346 = true then (none) else (laws_FnSchemes.l0 k x24 x25 x26 x27 x31 x36 x38 x39 0)
def laws_FnSchemes.l0 : Nat → Int → List Int → Int → Bool → List Int → List Int → Int → Bool → Int → Option (Bool)
 | 0, _, _, _, _, _, _, _, _, _ => none
 | k + 1, x24, x25, x26, x27, x31, x36, x38, x39, x48 => if x48 < (x31.length : Int) then (if 0 ≤ x48 then ((impl_DropFixed.f x24 x25 (rd x31 x48)).bind fun bt504 => ((impl_IsSafe.f k x24 bt504.1 x26).bind fun bt508 => (if bt504.2 = true then (if bt508.2 = true then (if bt508.1 = true then (if x27 = true then (laws_FnSchemes.l0 k x24 x25 x26 x27 x31 x36 x38 x39 (wrap64 (x48 + 1))) else (none)) else (none)) else (none)) else (none)))) else (none)) else (if x39 = true then (if x38 ≥ 0 then (some (decide (x38 ≤ (shl .i64 1 (x36.length : Int))))) else (none)) else (some true))
end
def laws_FnSchemes.f (k : Nat) (l0 : List Int) : Option (Bool) := (laws_vBig.f l0).bind fun t418 => (if t418 = true then (some true) else ((spec_DrawTrueWord.f k l0).bind fun bt419 => ((impl_TrueWord.f k bt419.1 bt419.2.1 bt419.2.2).bind fun bt424 => ((spec_TrueWord.f k bt419.1 bt419.2.1 bt419.2.2).bind fun bt426 => ((impl_TrueWords.f k bt419.1 bt419.2.1).bind fun bt428 => ((spec_TrueWords.f k bt419.1 bt419.2.1).bind fun bt432 => ((impl_GapOf.f k bt419.1 bt419.2.1).bind fun bt436 => ((spec_GapOf.f k bt419.1 bt419.2.1).bind fun bt438 => ((laws_vCut.f l0 1).bind fun t440 => ((spec_DrawSchemeOf.f k t440).bind fun bt443 => ((impl_SchemeOf.f k bt443.1 bt443.2).bind fun bt447 => ((spec_SchemeOf.f k bt443.1 bt443.2).bind fun bt451 => ((laws_vCut.f l0 2).bind fun t455 => ((spec_DrawIsSafe.f k t455).bind fun bt458 => ((impl_IsSafe.f k bt458.1 bt458.2.1 bt458.2.2).bind fun bt463 => ((spec_IsSafe.f k bt458.1 bt458.2.1 bt458.2.2).bind fun bt465 => ((impl_VainFixed.f k bt458.1 bt458.2.1 bt458.2.2).bind fun bt467 => ((spec_VainFixed.f k bt458.1 bt458.2.1 bt458.2.2).bind fun bt471 => ((spec_DrawCountUntold.f k l0).bind fun bt475 => ((impl_CountUntold.f k bt475.1 bt475.2.1 bt475.2.2).bind fun bt480 => ((spec_CountUntold.f k bt475.1 bt475.2.1 bt475.2.2).bind fun bt482 => (if bt424.1 = bt426.1 then (if (bt424.2 != bt426.2) = true then (none) else (if (bt428.2 != bt432.2) = true then (none) else ((laws_vInts.f k bt428.1 bt432.1).bind fun t484 => (if t484 = true then (if bt436.1 = bt438.1 then (if (bt436.2 != bt438.2) = true then (none) else (if (bt447.2 != bt451.2) = true then (none) else ((laws_vInts.f k bt447.1 bt451.1).bind fun t485 => (if t485 = true then (if (bt463.1 != bt465.1) = true then (none) else (if (bt463.2 != bt465.2) = true then (none) else (if (bt467.2 != bt471.2) = true then (none) else ((laws_vInts.f k bt467.1 bt471.1).bind fun t486 => (if t486 = true then (if bt480.1 = bt482.1 then (if (bt480.2 != bt482.2) = true then (none) else ((impl_IsScheme.f bt419.1 bt419.2.1).bind fun t487 => ((spec_IsScheme.f k bt419.1 bt419.2.1).bind fun t488 => (if (t487 != t488) = true then (none) else ((impl_IsScheme.f bt419.1 bt419.2.1).bind fun t489 => (if (bt428.2 != t489) = true then (none) else (if (bt428.2 != bt436.2) = true then (none) else (if bt424.2 = true then (if bt428.2 = true then (laws_FnSchemes.j0 k bt419.1 bt419.2.1 bt419.2.2 bt424.1 bt424.2 bt428.1 bt428.2 bt443.1 bt443.2 bt447.1 bt447.2 bt458.1 bt458.2.1 bt458.2.2 bt463.1 bt463.2 bt467.1 bt475.2.1 bt480.1 bt480.2 (bt463.2 != bt467.2)) else (none)) else (laws_FnSchemes.j0 k bt419.1 bt419.2.1 bt419.2.2 bt424.1 bt424.2 bt428.1 bt428.2 bt443.1 bt443.2 bt447.1 bt447.2 bt458.1 bt458.2.1 bt458.2.2 bt463.1 bt463.2 bt467.1 bt475.2.1 bt480.1 bt480.2 (bt463.2 != bt467.2)))))))))) else (none)) else (none)))))) else (none))))) else (none)) else (none))))) else (none)))))))))))))))))))))))
set_option maxHeartbeats 8000000 in
set_option maxRecDepth 100000 in
theorem laws_FnSchemes.calls (k : Nat) (A0 : Option Addr) (c0 : Nat) (l0 : List Int) (r : Bool) (w : World) (hr0 : Kd.C (Kd.int .u8) w A0 l0.length l0) (hc0 : l0.length ≤ c0) (h : laws_FnSchemes.f k l0 = some r) :
  Calls Try.prog 3 #[.slice A0 l0.length c0] w fun e w' => e = .returned (.bool r) ∧ Below w.heap.size w w' := by
 have HR0 := Aside0.mk hr0
 have HC0 := Aside0.mk hc0
 clear hr0 hc0
 have HB := Aside0.mk (Below.refl w.heap.size w)
 have H : ((laws_vBig.f l0).bind fun t418 => (if t418 = true then (some true) else ((spec_DrawTrueWord.f k l0).bind fun bt419 => ((impl_TrueWord.f k bt419.1 bt419.2.1 bt419.2.2).bind fun bt424 => ((spec_TrueWord.f k bt419.1 bt419.2.1 bt419.2.2).bind fun bt426 => ((impl_TrueWords.f k bt419.1 bt419.2.1).bind fun bt428 => ((spec_TrueWords.f k bt419.1 bt419.2.1).bind fun bt432 => ((impl_GapOf.f k bt419.1 bt419.2.1).bind fun bt436 => ((spec_GapOf.f k bt419.1 bt419.2.1).bind fun bt438 => ((laws_vCut.f l0 1).bind fun t440 => ((spec_DrawSchemeOf.f k t440).bind fun bt443 => ((impl_SchemeOf.f k bt443.1 bt443.2).bind fun bt447 => ((spec_SchemeOf.f k bt443.1 bt443.2).bind fun bt451 => ((laws_vCut.f l0 2).bind fun t455 => ((spec_DrawIsSafe.f k t455).bind fun bt458 => ((impl_IsSafe.f k bt458.1 bt458.2.1 bt458.2.2).bind fun bt463 => ((spec_IsSafe.f k bt458.1 bt458.2.1 bt458.2.2).bind fun bt465 => ((impl_VainFixed.f k bt458.1 bt458.2.1 bt458.2.2).bind fun bt467 => ((spec_VainFixed.f k bt458.1 bt458.2.1 bt458.2.2).bind fun bt471 => ((spec_DrawCountUntold.f k l0).bind fun bt475 => ((impl_CountUntold.f k bt475.1 bt475.2.1 bt475.2.2).bind fun bt480 => ((spec_CountUntold.f k bt475.1 bt475.2.1 bt475.2.2).bind fun bt482 => (if bt424.1 = bt426.1 then (if (bt424.2 != bt426.2) = true then (none) else (if (bt428.2 != bt432.2) = true then (none) else ((laws_vInts.f k bt428.1 bt432.1).bind fun t484 => (if t484 = true then (if bt436.1 = bt438.1 then (if (bt436.2 != bt438.2) = true then (none) else (if (bt447.2 != bt451.2) = true then (none) else ((laws_vInts.f k bt447.1 bt451.1).bind fun t485 => (if t485 = true then (if (bt463.1 != bt465.1) = true then (none) else (if (bt463.2 != bt465.2) = true then (none) else (if (bt467.2 != bt471.2) = true then (none) else ((laws_vInts.f k bt467.1 bt471.1).bind fun t486 => (if t486 = true then (if bt480.1 = bt482.1 then (if (bt480.2 != bt482.2) = true then (none) else ((impl_IsScheme.f bt419.1 bt419.2.1).bind fun t487 => ((spec_IsScheme.f k bt419.1 bt419.2.1).bind fun t488 => (if (t487 != t488) = true then (none) else ((impl_IsScheme.f bt419.1 bt419.2.1).bind fun t489 => (if (bt428.2 != t489) = true then (none) else (if (bt428.2 != bt436.2) = true then (none) else (if bt424.2 = true then (if bt428.2 = true then (laws_FnSchemes.j0 k bt419.1 bt419.2.1 bt419.2.2 bt424.1 bt424.2 bt428.1 bt428.2 bt443.1 bt443.2 bt447.1 bt447.2 bt458.1 bt458.2.1 bt458.2.2 bt463.1 bt463.2 bt467.1 bt475.2.1 bt480.1 bt480.2 (bt463.2 != bt467.2)) else (none)) else (laws_FnSchemes.j0 k bt419.1 bt419.2.1 bt419.2.2 bt424.1 bt424.2 bt428.1 bt428.2 bt443.1 bt443.2 bt447.1 bt447.2 bt458.1 bt458.2.1 bt458.2.2 bt463.1 bt463.2 bt467.1 bt475.2.1 bt480.1 bt480.2 (bt463.2 != bt467.2)))))))))) else (none)) else (none)))))) else (none))))) else (none)) else (none))))) else (none)))))))))))))))))))))))) = some r := h
 clear h
 replace H := Option.bind_eq_some_iff.mp H
 obtain ⟨t418, A20, H⟩ := H
 try dsimp only at H
 have A2 := Aside0.mk A20
 clear A20
 by_cases c3 : t418 = true
 ·
  subst c3
  rw [if_pos rfl] at H
  obtain rfl := Option.some.inj H
  go_enter Try.func3, Try.ntmps3
  as_aux_lemma =>
   go_wp2_with (first | ((with_reducible refine gate_callee (f := 6) rfl ?_); refine goesL_ (some 54) rfl rfl Try.func6 (by kernel_rfl) rfl #[.slice A0 l0.length c0] rfl (by (try simp only [List.map_toArray, List.map_cons, List.map_nil]); first | done | rfl | (simp only [List.length_drop, List.length_take]; rfl)) ?_; (with_reducible refine (laws_vBig.calls _ _ l0 true _ ?side1 ?side2 A2.out).mono ?_); (case side1 => repeat (first | exact HR0.out | (with_reducible refine Kd.C_alloc ?_ _) | (with_reducible refine Kd.C_drewN ?_ _) | (with_reducible refine Kd.C_drew ?_))); (case side2 => exact HC0.out); rintro e w' ⟨rfl, ⟨nd, rfl⟩⟩; refine ⟨_, rfl, ?_⟩))
   go_ret
   exact ⟨by first | rfl | (simp [errW_none, errW_some] <;> rfl) | (simp [*, errW_none, errW_some] <;> rfl), by (with_reducible repeat apply pw_below_drewN); exact HB.out⟩
 ·
  replace c3 := Bool.eq_false_iff.mpr c3
  subst c3
  rw [if_neg (show ¬ (false = true) by decide)] at H
  replace H := Option.bind_eq_some_iff.mp H
  obtain ⟨⟨t419, t420, t421⟩, A40, H⟩ := H
  try dsimp only at H
  have A4 := Aside0.mk A40
  clear A40
  replace H := Option.bind_eq_some_iff.mp H
  obtain ⟨⟨t424, t425⟩, A50, H⟩ := H
  try dsimp only at H
  have A5 := Aside0.mk A50
  clear A50
  replace H := Option.bind_eq_some_iff.mp H
  obtain ⟨⟨t426, t427⟩, A60, H⟩ := H
  try dsimp only at H
  have A6 := Aside0.mk A60
  clear A60
  replace H := Option.bind_eq_some_iff.mp H
  obtain ⟨⟨t428, t429⟩, A70, H⟩ := H
  try dsimp only at H
  have A7 := Aside0.mk A70
  clear A70
  replace H := Option.bind_eq_some_iff.mp H
  obtain ⟨⟨t432, t433⟩, A80, H⟩ := H
  try dsimp only at H
  have A8 := Aside0.mk A80
  clear A80
  replace H := Option.bind_eq_some_iff.mp H
  obtain ⟨⟨t436, t437⟩, A90, H⟩ := H
  try dsimp only at H
  have A9 := Aside0.mk A90
  clear A90
  replace H := Option.bind_eq_some_iff.mp H
  obtain ⟨⟨t438, t439⟩, A100, H⟩ := H
  try dsimp only at H
  have A10 := Aside0.mk A100
  clear A100
  replace H := Option.bind_eq_some_iff.mp H
  obtain ⟨t440, A110, H⟩ := H
  try dsimp only at H
  have A11 := Aside0.mk A110
  clear A110
  replace H := Option.bind_eq_some_iff.mp H
  obtain ⟨⟨t443, t444⟩, A120, H⟩ := H
  try dsimp only at H
  have A12 := Aside0.mk A120
  clear A120
  replace H := Option.bind_eq_some_iff.mp H
  obtain ⟨⟨t447, t448⟩, A130, H⟩ := H
  try dsimp only at H
  have A13 := Aside0.mk A130
  clear A130
  replace H := Option.bind_eq_some_iff.mp H
  obtain ⟨⟨t451, t452⟩, A140, H⟩ := H
  try dsimp only at H
  have A14 := Aside0.mk A140
  clear A140
  replace H := Option.bind_eq_some_iff.mp H
  obtain ⟨t455, A150, H⟩ := H
  try dsimp only at H
  have A15 := Aside0.mk A150
  clear A150
  replace H := Option.bind_eq_some_iff.mp H
  obtain ⟨⟨t458, t459, t460⟩, A160, H⟩ := H
  try dsimp only at H
  have A16 := Aside0.mk A160
  clear A160
  replace H := Option.bind_eq_some_iff.mp H
  obtain ⟨⟨t463, t464⟩, A170, H⟩ := H
  try dsimp only at H
  have A17 := Aside0.mk A170
  clear A170
  replace H := Option.bind_eq_some_iff.mp H
  obtain ⟨⟨t465, t466⟩, A180, H⟩ := H
  try dsimp only at H
  have A18 := Aside0.mk A180
  clear A180
  replace H := Option.bind_eq_some_iff.mp H
  obtain ⟨⟨t467, t468⟩, A190, H⟩ := H
  try dsimp only at H
  have A19 := Aside0.mk A190
  clear A190
  replace H := Option.bind_eq_some_iff.mp H
  obtain ⟨⟨t471, t472⟩, A200, H⟩ := H
  try dsimp only at H
  have A20 := Aside0.mk A200
  clear A200
  replace H := Option.bind_eq_some_iff.mp H
  obtain ⟨⟨t475, t476, t477⟩, A210, H⟩ := H
  try dsimp only at H
  have A21 := Aside0.mk A210
  clear A210
  replace H := Option.bind_eq_some_iff.mp H
  obtain ⟨⟨t480, t481⟩, A220, H⟩ := H
  try dsimp only at H
  have A22 := Aside0.mk A220
  clear A220
  replace H := Option.bind_eq_some_iff.mp H
  obtain ⟨⟨t482, t483⟩, A230, H⟩ := H
  try dsimp only at H
  have A23 := Aside0.mk A230
  clear A230
  have HC24 := Aside0.mk H
  clear H
  go_enter Try.func3, Try.ntmps3
  go_upto_region 7 with (first | ((with_reducible refine gate_callee (f := 6) rfl ?_); refine goesL_ (some 54) rfl rfl Try.func6 (by kernel_rfl) rfl #[.slice A0 l0.length c0] rfl (by (try simp only [List.map_toArray, List.map_cons, List.map_nil]); first | done | rfl | (simp only [List.length_drop, List.length_take]; rfl)) ?_; (with_reducible refine (laws_vBig.calls _ _ l0 false _ ?side1 ?side2 A2.out).mono ?_); (case side1 => repeat (first | exact HR0.out | (with_reducible refine Kd.C_alloc ?_ _) | (with_reducible refine Kd.C_drewN ?_ _) | (with_reducible refine Kd.C_drew ?_))); (case side2 => exact HC0.out); rintro e w' ⟨rfl, ⟨nd, rfl⟩⟩; refine ⟨_, rfl, ?_⟩) | ((with_reducible refine gate_callee (f := 7) rfl ?_); refine goesL_ (some 57) rfl rfl Try.func7 (by kernel_rfl) rfl #[.slice A0 l0.length c0] rfl (by (try simp only [List.map_toArray, List.map_cons, List.map_nil]); first | done | rfl | (simp only [List.length_drop, List.length_take]; rfl)) ?_; (with_reducible refine (spec_DrawTrueWord.calls k _ _ l0 t419 t420 t421 _ ?side1 ?side2 A4.out).mono ?_); (case side1 => repeat (first | exact HR0.out | (with_reducible refine Kd.C_alloc ?_ _) | (with_reducible refine Kd.C_drewN ?_ _) | (with_reducible refine Kd.C_drew ?_))); (case side2 => exact HC0.out); rintro e w25 ⟨v422, rfl, ho0, hb⟩; refine ⟨_, rfl, ?_⟩; have n0_ := Aside0.mk (Kd.R_lower ho0 (below_size (by (with_reducible repeat apply pw_below_drewN); exact HB.out))); have n1_ := Aside0.mk (below_step (by (with_reducible repeat apply pw_below_drewN); exact HB.out) hb); clear HB; have HO423 := n0_; have HB := n1_; clear n0_ n1_; (try clear hb); (try clear hb2); (try clear hk); (try clear hi); (try clear ho0); obtain ⟨Ao26, co26, eo26⟩ := Kd.R_slice HO423.out; subst eo26) | ((with_reducible refine gate_callee (f := 8) rfl ?_); refine goesL_ (some 65) rfl rfl Try.func8 (by kernel_rfl) rfl #[.int .i64 t419, .slice Ao26 t420.length co26, .int .i64 t421] rfl (by (try simp only [List.map_toArray, List.map_cons, List.map_nil]); first | done | rfl | (simp only [List.length_drop, List.length_take]; rfl)) ?_; (with_reducible refine (impl_TrueWord.calls k t419 _ _ t420 t421 t424 t425 _ ?side1 ?side2 A5.out).mono ?_); (case side1 => repeat (first | exact (Kd.R_reads' HO423.out).2.2 | (with_reducible refine Kd.C_alloc ?_ _) | (with_reducible refine Kd.C_drewN ?_ _) | (with_reducible refine Kd.C_drew ?_))); (case side2 => exact (Kd.R_reads' HO423.out).2.1); rintro e w27 ⟨rfl, hb⟩; refine ⟨_, rfl, ?_⟩; have n0_ := Aside0.mk (Kd.R_below (by (with_reducible repeat apply Kd.R_drewN); exact HO423.out) hb); have n1_ := Aside0.mk (below_step (by (with_reducible repeat apply pw_below_drewN); exact HB.out) hb); clear HO423; clear HB; have HO423 := n0_; have HB := n1_; clear n0_ n1_; (try clear hb); (try clear hb2); (try clear hk); (try clear hi)) | ((with_reducible refine gate_callee (f := 9) rfl ?_); refine goesL_ (some 72) rfl rfl Try.func9 (by kernel_rfl) rfl #[.int .i64 t419, .slice Ao26 t420.length co26, .int .i64 t421] rfl (by (try simp only [List.map_toArray, List.map_cons, List.map_nil]); first | done | rfl | (simp only [List.length_drop, List.length_take]; rfl)) ?_; (with_reducible refine (spec_TrueWord.calls k t419 _ _ t420 t421 t426 t427 _ ?side1 ?side2 A6.out).mono ?_); (case side1 => repeat (first | exact (Kd.R_reads' HO423.out).2.2 | (with_reducible refine Kd.C_alloc ?_ _) | (with_reducible refine Kd.C_drewN ?_ _) | (with_reducible refine Kd.C_drew ?_))); (case side2 => exact (Kd.R_reads' HO423.out).2.1); rintro e w' ⟨rfl, ⟨nd, rfl⟩⟩; refine ⟨_, rfl, ?_⟩) | ((with_reducible refine gate_callee (f := 10) rfl ?_); refine goesL_ (some 78) rfl rfl Try.func10 (by kernel_rfl) rfl #[.int .i64 t419, .slice Ao26 t420.length co26] rfl (by (try simp only [List.map_toArray, List.map_cons, List.map_nil]); first | done | rfl | (simp only [List.length_drop, List.length_take]; rfl)) ?_; (with_reducible refine (impl_TrueWords.calls k t419 _ _ t420 t428 t429 _ ?side1 ?side2 A7.out).mono ?_); (case side1 => repeat (first | exact (Kd.R_reads' HO423.out).2.2 | (with_reducible refine Kd.C_alloc ?_ _) | (with_reducible refine Kd.C_drewN ?_ _) | (with_reducible refine Kd.C_drew ?_))); (case side2 => exact (Kd.R_reads' HO423.out).2.1); rintro e w28 ⟨v430, rfl, ho0, hb⟩; refine ⟨_, rfl, ?_⟩; have n0_ := Aside0.mk (Kd.R_elder' (by (with_reducible repeat apply Kd.R_drewN); exact HO423.out) (Kd.R_base ho0) hb); have n1_ := Aside0.mk (Kd.R_lower (Kd.R_new' ho0 (Kd.R_lt (by (with_reducible repeat apply Kd.R_drewN); exact HO423.out))) (below_size (by (with_reducible repeat apply pw_below_drewN); exact HB.out))); have n2_ := Aside0.mk (below_step (by (with_reducible repeat apply pw_below_drewN); exact HB.out) hb); clear HO423; clear HB; have HO423 := n0_; have HO431 := n1_; have HB := n2_; clear n0_ n1_ n2_; (try clear hb); (try clear hb2); (try clear hk); (try clear hi); (try clear ho0)))
  as_aux_lemma =>
   go_upto_region 10 with (first | ((with_reducible refine gate_callee (f := 11) rfl ?_); refine goesL_ (some 84) rfl rfl Try.func11 (by kernel_rfl) rfl #[.int .i64 t419, .slice Ao26 t420.length co26] rfl (by (try simp only [List.map_toArray, List.map_cons, List.map_nil]); first | done | rfl | (simp only [List.length_drop, List.length_take]; rfl)) ?_; (with_reducible refine (spec_TrueWords.calls k t419 _ _ t420 t432 t433 _ ?side1 ?side2 A8.out).mono ?_); (case side1 => repeat (first | exact (Kd.R_reads' HO423.out).2.2 | (with_reducible refine Kd.C_alloc ?_ _) | (with_reducible refine Kd.C_drewN ?_ _) | (with_reducible refine Kd.C_drew ?_))); (case side2 => exact (Kd.R_reads' HO423.out).2.1); rintro e w29 ⟨v434, rfl, ho0, hb⟩; refine ⟨_, rfl, ?_⟩; have n0_ := Aside0.mk (Kd.R_elder' (by (with_reducible repeat apply Kd.R_drewN); exact HO423.out) (Kd.R_base ho0) hb); have n1_ := Aside0.mk (Kd.R_elder' (by (with_reducible repeat apply Kd.R_drewN); exact HO431.out) (Kd.R_base ho0) hb); have n2_ := Aside0.mk (Kd.R_lower (Kd.R_new' (Kd.R_new' ho0 (Kd.R_lt (by (with_reducible repeat apply Kd.R_drewN); exact HO423.out))) (Kd.R_lt (by (with_reducible repeat apply Kd.R_drewN); exact HO431.out))) (below_size (by (with_reducible repeat apply pw_below_drewN); exact HB.out))); have n3_ := Aside0.mk (below_step (by (with_reducible repeat apply pw_below_drewN); exact HB.out) hb); clear HO423; clear HO431; clear HB; have HO423 := n0_; have HO431 := n1_; have HO435 := n2_; have HB := n3_; clear n0_ n1_ n2_ n3_; (try clear hb); (try clear hb2); (try clear hk); (try clear hi); (try clear ho0)) | ((with_reducible refine gate_callee (f := 12) rfl ?_); refine goesL_ (some 90) rfl rfl Try.func12 (by kernel_rfl) rfl #[.int .i64 t419, .slice Ao26 t420.length co26] rfl (by (try simp only [List.map_toArray, List.map_cons, List.map_nil]); first | done | rfl | (simp only [List.length_drop, List.length_take]; rfl)) ?_; (with_reducible refine (impl_GapOf.calls k t419 _ _ t420 t436 t437 _ ?side1 ?side2 A9.out).mono ?_); (case side1 => repeat (first | exact (Kd.R_reads' HO423.out).2.2 | (with_reducible refine Kd.C_alloc ?_ _) | (with_reducible refine Kd.C_drewN ?_ _) | (with_reducible refine Kd.C_drew ?_))); (case side2 => exact (Kd.R_reads' HO423.out).2.1); rintro e w30 ⟨rfl, hb⟩; refine ⟨_, rfl, ?_⟩; have n0_ := Aside0.mk (Kd.R_below (by (with_reducible repeat apply Kd.R_drewN); exact HO423.out) hb); have n1_ := Aside0.mk (Kd.R_below (by (with_reducible repeat apply Kd.R_drewN); exact HO431.out) hb); have n2_ := Aside0.mk (Kd.R_below (by (with_reducible repeat apply Kd.R_drewN); exact HO435.out) hb); have n3_ := Aside0.mk (below_step (by (with_reducible repeat apply pw_below_drewN); exact HB.out) hb); clear HO423; clear HO431; clear HO435; clear HB; have HO423 := n0_; have HO431 := n1_; have HO435 := n2_; have HB := n3_; clear n0_ n1_ n2_ n3_; (try clear hb); (try clear hb2); (try clear hk); (try clear hi)) | ((with_reducible refine gate_callee (f := 13) rfl ?_); refine goesL_ (some 96) rfl rfl Try.func13 (by kernel_rfl) rfl #[.int .i64 t419, .slice Ao26 t420.length co26] rfl (by (try simp only [List.map_toArray, List.map_cons, List.map_nil]); first | done | rfl | (simp only [List.length_drop, List.length_take]; rfl)) ?_; (with_reducible refine (spec_GapOf.calls k t419 _ _ t420 t438 t439 _ ?side1 ?side2 A10.out).mono ?_); (case side1 => repeat (first | exact (Kd.R_reads' HO423.out).2.2 | (with_reducible refine Kd.C_alloc ?_ _) | (with_reducible refine Kd.C_drewN ?_ _) | (with_reducible refine Kd.C_drew ?_))); (case side2 => exact (Kd.R_reads' HO423.out).2.1); rintro e w31 ⟨rfl, hb⟩; refine ⟨_, rfl, ?_⟩; have n0_ := Aside0.mk (Kd.R_below (by (with_reducible repeat apply Kd.R_drewN); exact HO423.out) hb); have n1_ := Aside0.mk (Kd.R_below (by (with_reducible repeat apply Kd.R_drewN); exact HO431.out) hb); have n2_ := Aside0.mk (Kd.R_below (by (with_reducible repeat apply Kd.R_drewN); exact HO435.out) hb); have n3_ := Aside0.mk (below_step (by (with_reducible repeat apply pw_below_drewN); exact HB.out) hb); clear HO423; clear HO431; clear HO435; clear HB; have HO423 := n0_; have HO431 := n1_; have HO435 := n2_; have HB := n3_; clear n0_ n1_ n2_ n3_; (try clear hb); (try clear hb2); (try clear hk); (try clear hi)))
   as_aux_lemma =>
    go_upto_region 12 with (first | ((with_reducible refine gate_callee (f := 15) rfl ?_); refine goesL_ (some 101) rfl rfl Try.func15 (by kernel_rfl) rfl #[.slice A0 l0.length c0, .int .i64 1] rfl (by (try simp only [List.map_toArray, List.map_cons, List.map_nil]); first | done | rfl | (simp only [List.length_drop, List.length_take]; rfl)) ?_; (with_reducible refine (laws_vCut.calls _ _ l0 1 t440 _ ?side1 ?side2 A11.out).mono ?_); (case side1 => repeat (first | exact (Kd.C_below HR0.out HB.out) | (with_reducible refine Kd.C_alloc ?_ _) | (with_reducible refine Kd.C_drewN ?_ _) | (with_reducible refine Kd.C_drew ?_))); (case side2 => exact HC0.out); rintro e w32 ⟨v441, rfl, ho0, hb⟩; refine ⟨_, rfl, ?_⟩; have n0_ := Aside0.mk (Kd.R_below (by (with_reducible repeat apply Kd.R_drewN); exact HO423.out) hb); have n1_ := Aside0.mk (Kd.R_below (by (with_reducible repeat apply Kd.R_drewN); exact HO431.out) hb); have n2_ := Aside0.mk (Kd.R_below (by (with_reducible repeat apply Kd.R_drewN); exact HO435.out) hb); have n3_ := Aside0.mk (Kd.R_lower ho0 (below_size (by (with_reducible repeat apply pw_below_drewN); exact HB.out))); have n4_ := Aside0.mk (below_step (by (with_reducible repeat apply pw_below_drewN); exact HB.out) hb); clear HO423; clear HO431; clear HO435; clear HB; have HO423 := n0_; have HO431 := n1_; have HO435 := n2_; have HO442 := n3_; have HB := n4_; clear n0_ n1_ n2_ n3_ n4_; (try clear hb); (try clear hb2); (try clear hk); (try clear hi); (try clear ho0); obtain ⟨Ao33, co33, eo33⟩ := Kd.R_slice HO442.out; subst eo33) | ((with_reducible refine gate_callee (f := 14) rfl ?_); refine goesL_ (some 102) rfl rfl Try.func14 (by kernel_rfl) rfl #[.slice Ao33 t440.length co33] rfl (by (try simp only [List.map_toArray, List.map_cons, List.map_nil]); first | done | rfl | (simp only [List.length_drop, List.length_take]; rfl)) ?_; (with_reducible refine (spec_DrawSchemeOf.calls k _ _ t440 t443 t444 _ ?side1 ?side2 A12.out).mono ?_); (case side1 => repeat (first | exact (Kd.R_reads' HO442.out).2.2 | (with_reducible refine Kd.C_alloc ?_ _) | (with_reducible refine Kd.C_drewN ?_ _) | (with_reducible refine Kd.C_drew ?_))); (case side2 => exact (Kd.R_reads' HO442.out).2.1); rintro e w34 ⟨v445, rfl, ho0, hb⟩; refine ⟨_, rfl, ?_⟩; have n0_ := Aside0.mk (Kd.R_elder' (by (with_reducible repeat apply Kd.R_drewN); exact HO423.out) (Kd.R_base ho0) hb); have n1_ := Aside0.mk (Kd.R_elder' (by (with_reducible repeat apply Kd.R_drewN); exact HO431.out) (Kd.R_base ho0) hb); have n2_ := Aside0.mk (Kd.R_elder' (by (with_reducible repeat apply Kd.R_drewN); exact HO435.out) (Kd.R_base ho0) hb); have n3_ := Aside0.mk (Kd.R_below (by (with_reducible repeat apply Kd.R_drewN); exact HO442.out) hb); have n4_ := Aside0.mk (Kd.R_lower (Kd.R_new' (Kd.R_new' (Kd.R_new' ho0 (Kd.R_lt (by (with_reducible repeat apply Kd.R_drewN); exact HO423.out))) (Kd.R_lt (by (with_reducible repeat apply Kd.R_drewN); exact HO431.out))) (Kd.R_lt (by (with_reducible repeat apply Kd.R_drewN); exact HO435.out))) (below_size (by (with_reducible repeat apply pw_below_drewN); exact HB.out))); have n5_ := Aside0.mk (below_step (by (with_reducible repeat apply pw_below_drewN); exact HB.out) hb); clear HO423; clear HO431; clear HO435; clear HO442; clear HB; have HO423 := n0_; have HO431 := n1_; have HO435 := n2_; have HO442 := n3_; have HO446 := n4_; have HB := n5_; clear n0_ n1_ n2_ n3_ n4_ n5_; (try clear hb); (try clear hb2); (try clear hk); (try clear hi); (try clear ho0); obtain ⟨Ao35, co35, eo35⟩ := Kd.R_slice HO446.out; subst eo35) | ((with_reducible refine gate_callee (f := 16) rfl ?_); refine goesL_ (some 108) rfl rfl Try.func16 (by kernel_rfl) rfl #[.slice Ao35 t443.length co35, .int .i64 t444] rfl (by (try simp only [List.map_toArray, List.map_cons, List.map_nil]); first | done | rfl | (simp only [List.length_drop, List.length_take]; rfl)) ?_; (with_reducible refine (impl_SchemeOf.calls k _ _ t443 t444 t447 t448 _ ?side1 ?side2 A13.out).mono ?_); (case side1 => repeat (first | exact (Kd.R_reads' HO446.out).2.2 | (with_reducible refine Kd.C_alloc ?_ _) | (with_reducible refine Kd.C_drewN ?_ _) | (with_reducible refine Kd.C_drew ?_))); (case side2 => exact (Kd.R_reads' HO446.out).2.1); rintro e w36 ⟨v449, rfl, ho0, hb⟩; refine ⟨_, rfl, ?_⟩; have n0_ := Aside0.mk (Kd.R_elder' (by (with_reducible repeat apply Kd.R_drewN); exact HO423.out) (Kd.R_base ho0) hb); have n1_ := Aside0.mk (Kd.R_elder' (by (with_reducible repeat apply Kd.R_drewN); exact HO431.out) (Kd.R_base ho0) hb); have n2_ := Aside0.mk (Kd.R_elder' (by (with_reducible repeat apply Kd.R_drewN); exact HO435.out) (Kd.R_base ho0) hb); have n3_ := Aside0.mk (Kd.R_below (by (with_reducible repeat apply Kd.R_drewN); exact HO442.out) hb); have n4_ := Aside0.mk (Kd.R_elder' (by (with_reducible repeat apply Kd.R_drewN); exact HO446.out) (Kd.R_base ho0) hb); have n5_ := Aside0.mk (Kd.R_lower (Kd.R_new' (Kd.R_new' (Kd.R_new' (Kd.R_new' ho0 (Kd.R_lt (by (with_reducible repeat apply Kd.R_drewN); exact HO423.out))) (Kd.R_lt (by (with_reducible repeat apply Kd.R_drewN); exact HO431.out))) (Kd.R_lt (by (with_reducible repeat apply Kd.R_drewN); exact HO435.out))) (Kd.R_lt (by (with_reducible repeat apply Kd.R_drewN); exact HO446.out))) (below_size (by (with_reducible repeat apply pw_below_drewN); exact HB.out))); have n6_ := Aside0.mk (below_step (by (with_reducible repeat apply pw_below_drewN); exact HB.out) hb); clear HO423; clear HO431; clear HO435; clear HO442; clear HO446; clear HB; have HO423 := n0_; have HO431 := n1_; have HO435 := n2_; have HO442 := n3_; have HO446 := n4_; have HO450 := n5_; have HB := n6_; clear n0_ n1_ n2_ n3_ n4_ n5_ n6_; (try clear hb); (try clear hb2); (try clear hk); (try clear hi); (try clear ho0)))
    as_aux_lemma =>
     go_upto_region 14 with (first | ((with_reducible refine gate_callee (f := 17) rfl ?_); refine goesL_ (some 114) rfl rfl Try.func17 (by kernel_rfl) rfl #[.slice Ao35 t443.length co35, .int .i64 t444] rfl (by (try simp only [List.map_toArray, List.map_cons, List.map_nil]); first | done | rfl | (simp only [List.length_drop, List.length_take]; rfl)) ?_; (with_reducible refine (spec_SchemeOf.calls k _ _ t443 t444 t451 t452 _ ?side1 ?side2 A14.out).mono ?_); (case side1 => repeat (first | exact (Kd.R_reads' HO446.out).2.2 | (with_reducible refine Kd.C_alloc ?_ _) | (with_reducible refine Kd.C_drewN ?_ _) | (with_reducible refine Kd.C_drew ?_))); (case side2 => exact (Kd.R_reads' HO446.out).2.1); rintro e w37 ⟨v453, rfl, ho0, hb⟩; refine ⟨_, rfl, ?_⟩; have n0_ := Aside0.mk (Kd.R_elder' (by (with_reducible repeat apply Kd.R_drewN); exact HO423.out) (Kd.R_base ho0) hb); have n1_ := Aside0.mk (Kd.R_elder' (by (with_reducible repeat apply Kd.R_drewN); exact HO431.out) (Kd.R_base ho0) hb); have n2_ := Aside0.mk (Kd.R_elder' (by (with_reducible repeat apply Kd.R_drewN); exact HO435.out) (Kd.R_base ho0) hb); have n3_ := Aside0.mk (Kd.R_below (by (with_reducible repeat apply Kd.R_drewN); exact HO442.out) hb); have n4_ := Aside0.mk (Kd.R_elder' (by (with_reducible repeat apply Kd.R_drewN); exact HO446.out) (Kd.R_base ho0) hb); have n5_ := Aside0.mk (Kd.R_elder' (by (with_reducible repeat apply Kd.R_drewN); exact HO450.out) (Kd.R_base ho0) hb); have n6_ := Aside0.mk (Kd.R_lower (Kd.R_new' (Kd.R_new' (Kd.R_new' (Kd.R_new' (Kd.R_new' ho0 (Kd.R_lt (by (with_reducible repeat apply Kd.R_drewN); exact HO423.out))) (Kd.R_lt (by (with_reducible repeat apply Kd.R_drewN); exact HO431.out))) (Kd.R_lt (by (with_reducible repeat apply Kd.R_drewN); exact HO435.out))) (Kd.R_lt (by (with_reducible repeat apply Kd.R_drewN); exact HO446.out))) (Kd.R_lt (by (with_reducible repeat apply Kd.R_drewN); exact HO450.out))) (below_size (by (with_reducible repeat apply pw_below_drewN); exact HB.out))); have n7_ := Aside0.mk (below_step (by (with_reducible repeat apply pw_below_drewN); exact HB.out) hb); clear HO423; clear HO431; clear HO435; clear HO442; clear HO446; clear HO450; clear HB; have HO423 := n0_; have HO431 := n1_; have HO435 := n2_; have HO442 := n3_; have HO446 := n4_; have HO450 := n5_; have HO454 := n6_; have HB := n7_; clear n0_ n1_ n2_ n3_ n4_ n5_ n6_ n7_; (try clear hb); (try clear hb2); (try clear hk); (try clear hi); (try clear ho0)) | ((with_reducible refine gate_callee (f := 15) rfl ?_); refine goesL_ (some 119) rfl rfl Try.func15 (by kernel_rfl) rfl #[.slice A0 l0.length c0, .int .i64 2] rfl (by (try simp only [List.map_toArray, List.map_cons, List.map_nil]); first | done | rfl | (simp only [List.length_drop, List.length_take]; rfl)) ?_; (with_reducible refine (laws_vCut.calls _ _ l0 2 t455 _ ?side1 ?side2 A15.out).mono ?_); (case side1 => repeat (first | exact (Kd.C_below HR0.out HB.out) | (with_reducible refine Kd.C_alloc ?_ _) | (with_reducible refine Kd.C_drewN ?_ _) | (with_reducible refine Kd.C_drew ?_))); (case side2 => exact HC0.out); rintro e w38 ⟨v456, rfl, ho0, hb⟩; refine ⟨_, rfl, ?_⟩; have n0_ := Aside0.mk (Kd.R_below (by (with_reducible repeat apply Kd.R_drewN); exact HO423.out) hb); have n1_ := Aside0.mk (Kd.R_below (by (with_reducible repeat apply Kd.R_drewN); exact HO431.out) hb); have n2_ := Aside0.mk (Kd.R_below (by (with_reducible repeat apply Kd.R_drewN); exact HO435.out) hb); have n3_ := Aside0.mk (Kd.R_elder' (by (with_reducible repeat apply Kd.R_drewN); exact HO442.out) (Kd.R_base ho0) hb); have n4_ := Aside0.mk (Kd.R_below (by (with_reducible repeat apply Kd.R_drewN); exact HO446.out) hb); have n5_ := Aside0.mk (Kd.R_below (by (with_reducible repeat apply Kd.R_drewN); exact HO450.out) hb); have n6_ := Aside0.mk (Kd.R_below (by (with_reducible repeat apply Kd.R_drewN); exact HO454.out) hb); have n7_ := Aside0.mk (Kd.R_lower (Kd.R_new' ho0 (Kd.R_lt (by (with_reducible repeat apply Kd.R_drewN); exact HO442.out))) (below_size (by (with_reducible repeat apply pw_below_drewN); exact HB.out))); have n8_ := Aside0.mk (below_step (by (with_reducible repeat apply pw_below_drewN); exact HB.out) hb); clear HO423; clear HO431; clear HO435; clear HO442; clear HO446; clear HO450; clear HO454; clear HB; have HO423 := n0_; have HO431 := n1_; have HO435 := n2_; have HO442 := n3_; have HO446 := n4_; have HO450 := n5_; have HO454 := n6_; have HO457 := n7_; have HB := n8_; clear n0_ n1_ n2_ n3_ n4_ n5_ n6_ n7_ n8_; (try clear hb); (try clear hb2); (try clear hk); (try clear hi); (try clear ho0); obtain ⟨Ao39, co39, eo39⟩ := Kd.R_slice HO457.out; subst eo39) | ((with_reducible refine gate_callee (f := 18) rfl ?_); refine goesL_ (some 120) rfl rfl Try.func18 (by kernel_rfl) rfl #[.slice Ao39 t455.length co39] rfl (by (try simp only [List.map_toArray, List.map_cons, List.map_nil]); first | done | rfl | (simp only [List.length_drop, List.length_take]; rfl)) ?_; (with_reducible refine (spec_DrawIsSafe.calls k _ _ t455 t458 t459 t460 _ ?side1 ?side2 A16.out).mono ?_); (case side1 => repeat (first | exact (Kd.R_reads' HO457.out).2.2 | (with_reducible refine Kd.C_alloc ?_ _) | (with_reducible refine Kd.C_drewN ?_ _) | (with_reducible refine Kd.C_drew ?_))); (case side2 => exact (Kd.R_reads' HO457.out).2.1); rintro e w40 ⟨v461, rfl, ho0, hb⟩; refine ⟨_, rfl, ?_⟩; have n0_ := Aside0.mk (Kd.R_elder' (by (with_reducible repeat apply Kd.R_drewN); exact HO423.out) (Kd.R_base ho0) hb); have n1_ := Aside0.mk (Kd.R_elder' (by (with_reducible repeat apply Kd.R_drewN); exact HO431.out) (Kd.R_base ho0) hb); have n2_ := Aside0.mk (Kd.R_elder' (by (with_reducible repeat apply Kd.R_drewN); exact HO435.out) (Kd.R_base ho0) hb); have n3_ := Aside0.mk (Kd.R_below (by (with_reducible repeat apply Kd.R_drewN); exact HO442.out) hb); have n4_ := Aside0.mk (Kd.R_elder' (by (with_reducible repeat apply Kd.R_drewN); exact HO446.out) (Kd.R_base ho0) hb); have n5_ := Aside0.mk (Kd.R_elder' (by (with_reducible repeat apply Kd.R_drewN); exact HO450.out) (Kd.R_base ho0) hb); have n6_ := Aside0.mk (Kd.R_elder' (by (with_reducible repeat apply Kd.R_drewN); exact HO454.out) (Kd.R_base ho0) hb); have n7_ := Aside0.mk (Kd.R_below (by (with_reducible repeat apply Kd.R_drewN); exact HO457.out) hb); have n8_ := Aside0.mk (Kd.R_lower (Kd.R_new' (Kd.R_new' (Kd.R_new' (Kd.R_new' (Kd.R_new' (Kd.R_new' ho0 (Kd.R_lt (by (with_reducible repeat apply Kd.R_drewN); exact HO423.out))) (Kd.R_lt (by (with_reducible repeat apply Kd.R_drewN); exact HO431.out))) (Kd.R_lt (by (with_reducible repeat apply Kd.R_drewN); exact HO435.out))) (Kd.R_lt (by (with_reducible repeat apply Kd.R_drewN); exact HO446.out))) (Kd.R_lt (by (with_reducible repeat apply Kd.R_drewN); exact HO450.out))) (Kd.R_lt (by (with_reducible repeat apply Kd.R_drewN); exact HO454.out))) (below_size (by (with_reducible repeat apply pw_below_drewN); exact HB.out))); have n9_ := Aside0.mk (below_step (by (with_reducible repeat apply pw_below_drewN); exact HB.out) hb); clear HO423; clear HO431; clear HO435; clear HO442; clear HO446; clear HO450; clear HO454; clear HO457; clear HB; have HO423 := n0_; have HO431 := n1_; have HO435 := n2_; have HO442 := n3_; have HO446 := n4_; have HO450 := n5_; have HO454 := n6_; have HO457 := n7_; have HO462 := n8_; have HB := n9_; clear n0_ n1_ n2_ n3_ n4_ n5_ n6_ n7_ n8_ n9_; (try clear hb); (try clear hb2); (try clear hk); (try clear hi); (try clear ho0); obtain ⟨Ao41, co41, eo41⟩ := Kd.R_slice HO462.out; subst eo41))
     as_aux_lemma =>
      go_upto_region 17 with (first | ((with_reducible refine gate_callee (f := 19) rfl ?_); refine goesL_ (some 128) rfl rfl Try.func19 (by kernel_rfl) rfl #[.int .i64 t458, .slice Ao41 t459.length co41, .int .i64 t460] rfl (by (try simp only [List.map_toArray, List.map_cons, List.map_nil]); first | done | rfl | (simp only [List.length_drop, List.length_take]; rfl)) ?_; (with_reducible refine (impl_IsSafe.calls k t458 _ _ t459 t460 t463 t464 _ ?side1 ?side2 A17.out).mono ?_); (case side1 => repeat (first | exact (Kd.R_reads' HO462.out).2.2 | (with_reducible refine Kd.C_alloc ?_ _) | (with_reducible refine Kd.C_drewN ?_ _) | (with_reducible refine Kd.C_drew ?_))); (case side2 => exact (Kd.R_reads' HO462.out).2.1); rintro e w42 ⟨rfl, hb⟩; refine ⟨_, rfl, ?_⟩; have n0_ := Aside0.mk (Kd.R_below (by (with_reducible repeat apply Kd.R_drewN); exact HO423.out) hb); have n1_ := Aside0.mk (Kd.R_below (by (with_reducible repeat apply Kd.R_drewN); exact HO431.out) hb); have n2_ := Aside0.mk (Kd.R_below (by (with_reducible repeat apply Kd.R_drewN); exact HO435.out) hb); have n3_ := Aside0.mk (Kd.R_below (by (with_reducible repeat apply Kd.R_drewN); exact HO442.out) hb); have n4_ := Aside0.mk (Kd.R_below (by (with_reducible repeat apply Kd.R_drewN); exact HO446.out) hb); have n5_ := Aside0.mk (Kd.R_below (by (with_reducible repeat apply Kd.R_drewN); exact HO450.out) hb); have n6_ := Aside0.mk (Kd.R_below (by (with_reducible repeat apply Kd.R_drewN); exact HO454.out) hb); have n7_ := Aside0.mk (Kd.R_below (by (with_reducible repeat apply Kd.R_drewN); exact HO457.out) hb); have n8_ := Aside0.mk (Kd.R_below (by (with_reducible repeat apply Kd.R_drewN); exact HO462.out) hb); have n9_ := Aside0.mk (below_step (by (with_reducible repeat apply pw_below_drewN); exact HB.out) hb); clear HO423; clear HO431; clear HO435; clear HO442; clear HO446; clear HO450; clear HO454; clear HO457; clear HO462; clear HB; have HO423 := n0_; have HO431 := n1_; have HO435 := n2_; have HO442 := n3_; have HO446 := n4_; have HO450 := n5_; have HO454 := n6_; have HO457 := n7_; have HO462 := n8_; have HB := n9_; clear n0_ n1_ n2_ n3_ n4_ n5_ n6_ n7_ n8_ n9_; (try clear hb); (try clear hb2); (try clear hk); (try clear hi)) | ((with_reducible refine gate_callee (f := 20) rfl ?_); refine goesL_ (some 135) rfl rfl Try.func20 (by kernel_rfl) rfl #[.int .i64 t458, .slice Ao41 t459.length co41, .int .i64 t460] rfl (by (try simp only [List.map_toArray, List.map_cons, List.map_nil]); first | done | rfl | (simp only [List.length_drop, List.length_take]; rfl)) ?_; (with_reducible refine (spec_IsSafe.calls k t458 _ _ t459 t460 t465 t466 _ ?side1 ?side2 A18.out).mono ?_); (case side1 => repeat (first | exact (Kd.R_reads' HO462.out).2.2 | (with_reducible refine Kd.C_alloc ?_ _) | (with_reducible refine Kd.C_drewN ?_ _) | (with_reducible refine Kd.C_drew ?_))); (case side2 => exact (Kd.R_reads' HO462.out).2.1); rintro e w43 ⟨rfl, hb⟩; refine ⟨_, rfl, ?_⟩; have n0_ := Aside0.mk (Kd.R_below (by (with_reducible repeat apply Kd.R_drewN); exact HO423.out) hb); have n1_ := Aside0.mk (Kd.R_below (by (with_reducible repeat apply Kd.R_drewN); exact HO431.out) hb); have n2_ := Aside0.mk (Kd.R_below (by (with_reducible repeat apply Kd.R_drewN); exact HO435.out) hb); have n3_ := Aside0.mk (Kd.R_below (by (with_reducible repeat apply Kd.R_drewN); exact HO442.out) hb); have n4_ := Aside0.mk (Kd.R_below (by (with_reducible repeat apply Kd.R_drewN); exact HO446.out) hb); have n5_ := Aside0.mk (Kd.R_below (by (with_reducible repeat apply Kd.R_drewN); exact HO450.out) hb); have n6_ := Aside0.mk (Kd.R_below (by (with_reducible repeat apply Kd.R_drewN); exact HO454.out) hb); have n7_ := Aside0.mk (Kd.R_below (by (with_reducible repeat apply Kd.R_drewN); exact HO457.out) hb); have n8_ := Aside0.mk (Kd.R_below (by (with_reducible repeat apply Kd.R_drewN); exact HO462.out) hb); have n9_ := Aside0.mk (below_step (by (with_reducible repeat apply pw_below_drewN); exact HB.out) hb); clear HO423; clear HO431; clear HO435; clear HO442; clear HO446; clear HO450; clear HO454; clear HO457; clear HO462; clear HB; have HO423 := n0_; have HO431 := n1_; have HO435 := n2_; have HO442 := n3_; have HO446 := n4_; have HO450 := n5_; have HO454 := n6_; have HO457 := n7_; have HO462 := n8_; have HB := n9_; clear n0_ n1_ n2_ n3_ n4_ n5_ n6_ n7_ n8_ n9_; (try clear hb); (try clear hb2); (try clear hk); (try clear hi)) | ((with_reducible refine gate_callee (f := 21) rfl ?_); refine goesL_ (some 142) rfl rfl Try.func21 (by kernel_rfl) rfl #[.int .i64 t458, .slice Ao41 t459.length co41, .int .i64 t460] rfl (by (try simp only [List.map_toArray, List.map_cons, List.map_nil]); first | done | rfl | (simp only [List.length_drop, List.length_take]; rfl)) ?_; (with_reducible refine (impl_VainFixed.calls k t458 _ _ t459 t460 t467 t468 _ ?side1 ?side2 A19.out).mono ?_); (case side1 => repeat (first | exact (Kd.R_reads' HO462.out).2.2 | (with_reducible refine Kd.C_alloc ?_ _) | (with_reducible refine Kd.C_drewN ?_ _) | (with_reducible refine Kd.C_drew ?_))); (case side2 => exact (Kd.R_reads' HO462.out).2.1); rintro e w44 ⟨v469, rfl, ho0, hb⟩; refine ⟨_, rfl, ?_⟩; have n0_ := Aside0.mk (Kd.R_elder' (by (with_reducible repeat apply Kd.R_drewN); exact HO423.out) (Kd.R_base ho0) hb); have n1_ := Aside0.mk (Kd.R_elder' (by (with_reducible repeat apply Kd.R_drewN); exact HO431.out) (Kd.R_base ho0) hb); have n2_ := Aside0.mk (Kd.R_elder' (by (with_reducible repeat apply Kd.R_drewN); exact HO435.out) (Kd.R_base ho0) hb); have n3_ := Aside0.mk (Kd.R_below (by (with_reducible repeat apply Kd.R_drewN); exact HO442.out) hb); have n4_ := Aside0.mk (Kd.R_elder' (by (with_reducible repeat apply Kd.R_drewN); exact HO446.out) (Kd.R_base ho0) hb); have n5_ := Aside0.mk (Kd.R_elder' (by (with_reducible repeat apply Kd.R_drewN); exact HO450.out) (Kd.R_base ho0) hb); have n6_ := Aside0.mk (Kd.R_elder' (by (with_reducible repeat apply Kd.R_drewN); exact HO454.out) (Kd.R_base ho0) hb); have n7_ := Aside0.mk (Kd.R_below (by (with_reducible repeat apply Kd.R_drewN); exact HO457.out) hb); have n8_ := Aside0.mk (Kd.R_elder' (by (with_reducible repeat apply Kd.R_drewN); exact HO462.out) (Kd.R_base ho0) hb); have n9_ := Aside0.mk (Kd.R_lower (Kd.R_new' (Kd.R_new' (Kd.R_new' (Kd.R_new' (Kd.R_new' (Kd.R_new' (Kd.R_new' ho0 (Kd.R_lt (by (with_reducible repeat apply Kd.R_drewN); exact HO423.out))) (Kd.R_lt (by (with_reducible repeat apply Kd.R_drewN); exact HO431.out))) (Kd.R_lt (by (with_reducible repeat apply Kd.R_drewN); exact HO435.out))) (Kd.R_lt (by (with_reducible repeat apply Kd.R_drewN); exact HO446.out))) (Kd.R_lt (by (with_reducible repeat apply Kd.R_drewN); exact HO450.out))) (Kd.R_lt (by (with_reducible repeat apply Kd.R_drewN); exact HO454.out))) (Kd.R_lt (by (with_reducible repeat apply Kd.R_drewN); exact HO462.out))) (below_size (by (with_reducible repeat apply pw_below_drewN); exact HB.out))); have n10_ := Aside0.mk (below_step (by (with_reducible repeat apply pw_below_drewN); exact HB.out) hb); clear HO423; clear HO431; clear HO435; clear HO442; clear HO446; clear HO450; clear HO454; clear HO457; clear HO462; clear HB; have HO423 := n0_; have HO431 := n1_; have HO435 := n2_; have HO442 := n3_; have HO446 := n4_; have HO450 := n5_; have HO454 := n6_; have HO457 := n7_; have HO462 := n8_; have HO470 := n9_; have HB := n10_; clear n0_ n1_ n2_ n3_ n4_ n5_ n6_ n7_ n8_ n9_ n10_; (try clear hb); (try clear hb2); (try clear hk); (try clear hi); (try clear ho0)))
      as_aux_lemma =>
       go_upto_region 21 with (first | ((with_reducible refine gate_callee (f := 22) rfl ?_); refine goesL_ (some 149) rfl rfl Try.func22 (by kernel_rfl) rfl #[.int .i64 t458, .slice Ao41 t459.length co41, .int .i64 t460] rfl (by (try simp only [List.map_toArray, List.map_cons, List.map_nil]); first | done | rfl | (simp only [List.length_drop, List.length_take]; rfl)) ?_; (with_reducible refine (spec_VainFixed.calls k t458 _ _ t459 t460 t471 t472 _ ?side1 ?side2 A20.out).mono ?_); (case side1 => repeat (first | exact (Kd.R_reads' HO462.out).2.2 | (with_reducible refine Kd.C_alloc ?_ _) | (with_reducible refine Kd.C_drewN ?_ _) | (with_reducible refine Kd.C_drew ?_))); (case side2 => exact (Kd.R_reads' HO462.out).2.1); rintro e w45 ⟨v473, rfl, ho0, hb⟩; refine ⟨_, rfl, ?_⟩; have n0_ := Aside0.mk (Kd.R_elder' (by (with_reducible repeat apply Kd.R_drewN); exact HO423.out) (Kd.R_base ho0) hb); have n1_ := Aside0.mk (Kd.R_elder' (by (with_reducible repeat apply Kd.R_drewN); exact HO431.out) (Kd.R_base ho0) hb); have n2_ := Aside0.mk (Kd.R_elder' (by (with_reducible repeat apply Kd.R_drewN); exact HO435.out) (Kd.R_base ho0) hb); have n3_ := Aside0.mk (Kd.R_below (by (with_reducible repeat apply Kd.R_drewN); exact HO442.out) hb); have n4_ := Aside0.mk (Kd.R_elder' (by (with_reducible repeat apply Kd.R_drewN); exact HO446.out) (Kd.R_base ho0) hb); have n5_ := Aside0.mk (Kd.R_elder' (by (with_reducible repeat apply Kd.R_drewN); exact HO450.out) (Kd.R_base ho0) hb); have n6_ := Aside0.mk (Kd.R_elder' (by (with_reducible repeat apply Kd.R_drewN); exact HO454.out) (Kd.R_base ho0) hb); have n7_ := Aside0.mk (Kd.R_below (by (with_reducible repeat apply Kd.R_drewN); exact HO457.out) hb); have n8_ := Aside0.mk (Kd.R_elder' (by (with_reducible repeat apply Kd.R_drewN); exact HO462.out) (Kd.R_base ho0) hb); have n9_ := Aside0.mk (Kd.R_elder' (by (with_reducible repeat apply Kd.R_drewN); exact HO470.out) (Kd.R_base ho0) hb); have n10_ := Aside0.mk (Kd.R_lower (Kd.R_new' (Kd.R_new' (Kd.R_new' (Kd.R_new' (Kd.R_new' (Kd.R_new' (Kd.R_new' (Kd.R_new' ho0 (Kd.R_lt (by (with_reducible repeat apply Kd.R_drewN); exact HO423.out))) (Kd.R_lt (by (with_reducible repeat apply Kd.R_drewN); exact HO431.out))) (Kd.R_lt (by (with_reducible repeat apply Kd.R_drewN); exact HO435.out))) (Kd.R_lt (by (with_reducible repeat apply Kd.R_drewN); exact HO446.out))) (Kd.R_lt (by (with_reducible repeat apply Kd.R_drewN); exact HO450.out))) (Kd.R_lt (by (with_reducible repeat apply Kd.R_drewN); exact HO454.out))) (Kd.R_lt (by (with_reducible repeat apply Kd.R_drewN); exact HO462.out))) (Kd.R_lt (by (with_reducible repeat apply Kd.R_drewN); exact HO470.out))) (below_size (by (with_reducible repeat apply pw_below_drewN); exact HB.out))); have n11_ := Aside0.mk (below_step (by (with_reducible repeat apply pw_below_drewN); exact HB.out) hb); clear HO423; clear HO431; clear HO435; clear HO442; clear HO446; clear HO450; clear HO454; clear HO457; clear HO462; clear HO470; clear HB; have HO423 := n0_; have HO431 := n1_; have HO435 := n2_; have HO442 := n3_; have HO446 := n4_; have HO450 := n5_; have HO454 := n6_; have HO457 := n7_; have HO462 := n8_; have HO470 := n9_; have HO474 := n10_; have HB := n11_; clear n0_ n1_ n2_ n3_ n4_ n5_ n6_ n7_ n8_ n9_ n10_ n11_; (try clear hb); (try clear hb2); (try clear hk); (try clear hi); (try clear ho0)) | ((with_reducible refine gate_callee (f := 23) rfl ?_); refine goesL_ (some 154) rfl rfl Try.func23 (by kernel_rfl) rfl #[.slice A0 l0.length c0] rfl (by (try simp only [List.map_toArray, List.map_cons, List.map_nil]); first | done | rfl | (simp only [List.length_drop, List.length_take]; rfl)) ?_; (with_reducible refine (spec_DrawCountUntold.calls k _ _ l0 t475 t476 t477 _ ?side1 ?side2 A21.out).mono ?_); (case side1 => repeat (first | exact (Kd.C_below HR0.out HB.out) | (with_reducible refine Kd.C_alloc ?_ _) | (with_reducible refine Kd.C_drewN ?_ _) | (with_reducible refine Kd.C_drew ?_))); (case side2 => exact HC0.out); rintro e w46 ⟨v478, rfl, ho0, hb⟩; refine ⟨_, rfl, ?_⟩; have n0_ := Aside0.mk (Kd.R_elder' (by (with_reducible repeat apply Kd.R_drewN); exact HO423.out) (Kd.R_base ho0) hb); have n1_ := Aside0.mk (Kd.R_elder' (by (with_reducible repeat apply Kd.R_drewN); exact HO431.out) (Kd.R_base ho0) hb); have n2_ := Aside0.mk (Kd.R_elder' (by (with_reducible repeat apply Kd.R_drewN); exact HO435.out) (Kd.R_base ho0) hb); have n3_ := Aside0.mk (Kd.R_below (by (with_reducible repeat apply Kd.R_drewN); exact HO442.out) hb); have n4_ := Aside0.mk (Kd.R_elder' (by (with_reducible repeat apply Kd.R_drewN); exact HO446.out) (Kd.R_base ho0) hb); have n5_ := Aside0.mk (Kd.R_elder' (by (with_reducible repeat apply Kd.R_drewN); exact HO450.out) (Kd.R_base ho0) hb); have n6_ := Aside0.mk (Kd.R_elder' (by (with_reducible repeat apply Kd.R_drewN); exact HO454.out) (Kd.R_base ho0) hb); have n7_ := Aside0.mk (Kd.R_below (by (with_reducible repeat apply Kd.R_drewN); exact HO457.out) hb); have n8_ := Aside0.mk (Kd.R_elder' (by (with_reducible repeat apply Kd.R_drewN); exact HO462.out) (Kd.R_base ho0) hb); have n9_ := Aside0.mk (Kd.R_elder' (by (with_reducible repeat apply Kd.R_drewN); exact HO470.out) (Kd.R_base ho0) hb); have n10_ := Aside0.mk (Kd.R_elder' (by (with_reducible repeat apply Kd.R_drewN); exact HO474.out) (Kd.R_base ho0) hb); have n11_ := Aside0.mk (Kd.R_lower (Kd.R_new' (Kd.R_new' (Kd.R_new' (Kd.R_new' (Kd.R_new' (Kd.R_new' (Kd.R_new' (Kd.R_new' (Kd.R_new' ho0 (Kd.R_lt (by (with_reducible repeat apply Kd.R_drewN); exact HO423.out))) (Kd.R_lt (by (with_reducible repeat apply Kd.R_drewN); exact HO431.out))) (Kd.R_lt (by (with_reducible repeat apply Kd.R_drewN); exact HO435.out))) (Kd.R_lt (by (with_reducible repeat apply Kd.R_drewN); exact HO446.out))) (Kd.R_lt (by (with_reducible repeat apply Kd.R_drewN); exact HO450.out))) (Kd.R_lt (by (with_reducible repeat apply Kd.R_drewN); exact HO454.out))) (Kd.R_lt (by (with_reducible repeat apply Kd.R_drewN); exact HO462.out))) (Kd.R_lt (by (with_reducible repeat apply Kd.R_drewN); exact HO470.out))) (Kd.R_lt (by (with_reducible repeat apply Kd.R_drewN); exact HO474.out))) (below_size (by (with_reducible repeat apply pw_below_drewN); exact HB.out))); have n12_ := Aside0.mk (below_step (by (with_reducible repeat apply pw_below_drewN); exact HB.out) hb); clear HO423; clear HO431; clear HO435; clear HO442; clear HO446; clear HO450; clear HO454; clear HO457; clear HO462; clear HO470; clear HO474; clear HB; have HO423 := n0_; have HO431 := n1_; have HO435 := n2_; have HO442 := n3_; have HO446 := n4_; have HO450 := n5_; have HO454 := n6_; have HO457 := n7_; have HO462 := n8_; have HO470 := n9_; have HO474 := n10_; have HO479 := n11_; have HB := n12_; clear n0_ n1_ n2_ n3_ n4_ n5_ n6_ n7_ n8_ n9_ n10_ n11_ n12_; (try clear hb); (try clear hb2); (try clear hk); (try clear hi); (try clear ho0); obtain ⟨Ao47, co47, eo47⟩ := Kd.R_slice HO479.out; subst eo47) | ((with_reducible refine gate_callee (f := 24) rfl ?_); refine goesL_ (some 162) rfl rfl Try.func24 (by kernel_rfl) rfl #[.int .i64 t475, .slice Ao47 t476.length co47, .int .i64 t477] rfl (by (try simp only [List.map_toArray, List.map_cons, List.map_nil]); first | done | rfl | (simp only [List.length_drop, List.length_take]; rfl)) ?_; (with_reducible refine (impl_CountUntold.calls k t475 _ _ t476 t477 t480 t481 _ ?side1 ?side2 A22.out).mono ?_); (case side1 => repeat (first | exact (Kd.R_reads' HO479.out).2.2 | (with_reducible refine Kd.C_alloc ?_ _) | (with_reducible refine Kd.C_drewN ?_ _) | (with_reducible refine Kd.C_drew ?_))); (case side2 => exact (Kd.R_reads' HO479.out).2.1); rintro e w48 ⟨rfl, hb⟩; refine ⟨_, rfl, ?_⟩; have n0_ := Aside0.mk (Kd.R_below (by (with_reducible repeat apply Kd.R_drewN); exact HO423.out) hb); have n1_ := Aside0.mk (Kd.R_below (by (with_reducible repeat apply Kd.R_drewN); exact HO431.out) hb); have n2_ := Aside0.mk (Kd.R_below (by (with_reducible repeat apply Kd.R_drewN); exact HO435.out) hb); have n3_ := Aside0.mk (Kd.R_below (by (with_reducible repeat apply Kd.R_drewN); exact HO442.out) hb); have n4_ := Aside0.mk (Kd.R_below (by (with_reducible repeat apply Kd.R_drewN); exact HO446.out) hb); have n5_ := Aside0.mk (Kd.R_below (by (with_reducible repeat apply Kd.R_drewN); exact HO450.out) hb); have n6_ := Aside0.mk (Kd.R_below (by (with_reducible repeat apply Kd.R_drewN); exact HO454.out) hb); have n7_ := Aside0.mk (Kd.R_below (by (with_reducible repeat apply Kd.R_drewN); exact HO457.out) hb); have n8_ := Aside0.mk (Kd.R_below (by (with_reducible repeat apply Kd.R_drewN); exact HO462.out) hb); have n9_ := Aside0.mk (Kd.R_below (by (with_reducible repeat apply Kd.R_drewN); exact HO470.out) hb); have n10_ := Aside0.mk (Kd.R_below (by (with_reducible repeat apply Kd.R_drewN); exact HO474.out) hb); have n11_ := Aside0.mk (Kd.R_below (by (with_reducible repeat apply Kd.R_drewN); exact HO479.out) hb); have n12_ := Aside0.mk (below_step (by (with_reducible repeat apply pw_below_drewN); exact HB.out) hb); clear HO423; clear HO431; clear HO435; clear HO442; clear HO446; clear HO450; clear HO454; clear HO457; clear HO462; clear HO470; clear HO474; clear HO479; clear HB; have HO423 := n0_; have HO431 := n1_; have HO435 := n2_; have HO442 := n3_; have HO446 := n4_; have HO450 := n5_; have HO454 := n6_; have HO457 := n7_; have HO462 := n8_; have HO470 := n9_; have HO474 := n10_; have HO479 := n11_; have HB := n12_; clear n0_ n1_ n2_ n3_ n4_ n5_ n6_ n7_ n8_ n9_ n10_ n11_ n12_; (try clear hb); (try clear hb2); (try clear hk); (try clear hi)) | ((with_reducible refine gate_callee (f := 25) rfl ?_); refine goesL_ (some 169) rfl rfl Try.func25 (by kernel_rfl) rfl #[.int .i64 t475, .slice Ao47 t476.length co47, .int .i64 t477] rfl (by (try simp only [List.map_toArray, List.map_cons, List.map_nil]); first | done | rfl | (simp only [List.length_drop, List.length_take]; rfl)) ?_; (with_reducible refine (spec_CountUntold.calls k t475 _ _ t476 t477 t482 t483 _ ?side1 ?side2 A23.out).mono ?_); (case side1 => repeat (first | exact (Kd.R_reads' HO479.out).2.2 | (with_reducible refine Kd.C_alloc ?_ _) | (with_reducible refine Kd.C_drewN ?_ _) | (with_reducible refine Kd.C_drew ?_))); (case side2 => exact (Kd.R_reads' HO479.out).2.1); rintro e w49 ⟨rfl, hb⟩; refine ⟨_, rfl, ?_⟩; have n0_ := Aside0.mk (Kd.R_below (by (with_reducible repeat apply Kd.R_drewN); exact HO423.out) hb); have n1_ := Aside0.mk (Kd.R_below (by (with_reducible repeat apply Kd.R_drewN); exact HO431.out) hb); have n2_ := Aside0.mk (Kd.R_below (by (with_reducible repeat apply Kd.R_drewN); exact HO435.out) hb); have n3_ := Aside0.mk (Kd.R_below (by (with_reducible repeat apply Kd.R_drewN); exact HO442.out) hb); have n4_ := Aside0.mk (Kd.R_below (by (with_reducible repeat apply Kd.R_drewN); exact HO446.out) hb); have n5_ := Aside0.mk (Kd.R_below (by (with_reducible repeat apply Kd.R_drewN); exact HO450.out) hb); have n6_ := Aside0.mk (Kd.R_below (by (with_reducible repeat apply Kd.R_drewN); exact HO454.out) hb); have n7_ := Aside0.mk (Kd.R_below (by (with_reducible repeat apply Kd.R_drewN); exact HO457.out) hb); have n8_ := Aside0.mk (Kd.R_below (by (with_reducible repeat apply Kd.R_drewN); exact HO462.out) hb); have n9_ := Aside0.mk (Kd.R_below (by (with_reducible repeat apply Kd.R_drewN); exact HO470.out) hb); have n10_ := Aside0.mk (Kd.R_below (by (with_reducible repeat apply Kd.R_drewN); exact HO474.out) hb); have n11_ := Aside0.mk (Kd.R_below (by (with_reducible repeat apply Kd.R_drewN); exact HO479.out) hb); have n12_ := Aside0.mk (below_step (by (with_reducible repeat apply pw_below_drewN); exact HB.out) hb); clear HO423; clear HO431; clear HO435; clear HO442; clear HO446; clear HO450; clear HO454; clear HO457; clear HO462; clear HO470; clear HO474; clear HO479; clear HB; have HO423 := n0_; have HO431 := n1_; have HO435 := n2_; have HO442 := n3_; have HO446 := n4_; have HO450 := n5_; have HO454 := n6_; have HO457 := n7_; have HO462 := n8_; have HO470 := n9_; have HO474 := n10_; have HO479 := n11_; have HB := n12_; clear n0_ n1_ n2_ n3_ n4_ n5_ n6_ n7_ n8_ n9_ n10_ n11_ n12_; (try clear hb); (try clear hb2); (try clear hk); (try clear hi)))
       (try simp only [Act.put, List.setIfInBounds_toArray, List.set_cons_zero, List.set_cons_succ])
       go_cut [275] (fun v275 wc => ∃ (kq : Nat) (x275_23 : Bool), v275 = .bool x275_23 ∧ Aside0 (laws_FnSchemes.j0 kq t419 t420 t421 t424 t425 t428 t429 t443 t444 t447 t448 t458 t459 t460 t463 t464 t467 t476 t480 t481 x275_23 = some r) ∧ Aside0 (kq ≤ k) ∧ Aside0 (Kd.R (Kd.int .i64) 3 wc w.heap.size (fun k_ => some k_ ≠ (v430 : Value).ownBlock ∧ some k_ ≠ ((.slice Ao35 t443.length co35) : Value).ownBlock ∧ some k_ ≠ (v449 : Value).ownBlock ∧ some k_ ≠ ((.slice Ao41 t459.length co41) : Value).ownBlock ∧ some k_ ≠ (v469 : Value).ownBlock ∧ some k_ ≠ ((.slice Ao47 t476.length co47) : Value).ownBlock) (.slice Ao26 t420.length co26) t420) ∧ Aside0 (Kd.R (Kd.int .i64) 3 wc w.heap.size (fun k_ => some k_ ≠ ((.slice Ao26 t420.length co26) : Value).ownBlock ∧ some k_ ≠ ((.slice Ao35 t443.length co35) : Value).ownBlock ∧ some k_ ≠ (v449 : Value).ownBlock ∧ some k_ ≠ ((.slice Ao41 t459.length co41) : Value).ownBlock ∧ some k_ ≠ (v469 : Value).ownBlock ∧ some k_ ≠ ((.slice Ao47 t476.length co47) : Value).ownBlock) v430 t428) ∧ Aside0 (Kd.R (Kd.int .i64) 3 wc w.heap.size (fun k_ => some k_ ≠ ((.slice Ao26 t420.length co26) : Value).ownBlock ∧ some k_ ≠ (v430 : Value).ownBlock ∧ some k_ ≠ (v449 : Value).ownBlock ∧ some k_ ≠ ((.slice Ao41 t459.length co41) : Value).ownBlock ∧ some k_ ≠ (v469 : Value).ownBlock ∧ some k_ ≠ ((.slice Ao47 t476.length co47) : Value).ownBlock) (.slice Ao35 t443.length co35) t443) ∧ Aside0 (Kd.R (Kd.int .i64) 3 wc w.heap.size (fun k_ => some k_ ≠ ((.slice Ao26 t420.length co26) : Value).ownBlock ∧ some k_ ≠ (v430 : Value).ownBlock ∧ some k_ ≠ ((.slice Ao35 t443.length co35) : Value).ownBlock ∧ some k_ ≠ ((.slice Ao41 t459.length co41) : Value).ownBlock ∧ some k_ ≠ (v469 : Value).ownBlock ∧ some k_ ≠ ((.slice Ao47 t476.length co47) : Value).ownBlock) v449 t447) ∧ Aside0 (Kd.R (Kd.int .i64) 3 wc w.heap.size (fun k_ => some k_ ≠ ((.slice Ao26 t420.length co26) : Value).ownBlock ∧ some k_ ≠ (v430 : Value).ownBlock ∧ some k_ ≠ ((.slice Ao35 t443.length co35) : Value).ownBlock ∧ some k_ ≠ (v449 : Value).ownBlock ∧ some k_ ≠ (v469 : Value).ownBlock ∧ some k_ ≠ ((.slice Ao47 t476.length co47) : Value).ownBlock) (.slice Ao41 t459.length co41) t459) ∧ Aside0 (Kd.R (Kd.int .i64) 3 wc w.heap.size (fun k_ => some k_ ≠ ((.slice Ao26 t420.length co26) : Value).ownBlock ∧ some k_ ≠ (v430 : Value).ownBlock ∧ some k_ ≠ ((.slice Ao35 t443.length co35) : Value).ownBlock ∧ some k_ ≠ (v449 : Value).ownBlock ∧ some k_ ≠ ((.slice Ao41 t459.length co41) : Value).ownBlock ∧ some k_ ≠ ((.slice Ao47 t476.length co47) : Value).ownBlock) v469 t467) ∧ Aside0 (Kd.R (Kd.int .i64) 3 wc w.heap.size (fun k_ => some k_ ≠ ((.slice Ao26 t420.length co26) : Value).ownBlock ∧ some k_ ≠ (v430 : Value).ownBlock ∧ some k_ ≠ ((.slice Ao35 t443.length co35) : Value).ownBlock ∧ some k_ ≠ (v449 : Value).ownBlock ∧ some k_ ≠ ((.slice Ao41 t459.length co41) : Value).ownBlock ∧ some k_ ≠ (v469 : Value).ownBlock) (.slice Ao47 t476.length co47) t476) ∧ Aside0 (Below w.heap.size w wc))
       case first =>
        as_aux_lemma =>
         have H := HC24.out
         clear HC24
         by_cases c50 : t424 = t426
         ·
          rw [if_pos c50] at H
          have c50b0 : (t424 == t426) = true := beq_iff_eq.mpr c50
          have c50b1 : (t424 != t426) = false := bne_eq_false_iff_eq.mpr c50
          clear c50
          (first | rw [c50b0] | (simp only [i64_w, i32_w]; rw [c50b0]) | skip)
          by_cases c51 : (t425 != t427) = true
          ·
           rw [if_pos c51] at H
           exact absurd H (by simp)
          ·
           rw [if_neg c51] at H
           have c51b0 : (t425 != t427) = false := by simpa using c51
           (try (have c51b1 : decide (t425 = t427) = true := by simpa using c51))
           (try (have c51b2 : (t425 == t427) = true := by simpa using c51))
           clear c51
           by_cases c52 : (t429 != t433) = true
           ·
            rw [if_pos c52] at H
            exact absurd H (by simp)
           ·
            rw [if_neg c52] at H
            have c52b0 : (t429 != t433) = false := by simpa using c52
            (try (have c52b1 : decide (t429 = t433) = true := by simpa using c52))
            (try (have c52b2 : (t429 == t433) = true := by simpa using c52))
            clear c52
            replace H := Option.bind_eq_some_iff.mp H
            obtain ⟨t484, A530, H⟩ := H
            try dsimp only at H
            have A53 := Aside0.mk A530
            clear A530
            by_cases c54 : t484 = true
            ·
             subst c54
             rw [if_pos rfl] at H
             by_cases c55 : t436 = t438
             ·
              rw [if_pos c55] at H
              have c55b0 : (t436 == t438) = true := beq_iff_eq.mpr c55
              have c55b1 : (t436 != t438) = false := bne_eq_false_iff_eq.mpr c55
              clear c55
              by_cases c56 : (t437 != t439) = true
              ·
               rw [if_pos c56] at H
               exact absurd H (by simp)
              ·
               rw [if_neg c56] at H
               have c56b0 : (t437 != t439) = false := by simpa using c56
               (try (have c56b1 : decide (t437 = t439) = true := by simpa using c56))
               (try (have c56b2 : (t437 == t439) = true := by simpa using c56))
               clear c56
               by_cases c59 : (t448 != t452) = true
               ·
                rw [if_pos c59] at H
                exact absurd H (by simp)
               ·
                rw [if_neg c59] at H
                have c59b0 : (t448 != t452) = false := by simpa using c59
                (try (have c59b1 : decide (t448 = t452) = true := by simpa using c59))
                (try (have c59b2 : (t448 == t452) = true := by simpa using c59))
                clear c59
                replace H := Option.bind_eq_some_iff.mp H
                obtain ⟨t485, A620, H⟩ := H
                try dsimp only at H
                have A62 := Aside0.mk A620
                clear A620
                by_cases c63 : t485 = true
                ·
                 subst c63
                 rw [if_pos rfl] at H
                 by_cases c64 : (t463 != t465) = true
                 ·
                  rw [if_pos c64] at H
                  exact absurd H (by simp)
                 ·
                  rw [if_neg c64] at H
                  have c64b0 : (t463 != t465) = false := by simpa using c64
                  (try (have c64b1 : decide (t463 = t465) = true := by simpa using c64))
                  (try (have c64b2 : (t463 == t465) = true := by simpa using c64))
                  clear c64
                  by_cases c69 : (t464 != t466) = true
                  ·
                   rw [if_pos c69] at H
                   exact absurd H (by simp)
                  ·
                   rw [if_neg c69] at H
                   have c69b0 : (t464 != t466) = false := by simpa using c69
                   (try (have c69b1 : decide (t464 = t466) = true := by simpa using c69))
                   (try (have c69b2 : (t464 == t466) = true := by simpa using c69))
                   clear c69
                   by_cases c74 : (t468 != t472) = true
                   ·
                    rw [if_pos c74] at H
                    exact absurd H (by simp)
                   ·
                    rw [if_neg c74] at H
                    have c74b0 : (t468 != t472) = false := by simpa using c74
                    (try (have c74b1 : decide (t468 = t472) = true := by simpa using c74))
                    (try (have c74b2 : (t468 == t472) = true := by simpa using c74))
                    clear c74
                    replace H := Option.bind_eq_some_iff.mp H
                    obtain ⟨t486, A790, H⟩ := H
                    try dsimp only at H
                    have A79 := Aside0.mk A790
                    clear A790
                    by_cases c80 : t486 = true
                    ·
                     subst c80
                     rw [if_pos rfl] at H
                     by_cases c81 : t480 = t482
                     ·
                      rw [if_pos c81] at H
                      have c81b0 : (t480 == t482) = true := beq_iff_eq.mpr c81
                      have c81b1 : (t480 != t482) = false := bne_eq_false_iff_eq.mpr c81
                      clear c81
                      by_cases c82 : (t481 != t483) = true
                      ·
                       rw [if_pos c82] at H
                       exact absurd H (by simp)
                      ·
                       rw [if_neg c82] at H
                       have c82b0 : (t481 != t483) = false := by simpa using c82
                       (try (have c82b1 : decide (t481 = t483) = true := by simpa using c82))
                       (try (have c82b2 : (t481 == t483) = true := by simpa using c82))
                       clear c82
                       replace H := Option.bind_eq_some_iff.mp H
                       obtain ⟨t487, A890, H⟩ := H
                       try dsimp only at H
                       have A89 := Aside0.mk A890
                       clear A890
                       replace H := Option.bind_eq_some_iff.mp H
                       obtain ⟨t488, A900, H⟩ := H
                       try dsimp only at H
                       have A90 := Aside0.mk A900
                       clear A900
                       by_cases c91 : (t487 != t488) = true
                       ·
                        rw [if_pos c91] at H
                        exact absurd H (by simp)
                       ·
                        rw [if_neg c91] at H
                        have c91b0 : (t487 != t488) = false := by simpa using c91
                        (try (have c91b1 : decide (t487 = t488) = true := by simpa using c91))
                        (try (have c91b2 : (t487 == t488) = true := by simpa using c91))
                        clear c91
                        replace H := Option.bind_eq_some_iff.mp H
                        obtain ⟨t489, A990, H⟩ := H
                        try dsimp only at H
                        have A99 := Aside0.mk A990
                        clear A990
                        have e_ : t489 = t487 := Option.some.inj ((A99.out).symm.trans A89.out)
                        subst e_
                        by_cases c100 : (t429 != t489) = true
                        ·
                         rw [if_pos c100] at H
                         exact absurd H (by simp)
                        ·
                         rw [if_neg c100] at H
                         have c100b0 : (t429 != t489) = false := by simpa using c100
                         (try (have c100b1 : decide (t429 = t489) = true := by simpa using c100))
                         (try (have c100b2 : (t429 == t489) = true := by simpa using c100))
                         clear c100
                         by_cases c109 : (t429 != t437) = true
                         ·
                          rw [if_pos c109] at H
                          exact absurd H (by simp)
                         ·
                          rw [if_neg c109] at H
                          have c109b0 : (t429 != t437) = false := by simpa using c109
                          (try (have c109b1 : decide (t429 = t437) = true := by simpa using c109))
                          (try (have c109b2 : (t429 == t437) = true := by simpa using c109))
                          clear c109
                          by_cases c118 : t425 = true
                          ·
                           subst c118
                           rw [if_pos rfl] at H
                           by_cases c119 : t429 = true
                           ·
                            subst c119
                            rw [if_pos rfl] at H
                            have H' := Aside0.mk H
                            clear H
                            obtain ⟨Ao120, co120, eo120⟩ := Kd.R_slice HO431.out
                            subst eo120
                            obtain ⟨Ao121, co121, eo121⟩ := Kd.R_slice HO435.out
                            subst eo121
                            as_aux_lemma =>
                             go_wp2_with (first | (go_at_call 26; (with_reducible refine (laws_vInts.calls k _ _ t428 _ _ t432 true _ ?side1 ?side2 ?side3 ?side4 A53.out).mono ?_); (case side1 => repeat (first | exact (Kd.R_reads' HO431.out).2.2 | (with_reducible refine Kd.C_alloc ?_ _) | (with_reducible refine Kd.C_drewN ?_ _) | (with_reducible refine Kd.C_drew ?_))); (case side2 => exact (Kd.R_reads' HO431.out).2.1); (case side3 => repeat (first | exact (Kd.R_reads' HO435.out).2.2 | (with_reducible refine Kd.C_alloc ?_ _) | (with_reducible refine Kd.C_drewN ?_ _) | (with_reducible refine Kd.C_drew ?_))); (case side4 => exact (Kd.R_reads' HO435.out).2.1); rintro e w' ⟨rfl, ⟨nd, rfl⟩⟩; obtain ⟨Ao122, co122, eo122⟩ := Kd.R_slice HO450.out; subst eo122; obtain ⟨Ao123, co123, eo123⟩ := Kd.R_slice HO454.out; subst eo123) | (go_at_call 26; (with_reducible refine (laws_vInts.calls k _ _ t447 _ _ t451 true _ ?side1 ?side2 ?side3 ?side4 A62.out).mono ?_); (case side1 => repeat (first | exact (Kd.R_reads' HO450.out).2.2 | (with_reducible refine Kd.C_alloc ?_ _) | (with_reducible refine Kd.C_drewN ?_ _) | (with_reducible refine Kd.C_drew ?_))); (case side2 => exact (Kd.R_reads' HO450.out).2.1); (case side3 => repeat (first | exact (Kd.R_reads' HO454.out).2.2 | (with_reducible refine Kd.C_alloc ?_ _) | (with_reducible refine Kd.C_drewN ?_ _) | (with_reducible refine Kd.C_drew ?_))); (case side4 => exact (Kd.R_reads' HO454.out).2.1); rintro e w' ⟨rfl, ⟨nd, rfl⟩⟩; obtain ⟨Ao124, co124, eo124⟩ := Kd.R_slice HO470.out; subst eo124; obtain ⟨Ao125, co125, eo125⟩ := Kd.R_slice HO474.out; subst eo125) | (go_at_call 26; (with_reducible refine (laws_vInts.calls k _ _ t467 _ _ t471 true _ ?side1 ?side2 ?side3 ?side4 A79.out).mono ?_); (case side1 => repeat (first | exact (Kd.R_reads' HO470.out).2.2 | (with_reducible refine Kd.C_alloc ?_ _) | (with_reducible refine Kd.C_drewN ?_ _) | (with_reducible refine Kd.C_drew ?_))); (case side2 => exact (Kd.R_reads' HO470.out).2.1); (case side3 => repeat (first | exact (Kd.R_reads' HO474.out).2.2 | (with_reducible refine Kd.C_alloc ?_ _) | (with_reducible refine Kd.C_drewN ?_ _) | (with_reducible refine Kd.C_drew ?_))); (case side4 => exact (Kd.R_reads' HO474.out).2.1); rintro e w' ⟨rfl, ⟨nd, rfl⟩⟩) | (go_at_call 27; (with_reducible refine (impl_IsScheme.calls t419 _ _ t420 t487 _ ?side1 ?side2 A89.out).mono ?_); (case side1 => repeat (first | exact (Kd.R_reads' HO423.out).2.2 | (with_reducible refine Kd.C_alloc ?_ _) | (with_reducible refine Kd.C_drewN ?_ _) | (with_reducible refine Kd.C_drew ?_))); (case side2 => exact (Kd.R_reads' HO423.out).2.1); rintro e w126 ⟨rfl, hb⟩; have n0_ := Aside0.mk (Kd.R_below (by (with_reducible repeat apply Kd.R_drewN); exact HO423.out) hb); have n1_ := Aside0.mk (Kd.R_below (by (with_reducible repeat apply Kd.R_drewN); exact HO431.out) hb); have n2_ := Aside0.mk (Kd.R_below (by (with_reducible repeat apply Kd.R_drewN); exact HO435.out) hb); have n3_ := Aside0.mk (Kd.R_below (by (with_reducible repeat apply Kd.R_drewN); exact HO442.out) hb); have n4_ := Aside0.mk (Kd.R_below (by (with_reducible repeat apply Kd.R_drewN); exact HO446.out) hb); have n5_ := Aside0.mk (Kd.R_below (by (with_reducible repeat apply Kd.R_drewN); exact HO450.out) hb); have n6_ := Aside0.mk (Kd.R_below (by (with_reducible repeat apply Kd.R_drewN); exact HO454.out) hb); have n7_ := Aside0.mk (Kd.R_below (by (with_reducible repeat apply Kd.R_drewN); exact HO457.out) hb); have n8_ := Aside0.mk (Kd.R_below (by (with_reducible repeat apply Kd.R_drewN); exact HO462.out) hb); have n9_ := Aside0.mk (Kd.R_below (by (with_reducible repeat apply Kd.R_drewN); exact HO470.out) hb); have n10_ := Aside0.mk (Kd.R_below (by (with_reducible repeat apply Kd.R_drewN); exact HO474.out) hb); have n11_ := Aside0.mk (Kd.R_below (by (with_reducible repeat apply Kd.R_drewN); exact HO479.out) hb); have n12_ := Aside0.mk (below_step (by (with_reducible repeat apply pw_below_drewN); exact HB.out) hb); clear HO423; clear HO431; clear HO435; clear HO442; clear HO446; clear HO450; clear HO454; clear HO457; clear HO462; clear HO470; clear HO474; clear HO479; clear HB; have HO423 := n0_; have HO431 := n1_; have HO435 := n2_; have HO442 := n3_; have HO446 := n4_; have HO450 := n5_; have HO454 := n6_; have HO457 := n7_; have HO462 := n8_; have HO470 := n9_; have HO474 := n10_; have HO479 := n11_; have HB := n12_; clear n0_ n1_ n2_ n3_ n4_ n5_ n6_ n7_ n8_ n9_ n10_ n11_ n12_; (try clear hb); (try clear hb2); (try clear hk); (try clear hi)) | (go_at_call 28; (with_reducible refine (spec_IsScheme.calls k t419 _ _ t420 t488 _ ?side1 ?side2 A90.out).mono ?_); (case side1 => repeat (first | exact (Kd.R_reads' HO423.out).2.2 | (with_reducible refine Kd.C_alloc ?_ _) | (with_reducible refine Kd.C_drewN ?_ _) | (with_reducible refine Kd.C_drew ?_))); (case side2 => exact (Kd.R_reads' HO423.out).2.1); rintro e w' ⟨rfl, ⟨nd, rfl⟩⟩) | (go_at_call 27; (with_reducible refine (impl_IsScheme.calls t419 _ _ t420 t489 _ ?side1 ?side2 A99.out).mono ?_); (case side1 => repeat (first | exact (Kd.R_reads' HO423.out).2.2 | (with_reducible refine Kd.C_alloc ?_ _) | (with_reducible refine Kd.C_drewN ?_ _) | (with_reducible refine Kd.C_drew ?_))); (case side2 => exact (Kd.R_reads' HO423.out).2.1); rintro e w127 ⟨rfl, hb⟩; have n0_ := Aside0.mk (Kd.R_below (by (with_reducible repeat apply Kd.R_drewN); exact HO423.out) hb); have n1_ := Aside0.mk (Kd.R_below (by (with_reducible repeat apply Kd.R_drewN); exact HO431.out) hb); have n2_ := Aside0.mk (Kd.R_below (by (with_reducible repeat apply Kd.R_drewN); exact HO435.out) hb); have n3_ := Aside0.mk (Kd.R_below (by (with_reducible repeat apply Kd.R_drewN); exact HO442.out) hb); have n4_ := Aside0.mk (Kd.R_below (by (with_reducible repeat apply Kd.R_drewN); exact HO446.out) hb); have n5_ := Aside0.mk (Kd.R_below (by (with_reducible repeat apply Kd.R_drewN); exact HO450.out) hb); have n6_ := Aside0.mk (Kd.R_below (by (with_reducible repeat apply Kd.R_drewN); exact HO454.out) hb); have n7_ := Aside0.mk (Kd.R_below (by (with_reducible repeat apply Kd.R_drewN); exact HO457.out) hb); have n8_ := Aside0.mk (Kd.R_below (by (with_reducible repeat apply Kd.R_drewN); exact HO462.out) hb); have n9_ := Aside0.mk (Kd.R_below (by (with_reducible repeat apply Kd.R_drewN); exact HO470.out) hb); have n10_ := Aside0.mk (Kd.R_below (by (with_reducible repeat apply Kd.R_drewN); exact HO474.out) hb); have n11_ := Aside0.mk (Kd.R_below (by (with_reducible repeat apply Kd.R_drewN); exact HO479.out) hb); have n12_ := Aside0.mk (below_step (by (with_reducible repeat apply pw_below_drewN); exact HB.out) hb); clear HO423; clear HO431; clear HO435; clear HO442; clear HO446; clear HO450; clear HO454; clear HO457; clear HO462; clear HO470; clear HO474; clear HO479; clear HB; have HO423 := n0_; have HO431 := n1_; have HO435 := n2_; have HO442 := n3_; have HO446 := n4_; have HO450 := n5_; have HO454 := n6_; have HO457 := n7_; have HO462 := n8_; have HO470 := n9_; have HO474 := n10_; have HO479 := n11_; have HB := n12_; clear n0_ n1_ n2_ n3_ n4_ n5_ n6_ n7_ n8_ n9_ n10_ n11_ n12_; (try clear hb); (try clear hb2); (try clear hk); (try clear hi)))
                             go_meet
                             case rel => exact ⟨_, ((t464 != t468)), (by first | rfl | (simp; done) | (simp [*]; done)), H', ⟨by first | omega | exact Nat.le_refl _⟩, ⟨by (with_reducible repeat apply Kd.R_drewN); exact Kd.R_mono HO423.out (fun _ hk => ⟨hk.1.1.1.1.1.1.1.1.2, ⟨hk.1.1.1.1.1.1.2, ⟨hk.1.1.1.1.1.2, ⟨hk.1.1.1.2, ⟨hk.1.1.2, hk.2⟩⟩⟩⟩⟩)⟩, ⟨by (with_reducible repeat apply Kd.R_drewN); exact Kd.R_mono HO431.out (fun _ hk => ⟨hk.1.1.1.1.1.1.1.1.2, ⟨hk.1.1.1.1.1.1.2, ⟨hk.1.1.1.1.1.2, ⟨hk.1.1.1.2, ⟨hk.1.1.2, hk.2⟩⟩⟩⟩⟩)⟩, ⟨by (with_reducible repeat apply Kd.R_drewN); exact Kd.R_mono HO446.out (fun _ hk => ⟨hk.1.1.1.1.1.1.1.1.2, ⟨hk.1.1.1.1.1.1.1.2, ⟨hk.1.1.1.1.1.2, ⟨hk.1.1.1.2, ⟨hk.1.1.2, hk.2⟩⟩⟩⟩⟩)⟩, ⟨by (with_reducible repeat apply Kd.R_drewN); exact Kd.R_mono HO450.out (fun _ hk => ⟨hk.1.1.1.1.1.1.1.1.2, ⟨hk.1.1.1.1.1.1.1.2, ⟨hk.1.1.1.1.1.2, ⟨hk.1.1.1.2, ⟨hk.1.1.2, hk.2⟩⟩⟩⟩⟩)⟩, ⟨by (with_reducible repeat apply Kd.R_drewN); exact Kd.R_mono HO462.out (fun _ hk => ⟨hk.1.1.1.1.1.1.1.1.2, ⟨hk.1.1.1.1.1.1.1.2, ⟨hk.1.1.1.1.1.2, ⟨hk.1.1.1.1.2, ⟨hk.1.1.2, hk.2⟩⟩⟩⟩⟩)⟩, ⟨by (with_reducible repeat apply Kd.R_drewN); exact Kd.R_mono HO470.out (fun _ hk => ⟨hk.1.1.1.1.1.1.1.1.2, ⟨hk.1.1.1.1.1.1.1.2, ⟨hk.1.1.1.1.1.2, ⟨hk.1.1.1.1.2, ⟨hk.1.1.2, hk.2⟩⟩⟩⟩⟩)⟩, ⟨by (with_reducible repeat apply Kd.R_drewN); exact Kd.R_mono HO479.out (fun _ hk => ⟨hk.1.1.1.1.1.1.1.1.2, ⟨hk.1.1.1.1.1.1.1.2, ⟨hk.1.1.1.1.1.2, ⟨hk.1.1.1.1.2, ⟨hk.1.1.2, hk.1.2⟩⟩⟩⟩⟩)⟩, ⟨by (with_reducible repeat apply pw_below_drewN); exact HB.out⟩⟩
                           ·
                            replace c119 := Bool.eq_false_iff.mpr c119
                            subst c119
                            have H1 : (none) = some r := by rw [if_neg (show ¬ (false = true) by decide)] at H; exact H
                            exact absurd H1 (by simp)
                          ·
                           replace c118 := Bool.eq_false_iff.mpr c118
                           subst c118
                           rw [if_neg (show ¬ (false = true) by decide)] at H
                           have H' := Aside0.mk H
                           clear H
                           obtain ⟨Ao136, co136, eo136⟩ := Kd.R_slice HO431.out
                           subst eo136
                           obtain ⟨Ao137, co137, eo137⟩ := Kd.R_slice HO435.out
                           subst eo137
                           as_aux_lemma =>
                            go_wp2_with (first | (go_at_call 26; (with_reducible refine (laws_vInts.calls k _ _ t428 _ _ t432 true _ ?side1 ?side2 ?side3 ?side4 A53.out).mono ?_); (case side1 => repeat (first | exact (Kd.R_reads' HO431.out).2.2 | (with_reducible refine Kd.C_alloc ?_ _) | (with_reducible refine Kd.C_drewN ?_ _) | (with_reducible refine Kd.C_drew ?_))); (case side2 => exact (Kd.R_reads' HO431.out).2.1); (case side3 => repeat (first | exact (Kd.R_reads' HO435.out).2.2 | (with_reducible refine Kd.C_alloc ?_ _) | (with_reducible refine Kd.C_drewN ?_ _) | (with_reducible refine Kd.C_drew ?_))); (case side4 => exact (Kd.R_reads' HO435.out).2.1); rintro e w' ⟨rfl, ⟨nd, rfl⟩⟩; obtain ⟨Ao138, co138, eo138⟩ := Kd.R_slice HO450.out; subst eo138; obtain ⟨Ao139, co139, eo139⟩ := Kd.R_slice HO454.out; subst eo139) | (go_at_call 26; (with_reducible refine (laws_vInts.calls k _ _ t447 _ _ t451 true _ ?side1 ?side2 ?side3 ?side4 A62.out).mono ?_); (case side1 => repeat (first | exact (Kd.R_reads' HO450.out).2.2 | (with_reducible refine Kd.C_alloc ?_ _) | (with_reducible refine Kd.C_drewN ?_ _) | (with_reducible refine Kd.C_drew ?_))); (case side2 => exact (Kd.R_reads' HO450.out).2.1); (case side3 => repeat (first | exact (Kd.R_reads' HO454.out).2.2 | (with_reducible refine Kd.C_alloc ?_ _) | (with_reducible refine Kd.C_drewN ?_ _) | (with_reducible refine Kd.C_drew ?_))); (case side4 => exact (Kd.R_reads' HO454.out).2.1); rintro e w' ⟨rfl, ⟨nd, rfl⟩⟩; obtain ⟨Ao140, co140, eo140⟩ := Kd.R_slice HO470.out; subst eo140; obtain ⟨Ao141, co141, eo141⟩ := Kd.R_slice HO474.out; subst eo141) | (go_at_call 26; (with_reducible refine (laws_vInts.calls k _ _ t467 _ _ t471 true _ ?side1 ?side2 ?side3 ?side4 A79.out).mono ?_); (case side1 => repeat (first | exact (Kd.R_reads' HO470.out).2.2 | (with_reducible refine Kd.C_alloc ?_ _) | (with_reducible refine Kd.C_drewN ?_ _) | (with_reducible refine Kd.C_drew ?_))); (case side2 => exact (Kd.R_reads' HO470.out).2.1); (case side3 => repeat (first | exact (Kd.R_reads' HO474.out).2.2 | (with_reducible refine Kd.C_alloc ?_ _) | (with_reducible refine Kd.C_drewN ?_ _) | (with_reducible refine Kd.C_drew ?_))); (case side4 => exact (Kd.R_reads' HO474.out).2.1); rintro e w' ⟨rfl, ⟨nd, rfl⟩⟩) | (go_at_call 27; (with_reducible refine (impl_IsScheme.calls t419 _ _ t420 t487 _ ?side1 ?side2 A89.out).mono ?_); (case side1 => repeat (first | exact (Kd.R_reads' HO423.out).2.2 | (with_reducible refine Kd.C_alloc ?_ _) | (with_reducible refine Kd.C_drewN ?_ _) | (with_reducible refine Kd.C_drew ?_))); (case side2 => exact (Kd.R_reads' HO423.out).2.1); rintro e w142 ⟨rfl, hb⟩; have n0_ := Aside0.mk (Kd.R_below (by (with_reducible repeat apply Kd.R_drewN); exact HO423.out) hb); have n1_ := Aside0.mk (Kd.R_below (by (with_reducible repeat apply Kd.R_drewN); exact HO431.out) hb); have n2_ := Aside0.mk (Kd.R_below (by (with_reducible repeat apply Kd.R_drewN); exact HO435.out) hb); have n3_ := Aside0.mk (Kd.R_below (by (with_reducible repeat apply Kd.R_drewN); exact HO442.out) hb); have n4_ := Aside0.mk (Kd.R_below (by (with_reducible repeat apply Kd.R_drewN); exact HO446.out) hb); have n5_ := Aside0.mk (Kd.R_below (by (with_reducible repeat apply Kd.R_drewN); exact HO450.out) hb); have n6_ := Aside0.mk (Kd.R_below (by (with_reducible repeat apply Kd.R_drewN); exact HO454.out) hb); have n7_ := Aside0.mk (Kd.R_below (by (with_reducible repeat apply Kd.R_drewN); exact HO457.out) hb); have n8_ := Aside0.mk (Kd.R_below (by (with_reducible repeat apply Kd.R_drewN); exact HO462.out) hb); have n9_ := Aside0.mk (Kd.R_below (by (with_reducible repeat apply Kd.R_drewN); exact HO470.out) hb); have n10_ := Aside0.mk (Kd.R_below (by (with_reducible repeat apply Kd.R_drewN); exact HO474.out) hb); have n11_ := Aside0.mk (Kd.R_below (by (with_reducible repeat apply Kd.R_drewN); exact HO479.out) hb); have n12_ := Aside0.mk (below_step (by (with_reducible repeat apply pw_below_drewN); exact HB.out) hb); clear HO423; clear HO431; clear HO435; clear HO442; clear HO446; clear HO450; clear HO454; clear HO457; clear HO462; clear HO470; clear HO474; clear HO479; clear HB; have HO423 := n0_; have HO431 := n1_; have HO435 := n2_; have HO442 := n3_; have HO446 := n4_; have HO450 := n5_; have HO454 := n6_; have HO457 := n7_; have HO462 := n8_; have HO470 := n9_; have HO474 := n10_; have HO479 := n11_; have HB := n12_; clear n0_ n1_ n2_ n3_ n4_ n5_ n6_ n7_ n8_ n9_ n10_ n11_ n12_; (try clear hb); (try clear hb2); (try clear hk); (try clear hi)) | (go_at_call 28; (with_reducible refine (spec_IsScheme.calls k t419 _ _ t420 t488 _ ?side1 ?side2 A90.out).mono ?_); (case side1 => repeat (first | exact (Kd.R_reads' HO423.out).2.2 | (with_reducible refine Kd.C_alloc ?_ _) | (with_reducible refine Kd.C_drewN ?_ _) | (with_reducible refine Kd.C_drew ?_))); (case side2 => exact (Kd.R_reads' HO423.out).2.1); rintro e w' ⟨rfl, ⟨nd, rfl⟩⟩) | (go_at_call 27; (with_reducible refine (impl_IsScheme.calls t419 _ _ t420 t489 _ ?side1 ?side2 A99.out).mono ?_); (case side1 => repeat (first | exact (Kd.R_reads' HO423.out).2.2 | (with_reducible refine Kd.C_alloc ?_ _) | (with_reducible refine Kd.C_drewN ?_ _) | (with_reducible refine Kd.C_drew ?_))); (case side2 => exact (Kd.R_reads' HO423.out).2.1); rintro e w143 ⟨rfl, hb⟩; have n0_ := Aside0.mk (Kd.R_below (by (with_reducible repeat apply Kd.R_drewN); exact HO423.out) hb); have n1_ := Aside0.mk (Kd.R_below (by (with_reducible repeat apply Kd.R_drewN); exact HO431.out) hb); have n2_ := Aside0.mk (Kd.R_below (by (with_reducible repeat apply Kd.R_drewN); exact HO435.out) hb); have n3_ := Aside0.mk (Kd.R_below (by (with_reducible repeat apply Kd.R_drewN); exact HO442.out) hb); have n4_ := Aside0.mk (Kd.R_below (by (with_reducible repeat apply Kd.R_drewN); exact HO446.out) hb); have n5_ := Aside0.mk (Kd.R_below (by (with_reducible repeat apply Kd.R_drewN); exact HO450.out) hb); have n6_ := Aside0.mk (Kd.R_below (by (with_reducible repeat apply Kd.R_drewN); exact HO454.out) hb); have n7_ := Aside0.mk (Kd.R_below (by (with_reducible repeat apply Kd.R_drewN); exact HO457.out) hb); have n8_ := Aside0.mk (Kd.R_below (by (with_reducible repeat apply Kd.R_drewN); exact HO462.out) hb); have n9_ := Aside0.mk (Kd.R_below (by (with_reducible repeat apply Kd.R_drewN); exact HO470.out) hb); have n10_ := Aside0.mk (Kd.R_below (by (with_reducible repeat apply Kd.R_drewN); exact HO474.out) hb); have n11_ := Aside0.mk (Kd.R_below (by (with_reducible repeat apply Kd.R_drewN); exact HO479.out) hb); have n12_ := Aside0.mk (below_step (by (with_reducible repeat apply pw_below_drewN); exact HB.out) hb); clear HO423; clear HO431; clear HO435; clear HO442; clear HO446; clear HO450; clear HO454; clear HO457; clear HO462; clear HO470; clear HO474; clear HO479; clear HB; have HO423 := n0_; have HO431 := n1_; have HO435 := n2_; have HO442 := n3_; have HO446 := n4_; have HO450 := n5_; have HO454 := n6_; have HO457 := n7_; have HO462 := n8_; have HO470 := n9_; have HO474 := n10_; have HO479 := n11_; have HB := n12_; clear n0_ n1_ n2_ n3_ n4_ n5_ n6_ n7_ n8_ n9_ n10_ n11_ n12_; (try clear hb); (try clear hb2); (try clear hk); (try clear hi)))
                            go_meet
                            case rel => exact ⟨_, ((t464 != t468)), (by first | rfl | (simp; done) | (simp [*]; done)), H', ⟨by first | omega | exact Nat.le_refl _⟩, ⟨by (with_reducible repeat apply Kd.R_drewN); exact Kd.R_mono HO423.out (fun _ hk => ⟨hk.1.1.1.1.1.1.1.1.2, ⟨hk.1.1.1.1.1.1.2, ⟨hk.1.1.1.1.1.2, ⟨hk.1.1.1.2, ⟨hk.1.1.2, hk.2⟩⟩⟩⟩⟩)⟩, ⟨by (with_reducible repeat apply Kd.R_drewN); exact Kd.R_mono HO431.out (fun _ hk => ⟨hk.1.1.1.1.1.1.1.1.2, ⟨hk.1.1.1.1.1.1.2, ⟨hk.1.1.1.1.1.2, ⟨hk.1.1.1.2, ⟨hk.1.1.2, hk.2⟩⟩⟩⟩⟩)⟩, ⟨by (with_reducible repeat apply Kd.R_drewN); exact Kd.R_mono HO446.out (fun _ hk => ⟨hk.1.1.1.1.1.1.1.1.2, ⟨hk.1.1.1.1.1.1.1.2, ⟨hk.1.1.1.1.1.2, ⟨hk.1.1.1.2, ⟨hk.1.1.2, hk.2⟩⟩⟩⟩⟩)⟩, ⟨by (with_reducible repeat apply Kd.R_drewN); exact Kd.R_mono HO450.out (fun _ hk => ⟨hk.1.1.1.1.1.1.1.1.2, ⟨hk.1.1.1.1.1.1.1.2, ⟨hk.1.1.1.1.1.2, ⟨hk.1.1.1.2, ⟨hk.1.1.2, hk.2⟩⟩⟩⟩⟩)⟩, ⟨by (with_reducible repeat apply Kd.R_drewN); exact Kd.R_mono HO462.out (fun _ hk => ⟨hk.1.1.1.1.1.1.1.1.2, ⟨hk.1.1.1.1.1.1.1.2, ⟨hk.1.1.1.1.1.2, ⟨hk.1.1.1.1.2, ⟨hk.1.1.2, hk.2⟩⟩⟩⟩⟩)⟩, ⟨by (with_reducible repeat apply Kd.R_drewN); exact Kd.R_mono HO470.out (fun _ hk => ⟨hk.1.1.1.1.1.1.1.1.2, ⟨hk.1.1.1.1.1.1.1.2, ⟨hk.1.1.1.1.1.2, ⟨hk.1.1.1.1.2, ⟨hk.1.1.2, hk.2⟩⟩⟩⟩⟩)⟩, ⟨by (with_reducible repeat apply Kd.R_drewN); exact Kd.R_mono HO479.out (fun _ hk => ⟨hk.1.1.1.1.1.1.1.1.2, ⟨hk.1.1.1.1.1.1.1.2, ⟨hk.1.1.1.1.1.2, ⟨hk.1.1.1.1.2, ⟨hk.1.1.2, hk.1.2⟩⟩⟩⟩⟩)⟩, ⟨by (with_reducible repeat apply pw_below_drewN); exact HB.out⟩⟩
                     ·
                      rw [if_neg c81] at H
                      exact absurd H (by simp)
                    ·
                     replace c80 := Bool.eq_false_iff.mpr c80
                     subst c80
                     have H1 : (none) = some r := by rw [if_neg (show ¬ (false = true) by decide)] at H; exact H
                     exact absurd H1 (by simp)
                ·
                 replace c63 := Bool.eq_false_iff.mpr c63
                 subst c63
                 have H1 : (none) = some r := by rw [if_neg (show ¬ (false = true) by decide)] at H; exact H
                 exact absurd H1 (by simp)
             ·
              rw [if_neg c55] at H
              exact absurd H (by simp)
            ·
             replace c54 := Bool.eq_false_iff.mpr c54
             subst c54
             have H1 : (none) = some r := by rw [if_neg (show ¬ (false = true) by decide)] at H; exact H
             exact absurd H1 (by simp)
         ·
          rw [if_neg c50] at H
          exact absurd H (by simp)
       case rest =>
        as_aux_lemma =>
         clear HC24
         try clear c1
         try clear c2
         try clear p2
         try clear c3
         try clear c5
         try clear c6
         try clear c7
         try clear c8
         try clear c9
         try clear c10
         try clear c11
         try clear c12
         try clear c13
         try clear c14
         try clear c15
         try clear c16
         try clear c17
         try clear c18
         try clear c19
         try clear c20
         try clear c21
         try clear c22
         try clear c23
         try clear c24
         try clear c25
         try clear c50
         try clear c50b0
         try clear c50b1
         try clear c51
         try clear c51b0
         try clear c51b1
         try clear c51b2
         try clear c52
         try clear c52b0
         try clear c52b1
         try clear c52b2
         try clear c54
         try clear c55
         try clear c55b0
         try clear c55b1
         try clear c56
         try clear c56b0
         try clear c56b1
         try clear c56b2
         try clear c59
         try clear c59b0
         try clear c59b1
         try clear c59b2
         try clear c63
         try clear c64
         try clear c64b0
         try clear c64b1
         try clear c64b2
         try clear c69
         try clear c69b0
         try clear c69b1
         try clear c69b2
         try clear c74
         try clear c74b0
         try clear c74b1
         try clear c74b2
         try clear c80
         try clear c81
         try clear c81b0
         try clear c81b1
         try clear c82
         try clear c82b0
         try clear c82b1
         try clear c82b2
         try clear c91
         try clear c91b0
         try clear c91b1
         try clear c91b2
         try clear c100
         try clear c100b0
         try clear c100b1
         try clear c100b2
         try clear c109
         try clear c109b0
         try clear c109b1
         try clear c109b2
         try clear c118
         try clear c119
         obtain ⟨kq, x275_23, rfl, HA, HJ23, HO_4, HO_10, HO_18, HO_20, HO_25, HO_31, HO_36, HB⟩ := hcut
         cases kq with
         | zero => exact absurd HA.out (by simp [laws_FnSchemes.j0])
         | succ kj23 =>
          have H := HA.out
          clear HA
          simp only [laws_FnSchemes.j0] at H
          by_cases c164 : x275_23 = true
          ·
           subst c164
           have H1 : (none) = some r := by rw [if_pos rfl] at H; exact H
           exact absurd H1 (by simp)
          ·
           replace c164 := Bool.eq_false_iff.mpr c164
           subst c164
           rw [if_neg (show ¬ (false = true) by decide)] at H
           have HC165 := Aside0.mk H
           clear H
           go_upto_if 276 with (fail)
           go_cut [] (fun wc => ∃ (kq : Nat), Aside0 (laws_FnSchemes.j1 kq t443 t444 t447 t448 t458 t459 t460 t463 t464 t467 t476 t480 t481 = some r) ∧ Aside0 (kq ≤ kj23) ∧ Aside0 (Kd.R (Kd.int .i64) 3 wc w.heap.size (fun k_ => some k_ ≠ (v449 : Value).ownBlock ∧ some k_ ≠ ((.slice Ao41 t459.length co41) : Value).ownBlock ∧ some k_ ≠ (v469 : Value).ownBlock ∧ some k_ ≠ ((.slice Ao47 t476.length co47) : Value).ownBlock) (.slice Ao35 t443.length co35) t443) ∧ Aside0 (Kd.R (Kd.int .i64) 3 wc w.heap.size (fun k_ => some k_ ≠ ((.slice Ao35 t443.length co35) : Value).ownBlock ∧ some k_ ≠ ((.slice Ao41 t459.length co41) : Value).ownBlock ∧ some k_ ≠ (v469 : Value).ownBlock ∧ some k_ ≠ ((.slice Ao47 t476.length co47) : Value).ownBlock) v449 t447) ∧ Aside0 (Kd.R (Kd.int .i64) 3 wc w.heap.size (fun k_ => some k_ ≠ ((.slice Ao35 t443.length co35) : Value).ownBlock ∧ some k_ ≠ (v449 : Value).ownBlock ∧ some k_ ≠ (v469 : Value).ownBlock ∧ some k_ ≠ ((.slice Ao47 t476.length co47) : Value).ownBlock) (.slice Ao41 t459.length co41) t459) ∧ Aside0 (Kd.R (Kd.int .i64) 3 wc w.heap.size (fun k_ => some k_ ≠ ((.slice Ao35 t443.length co35) : Value).ownBlock ∧ some k_ ≠ (v449 : Value).ownBlock ∧ some k_ ≠ ((.slice Ao41 t459.length co41) : Value).ownBlock ∧ some k_ ≠ ((.slice Ao47 t476.length co47) : Value).ownBlock) v469 t467) ∧ Aside0 (Kd.R (Kd.int .i64) 3 wc w.heap.size (fun k_ => some k_ ≠ ((.slice Ao35 t443.length co35) : Value).ownBlock ∧ some k_ ≠ (v449 : Value).ownBlock ∧ some k_ ≠ ((.slice Ao41 t459.length co41) : Value).ownBlock ∧ some k_ ≠ (v469 : Value).ownBlock) (.slice Ao47 t476.length co47) t476) ∧ Aside0 (Below w.heap.size w wc))
           case first =>
            as_aux_lemma =>
             have H := HC165.out
             clear HC165
             by_cases c166 : t429 = true
             ·
              subst c166
              rw [if_pos rfl] at H
              replace H := Option.bind_eq_some_iff.mp H
              obtain ⟨⟨t490, t491⟩, A1670, H⟩ := H
              try dsimp only at H
              have A167 := Aside0.mk A1670
              clear A1670
              by_cases c168 : t491 = true
              ·
               subst c168
               rw [if_pos rfl] at H
               replace H := Option.bind_eq_some_iff.mp H
               obtain ⟨t494, A1690, H⟩ := H
               try dsimp only at H
               have A169 := Aside0.mk A1690
               clear A1690
               by_cases c170 : t494 = true
               ·
                subst c170
                rw [if_pos rfl] at H
                by_cases c171 : (t428.length : Int) = t419
                ·
                 rw [if_pos c171] at H
                 have c171b0 : ((t428.length : Int) == t419) = true := beq_iff_eq.mpr c171
                 have c171b1 : ((t428.length : Int) != t419) = false := bne_eq_false_iff_eq.mpr c171
                 clear c171
                 (first | rw [c171b0] | (simp only [i64_w, i32_w]; rw [c171b0]) | skip)
                 by_cases c172 : t425 = true
                 ·
                  subst c172
                  rw [if_pos rfl] at H
                  by_cases c173 : 0 ≤ t421
                  ·
                   rw [if_pos c173] at H
                   have c173b0 : decide (0 ≤ t421) = true := decide_eq_true c173
                   clear c173
                   by_cases c174 : t421 < (t428.length : Int)
                   ·
                    rw [if_pos c174] at H
                    have c174b0 : decide (t421 < (t428.length : Int)) = true := decide_eq_true c174
                    clear c174
                    by_cases c175 : (rd t428 t421) = t424
                    ·
                     rw [if_pos c175] at H
                     have c175b0 : ((rd t428 t421) == t424) = true := beq_iff_eq.mpr c175
                     have c175b1 : ((rd t428 t421) != t424) = false := bne_eq_false_iff_eq.mpr c175
                     clear c175
                     have H' := Aside0.mk H
                     clear H
                     obtain ⟨Ao176, co176, eo176⟩ := Kd.R_slice HO_10.out
                     subst eo176
                     as_aux_lemma =>
                      go_wp2_with (first | ((with_reducible refine gate_callee (f := 16) rfl ?_); refine goesL_ (some 281) rfl rfl Try.func16 (by kernel_rfl) rfl #[.slice Ao176 t428.length co176, .int .i64 (t420.length : Int)] rfl (by (try simp only [List.map_toArray, List.map_cons, List.map_nil]); first | done | rfl | (simp only [List.length_drop, List.length_take]; rfl)) ?_; (with_reducible refine (impl_SchemeOf.calls kj23 _ _ t428 (t420.length : Int) t490 true _ ?side1 ?side2 A167.out).mono ?_); (case side1 => repeat (first | exact (Kd.R_reads' HO_10.out).2.2 | (with_reducible refine Kd.C_alloc ?_ _) | (with_reducible refine Kd.C_drewN ?_ _) | (with_reducible refine Kd.C_drew ?_))); (case side2 => exact (Kd.R_reads' HO_10.out).2.1); rintro e w177 ⟨v492, rfl, ho0, hb⟩; refine ⟨_, rfl, ?_⟩; have n0_ := Aside0.mk (Kd.R_elder' (by (with_reducible repeat apply Kd.R_drewN); exact HO_4.out) (Kd.R_base ho0) hb); have n1_ := Aside0.mk (Kd.R_elder' (by (with_reducible repeat apply Kd.R_drewN); exact HO_10.out) (Kd.R_base ho0) hb); have n2_ := Aside0.mk (Kd.R_elder' (by (with_reducible repeat apply Kd.R_drewN); exact HO_18.out) (Kd.R_base ho0) hb); have n3_ := Aside0.mk (Kd.R_elder' (by (with_reducible repeat apply Kd.R_drewN); exact HO_20.out) (Kd.R_base ho0) hb); have n4_ := Aside0.mk (Kd.R_elder' (by (with_reducible repeat apply Kd.R_drewN); exact HO_25.out) (Kd.R_base ho0) hb); have n5_ := Aside0.mk (Kd.R_elder' (by (with_reducible repeat apply Kd.R_drewN); exact HO_31.out) (Kd.R_base ho0) hb); have n6_ := Aside0.mk (Kd.R_elder' (by (with_reducible repeat apply Kd.R_drewN); exact HO_36.out) (Kd.R_base ho0) hb); have n7_ := Aside0.mk (Kd.R_lower (Kd.R_new' (Kd.R_new' (Kd.R_new' (Kd.R_new' (Kd.R_new' (Kd.R_new' (Kd.R_new' ho0 (Kd.R_lt (by (with_reducible repeat apply Kd.R_drewN); exact HO_4.out))) (Kd.R_lt (by (with_reducible repeat apply Kd.R_drewN); exact HO_10.out))) (Kd.R_lt (by (with_reducible repeat apply Kd.R_drewN); exact HO_18.out))) (Kd.R_lt (by (with_reducible repeat apply Kd.R_drewN); exact HO_20.out))) (Kd.R_lt (by (with_reducible repeat apply Kd.R_drewN); exact HO_25.out))) (Kd.R_lt (by (with_reducible repeat apply Kd.R_drewN); exact HO_31.out))) (Kd.R_lt (by (with_reducible repeat apply Kd.R_drewN); exact HO_36.out))) (below_size (by (with_reducible repeat apply pw_below_drewN); exact HB.out))); have n8_ := Aside0.mk (below_step (by (with_reducible repeat apply pw_below_drewN); exact HB.out) hb); clear HO_4; clear HO_10; clear HO_18; clear HO_20; clear HO_25; clear HO_31; clear HO_36; clear HB; have HO_4 := n0_; have HO_10 := n1_; have HO_18 := n2_; have HO_20 := n3_; have HO_25 := n4_; have HO_31 := n5_; have HO_36 := n6_; have HO493 := n7_; have HB := n8_; clear n0_ n1_ n2_ n3_ n4_ n5_ n6_ n7_ n8_; (try clear hb); (try clear hb2); (try clear hk); (try clear hi); (try clear ho0); obtain ⟨Ao178, co178, eo178⟩ := Kd.R_slice HO493.out; subst eo178) | (go_at_call 26; (with_reducible refine (laws_vInts.calls kj23 _ _ t490 _ _ t420 true _ ?side1 ?side2 ?side3 ?side4 A169.out).mono ?_); (case side1 => repeat (first | exact (Kd.R_reads' HO493.out).2.2 | (with_reducible refine Kd.C_alloc ?_ _) | (with_reducible refine Kd.C_drewN ?_ _) | (with_reducible refine Kd.C_drew ?_))); (case side2 => exact (Kd.R_reads' HO493.out).2.1); (case side3 => repeat (first | exact (Kd.R_reads' HO_4.out).2.2 | (with_reducible refine Kd.C_alloc ?_ _) | (with_reducible refine Kd.C_drewN ?_ _) | (with_reducible refine Kd.C_drew ?_))); (case side4 => exact (Kd.R_reads' HO_4.out).2.1); rintro e w' ⟨rfl, ⟨nd, rfl⟩⟩; have p495 : 0 ≤ (t421 : Int) := of_decide_eq_true (by first | (with_reducible assumption) | assumption); have q495 : t421 < (t428.length : Int) := of_decide_eq_true (by first | (with_reducible assumption) | assumption); obtain ⟨ad495, e495, hx495_0⟩ := Kd.at_int (Kd.R_reads' HO_10.out).2.2 t421 p495 q495; cases e495; replace p495 := eq_true p495; replace q495 := eq_true q495))
                      go_meet
                      case rel => exact ⟨_, H', ⟨by have := HJ23.out; first | omega | exact Nat.le_refl _⟩, ⟨by (with_reducible repeat apply Kd.R_drewN); exact Kd.R_mono HO_18.out (fun _ hk => ⟨hk.1.2.2.1, ⟨hk.1.2.2.2.1, ⟨hk.1.2.2.2.2.1, hk.1.2.2.2.2.2⟩⟩⟩)⟩, ⟨by (with_reducible repeat apply Kd.R_drewN); exact Kd.R_mono HO_20.out (fun _ hk => ⟨hk.1.2.2.1, ⟨hk.1.2.2.2.1, ⟨hk.1.2.2.2.2.1, hk.1.2.2.2.2.2⟩⟩⟩)⟩, ⟨by (with_reducible repeat apply Kd.R_drewN); exact Kd.R_mono HO_25.out (fun _ hk => ⟨hk.1.2.2.1, ⟨hk.1.2.2.2.1, ⟨hk.1.2.2.2.2.1, hk.1.2.2.2.2.2⟩⟩⟩)⟩, ⟨by (with_reducible repeat apply Kd.R_drewN); exact Kd.R_mono HO_31.out (fun _ hk => ⟨hk.1.2.2.1, ⟨hk.1.2.2.2.1, ⟨hk.1.2.2.2.2.1, hk.1.2.2.2.2.2⟩⟩⟩)⟩, ⟨by (with_reducible repeat apply Kd.R_drewN); exact Kd.R_mono HO_36.out (fun _ hk => ⟨hk.1.2.2.1, ⟨hk.1.2.2.2.1, ⟨hk.1.2.2.2.2.1, hk.1.2.2.2.2.2⟩⟩⟩)⟩, ⟨by (with_reducible repeat apply pw_below_drewN); exact HB.out⟩⟩
                    ·
                     rw [if_neg c175] at H
                     exact absurd H (by simp)
                   ·
                    rw [if_neg c174] at H
                    exact absurd H (by simp)
                  ·
                   rw [if_neg c173] at H
                   exact absurd H (by simp)
                 ·
                  replace c172 := Bool.eq_false_iff.mpr c172
                  subst c172
                  rw [if_neg (show ¬ (false = true) by decide)] at H
                  have H' := Aside0.mk H
                  clear H
                  obtain ⟨Ao182, co182, eo182⟩ := Kd.R_slice HO_10.out
                  subst eo182
                  as_aux_lemma =>
                   go_wp2_with (first | ((with_reducible refine gate_callee (f := 16) rfl ?_); refine goesL_ (some 281) rfl rfl Try.func16 (by kernel_rfl) rfl #[.slice Ao182 t428.length co182, .int .i64 (t420.length : Int)] rfl (by (try simp only [List.map_toArray, List.map_cons, List.map_nil]); first | done | rfl | (simp only [List.length_drop, List.length_take]; rfl)) ?_; (with_reducible refine (impl_SchemeOf.calls kj23 _ _ t428 (t420.length : Int) t490 true _ ?side1 ?side2 A167.out).mono ?_); (case side1 => repeat (first | exact (Kd.R_reads' HO_10.out).2.2 | (with_reducible refine Kd.C_alloc ?_ _) | (with_reducible refine Kd.C_drewN ?_ _) | (with_reducible refine Kd.C_drew ?_))); (case side2 => exact (Kd.R_reads' HO_10.out).2.1); rintro e w183 ⟨v492, rfl, ho0, hb⟩; refine ⟨_, rfl, ?_⟩; have n0_ := Aside0.mk (Kd.R_elder' (by (with_reducible repeat apply Kd.R_drewN); exact HO_4.out) (Kd.R_base ho0) hb); have n1_ := Aside0.mk (Kd.R_elder' (by (with_reducible repeat apply Kd.R_drewN); exact HO_10.out) (Kd.R_base ho0) hb); have n2_ := Aside0.mk (Kd.R_elder' (by (with_reducible repeat apply Kd.R_drewN); exact HO_18.out) (Kd.R_base ho0) hb); have n3_ := Aside0.mk (Kd.R_elder' (by (with_reducible repeat apply Kd.R_drewN); exact HO_20.out) (Kd.R_base ho0) hb); have n4_ := Aside0.mk (Kd.R_elder' (by (with_reducible repeat apply Kd.R_drewN); exact HO_25.out) (Kd.R_base ho0) hb); have n5_ := Aside0.mk (Kd.R_elder' (by (with_reducible repeat apply Kd.R_drewN); exact HO_31.out) (Kd.R_base ho0) hb); have n6_ := Aside0.mk (Kd.R_elder' (by (with_reducible repeat apply Kd.R_drewN); exact HO_36.out) (Kd.R_base ho0) hb); have n7_ := Aside0.mk (Kd.R_lower (Kd.R_new' (Kd.R_new' (Kd.R_new' (Kd.R_new' (Kd.R_new' (Kd.R_new' (Kd.R_new' ho0 (Kd.R_lt (by (with_reducible repeat apply Kd.R_drewN); exact HO_4.out))) (Kd.R_lt (by (with_reducible repeat apply Kd.R_drewN); exact HO_10.out))) (Kd.R_lt (by (with_reducible repeat apply Kd.R_drewN); exact HO_18.out))) (Kd.R_lt (by (with_reducible repeat apply Kd.R_drewN); exact HO_20.out))) (Kd.R_lt (by (with_reducible repeat apply Kd.R_drewN); exact HO_25.out))) (Kd.R_lt (by (with_reducible repeat apply Kd.R_drewN); exact HO_31.out))) (Kd.R_lt (by (with_reducible repeat apply Kd.R_drewN); exact HO_36.out))) (below_size (by (with_reducible repeat apply pw_below_drewN); exact HB.out))); have n8_ := Aside0.mk (below_step (by (with_reducible repeat apply pw_below_drewN); exact HB.out) hb); clear HO_4; clear HO_10; clear HO_18; clear HO_20; clear HO_25; clear HO_31; clear HO_36; clear HB; have HO_4 := n0_; have HO_10 := n1_; have HO_18 := n2_; have HO_20 := n3_; have HO_25 := n4_; have HO_31 := n5_; have HO_36 := n6_; have HO493 := n7_; have HB := n8_; clear n0_ n1_ n2_ n3_ n4_ n5_ n6_ n7_ n8_; (try clear hb); (try clear hb2); (try clear hk); (try clear hi); (try clear ho0); obtain ⟨Ao184, co184, eo184⟩ := Kd.R_slice HO493.out; subst eo184) | (go_at_call 26; (with_reducible refine (laws_vInts.calls kj23 _ _ t490 _ _ t420 true _ ?side1 ?side2 ?side3 ?side4 A169.out).mono ?_); (case side1 => repeat (first | exact (Kd.R_reads' HO493.out).2.2 | (with_reducible refine Kd.C_alloc ?_ _) | (with_reducible refine Kd.C_drewN ?_ _) | (with_reducible refine Kd.C_drew ?_))); (case side2 => exact (Kd.R_reads' HO493.out).2.1); (case side3 => repeat (first | exact (Kd.R_reads' HO_4.out).2.2 | (with_reducible refine Kd.C_alloc ?_ _) | (with_reducible refine Kd.C_drewN ?_ _) | (with_reducible refine Kd.C_drew ?_))); (case side4 => exact (Kd.R_reads' HO_4.out).2.1); rintro e w' ⟨rfl, ⟨nd, rfl⟩⟩))
                   go_meet
                   case rel => exact ⟨_, H', ⟨by have := HJ23.out; first | omega | exact Nat.le_refl _⟩, ⟨by (with_reducible repeat apply Kd.R_drewN); exact Kd.R_mono HO_18.out (fun _ hk => ⟨hk.1.2.2.1, ⟨hk.1.2.2.2.1, ⟨hk.1.2.2.2.2.1, hk.1.2.2.2.2.2⟩⟩⟩)⟩, ⟨by (with_reducible repeat apply Kd.R_drewN); exact Kd.R_mono HO_20.out (fun _ hk => ⟨hk.1.2.2.1, ⟨hk.1.2.2.2.1, ⟨hk.1.2.2.2.2.1, hk.1.2.2.2.2.2⟩⟩⟩)⟩, ⟨by (with_reducible repeat apply Kd.R_drewN); exact Kd.R_mono HO_25.out (fun _ hk => ⟨hk.1.2.2.1, ⟨hk.1.2.2.2.1, ⟨hk.1.2.2.2.2.1, hk.1.2.2.2.2.2⟩⟩⟩)⟩, ⟨by (with_reducible repeat apply Kd.R_drewN); exact Kd.R_mono HO_31.out (fun _ hk => ⟨hk.1.2.2.1, ⟨hk.1.2.2.2.1, ⟨hk.1.2.2.2.2.1, hk.1.2.2.2.2.2⟩⟩⟩)⟩, ⟨by (with_reducible repeat apply Kd.R_drewN); exact Kd.R_mono HO_36.out (fun _ hk => ⟨hk.1.2.2.1, ⟨hk.1.2.2.2.1, ⟨hk.1.2.2.2.2.1, hk.1.2.2.2.2.2⟩⟩⟩)⟩, ⟨by (with_reducible repeat apply pw_below_drewN); exact HB.out⟩⟩
                ·
                 rw [if_neg c171] at H
                 exact absurd H (by simp)
               ·
                replace c170 := Bool.eq_false_iff.mpr c170
                subst c170
                have H1 : (none) = some r := by rw [if_neg (show ¬ (false = true) by decide)] at H; exact H
                exact absurd H1 (by simp)
              ·
               replace c168 := Bool.eq_false_iff.mpr c168
               subst c168
               have H1 : (none) = some r := by rw [if_neg (show ¬ (false = true) by decide)] at H; exact H
               exact absurd H1 (by simp)
             ·
              replace c166 := Bool.eq_false_iff.mpr c166
              subst c166
              rw [if_neg (show ¬ (false = true) by decide)] at H
              have H' := Aside0.mk H
              clear H
              go_wp2
              go_meet
              case rel => exact ⟨_, H', ⟨by have := HJ23.out; first | omega | exact Nat.le_refl _⟩, ⟨by (with_reducible repeat apply Kd.R_drewN); exact Kd.R_mono HO_18.out (fun _ hk => ⟨hk.2.2.1, ⟨hk.2.2.2.1, ⟨hk.2.2.2.2.1, hk.2.2.2.2.2⟩⟩⟩)⟩, ⟨by (with_reducible repeat apply Kd.R_drewN); exact Kd.R_mono HO_20.out (fun _ hk => ⟨hk.2.2.1, ⟨hk.2.2.2.1, ⟨hk.2.2.2.2.1, hk.2.2.2.2.2⟩⟩⟩)⟩, ⟨by (with_reducible repeat apply Kd.R_drewN); exact Kd.R_mono HO_25.out (fun _ hk => ⟨hk.2.2.1, ⟨hk.2.2.2.1, ⟨hk.2.2.2.2.1, hk.2.2.2.2.2⟩⟩⟩)⟩, ⟨by (with_reducible repeat apply Kd.R_drewN); exact Kd.R_mono HO_31.out (fun _ hk => ⟨hk.2.2.1, ⟨hk.2.2.2.1, ⟨hk.2.2.2.2.1, hk.2.2.2.2.2⟩⟩⟩)⟩, ⟨by (with_reducible repeat apply Kd.R_drewN); exact Kd.R_mono HO_36.out (fun _ hk => ⟨hk.2.2.1, ⟨hk.2.2.2.1, ⟨hk.2.2.2.2.1, hk.2.2.2.2.2⟩⟩⟩)⟩, ⟨by (with_reducible repeat apply pw_below_drewN); exact HB.out⟩⟩
           case rest =>
            as_aux_lemma =>
             clear HC165
             try clear c1
             try clear c2
             try clear p2
             try clear c3
             try clear p4
             try clear q4
             try clear hx4
             try clear c5
             try clear c6
             try clear c7
             try clear c8
             try clear c9
             try clear c10
             try clear c11
             try clear c12
             try clear c13
             try clear c14
             try clear c15
             try clear c16
             try clear c17
             try clear c18
             try clear c19
             try clear c20
             try clear c21
             try clear c22
             try clear c23
             try clear c24
             try clear c25
             try clear p49
             try clear q49
             try clear hx49
             try clear c50
             try clear c50b0
             try clear c50b1
             try clear c51
             try clear c51b0
             try clear c51b1
             try clear c51b2
             try clear c52
             try clear c52b0
             try clear c52b1
             try clear c52b2
             try clear c54
             try clear c55
             try clear c55b0
             try clear c55b1
             try clear c56
             try clear c56b0
             try clear c56b1
             try clear c56b2
             try clear c59
             try clear c59b0
             try clear c59b1
             try clear c59b2
             try clear c63
             try clear c64
             try clear c64b0
             try clear c64b1
             try clear c64b2
             try clear c69
             try clear c69b0
             try clear c69b1
             try clear c69b2
             try clear c74
             try clear c74b0
             try clear c74b1
             try clear c74b2
             try clear c80
             try clear c81
             try clear c81b0
             try clear c81b1
             try clear c82
             try clear c82b0
             try clear c82b1
             try clear c82b2
             try clear c91
             try clear c91b0
             try clear c91b1
             try clear c91b2
             try clear c100
             try clear c100b0
             try clear c100b1
             try clear c100b2
             try clear c109
             try clear c109b0
             try clear c109b1
             try clear c109b2
             try clear c118
             try clear c119
             try clear c164
             try clear c166
             try clear c168
             try clear c170
             try clear c171
             try clear c171b0
             try clear c171b1
             try clear c172
             try clear c173
             try clear c173b0
             try clear c174
             try clear c174b0
             try clear c175
             try clear c175b0
             try clear c175b1
             try clear hx495_0
             try clear p2
             try clear p495
             try clear q495
             obtain ⟨kq, HA, HJ164, HO_18, HO_20, HO_25, HO_31, HO_36, HB⟩ := hcut
             cases kq with
             | zero => exact absurd HA.out (by simp [laws_FnSchemes.j1])
             | succ kj164 =>
              have H := HA.out
              clear HA
              simp only [laws_FnSchemes.j1] at H
              have HC193 := Aside0.mk H
              clear H
              go_upto_if 309 with (fail)
              go_cut [] (fun wc => ∃ (kq : Nat), Aside0 (laws_FnSchemes.j2 kq t458 t459 t460 t463 t464 t467 t476 t480 t481 = some r) ∧ Aside0 (kq ≤ kj164) ∧ Aside0 (Kd.R (Kd.int .i64) 3 wc w.heap.size (fun k_ => some k_ ≠ (v469 : Value).ownBlock ∧ some k_ ≠ ((.slice Ao47 t476.length co47) : Value).ownBlock) (.slice Ao41 t459.length co41) t459) ∧ Aside0 (Kd.R (Kd.int .i64) 3 wc w.heap.size (fun k_ => some k_ ≠ ((.slice Ao41 t459.length co41) : Value).ownBlock ∧ some k_ ≠ ((.slice Ao47 t476.length co47) : Value).ownBlock) v469 t467) ∧ Aside0 (Kd.R (Kd.int .i64) 3 wc w.heap.size (fun k_ => some k_ ≠ ((.slice Ao41 t459.length co41) : Value).ownBlock ∧ some k_ ≠ (v469 : Value).ownBlock) (.slice Ao47 t476.length co47) t476) ∧ Aside0 (Below w.heap.size w wc))
              case first =>
               as_aux_lemma =>
                have H := HC193.out
                clear HC193
                by_cases c194 : t448 = true
                ·
                 subst c194
                 rw [if_pos rfl] at H
                 replace H := Option.bind_eq_some_iff.mp H
                 obtain ⟨⟨t496, t497⟩, A1950, H⟩ := H
                 try dsimp only at H
                 have A195 := Aside0.mk A1950
                 clear A1950
                 by_cases c196 : t497 = true
                 ·
                  subst c196
                  rw [if_pos rfl] at H
                  replace H := Option.bind_eq_some_iff.mp H
                  obtain ⟨t500, A1970, H⟩ := H
                  try dsimp only at H
                  have A197 := Aside0.mk A1970
                  clear A1970
                  by_cases c198 : t500 = true
                  ·
                   subst c198
                   rw [if_pos rfl] at H
                   by_cases c199 : (t447.length : Int) = t444
                   ·
                    rw [if_pos c199] at H
                    have c199b0 : ((t447.length : Int) == t444) = true := beq_iff_eq.mpr c199
                    have c199b1 : ((t447.length : Int) != t444) = false := bne_eq_false_iff_eq.mpr c199
                    clear c199
                    (first | rw [c199b0] | (simp only [i64_w, i32_w]; rw [c199b0]) | skip)
                    have H' := Aside0.mk H
                    clear H
                    obtain ⟨Ao200, co200, eo200⟩ := Kd.R_slice HO_20.out
                    subst eo200
                    as_aux_lemma =>
                     go_wp2_with (first | ((with_reducible refine gate_callee (f := 10) rfl ?_); refine goesL_ (some 314) rfl rfl Try.func10 (by kernel_rfl) rfl #[.int .i64 (t443.length : Int), .slice Ao200 t447.length co200] rfl (by (try simp only [List.map_toArray, List.map_cons, List.map_nil]); first | done | rfl | (simp only [List.length_drop, List.length_take]; rfl)) ?_; (with_reducible refine (impl_TrueWords.calls kj164 (t443.length : Int) _ _ t447 t496 true _ ?side1 ?side2 A195.out).mono ?_); (case side1 => repeat (first | exact (Kd.R_reads' HO_20.out).2.2 | (with_reducible refine Kd.C_alloc ?_ _) | (with_reducible refine Kd.C_drewN ?_ _) | (with_reducible refine Kd.C_drew ?_))); (case side2 => exact (Kd.R_reads' HO_20.out).2.1); rintro e w201 ⟨v498, rfl, ho0, hb⟩; refine ⟨_, rfl, ?_⟩; have n0_ := Aside0.mk (Kd.R_elder' (by (with_reducible repeat apply Kd.R_drewN); exact HO_18.out) (Kd.R_base ho0) hb); have n1_ := Aside0.mk (Kd.R_elder' (by (with_reducible repeat apply Kd.R_drewN); exact HO_20.out) (Kd.R_base ho0) hb); have n2_ := Aside0.mk (Kd.R_elder' (by (with_reducible repeat apply Kd.R_drewN); exact HO_25.out) (Kd.R_base ho0) hb); have n3_ := Aside0.mk (Kd.R_elder' (by (with_reducible repeat apply Kd.R_drewN); exact HO_31.out) (Kd.R_base ho0) hb); have n4_ := Aside0.mk (Kd.R_elder' (by (with_reducible repeat apply Kd.R_drewN); exact HO_36.out) (Kd.R_base ho0) hb); have n5_ := Aside0.mk (Kd.R_lower (Kd.R_new' (Kd.R_new' (Kd.R_new' (Kd.R_new' (Kd.R_new' ho0 (Kd.R_lt (by (with_reducible repeat apply Kd.R_drewN); exact HO_18.out))) (Kd.R_lt (by (with_reducible repeat apply Kd.R_drewN); exact HO_20.out))) (Kd.R_lt (by (with_reducible repeat apply Kd.R_drewN); exact HO_25.out))) (Kd.R_lt (by (with_reducible repeat apply Kd.R_drewN); exact HO_31.out))) (Kd.R_lt (by (with_reducible repeat apply Kd.R_drewN); exact HO_36.out))) (below_size (by (with_reducible repeat apply pw_below_drewN); exact HB.out))); have n6_ := Aside0.mk (below_step (by (with_reducible repeat apply pw_below_drewN); exact HB.out) hb); clear HO_18; clear HO_20; clear HO_25; clear HO_31; clear HO_36; clear HB; have HO_18 := n0_; have HO_20 := n1_; have HO_25 := n2_; have HO_31 := n3_; have HO_36 := n4_; have HO499 := n5_; have HB := n6_; clear n0_ n1_ n2_ n3_ n4_ n5_ n6_; (try clear hb); (try clear hb2); (try clear hk); (try clear hi); (try clear ho0); obtain ⟨Ao202, co202, eo202⟩ := Kd.R_slice HO499.out; subst eo202) | (go_at_call 26; (with_reducible refine (laws_vInts.calls kj164 _ _ t496 _ _ t443 true _ ?side1 ?side2 ?side3 ?side4 A197.out).mono ?_); (case side1 => repeat (first | exact (Kd.R_reads' HO499.out).2.2 | (with_reducible refine Kd.C_alloc ?_ _) | (with_reducible refine Kd.C_drewN ?_ _) | (with_reducible refine Kd.C_drew ?_))); (case side2 => exact (Kd.R_reads' HO499.out).2.1); (case side3 => repeat (first | exact (Kd.R_reads' HO_18.out).2.2 | (with_reducible refine Kd.C_alloc ?_ _) | (with_reducible refine Kd.C_drewN ?_ _) | (with_reducible refine Kd.C_drew ?_))); (case side4 => exact (Kd.R_reads' HO_18.out).2.1); rintro e w' ⟨rfl, ⟨nd, rfl⟩⟩))
                     go_meet
                     case rel => exact ⟨_, H', ⟨by have := HJ23.out; have := HJ164.out; first | omega | exact Nat.le_refl _⟩, ⟨by (with_reducible repeat apply Kd.R_drewN); exact Kd.R_mono HO_25.out (fun _ hk => ⟨hk.1.2.2.1, hk.1.2.2.2⟩)⟩, ⟨by (with_reducible repeat apply Kd.R_drewN); exact Kd.R_mono HO_31.out (fun _ hk => ⟨hk.1.2.2.1, hk.1.2.2.2⟩)⟩, ⟨by (with_reducible repeat apply Kd.R_drewN); exact Kd.R_mono HO_36.out (fun _ hk => ⟨hk.1.2.2.1, hk.1.2.2.2⟩)⟩, ⟨by (with_reducible repeat apply pw_below_drewN); exact HB.out⟩⟩
                   ·
                    rw [if_neg c199] at H
                    exact absurd H (by simp)
                  ·
                   replace c198 := Bool.eq_false_iff.mpr c198
                   subst c198
                   have H1 : (none) = some r := by rw [if_neg (show ¬ (false = true) by decide)] at H; exact H
                   exact absurd H1 (by simp)
                 ·
                  replace c196 := Bool.eq_false_iff.mpr c196
                  subst c196
                  have H1 : (none) = some r := by rw [if_neg (show ¬ (false = true) by decide)] at H; exact H
                  exact absurd H1 (by simp)
                ·
                 replace c194 := Bool.eq_false_iff.mpr c194
                 subst c194
                 rw [if_neg (show ¬ (false = true) by decide)] at H
                 have H' := Aside0.mk H
                 clear H
                 go_wp2
                 go_meet
                 case rel => exact ⟨_, H', ⟨by have := HJ23.out; have := HJ164.out; first | omega | exact Nat.le_refl _⟩, ⟨by (with_reducible repeat apply Kd.R_drewN); exact Kd.R_mono HO_25.out (fun _ hk => ⟨hk.2.2.1, hk.2.2.2⟩)⟩, ⟨by (with_reducible repeat apply Kd.R_drewN); exact Kd.R_mono HO_31.out (fun _ hk => ⟨hk.2.2.1, hk.2.2.2⟩)⟩, ⟨by (with_reducible repeat apply Kd.R_drewN); exact Kd.R_mono HO_36.out (fun _ hk => ⟨hk.2.2.1, hk.2.2.2⟩)⟩, ⟨by (with_reducible repeat apply pw_below_drewN); exact HB.out⟩⟩
              case rest =>
               as_aux_lemma =>
                clear HC193
                try clear c1
                try clear c2
                try clear p2
                try clear c3
                try clear p4
                try clear q4
                try clear hx4
                try clear c5
                try clear c6
                try clear c7
                try clear c8
                try clear c9
                try clear c10
                try clear c11
                try clear c12
                try clear c13
                try clear c14
                try clear c15
                try clear c16
                try clear c17
                try clear c18
                try clear c19
                try clear c20
                try clear c21
                try clear c22
                try clear c23
                try clear c24
                try clear c25
                try clear p49
                try clear q49
                try clear hx49
                try clear c50
                try clear c50b0
                try clear c50b1
                try clear c51
                try clear c51b0
                try clear c51b1
                try clear c51b2
                try clear c52
                try clear c52b0
                try clear c52b1
                try clear c52b2
                try clear c54
                try clear c55
                try clear c55b0
                try clear c55b1
                try clear c56
                try clear c56b0
                try clear c56b1
                try clear c56b2
                try clear c59
                try clear c59b0
                try clear c59b1
                try clear c59b2
                try clear c63
                try clear c64
                try clear c64b0
                try clear c64b1
                try clear c64b2
                try clear c69
                try clear c69b0
                try clear c69b1
                try clear c69b2
                try clear c74
                try clear c74b0
                try clear c74b1
                try clear c74b2
                try clear c80
                try clear c81
                try clear c81b0
                try clear c81b1
                try clear c82
                try clear c82b0
                try clear c82b1
                try clear c82b2
                try clear c91
                try clear c91b0
                try clear c91b1
                try clear c91b2
                try clear c100
                try clear c100b0
                try clear c100b1
                try clear c100b2
                try clear c109
                try clear c109b0
                try clear c109b1
                try clear c109b2
                try clear c118
                try clear c119
                try clear c164
                try clear c166
                try clear c168
                try clear c170
                try clear c171
                try clear c171b0
                try clear c171b1
                try clear c172
                try clear c173
                try clear c173b0
                try clear c174
                try clear c174b0
                try clear c175
                try clear c175b0
                try clear c175b1
                try clear c194
                try clear c196
                try clear c198
                try clear c199
                try clear c199b0
                try clear c199b1
                try clear hx495_0
                try clear p2
                try clear p4
                try clear p49
                try clear p495
                try clear q4
                try clear q49
                try clear q495
                obtain ⟨kq, HA, HJ192, HO_25, HO_31, HO_36, HB⟩ := hcut
                cases kq with
                | zero => exact absurd HA.out (by simp [laws_FnSchemes.j2])
                | succ kj192 =>
                 have H := HA.out
                 clear HA
                 simp only [laws_FnSchemes.j2] at H
                 by_cases c211 : t464 = true
                 ·
                  subst c211
                  rw [if_pos rfl] at H
                  replace H := Option.bind_eq_some_iff.mp H
                  obtain ⟨⟨t501, t502⟩, A2120, H⟩ := H
                  try dsimp only at H
                  have A212 := Aside0.mk A2120
                  clear A2120
                  have HC213 := Aside0.mk H
                  clear H
                  go_upto_region 33 with (first | ((with_reducible refine gate_callee (f := 24) rfl ?_); refine goesL_ (some 336) rfl rfl Try.func24 (by kernel_rfl) rfl #[.int .i64 t458, .slice Ao41 t459.length co41, .int .i64 t460] rfl (by (try simp only [List.map_toArray, List.map_cons, List.map_nil]); first | done | rfl | (simp only [List.length_drop, List.length_take]; rfl)) ?_; (with_reducible refine (impl_CountUntold.calls kj192 t458 _ _ t459 t460 t501 t502 _ ?side1 ?side2 A212.out).mono ?_); (case side1 => repeat (first | exact (Kd.R_reads' HO_25.out).2.2 | (with_reducible refine Kd.C_alloc ?_ _) | (with_reducible refine Kd.C_drewN ?_ _) | (with_reducible refine Kd.C_drew ?_))); (case side2 => exact (Kd.R_reads' HO_25.out).2.1); rintro e w214 ⟨rfl, hb⟩; refine ⟨_, rfl, ?_⟩; have n0_ := Aside0.mk (Kd.R_below (by (with_reducible repeat apply Kd.R_drewN); exact HO_25.out) hb); have n1_ := Aside0.mk (Kd.R_below (by (with_reducible repeat apply Kd.R_drewN); exact HO_31.out) hb); have n2_ := Aside0.mk (Kd.R_below (by (with_reducible repeat apply Kd.R_drewN); exact HO_36.out) hb); have n3_ := Aside0.mk (below_step (by (with_reducible repeat apply pw_below_drewN); exact HB.out) hb); clear HO_25; clear HO_31; clear HO_36; clear HB; have HO_25 := n0_; have HO_31 := n1_; have HO_36 := n2_; have HB := n3_; clear n0_ n1_ n2_ n3_; (try clear hb); (try clear hb2); (try clear hk); (try clear hi)))
                  (try simp only [Act.put, List.setIfInBounds_toArray, List.set_cons_zero, List.set_cons_succ])
                  go_cut [346] (fun v346 wc => ∃ (kq : Nat) (x346_212 : Bool), v346 = .bool x346_212 ∧ Aside0 (laws_FnSchemes.j3 kq t458 t459 t460 t463 t467 t476 t480 t481 x346_212 = some r) ∧ Aside0 (kq ≤ kj192) ∧ Aside0 (Kd.R (Kd.int .i64) 3 wc w.heap.size (fun k_ => some k_ ≠ (v469 : Value).ownBlock ∧ some k_ ≠ ((.slice Ao47 t476.length co47) : Value).ownBlock) (.slice Ao41 t459.length co41) t459) ∧ Aside0 (Kd.R (Kd.int .i64) 3 wc w.heap.size (fun k_ => some k_ ≠ ((.slice Ao41 t459.length co41) : Value).ownBlock ∧ some k_ ≠ ((.slice Ao47 t476.length co47) : Value).ownBlock) v469 t467) ∧ Aside0 (Kd.R (Kd.int .i64) 3 wc w.heap.size (fun k_ => some k_ ≠ ((.slice Ao41 t459.length co41) : Value).ownBlock ∧ some k_ ≠ (v469 : Value).ownBlock) (.slice Ao47 t476.length co47) t476) ∧ Aside0 (Below w.heap.size w wc))
                  case first =>
                   as_aux_lemma =>
                    have H := HC213.out
                    clear HC213
                    by_cases c215 : t502 = true
                    ·
                     subst c215
                     rw [if_pos rfl] at H
                     have H' := Aside0.mk H
                     clear H
                     go_wp2
                     go_meet
                     case rel => exact ⟨_, ((t463 != (t501 == 0))), (by first | rfl | (simp; done) | (simp [*]; done)), H', ⟨by have := HJ23.out; have := HJ164.out; have := HJ192.out; first | omega | exact Nat.le_refl _⟩, ⟨by (with_reducible repeat apply Kd.R_drewN); exact HO_25.out⟩, ⟨by (with_reducible repeat apply Kd.R_drewN); exact HO_31.out⟩, ⟨by (with_reducible repeat apply Kd.R_drewN); exact HO_36.out⟩, ⟨by (with_reducible repeat apply pw_below_drewN); exact HB.out⟩⟩
                    ·
                     replace c215 := Bool.eq_false_iff.mpr c215
                     subst c215
                     have H1 : (none) = some r := by rw [if_neg (show ¬ (false = true) by decide)] at H; exact H
                     exact absurd H1 (by simp)
                  case rest =>
                   as_aux_lemma =>
                    clear HC213
                    try clear c1
                    try clear c2
                    try clear p2
                    try clear c3
                    try clear p4
                    try clear q4
                    try clear hx4
                    try clear c5
                    try clear c6
                    try clear c7
                    try clear c8
                    try clear c9
                    try clear c10
                    try clear c11
                    try clear c12
                    try clear c13
                    try clear c14
                    try clear c15
                    try clear c16
                    try clear c17
                    try clear c18
                    try clear c19
                    try clear c20
                    try clear c21
                    try clear c22
                    try clear c23
                    try clear c24
                    try clear c25
                    try clear p49
                    try clear q49
                    try clear hx49
                    try clear c50
                    try clear c50b0
                    try clear c50b1
                    try clear c51
                    try clear c51b0
                    try clear c51b1
                    try clear c51b2
                    try clear c52
                    try clear c52b0
                    try clear c52b1
                    try clear c52b2
                    try clear c54
                    try clear c55
                    try clear c55b0
                    try clear c55b1
                    try clear c56
                    try clear c56b0
                    try clear c56b1
                    try clear c56b2
                    try clear c59
                    try clear c59b0
                    try clear c59b1
                    try clear c59b2
                    try clear c63
                    try clear c64
                    try clear c64b0
                    try clear c64b1
                    try clear c64b2
                    try clear c69
                    try clear c69b0
                    try clear c69b1
                    try clear c69b2
                    try clear c74
                    try clear c74b0
                    try clear c74b1
                    try clear c74b2
                    try clear c80
                    try clear c81
                    try clear c81b0
                    try clear c81b1
                    try clear c82
                    try clear c82b0
                    try clear c82b1
                    try clear c82b2
                    try clear c91
                    try clear c91b0
                    try clear c91b1
                    try clear c91b2
                    try clear c100
                    try clear c100b0
                    try clear c100b1
                    try clear c100b2
                    try clear c109
                    try clear c109b0
                    try clear c109b1
                    try clear c109b2
                    try clear c118
                    try clear c119
                    try clear c164
                    try clear c166
                    try clear c168
                    try clear c170
                    try clear c171
                    try clear c171b0
                    try clear c171b1
                    try clear c172
                    try clear c173
                    try clear c173b0
                    try clear c174
                    try clear c174b0
                    try clear c175
                    try clear c175b0
                    try clear c175b1
                    try clear c194
                    try clear c196
                    try clear c198
                    try clear c199
                    try clear c199b0
                    try clear c199b1
                    try clear c211
                    try clear c215
                    try clear hx495_0
                    try clear p2
                    try clear p4
                    try clear p49
                    try clear p495
                    try clear q4
                    try clear q49
                    try clear q495
                    obtain ⟨kq, x346_212, rfl, HA, HJ212, HO_25, HO_31, HO_36, HB⟩ := hcut
                    cases kq with
                    | zero => exact absurd HA.out (by simp [laws_FnSchemes.j3])
                    | succ kj212 =>
                     have H := HA.out
                     clear HA
                     simp only [laws_FnSchemes.j3] at H
                     by_cases c216 : x346_212 = true
                     ·
                      subst c216
                      have H1 : (none) = some r := by rw [if_pos rfl] at H; exact H
                      exact absurd H1 (by simp)
                     ·
                      replace c216 := Bool.eq_false_iff.mpr c216
                      subst c216
                      rw [if_neg (show ¬ (false = true) by decide)] at H
                      have H' := Aside0.mk H
                      clear H
                      go_wp2
                      go_loopg [48] kj212 (fun kq v48 w' => ∃ (x48_5 : Int), v48 = .int .i64 x48_5 ∧ Aside0 (laws_FnSchemes.l0 kq t458 t459 t460 t463 t467 t476 t480 t481 x48_5 = some r) ∧ Aside0 (kq ≤ kj212) ∧ Aside0 (Kd.R (Kd.int .i64) 3 w' w.heap.size (fun k_ => some k_ ≠ (v469 : Value).ownBlock ∧ some k_ ≠ ((.slice Ao47 t476.length co47) : Value).ownBlock) (.slice Ao41 t459.length co41) t459) ∧ Aside0 (Kd.R (Kd.int .i64) 3 w' w.heap.size (fun k_ => some k_ ≠ ((.slice Ao41 t459.length co41) : Value).ownBlock ∧ some k_ ≠ ((.slice Ao47 t476.length co47) : Value).ownBlock) v469 t467) ∧ Aside0 (Kd.R (Kd.int .i64) 3 w' w.heap.size (fun k_ => some k_ ≠ ((.slice Ao41 t459.length co41) : Value).ownBlock ∧ some k_ ≠ (v469 : Value).ownBlock) (.slice Ao47 t476.length co47) t476) ∧ Aside0 (Below w.heap.size w w'))
                      case atStart => exact ⟨(0), (by first | rfl | (simp; done) | (simp [*]; done)), H', ⟨Nat.le_refl _⟩, ⟨by (with_reducible repeat apply Kd.R_drewN); exact HO_25.out⟩, ⟨by (with_reducible repeat apply Kd.R_drewN); exact HO_31.out⟩, ⟨by (with_reducible repeat apply Kd.R_drewN); exact HO_36.out⟩, ⟨by (with_reducible repeat apply pw_below_drewN); exact HB.out⟩⟩
                      case round =>
                       as_aux_lemma =>
                        clear H'
                        try clear c1
                        try clear c2
                        try clear p2
                        try clear c3
                        try clear p4
                        try clear q4
                        try clear hx4
                        try clear c5
                        try clear c6
                        try clear c7
                        try clear c8
                        try clear c9
                        try clear c10
                        try clear c11
                        try clear c12
                        try clear c13
                        try clear c14
                        try clear c15
                        try clear c16
                        try clear c17
                        try clear c18
                        try clear c19
                        try clear c20
                        try clear c21
                        try clear c22
                        try clear c23
                        try clear c24
                        try clear c25
                        try clear p49
                        try clear q49
                        try clear hx49
                        try clear c50
                        try clear c50b0
                        try clear c50b1
                        try clear c51
                        try clear c51b0
                        try clear c51b1
                        try clear c51b2
                        try clear c52
                        try clear c52b0
                        try clear c52b1
                        try clear c52b2
                        try clear c54
                        try clear c55
                        try clear c55b0
                        try clear c55b1
                        try clear c56
                        try clear c56b0
                        try clear c56b1
                        try clear c56b2
                        try clear c59
                        try clear c59b0
                        try clear c59b1
                        try clear c59b2
                        try clear c63
                        try clear c64
                        try clear c64b0
                        try clear c64b1
                        try clear c64b2
                        try clear c69
                        try clear c69b0
                        try clear c69b1
                        try clear c69b2
                        try clear c74
                        try clear c74b0
                        try clear c74b1
                        try clear c74b2
                        try clear c80
                        try clear c81
                        try clear c81b0
                        try clear c81b1
                        try clear c82
                        try clear c82b0
                        try clear c82b1
                        try clear c82b2
                        try clear c91
                        try clear c91b0
                        try clear c91b1
                        try clear c91b2
                        try clear c100
                        try clear c100b0
                        try clear c100b1
                        try clear c100b2
                        try clear c109
                        try clear c109b0
                        try clear c109b1
                        try clear c109b2
                        try clear c118
                        try clear c119
                        try clear c164
                        try clear c166
                        try clear c168
                        try clear c170
                        try clear c171
                        try clear c171b0
                        try clear c171b1
                        try clear c172
                        try clear c173
                        try clear c173b0
                        try clear c174
                        try clear c174b0
                        try clear c175
                        try clear c175b0
                        try clear c175b1
                        try clear c194
                        try clear c196
                        try clear c198
                        try clear c199
                        try clear c199b0
                        try clear c199b1
                        try clear c211
                        try clear c215
                        try clear c216
                        try clear hx495_0
                        try clear p2
                        try clear p4
                        try clear p49
                        try clear p495
                        try clear q4
                        try clear q49
                        try clear q495
                        obtain ⟨x48_5, rfl, HA, HK5, HO_25, HO_31, HO_36, HB⟩ := hrel
                        cases gk with
                        | zero => exact absurd HA.out (by simp [laws_FnSchemes.l0])
                        | succ k5 =>
                         have H := HA.out
                         clear HA
                         simp only [laws_FnSchemes.l0] at H
                         by_cases c217 : x48_5 < (t467.length : Int)
                         ·
                          rw [if_pos c217] at H
                          have c217b0 : decide (x48_5 < (t467.length : Int)) = true := decide_eq_true c217
                          clear c217
                          by_cases c218 : 0 ≤ x48_5
                          ·
                           rw [if_pos c218] at H
                           have c218b0 : decide (0 ≤ x48_5) = true := decide_eq_true c218
                           clear c218
                           replace H := Option.bind_eq_some_iff.mp H
                           obtain ⟨⟨t504, t505⟩, A2190, H⟩ := H
                           try dsimp only at H
                           have A219 := Aside0.mk A2190
                           clear A2190
                           replace H := Option.bind_eq_some_iff.mp H
                           obtain ⟨⟨t508, t509⟩, A2200, H⟩ := H
                           try dsimp only at H
                           have A220 := Aside0.mk A2200
                           clear A2200
                           by_cases c221 : t505 = true
                           ·
                            subst c221
                            rw [if_pos rfl] at H
                            by_cases c222 : t509 = true
                            ·
                             subst c222
                             rw [if_pos rfl] at H
                             by_cases c223 : t508 = true
                             ·
                              subst c223
                              rw [if_pos rfl] at H
                              by_cases c224 : t463 = true
                              ·
                               subst c224
                               rw [if_pos rfl] at H
                               have H' := Aside0.mk H
                               clear H
                               obtain ⟨Ao225, co225, eo225⟩ := Kd.R_slice HO_31.out
                               subst eo225
                               have p503 : 0 ≤ (x48_5 : Int) := of_decide_eq_true (by first | (with_reducible assumption) | assumption)
                               have q503 : x48_5 < (t467.length : Int) := of_decide_eq_true (by first | (with_reducible assumption) | assumption)
                               obtain ⟨ad503, e503, hx503_0⟩ := Kd.at_int (Kd.R_reads' HO_31.out).2.2 x48_5 p503 q503
                               cases e503
                               replace p503 := eq_true p503
                               replace q503 := eq_true q503
                               as_aux_lemma =>
                                go_wp2_with (first | ((with_reducible refine gate_callee (f := 29) rfl ?_); refine goesL_ (some 360) rfl rfl Try.func29 (by kernel_rfl) rfl #[.int .i64 t458, .slice Ao41 t459.length co41, .int .i64 (rd t467 x48_5)] rfl (by (try simp only [List.map_toArray, List.map_cons, List.map_nil]); first | done | rfl | (simp only [List.length_drop, List.length_take]; rfl)) ?_; (with_reducible refine (impl_DropFixed.calls t458 _ _ t459 (rd t467 x48_5) t504 true _ ?side1 ?side2 A219.out).mono ?_); (case side1 => repeat (first | exact (Kd.R_reads' HO_25.out).2.2 | (with_reducible refine Kd.C_alloc ?_ _) | (with_reducible refine Kd.C_drewN ?_ _) | (with_reducible refine Kd.C_drew ?_))); (case side2 => exact (Kd.R_reads' HO_25.out).2.1); rintro e w226 ⟨v506, rfl, ho0, hb⟩; refine ⟨_, rfl, ?_⟩; have n0_ := Aside0.mk (Kd.R_elder' (by (with_reducible repeat apply Kd.R_drewN); exact HO_25.out) (Kd.R_base ho0) hb); have n1_ := Aside0.mk (Kd.R_elder' (by (with_reducible repeat apply Kd.R_drewN); exact HO_31.out) (Kd.R_base ho0) hb); have n2_ := Aside0.mk (Kd.R_elder' (by (with_reducible repeat apply Kd.R_drewN); exact HO_36.out) (Kd.R_base ho0) hb); have n3_ := Aside0.mk (Kd.R_lower (Kd.R_new' (Kd.R_new' (Kd.R_new' ho0 (Kd.R_lt (by (with_reducible repeat apply Kd.R_drewN); exact HO_25.out))) (Kd.R_lt (by (with_reducible repeat apply Kd.R_drewN); exact HO_31.out))) (Kd.R_lt (by (with_reducible repeat apply Kd.R_drewN); exact HO_36.out))) (below_size (by (with_reducible repeat apply pw_below_drewN); exact HB.out))); have n4_ := Aside0.mk (below_step (by (with_reducible repeat apply pw_below_drewN); exact HB.out) hb); clear HO_25; clear HO_31; clear HO_36; clear HB; have HO_25 := n0_; have HO_31 := n1_; have HO_36 := n2_; have HO507 := n3_; have HB := n4_; clear n0_ n1_ n2_ n3_ n4_; (try clear hb); (try clear hb2); (try clear hk); (try clear hi); (try clear ho0); obtain ⟨Ao227, co227, eo227⟩ := Kd.R_slice HO507.out; subst eo227) | ((with_reducible refine gate_callee (f := 19) rfl ?_); refine goesL_ (some 367) rfl rfl Try.func19 (by kernel_rfl) rfl #[.int .i64 t458, .slice Ao227 t504.length co227, .int .i64 t460] rfl (by (try simp only [List.map_toArray, List.map_cons, List.map_nil]); first | done | rfl | (simp only [List.length_drop, List.length_take]; rfl)) ?_; (with_reducible refine (impl_IsSafe.calls k5 t458 _ _ t504 t460 true true _ ?side1 ?side2 A220.out).mono ?_); (case side1 => repeat (first | exact (Kd.R_reads' HO507.out).2.2 | (with_reducible refine Kd.C_alloc ?_ _) | (with_reducible refine Kd.C_drewN ?_ _) | (with_reducible refine Kd.C_drew ?_))); (case side2 => exact (Kd.R_reads' HO507.out).2.1); rintro e w228 ⟨rfl, hb⟩; refine ⟨_, rfl, ?_⟩; have n0_ := Aside0.mk (Kd.R_below (by (with_reducible repeat apply Kd.R_drewN); exact HO_25.out) hb); have n1_ := Aside0.mk (Kd.R_below (by (with_reducible repeat apply Kd.R_drewN); exact HO_31.out) hb); have n2_ := Aside0.mk (Kd.R_below (by (with_reducible repeat apply Kd.R_drewN); exact HO_36.out) hb); have n3_ := Aside0.mk (Kd.R_below (by (with_reducible repeat apply Kd.R_drewN); exact HO507.out) hb); have n4_ := Aside0.mk (below_step (by (with_reducible repeat apply pw_below_drewN); exact HB.out) hb); clear HO_25; clear HO_31; clear HO_36; clear HO507; clear HB; have HO_25 := n0_; have HO_31 := n1_; have HO_36 := n2_; have HO507 := n3_; have HB := n4_; clear n0_ n1_ n2_ n3_ n4_; (try clear hb); (try clear hb2); (try clear hk); (try clear hi)))
                                go_roundg k5
                                case measure => have := HJ23.out; have := HJ164.out; have := HJ192.out; have := HJ212.out; have := HK5.out; omega
                                case rel => exact ⟨(wrap64 (x48_5 + 1)), (by first | rfl | (simp; done) | (simp [*]; done)), H', ⟨by have := HJ23.out; have := HJ164.out; have := HJ192.out; have := HJ212.out; have := HK5.out; omega⟩, ⟨by (with_reducible repeat apply Kd.R_drewN); exact Kd.R_mono HO_25.out (fun _ hk => ⟨hk.1.1, hk.1.2⟩)⟩, ⟨by (with_reducible repeat apply Kd.R_drewN); exact Kd.R_mono HO_31.out (fun _ hk => ⟨hk.1.1, hk.1.2⟩)⟩, ⟨by (with_reducible repeat apply Kd.R_drewN); exact Kd.R_mono HO_36.out (fun _ hk => ⟨hk.1.1, hk.1.2⟩)⟩, ⟨by (with_reducible repeat apply pw_below_drewN); exact HB.out⟩⟩
                              ·
                               replace c224 := Bool.eq_false_iff.mpr c224
                               subst c224
                               have H1 : (none) = some r := by rw [if_neg (show ¬ (false = true) by decide)] at H; exact H
                               exact absurd H1 (by simp)
                             ·
                              replace c223 := Bool.eq_false_iff.mpr c223
                              subst c223
                              have H1 : (none) = some r := by rw [if_neg (show ¬ (false = true) by decide)] at H; exact H
                              exact absurd H1 (by simp)
                            ·
                             replace c222 := Bool.eq_false_iff.mpr c222
                             subst c222
                             have H1 : (none) = some r := by rw [if_neg (show ¬ (false = true) by decide)] at H; exact H
                             exact absurd H1 (by simp)
                           ·
                            replace c221 := Bool.eq_false_iff.mpr c221
                            subst c221
                            have H1 : (none) = some r := by rw [if_neg (show ¬ (false = true) by decide)] at H; exact H
                            exact absurd H1 (by simp)
                          ·
                           rw [if_neg c218] at H
                           exact absurd H (by simp)
                         ·
                          rw [if_neg c217] at H
                          have c217b0 : decide (x48_5 < (t467.length : Int)) = false := decide_eq_false c217
                          clear c217
                          by_cases c245 : t481 = true
                          ·
                           subst c245
                           rw [if_pos rfl] at H
                           by_cases c246 : t480 ≥ 0
                           ·
                            rw [if_pos c246] at H
                            have c246b0 : decide (0 ≤ t480) = true := decide_eq_true c246
                            clear c246
                            obtain ⟨ji247, hji247⟩ : ∃ j_ : Int, (shl .i64 1 (t476.length : Int)) = j_ := ⟨_, rfl⟩
                            replace H : (some (decide (t480 ≤ (ji247)))) = some r := by first | (rw [hji247] at H; exact H) | (simp only [hji247] at H ⊢; exact H)
                            have hji247_ : (IntKind.i64.wrap (1 * 2 ^ min (t476.length : Int).toNat 64)) = ji247 := hji247
                            have hji247z : (t476.length : Int) ≤ 64 → (IntKind.i64.wrap (1 * 2 ^ (t476.length : Int).toNat)) = ji247 := shl_small hji247
                            have hji247p : (IntKind.i64.wrap (1 * 2 ^ min t476.length 64)) = ji247 := hji247_
                            have hji247q : (t476.length : Int) ≤ 64 → (IntKind.i64.wrap (1 * 2 ^ t476.length)) = ji247 := hji247z
                            have hji247r : (IntKind.i64.wrap (2 ^ min t476.length 64)) = ji247 := by have h_ := hji247p; rw [Int.one_mul] at h_; exact h_
                            have hji247s : (t476.length : Int) ≤ 64 → (IntKind.i64.wrap (2 ^ t476.length)) = ji247 := fun hle_ => by have h_ := hji247q hle_; rw [Int.one_mul] at h_; exact h_
                            have hji247u : (IntKind.i64.wrap (2 ^ min (t476.length : Int).toNat 64)) = ji247 := by have h_ := hji247_; rw [Int.one_mul] at h_; exact h_
                            have hji247v : (t476.length : Int) ≤ 64 → (IntKind.i64.wrap (2 ^ (t476.length : Int).toNat)) = ji247 := fun hle_ => by have h_ := hji247z hle_; rw [Int.one_mul] at h_; exact h_
                            have hji247y : (wrap64 (1 * 2 ^ min (t476.length : Int).toNat 64)) = ji247 := (i64_w _).symm.trans hji247_
                            have hji247x : (t476.length : Int) ≤ 64 → (wrap64 (1 * 2 ^ (t476.length : Int).toNat)) = ji247 := fun h_ => (i64_w _).symm.trans (hji247z h_)
                            obtain rfl := Option.some.inj H
                            obtain ⟨Ao248, co248, eo248⟩ := Kd.R_slice HO_31.out
                            subst eo248
                            go_wp2
                            go_ret
                            exact ⟨by first | rfl | (simp [errW_none, errW_some] <;> rfl) | (simp only [← hji247]; first | rfl | (simp [errW_none, errW_some] <;> rfl)) | (simp [*, errW_none, errW_some] <;> rfl), by (with_reducible repeat apply pw_below_drewN); exact HB.out⟩
                           ·
                            rw [if_neg c246] at H
                            exact absurd H (by simp)
                          ·
                           replace c245 := Bool.eq_false_iff.mpr c245
                           subst c245
                           rw [if_neg (show ¬ (false = true) by decide)] at H
                           obtain rfl := Option.some.inj H
                           obtain ⟨Ao250, co250, eo250⟩ := Kd.R_slice HO_31.out
                           subst eo250
                           go_wp2
                           go_ret
                           exact ⟨by first | rfl | (simp [errW_none, errW_some] <;> rfl) | (simp [*, errW_none, errW_some] <;> rfl), by (with_reducible repeat apply pw_below_drewN); exact HB.out⟩
                 ·
                  replace c211 := Bool.eq_false_iff.mpr c211
                  subst c211
                  rw [if_neg (show ¬ (false = true) by decide)] at H
                  by_cases c251 : t481 = true
                  ·
                   subst c251
                   rw [if_pos rfl] at H
                   by_cases c252 : t480 ≥ 0
                   ·
                    rw [if_pos c252] at H
                    have c252b0 : decide (0 ≤ t480) = true := decide_eq_true c252
                    clear c252
                    obtain ⟨ji253, hji253⟩ : ∃ j_ : Int, (shl .i64 1 (t476.length : Int)) = j_ := ⟨_, rfl⟩
                    replace H : (some (decide (t480 ≤ (ji253)))) = some r := by first | (rw [hji253] at H; exact H) | (simp only [hji253] at H ⊢; exact H)
                    have hji253_ : (IntKind.i64.wrap (1 * 2 ^ min (t476.length : Int).toNat 64)) = ji253 := hji253
                    have hji253z : (t476.length : Int) ≤ 64 → (IntKind.i64.wrap (1 * 2 ^ (t476.length : Int).toNat)) = ji253 := shl_small hji253
                    have hji253p : (IntKind.i64.wrap (1 * 2 ^ min t476.length 64)) = ji253 := hji253_
                    have hji253q : (t476.length : Int) ≤ 64 → (IntKind.i64.wrap (1 * 2 ^ t476.length)) = ji253 := hji253z
                    have hji253r : (IntKind.i64.wrap (2 ^ min t476.length 64)) = ji253 := by have h_ := hji253p; rw [Int.one_mul] at h_; exact h_
                    have hji253s : (t476.length : Int) ≤ 64 → (IntKind.i64.wrap (2 ^ t476.length)) = ji253 := fun hle_ => by have h_ := hji253q hle_; rw [Int.one_mul] at h_; exact h_
                    have hji253u : (IntKind.i64.wrap (2 ^ min (t476.length : Int).toNat 64)) = ji253 := by have h_ := hji253_; rw [Int.one_mul] at h_; exact h_
                    have hji253v : (t476.length : Int) ≤ 64 → (IntKind.i64.wrap (2 ^ (t476.length : Int).toNat)) = ji253 := fun hle_ => by have h_ := hji253z hle_; rw [Int.one_mul] at h_; exact h_
                    have hji253y : (wrap64 (1 * 2 ^ min (t476.length : Int).toNat 64)) = ji253 := (i64_w _).symm.trans hji253_
                    have hji253x : (t476.length : Int) ≤ 64 → (wrap64 (1 * 2 ^ (t476.length : Int).toNat)) = ji253 := fun h_ => (i64_w _).symm.trans (hji253z h_)
                    obtain rfl := Option.some.inj H
                    go_wp2
                    go_ret
                    exact ⟨by first | rfl | (simp [errW_none, errW_some] <;> rfl) | (simp only [← hji253]; first | rfl | (simp [errW_none, errW_some] <;> rfl)) | (simp [*, errW_none, errW_some] <;> rfl), by (with_reducible repeat apply pw_below_drewN); exact HB.out⟩
                   ·
                    rw [if_neg c252] at H
                    exact absurd H (by simp)
                  ·
                   replace c251 := Bool.eq_false_iff.mpr c251
                   subst c251
                   rw [if_neg (show ¬ (false = true) by decide)] at H
                   obtain rfl := Option.some.inj H
                   go_wp2
                   go_ret
                   exact ⟨by first | rfl | (simp [errW_none, errW_some] <;> rfl) | (simp [*, errW_none, errW_some] <;> rfl), by (with_reducible repeat apply pw_below_drewN); exact HB.out⟩

/-- THE ONE PURE STATEMENT of laws_FnSchemes. -/
def laws_FnSchemes.Pure : Prop := ∀ (l0 : List Int), l0.length ≤ maxLen → (∀ x ∈ l0, (Lit.int .u8 x).wf = true) → ∃ k, laws_FnSchemes.f k l0 = some true

end Go.Proofs.Ytmckmagdiokhiaa.PFnSchemes
