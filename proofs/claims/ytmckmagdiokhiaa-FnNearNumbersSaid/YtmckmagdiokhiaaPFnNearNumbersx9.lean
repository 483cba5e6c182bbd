/- The Go functions' Lean forms, each with the proof that the function comes to what its form says: for one law, no condition. Written by a program for this work. -/
import Derived.Test.YtmckmagdiokhiaaPFnNearNumbersx0
import Derived.Test.YtmckmagdiokhiaaPFnNearNumbersx1
import Derived.Test.YtmckmagdiokhiaaPFnNearNumbersx2
import Derived.Test.YtmckmagdiokhiaaPFnNearNumbersx6
import Derived.Test.YtmckmagdiokhiaaPFnNearNumbersx7
import Derived.Test.YtmckmagdiokhiaaPFnNearNumbersx8
namespace Go.Proofs.Ytmckmagdiokhiaa.PFnNearNumbers
open Go.RowKit Go.Proofs.YtmckmagdiokhiaaW.PrintWords Go.Proofs.YtmckmagdiokhiaaW.PrintLast Go.Proofs.YtmckmagdiokhiaaW.PrintMore
open Go.Proofs.Ytmckmagdiokhiaa.Lib
attribute [local go_sem] max2_int min2_int max_two min_two max_three min_three max_four min_four   -- for this text's walks alone
set_option linter.unusedVariables false
set_option linter.unusedSimpArgs false

/-! ### laws_FnNearNumbers: function 4 -/
mutual
def laws_FnNearNumbers.j0 : Nat → Int → List Int → Int → List Int → Int → Bool → Int → List Int → Int → Int → List Int → Bool → Bool → Option (Bool)
 | 0, _, _, _, _, _, _, _, _, _, _, _, _, _ => none
 | k + 1, x3, x4, x5, x6, x7, x8, x12, x13, x14, x15, x16, x17, x106 => if x106 = true then (none) else (if x8 = true then (if (x6.length : Int) = 0 then (none) else (if x7 ≤ 14 then ((impl_FitNumbers.f k x3 x4 x5 x7).bind fun bt425 => (if bt425.2 = true then ((laws_vInts.f k bt425.1 x6).bind fun t429 => (if t429 = true then (laws_FnNearNumbers.j1 k x3 x4 x5 x6 x7 x12 x13 x14 x15 x16 x17) else (none))) else (none))) else (laws_FnNearNumbers.j1 k x3 x4 x5 x6 x7 x12 x13 x14 x15 x16 x17))) else (laws_FnNearNumbers.j3 k x12 x13 x14 x15 x16 x17))
def laws_FnNearNumbers.j3 : Nat → Int → List Int → Int → Int → List Int → Bool → Option (Bool)
 | 0, _, _, _, _, _, _ => none
 | k + 1, x12, x13, x14, x15, x16, x17 => if x17 = true then ((impl_NearNumbers.f k x12 x13 x14).bind fun bt446 => (if bt446.2.2 = true then (if ((decide ((x16.length : Int) > 0)) == (decide (bt446.2.1 ≤ x15))) = true then (if (x16.length : Int) = 0 then (some true) else (if 0 < (bt446.1.length : Int) then ((laws_vHas.f k x16 (rd bt446.1 0)).bind fun t452 => (some t452)) else (none))) else (none)) else (none))) else (some true)
def laws_FnNearNumbers.j1 : Nat → Int → List Int → Int → List Int → Int → Int → List Int → Int → Int → List Int → Bool → Option (Bool)
 | 0, _, _, _, _, _, _, _, _, _, _, _ => none
 | k + 1, x3, x4, x5, x6, x7, x12, x13, x14, x15, x16, x17 => if x7 > 0 then ((impl_FitNumbers.f k x3 x4 x5 (wrap64 (x7 - 1))).bind fun bt430 => (if bt430.2 = true then (if (bt430.1.length : Int) > 0 then (none) else (laws_FnNearNumbers.j2 k x3 x4 x6 x12 x13 x14 x15 x16 x17)) else (none))) else (laws_FnNearNumbers.j2 k x3 x4 x6 x12 x13 x14 x15 x16 x17)
def laws_FnNearNumbers.j2 : Nat → Int → List Int → List Int → Int → List Int → Int → Int → List Int → Bool → Option (Bool)
 | 0, _, _, _, _, _, _, _, _, _ => none
 | k + 1, x3, x4, x6, x12, x13, x14, x15, x16, x17 => if 0 < (x6.length : Int) then ((impl_TrueWord.f k x3 x4 (rd x6 0)).bind fun bt435 => ((impl_NearNumbers.f k x3 x4 bt435.1).bind fun bt437 => ((impl_GapOf.f k x3 x4).bind fun bt442 => (if bt435.2 = true then (if bt437.2.2 = true then (if bt442.2 = true then (if bt437.2.1 = 0 then ((laws_vHas.f k bt437.1 (rd x6 0)).bind fun t445 => (if t445 = true then (if bt442.1 > 0 then (if (bt437.1.length : Int) = 1 then (if (true != true) = true then (none) else (laws_FnNearNumbers.j3 k x12 x13 x14 x15 x16 x17)) else (if (true != false) = true then (none) else (laws_FnNearNumbers.j3 k x12 x13 x14 x15 x16 x17))) else (if (bt437.1.length : Int) = 1 then (if ((x3 == 1) != (x3 == 1)) = true then (none) else (laws_FnNearNumbers.j3 k x12 x13 x14 x15 x16 x17)) else (if ((x3 == 1) != false) = true then (none) else (laws_FnNearNumbers.j3 k x12 x13 x14 x15 x16 x17)))) else (none))) else (none)) else (none)) else (none)) else (none))))) else (none)
end
def laws_FnNearNumbers.f (k : Nat) (l0 : List Int) : Option (Bool) := (laws_vBig.f l0).bind fun t390 => (if t390 = true then (some true) else ((spec_DrawNearNumbers.f k l0).bind fun bt391 => ((impl_NearNumbers.f k bt391.1 bt391.2.1 bt391.2.2).bind fun bt396 => ((spec_NearNumbers.f k bt391.1 bt391.2.1 bt391.2.2).bind fun bt401 => ((laws_vCut.f l0 1).bind fun t406 => ((spec_DrawFitNumbers.f k t406).bind fun bt409 => ((impl_FitNumbers.f k bt409.1 bt409.2.1 bt409.2.2.1 bt409.2.2.2).bind fun bt415 => ((spec_FitNumbers.f k bt409.1 bt409.2.1 bt409.2.2.1 bt409.2.2.2).bind fun bt419 => (if bt396.2.1 = bt401.2.1 then (if (bt396.2.2 != bt401.2.2) = true then (none) else ((laws_vInts.f k bt396.1 bt401.1).bind fun t423 => (if t423 = true then (if (bt415.2 != bt419.2) = true then (none) else ((laws_vInts.f k bt415.1 bt419.1).bind fun t424 => (laws_FnNearNumbers.j0 k bt391.1 bt391.2.1 bt391.2.2 bt396.1 bt396.2.1 bt396.2.2 bt409.1 bt409.2.1 bt409.2.2.1 bt409.2.2.2 bt415.1 bt415.2 (!t424)))) else (none)))) else (none))))))))))
theorem laws_FnNearNumbers.mono_l : ∀ k, (∀ y0 y1 y2 y3 y4 y5 y6 y7 y8 y9 y10 y11 y12, LeO (laws_FnNearNumbers.j0 k y0 y1 y2 y3 y4 y5 y6 y7 y8 y9 y10 y11 y12) (laws_FnNearNumbers.j0 (k + 1) y0 y1 y2 y3 y4 y5 y6 y7 y8 y9 y10 y11 y12)) ∧ (∀ y0 y1 y2 y3 y4 y5, LeO (laws_FnNearNumbers.j3 k y0 y1 y2 y3 y4 y5) (laws_FnNearNumbers.j3 (k + 1) y0 y1 y2 y3 y4 y5)) ∧ (∀ y0 y1 y2 y3 y4 y5 y6 y7 y8 y9 y10, LeO (laws_FnNearNumbers.j1 k y0 y1 y2 y3 y4 y5 y6 y7 y8 y9 y10) (laws_FnNearNumbers.j1 (k + 1) y0 y1 y2 y3 y4 y5 y6 y7 y8 y9 y10)) ∧ (∀ y0 y1 y2 y3 y4 y5 y6 y7 y8, LeO (laws_FnNearNumbers.j2 k y0 y1 y2 y3 y4 y5 y6 y7 y8) (laws_FnNearNumbers.j2 (k + 1) y0 y1 y2 y3 y4 y5 y6 y7 y8))
 | 0 => ⟨fun _ _ _ _ _ _ _ _ _ _ _ _ _ r h => by simp [laws_FnNearNumbers.j0] at h, fun _ _ _ _ _ _ r h => by simp [laws_FnNearNumbers.j3] at h, fun _ _ _ _ _ _ _ _ _ _ _ r h => by simp [laws_FnNearNumbers.j1] at h, fun _ _ _ _ _ _ _ _ _ r h => by simp [laws_FnNearNumbers.j2] at h⟩
 | k + 1 => by
  obtain ⟨ih0, ih1, ih2, ih3⟩ := laws_FnNearNumbers.mono_l k
  refine ⟨?_, ?_, ?_, ?_⟩
  ·
   intro y0 y1 y2 y3 y4 y5 y6 y7 y8 y9 y10 y11 y12
   unfold laws_FnNearNumbers.j0
   repeat' first
   | (with_reducible exact ih0 _ _ _ _ _ _ _ _ _ _ _ _ _)
   | (with_reducible exact ih1 _ _ _ _ _ _)
   | (with_reducible exact ih2 _ _ _ _ _ _ _ _ _ _ _)
   | (with_reducible exact ih3 _ _ _ _ _ _ _ _ _)
   | (with_reducible exact impl_FitNumbers.mono _ _ _ _ _)
   | (with_reducible exact impl_GapOf.mono _ _ _)
   | (with_reducible exact impl_NearNumbers.mono _ _ _ _)
   | (with_reducible exact impl_TrueWord.mono _ _ _ _)
   | (with_reducible exact laws_vHas.mono _ _ _)
   | (with_reducible exact laws_vInts.mono _ _ _)
   | (with_reducible exact spec_DrawFitNumbers.mono _ _)
   | (with_reducible exact spec_DrawNearNumbers.mono _ _)
   | (with_reducible exact spec_FitNumbers.mono _ _ _ _ _)
   | (with_reducible exact spec_NearNumbers.mono _ _ _ _)
   | (with_reducible exact LeO.refl _)
   | (with_reducible exact LeO.none _)
   | (with_reducible exact LeO.none _)
   | (with_reducible refine LeO.ite ?_ ?_)
   | (with_reducible refine LeO.bind ?_ (fun _ => ?_))
   | exact ih0 _ _ _ _ _ _ _ _ _ _ _ _ _
   | exact ih1 _ _ _ _ _ _
   | exact ih2 _ _ _ _ _ _ _ _ _ _ _
   | exact ih3 _ _ _ _ _ _ _ _ _
   | exact impl_FitNumbers.mono _ _ _ _ _
   | exact impl_GapOf.mono _ _ _
   | exact impl_NearNumbers.mono _ _ _ _
   | exact impl_TrueWord.mono _ _ _ _
   | exact laws_vHas.mono _ _ _
   | exact laws_vInts.mono _ _ _
   | exact spec_DrawFitNumbers.mono _ _
   | exact spec_DrawNearNumbers.mono _ _
   | exact spec_FitNumbers.mono _ _ _ _ _
   | exact spec_NearNumbers.mono _ _ _ _
   | exact LeO.none _
   | refine LeO.ite ?_ ?_
   | refine LeO.bind ?_ (fun _ => ?_)
  ·
   intro y0 y1 y2 y3 y4 y5
   unfold laws_FnNearNumbers.j3
   repeat' first
   | (with_reducible exact ih0 _ _ _ _ _ _ _ _ _ _ _ _ _)
   | (with_reducible exact ih1 _ _ _ _ _ _)
   | (with_reducible exact ih2 _ _ _ _ _ _ _ _ _ _ _)
   | (with_reducible exact ih3 _ _ _ _ _ _ _ _ _)
   | (with_reducible exact impl_FitNumbers.mono _ _ _ _ _)
   | (with_reducible exact impl_GapOf.mono _ _ _)
   | (with_reducible exact impl_NearNumbers.mono _ _ _ _)
   | (with_reducible exact impl_TrueWord.mono _ _ _ _)
   | (with_reducible exact laws_vHas.mono _ _ _)
   | (with_reducible exact laws_vInts.mono _ _ _)
   | (with_reducible exact spec_DrawFitNumbers.mono _ _)
   | (with_reducible exact spec_DrawNearNumbers.mono _ _)
   | (with_reducible exact spec_FitNumbers.mono _ _ _ _ _)
   | (with_reducible exact spec_NearNumbers.mono _ _ _ _)
   | (with_reducible exact LeO.refl _)
   | (with_reducible exact LeO.none _)
   | (with_reducible exact LeO.none _)
   | (with_reducible refine LeO.ite ?_ ?_)
   | (with_reducible refine LeO.bind ?_ (fun _ => ?_))
   | exact ih0 _ _ _ _ _ _ _ _ _ _ _ _ _
   | exact ih1 _ _ _ _ _ _
   | exact ih2 _ _ _ _ _ _ _ _ _ _ _
   | exact ih3 _ _ _ _ _ _ _ _ _
   | exact impl_FitNumbers.mono _ _ _ _ _
   | exact impl_GapOf.mono _ _ _
   | exact impl_NearNumbers.mono _ _ _ _
   | exact impl_TrueWord.mono _ _ _ _
   | exact laws_vHas.mono _ _ _
   | exact laws_vInts.mono _ _ _
   | exact spec_DrawFitNumbers.mono _ _
   | exact spec_DrawNearNumbers.mono _ _
   | exact spec_FitNumbers.mono _ _ _ _ _
   | exact spec_NearNumbers.mono _ _ _ _
   | exact LeO.none _
   | refine LeO.ite ?_ ?_
   | refine LeO.bind ?_ (fun _ => ?_)
  ·
   intro y0 y1 y2 y3 y4 y5 y6 y7 y8 y9 y10
   unfold laws_FnNearNumbers.j1
   repeat' first
   | (with_reducible exact ih0 _ _ _ _ _ _ _ _ _ _ _ _ _)
   | (with_reducible exact ih1 _ _ _ _ _ _)
   | (with_reducible exact ih2 _ _ _ _ _ _ _ _ _ _ _)
   | (with_reducible exact ih3 _ _ _ _ _ _ _ _ _)
   | (with_reducible exact impl_FitNumbers.mono _ _ _ _ _)
   | (with_reducible exact impl_GapOf.mono _ _ _)
   | (with_reducible exact impl_NearNumbers.mono _ _ _ _)
   | (with_reducible exact impl_TrueWord.mono _ _ _ _)
   | (with_reducible exact laws_vHas.mono _ _ _)
   | (with_reducible exact laws_vInts.mono _ _ _)
   | (with_reducible exact spec_DrawFitNumbers.mono _ _)
   | (with_reducible exact spec_DrawNearNumbers.mono _ _)
   | (with_reducible exact spec_FitNumbers.mono _ _ _ _ _)
   | (with_reducible exact spec_NearNumbers.mono _ _ _ _)
   | (with_reducible exact LeO.refl _)
   | (with_reducible exact LeO.none _)
   | (with_reducible exact LeO.none _)
   | (with_reducible refine LeO.ite ?_ ?_)
   | (with_reducible refine LeO.bind ?_ (fun _ => ?_))
   | exact ih0 _ _ _ _ _ _ _ _ _ _ _ _ _
   | exact ih1 _ _ _ _ _ _
   | exact ih2 _ _ _ _ _ _ _ _ _ _ _
   | exact ih3 _ _ _ _ _ _ _ _ _
   | exact impl_FitNumbers.mono _ _ _ _ _
   | exact impl_GapOf.mono _ _ _
   | exact impl_NearNumbers.mono _ _ _ _
   | exact impl_TrueWord.mono _ _ _ _
   | exact laws_vHas.mono _ _ _
   | exact laws_vInts.mono _ _ _
   | exact spec_DrawFitNumbers.mono _ _
   | exact spec_DrawNearNumbers.mono _ _
   | exact spec_FitNumbers.mono _ _ _ _ _
   | exact spec_NearNumbers.mono _ _ _ _
   | exact LeO.none _
   | refine LeO.ite ?_ ?_
   | refine LeO.bind ?_ (fun _ => ?_)
  ·
   intro y0 y1 y2 y3 y4 y5 y6 y7 y8
   unfold laws_FnNearNumbers.j2
   repeat' first
   | (with_reducible exact ih0 _ _ _ _ _ _ _ _ _ _ _ _ _)
   | (with_reducible exact ih1 _ _ _ _ _ _)
   | (with_reducible exact ih2 _ _ _ _ _ _ _ _ _ _ _)
   | (with_reducible exact ih3 _ _ _ _ _ _ _ _ _)
   | (with_reducible exact impl_FitNumbers.mono _ _ _ _ _)
   | (with_reducible exact impl_GapOf.mono _ _ _)
   | (with_reducible exact impl_NearNumbers.mono _ _ _ _)
   | (with_reducible exact impl_TrueWord.mono _ _ _ _)
   | (with_reducible exact laws_vHas.mono _ _ _)
   | (with_reducible exact laws_vInts.mono _ _ _)
   | (with_reducible exact spec_DrawFitNumbers.mono _ _)
   | (with_reducible exact spec_DrawNearNumbers.mono _ _)
   | (with_reducible exact spec_FitNumbers.mono _ _ _ _ _)
   | (with_reducible exact spec_NearNumbers.mono _ _ _ _)
   | (with_reducible exact LeO.refl _)
   | (with_reducible exact LeO.none _)
   | (with_reducible exact LeO.none _)
   | (with_reducible refine LeO.ite ?_ ?_)
   | (with_reducible refine LeO.bind ?_ (fun _ => ?_))
   | exact ih0 _ _ _ _ _ _ _ _ _ _ _ _ _
   | exact ih1 _ _ _ _ _ _
   | exact ih2 _ _ _ _ _ _ _ _ _ _ _
   | exact ih3 _ _ _ _ _ _ _ _ _
   | exact impl_FitNumbers.mono _ _ _ _ _
   | exact impl_GapOf.mono _ _ _
   | exact impl_NearNumbers.mono _ _ _ _
   | exact impl_TrueWord.mono _ _ _ _
   | exact laws_vHas.mono _ _ _
   | exact laws_vInts.mono _ _ _
   | exact spec_DrawFitNumbers.mono _ _
   | exact spec_DrawNearNumbers.mono _ _
   | exact spec_FitNumbers.mono _ _ _ _ _
   | exact spec_NearNumbers.mono _ _ _ _
   | exact LeO.none _
   | refine LeO.ite ?_ ?_
   | refine LeO.bind ?_ (fun _ => ?_)
theorem laws_FnNearNumbers.mono : ∀ a0 k, LeO (laws_FnNearNumbers.f k a0) (laws_FnNearNumbers.f (k + 1) a0) := by
 intro a0 k
 obtain ⟨ih0, ih1, ih2, ih3⟩ := laws_FnNearNumbers.mono_l k
 unfold laws_FnNearNumbers.f
 repeat' first
   | (with_reducible exact ih0 _ _ _ _ _ _ _ _ _ _ _ _ _)
   | (with_reducible exact ih1 _ _ _ _ _ _)
   | (with_reducible exact ih2 _ _ _ _ _ _ _ _ _ _ _)
   | (with_reducible exact ih3 _ _ _ _ _ _ _ _ _)
   | (with_reducible exact impl_FitNumbers.mono _ _ _ _ _)
   | (with_reducible exact impl_GapOf.mono _ _ _)
   | (with_reducible exact impl_NearNumbers.mono _ _ _ _)
   | (with_reducible exact impl_TrueWord.mono _ _ _ _)
   | (with_reducible exact laws_vHas.mono _ _ _)
   | (with_reducible exact laws_vInts.mono _ _ _)
   | (with_reducible exact spec_DrawFitNumbers.mono _ _)
   | (with_reducible exact spec_DrawNearNumbers.mono _ _)
   | (with_reducible exact spec_FitNumbers.mono _ _ _ _ _)
   | (with_reducible exact spec_NearNumbers.mono _ _ _ _)
   | (with_reducible exact LeO.refl _)
   | (with_reducible exact LeO.none _)
   | (with_reducible exact LeO.none _)
   | (with_reducible refine LeO.ite ?_ ?_)
   | (with_reducible refine LeO.bind ?_ (fun _ => ?_))
   | exact ih0 _ _ _ _ _ _ _ _ _ _ _ _ _
   | exact ih1 _ _ _ _ _ _
   | exact ih2 _ _ _ _ _ _ _ _ _ _ _
   | exact ih3 _ _ _ _ _ _ _ _ _
   | exact impl_FitNumbers.mono _ _ _ _ _
   | exact impl_GapOf.mono _ _ _
   | exact impl_NearNumbers.mono _ _ _ _
   | exact impl_TrueWord.mono _ _ _ _
   | exact laws_vHas.mono _ _ _
   | exact laws_vInts.mono _ _ _
   | exact spec_DrawFitNumbers.mono _ _
   | exact spec_DrawNearNumbers.mono _ _
   | exact spec_FitNumbers.mono _ _ _ _ _
   | exact spec_NearNumbers.mono _ _ _ _
   | exact LeO.none _
   | refine LeO.ite ?_ ?_
   | refine LeO.bind ?_ (fun _ => ?_)
set_option maxHeartbeats 8000000 in
set_option maxRecDepth 100000 in
theorem laws_FnNearNumbers.calls (k : Nat) (A0 : Option Addr) (c0 : Nat) (l0 : List Int) (r : Bool) (w : World) (hr0 : Kd.C (Kd.int .u8) w A0 l0.length l0) (hc0 : l0.length ≤ c0) (h : laws_FnNearNumbers.f k l0 = some r) :
  Calls Try.prog 4 #[.slice A0 l0.length c0] w fun e w' => e = .returned (.bool r) ∧ Below w.heap.size w w' := by
 have HR0 := Aside0.mk hr0
 have HC0 := Aside0.mk hc0
 clear hr0 hc0
 have HB := Aside0.mk (Below.refl w.heap.size w)
 have H : ((laws_vBig.f l0).bind fun t390 => (if t390 = true then (some true) else ((spec_DrawNearNumbers.f k l0).bind fun bt391 => ((impl_NearNumbers.f k bt391.1 bt391.2.1 bt391.2.2).bind fun bt396 => ((spec_NearNumbers.f k bt391.1 bt391.2.1 bt391.2.2).bind fun bt401 => ((laws_vCut.f l0 1).bind fun t406 => ((spec_DrawFitNumbers.f k t406).bind fun bt409 => ((impl_FitNumbers.f k bt409.1 bt409.2.1 bt409.2.2.1 bt409.2.2.2).bind fun bt415 => ((spec_FitNumbers.f k bt409.1 bt409.2.1 bt409.2.2.1 bt409.2.2.2).bind fun bt419 => (if bt396.2.1 = bt401.2.1 then (if (bt396.2.2 != bt401.2.2) = true then (none) else ((laws_vInts.f k bt396.1 bt401.1).bind fun t423 => (if t423 = true then (if (bt415.2 != bt419.2) = true then (none) else ((laws_vInts.f k bt415.1 bt419.1).bind fun t424 => (laws_FnNearNumbers.j0 k bt391.1 bt391.2.1 bt391.2.2 bt396.1 bt396.2.1 bt396.2.2 bt409.1 bt409.2.1 bt409.2.2.1 bt409.2.2.2 bt415.1 bt415.2 (!t424)))) else (none)))) else (none))))))))))) = some r := h
 clear h
 replace H := Option.bind_eq_some_iff.mp H
 obtain ⟨t390, A20, H⟩ := H
 replace H : (if t390 = true then (some true) else ((spec_DrawNearNumbers.f k l0).bind fun bt391 => ((impl_NearNumbers.f k bt391.1 bt391.2.1 bt391.2.2).bind fun bt396 => ((spec_NearNumbers.f k bt391.1 bt391.2.1 bt391.2.2).bind fun bt401 => ((laws_vCut.f l0 1).bind fun t406 => ((spec_DrawFitNumbers.f k t406).bind fun bt409 => ((impl_FitNumbers.f k bt409.1 bt409.2.1 bt409.2.2.1 bt409.2.2.2).bind fun bt415 => ((spec_FitNumbers.f k bt409.1 bt409.2.1 bt409.2.2.1 bt409.2.2.2).bind fun bt419 => (if bt396.2.1 = bt401.2.1 then (if (bt396.2.2 != bt401.2.2) = true then (none) else ((laws_vInts.f k bt396.1 bt401.1).bind fun t423 => (if t423 = true then (if (bt415.2 != bt419.2) = true then (none) else ((laws_vInts.f k bt415.1 bt419.1).bind fun t424 => (laws_FnNearNumbers.j0 k bt391.1 bt391.2.1 bt391.2.2 bt396.1 bt396.2.1 bt396.2.2 bt409.1 bt409.2.1 bt409.2.2.1 bt409.2.2.2 bt415.1 bt415.2 (!t424)))) else (none)))) else (none)))))))))) = some r := H
 have A2 := Aside0.mk A20
 clear A20
 by_cases c3 : t390 = true
 ·
  subst c3
  have H1 : (some true) = some r := by rw [if_pos rfl] at H; exact H
  clear H
  have H := H1
  clear H1
  obtain rfl := Option.some.inj H
  go_enter Try.func4, Try.ntmps4
  go_wp2_with (first | ((with_reducible refine gate_callee (f := 6) rfl ?_); refine goesL_ (some 35) rfl rfl Try.func6 (by kernel_rfl) rfl #[.slice A0 l0.length c0] rfl (by (try simp only [List.map_toArray, List.map_cons, List.map_nil]); first | done | rfl | (simp only [List.length_drop, List.length_take]; rfl)) ?_; (with_reducible refine (laws_vBig.calls _ _ l0 true _ ?side1 ?side2 A2.out).mono ?_); (case side1 => repeat (first | exact HR0.out | (with_reducible refine Kd.C_alloc ?_ _) | (with_reducible refine Kd.C_drewN ?_ _) | (with_reducible refine Kd.C_drew ?_))); (case side2 => exact HC0.out); rintro e w' ⟨rfl, ⟨nd, rfl⟩⟩; refine ⟨_, rfl, ?_⟩))
  go_ret
  exact ⟨by first | rfl | (simp [errW_none, errW_some] <;> rfl) | (simp [*, errW_none, errW_some] <;> rfl), by repeat (first | (with_reducible first | exact HB.out | apply below_alloc | apply pw_below_drewN | apply below_drew1) | exact HB.out)⟩
 ·
  replace c3 := Bool.eq_false_iff.mpr c3
  subst c3
  have H1 : ((spec_DrawNearNumbers.f k l0).bind fun bt391 => ((impl_NearNumbers.f k bt391.1 bt391.2.1 bt391.2.2).bind fun bt396 => ((spec_NearNumbers.f k bt391.1 bt391.2.1 bt391.2.2).bind fun bt401 => ((laws_vCut.f l0 1).bind fun t406 => ((spec_DrawFitNumbers.f k t406).bind fun bt409 => ((impl_FitNumbers.f k bt409.1 bt409.2.1 bt409.2.2.1 bt409.2.2.2).bind fun bt415 => ((spec_FitNumbers.f k bt409.1 bt409.2.1 bt409.2.2.1 bt409.2.2.2).bind fun bt419 => (if bt396.2.1 = bt401.2.1 then (if (bt396.2.2 != bt401.2.2) = true then (none) else ((laws_vInts.f k bt396.1 bt401.1).bind fun t423 => (if t423 = true then (if (bt415.2 != bt419.2) = true then (none) else ((laws_vInts.f k bt415.1 bt419.1).bind fun t424 => (laws_FnNearNumbers.j0 k bt391.1 bt391.2.1 bt391.2.2 bt396.1 bt396.2.1 bt396.2.2 bt409.1 bt409.2.1 bt409.2.2.1 bt409.2.2.2 bt415.1 bt415.2 (!t424)))) else (none)))) else (none))))))))) = some r := by rw [if_neg (show ¬ (false = true) by decide)] at H; exact H
  clear H
  have H := H1
  clear H1
  replace H := Option.bind_eq_some_iff.mp H
  obtain ⟨⟨t391, t392, t393⟩, A40, H⟩ := H
  replace H : ((impl_NearNumbers.f k t391 t392 t393).bind fun bt396 => ((spec_NearNumbers.f k t391 t392 t393).bind fun bt401 => ((laws_vCut.f l0 1).bind fun t406 => ((spec_DrawFitNumbers.f k t406).bind fun bt409 => ((impl_FitNumbers.f k bt409.1 bt409.2.1 bt409.2.2.1 bt409.2.2.2).bind fun bt415 => ((spec_FitNumbers.f k bt409.1 bt409.2.1 bt409.2.2.1 bt409.2.2.2).bind fun bt419 => (if bt396.2.1 = bt401.2.1 then (if (bt396.2.2 != bt401.2.2) = true then (none) else ((laws_vInts.f k bt396.1 bt401.1).bind fun t423 => (if t423 = true then (if (bt415.2 != bt419.2) = true then (none) else ((laws_vInts.f k bt415.1 bt419.1).bind fun t424 => (laws_FnNearNumbers.j0 k t391 t392 t393 bt396.1 bt396.2.1 bt396.2.2 bt409.1 bt409.2.1 bt409.2.2.1 bt409.2.2.2 bt415.1 bt415.2 (!t424)))) else (none)))) else (none)))))))) = some r := H
  have A4 := Aside0.mk A40
  clear A40
  replace H := Option.bind_eq_some_iff.mp H
  obtain ⟨⟨t396, t397, t398⟩, A50, H⟩ := H
  replace H : ((spec_NearNumbers.f k t391 t392 t393).bind fun bt401 => ((laws_vCut.f l0 1).bind fun t406 => ((spec_DrawFitNumbers.f k t406).bind fun bt409 => ((impl_FitNumbers.f k bt409.1 bt409.2.1 bt409.2.2.1 bt409.2.2.2).bind fun bt415 => ((spec_FitNumbers.f k bt409.1 bt409.2.1 bt409.2.2.1 bt409.2.2.2).bind fun bt419 => (if t397 = bt401.2.1 then (if (t398 != bt401.2.2) = true then (none) else ((laws_vInts.f k t396 bt401.1).bind fun t423 => (if t423 = true then (if (bt415.2 != bt419.2) = true then (none) else ((laws_vInts.f k bt415.1 bt419.1).bind fun t424 => (laws_FnNearNumbers.j0 k t391 t392 t393 t396 t397 t398 bt409.1 bt409.2.1 bt409.2.2.1 bt409.2.2.2 bt415.1 bt415.2 (!t424)))) else (none)))) else (none))))))) = some r := H
  have A5 := Aside0.mk A50
  clear A50
  replace H := Option.bind_eq_some_iff.mp H
  obtain ⟨⟨t401, t402, t403⟩, A60, H⟩ := H
  replace H : ((laws_vCut.f l0 1).bind fun t406 => ((spec_DrawFitNumbers.f k t406).bind fun bt409 => ((impl_FitNumbers.f k bt409.1 bt409.2.1 bt409.2.2.1 bt409.2.2.2).bind fun bt415 => ((spec_FitNumbers.f k bt409.1 bt409.2.1 bt409.2.2.1 bt409.2.2.2).bind fun bt419 => (if t397 = t402 then (if (t398 != t403) = true then (none) else ((laws_vInts.f k t396 t401).bind fun t423 => (if t423 = true then (if (bt415.2 != bt419.2) = true then (none) else ((laws_vInts.f k bt415.1 bt419.1).bind fun t424 => (laws_FnNearNumbers.j0 k t391 t392 t393 t396 t397 t398 bt409.1 bt409.2.1 bt409.2.2.1 bt409.2.2.2 bt415.1 bt415.2 (!t424)))) else (none)))) else (none)))))) = some r := H
  have A6 := Aside0.mk A60
  clear A60
  replace H := Option.bind_eq_some_iff.mp H
  obtain ⟨t406, A70, H⟩ := H
  replace H : ((spec_DrawFitNumbers.f k t406).bind fun bt409 => ((impl_FitNumbers.f k bt409.1 bt409.2.1 bt409.2.2.1 bt409.2.2.2).bind fun bt415 => ((spec_FitNumbers.f k bt409.1 bt409.2.1 bt409.2.2.1 bt409.2.2.2).bind fun bt419 => (if t397 = t402 then (if (t398 != t403) = true then (none) else ((laws_vInts.f k t396 t401).bind fun t423 => (if t423 = true then (if (bt415.2 != bt419.2) = true then (none) else ((laws_vInts.f k bt415.1 bt419.1).bind fun t424 => (laws_FnNearNumbers.j0 k t391 t392 t393 t396 t397 t398 bt409.1 bt409.2.1 bt409.2.2.1 bt409.2.2.2 bt415.1 bt415.2 (!t424)))) else (none)))) else (none))))) = some r := H
  have A7 := Aside0.mk A70
  clear A70
  replace H := Option.bind_eq_some_iff.mp H
  obtain ⟨⟨t409, t410, t411, t412⟩, A80, H⟩ := H
  replace H : ((impl_FitNumbers.f k t409 t410 t411 t412).bind fun bt415 => ((spec_FitNumbers.f k t409 t410 t411 t412).bind fun bt419 => (if t397 = t402 then (if (t398 != t403) = true then (none) else ((laws_vInts.f k t396 t401).bind fun t423 => (if t423 = true then (if (bt415.2 != bt419.2) = true then (none) else ((laws_vInts.f k bt415.1 bt419.1).bind fun t424 => (laws_FnNearNumbers.j0 k t391 t392 t393 t396 t397 t398 t409 t410 t411 t412 bt415.1 bt415.2 (!t424)))) else (none)))) else (none)))) = some r := H
  have A8 := Aside0.mk A80
  clear A80
  replace H := Option.bind_eq_some_iff.mp H
  obtain ⟨⟨t415, t416⟩, A90, H⟩ := H
  replace H : ((spec_FitNumbers.f k t409 t410 t411 t412).bind fun bt419 => (if t397 = t402 then (if (t398 != t403) = true then (none) else ((laws_vInts.f k t396 t401).bind fun t423 => (if t423 = true then (if (t416 != bt419.2) = true then (none) else ((laws_vInts.f k t415 bt419.1).bind fun t424 => (laws_FnNearNumbers.j0 k t391 t392 t393 t396 t397 t398 t409 t410 t411 t412 t415 t416 (!t424)))) else (none)))) else (none))) = some r := H
  have A9 := Aside0.mk A90
  clear A90
  replace H := Option.bind_eq_some_iff.mp H
  obtain ⟨⟨t419, t420⟩, A100, H⟩ := H
  replace H : (if t397 = t402 then (if (t398 != t403) = true then (none) else ((laws_vInts.f k t396 t401).bind fun t423 => (if t423 = true then (if (t416 != t420) = true then (none) else ((laws_vInts.f k t415 t419).bind fun t424 => (laws_FnNearNumbers.j0 k t391 t392 t393 t396 t397 t398 t409 t410 t411 t412 t415 t416 (!t424)))) else (none)))) else (none)) = some r := H
  have A10 := Aside0.mk A100
  clear A100
  have HC11 := Aside0.mk H
  clear H
  go_enter Try.func4, Try.ntmps4
  go_upto_region 9 with (first | ((with_reducible refine gate_callee (f := 6) rfl ?_); refine goesL_ (some 35) rfl rfl Try.func6 (by kernel_rfl) rfl #[.slice A0 l0.length c0] rfl (by (try simp only [List.map_toArray, List.map_cons, List.map_nil]); first | done | rfl | (simp only [List.length_drop, List.length_take]; rfl)) ?_; (with_reducible refine (laws_vBig.calls _ _ l0 false _ ?side1 ?side2 A2.out).mono ?_); (case side1 => repeat (first | exact HR0.out | (with_reducible refine Kd.C_alloc ?_ _) | (with_reducible refine Kd.C_drewN ?_ _) | (with_reducible refine Kd.C_drew ?_))); (case side2 => exact HC0.out); rintro e w' ⟨rfl, ⟨nd, rfl⟩⟩; refine ⟨_, rfl, ?_⟩) | ((with_reducible refine gate_callee (f := 30) rfl ?_); refine goesL_ (some 38) rfl rfl Try.func30 (by kernel_rfl) rfl #[.slice A0 l0.length c0] rfl (by (try simp only [List.map_toArray, List.map_cons, List.map_nil]); first | done | rfl | (simp only [List.length_drop, List.length_take]; rfl)) ?_; (with_reducible refine (spec_DrawNearNumbers.calls k _ _ l0 t391 t392 t393 _ ?side1 ?side2 A4.out).mono ?_); (case side1 => repeat (first | exact HR0.out | (with_reducible refine Kd.C_alloc ?_ _) | (with_reducible refine Kd.C_drewN ?_ _) | (with_reducible refine Kd.C_drew ?_))); (case side2 => exact HC0.out); rintro e w12 ⟨v394, rfl, ho0, hb⟩; refine ⟨_, rfl, ?_⟩; have n0_ := Aside0.mk (Kd.R_lower ho0 (below_size (by repeat (first | (with_reducible first | exact HB.out | apply below_alloc | apply pw_below_drewN | apply below_drew1) | exact HB.out)))); have n1_ := Aside0.mk (below_step (by repeat (first | (with_reducible first | exact HB.out | apply below_alloc | apply pw_below_drewN | apply below_drew1) | exact HB.out)) hb); clear HB; have HO395 := n0_; have HB := n1_; clear n0_ n1_; (try clear hb); (try clear hb2); (try clear hk); (try clear hi); (try clear ho0); obtain ⟨Ao13, co13, eo13⟩ := Kd.R_slice HO395.out; subst eo13) | ((with_reducible refine gate_callee (f := 31) rfl ?_); refine goesL_ (some 46) rfl rfl Try.func31 (by kernel_rfl) rfl #[.int .i64 t391, .slice Ao13 t392.length co13, .int .i64 t393] rfl (by (try simp only [List.map_toArray, List.map_cons, List.map_nil]); first | done | rfl | (simp only [List.length_drop, List.length_take]; rfl)) ?_; (with_reducible refine (impl_NearNumbers.calls k t391 _ _ t392 t393 t396 t397 t398 _ ?side1 ?side2 A5.out).mono ?_); (case side1 => repeat (first | exact (Kd.R_reads' HO395.out).2.2 | (with_reducible refine Kd.C_alloc ?_ _) | (with_reducible refine Kd.C_drewN ?_ _) | (with_reducible refine Kd.C_drew ?_))); (case side2 => exact (Kd.R_reads' HO395.out).2.1); rintro e w14 ⟨v399, rfl, ho0, hb⟩; refine ⟨_, rfl, ?_⟩; have n0_ := Aside0.mk (Kd.R_elder' (by (with_reducible repeat (first | apply Kd.R_alloc | apply Kd.R_drewN | apply Kd.R_drew)); exact HO395.out) (Kd.R_base ho0) hb); have n1_ := Aside0.mk (Kd.R_lower (Kd.R_new' ho0 (Kd.R_lt (by (with_reducible repeat (first | apply Kd.R_alloc | apply Kd.R_drewN | apply Kd.R_drew)); exact HO395.out))) (below_size (by repeat (first | (with_reducible first | exact HB.out | apply below_alloc | apply pw_below_drewN | apply below_drew1) | exact HB.out)))); have n2_ := Aside0.mk (below_step (by repeat (first | (with_reducible first | exact HB.out | apply below_alloc | apply pw_below_drewN | apply below_drew1) | exact HB.out)) hb); clear HO395; clear HB; have HO395 := n0_; have HO400 := n1_; have HB := n2_; clear n0_ n1_ n2_; (try clear hb); (try clear hb2); (try clear hk); (try clear hi); (try clear ho0)) | ((with_reducible refine gate_callee (f := 32) rfl ?_); refine goesL_ (some 54) rfl rfl Try.func32 (by kernel_rfl) rfl #[.int .i64 t391, .slice Ao13 t392.length co13, .int .i64 t393] rfl (by (try simp only [List.map_toArray, List.map_cons, List.map_nil]); first | done | rfl | (simp only [List.length_drop, List.length_take]; rfl)) ?_; (with_reducible refine (spec_NearNumbers.calls k t391 _ _ t392 t393 t401 t402 t403 _ ?side1 ?side2 A6.out).mono ?_); (case side1 => repeat (first | exact (Kd.R_reads' HO395.out).2.2 | (with_reducible refine Kd.C_alloc ?_ _) | (with_reducible refine Kd.C_drewN ?_ _) | (with_reducible refine Kd.C_drew ?_))); (case side2 => exact (Kd.R_reads' HO395.out).2.1); rintro e w15 ⟨v404, rfl, ho0, hb⟩; refine ⟨_, rfl, ?_⟩; have n0_ := Aside0.mk (Kd.R_elder' (by (with_reducible repeat (first | apply Kd.R_alloc | apply Kd.R_drewN | apply Kd.R_drew)); exact HO395.out) (Kd.R_base ho0) hb); have n1_ := Aside0.mk (Kd.R_elder' (by (with_reducible repeat (first | apply Kd.R_alloc | apply Kd.R_drewN | apply Kd.R_drew)); exact HO400.out) (Kd.R_base ho0) hb); have n2_ := Aside0.mk (Kd.R_lower (Kd.R_new' (Kd.R_new' ho0 (Kd.R_lt (by (with_reducible repeat (first | apply Kd.R_alloc | apply Kd.R_drewN | apply Kd.R_drew)); exact HO395.out))) (Kd.R_lt (by (with_reducible repeat (first | apply Kd.R_alloc | apply Kd.R_drewN | apply Kd.R_drew)); exact HO400.out))) (below_size (by repeat (first | (with_reducible first | exact HB.out | apply below_alloc | apply pw_below_drewN | apply below_drew1) | exact HB.out)))); have n3_ := Aside0.mk (below_step (by repeat (first | (with_reducible first | exact HB.out | apply below_alloc | apply pw_below_drewN | apply below_drew1) | exact HB.out)) hb); clear HO395; clear HO400; clear HB; have HO395 := n0_; have HO400 := n1_; have HO405 := n2_; have HB := n3_; clear n0_ n1_ n2_ n3_; (try clear hb); (try clear hb2); (try clear hk); (try clear hi); (try clear ho0)) | ((with_reducible refine gate_callee (f := 15) rfl ?_); refine goesL_ (some 60) rfl rfl Try.func15 (by kernel_rfl) rfl #[.slice A0 l0.length c0, .int .i64 1] rfl (by (try simp only [List.map_toArray, List.map_cons, List.map_nil]); first | done | rfl | (simp only [List.length_drop, List.length_take]; rfl)) ?_; (with_reducible refine (laws_vCut.calls _ _ l0 1 t406 _ ?side1 ?side2 A7.out).mono ?_); (case side1 => repeat (first | exact (Kd.C_below HR0.out HB.out) | (with_reducible refine Kd.C_alloc ?_ _) | (with_reducible refine Kd.C_drewN ?_ _) | (with_reducible refine Kd.C_drew ?_))); (case side2 => exact HC0.out); rintro e w16 ⟨v407, rfl, ho0, hb⟩; refine ⟨_, rfl, ?_⟩; have n0_ := Aside0.mk (Kd.R_below (by (with_reducible repeat (first | apply Kd.R_alloc | apply Kd.R_drewN | apply Kd.R_drew)); exact HO395.out) hb); have n1_ := Aside0.mk (Kd.R_below (by (with_reducible repeat (first | apply Kd.R_alloc | apply Kd.R_drewN | apply Kd.R_drew)); exact HO400.out) hb); have n2_ := Aside0.mk (Kd.R_below (by (with_reducible repeat (first | apply Kd.R_alloc | apply Kd.R_drewN | apply Kd.R_drew)); exact HO405.out) hb); have n3_ := Aside0.mk (Kd.R_lower ho0 (below_size (by repeat (first | (with_reducible first | exact HB.out | apply below_alloc | apply pw_below_drewN | apply below_drew1) | exact HB.out)))); have n4_ := Aside0.mk (below_step (by repeat (first | (with_reducible first | exact HB.out | apply below_alloc | apply pw_below_drewN | apply below_drew1) | exact HB.out)) hb); clear HO395; clear HO400; clear HO405; clear HB; have HO395 := n0_; have HO400 := n1_; have HO405 := n2_; have HO408 := n3_; have HB := n4_; clear n0_ n1_ n2_ n3_ n4_; (try clear hb); (try clear hb2); (try clear hk); (try clear hi); (try clear ho0); obtain ⟨Ao17, co17, eo17⟩ := Kd.R_slice HO408.out; subst eo17) | ((with_reducible refine gate_callee (f := 33) rfl ?_); refine goesL_ (some 61) rfl rfl Try.func33 (by kernel_rfl) rfl #[.slice Ao17 t406.length co17] rfl (by (try simp only [List.map_toArray, List.map_cons, List.map_nil]); first | done | rfl | (simp only [List.length_drop, List.length_take]; rfl)) ?_; (with_reducible refine (spec_DrawFitNumbers.calls k _ _ t406 t409 t410 t411 t412 _ ?side1 ?side2 A8.out).mono ?_); (case side1 => repeat (first | exact (Kd.R_reads' HO408.out).2.2 | (with_reducible refine Kd.C_alloc ?_ _) | (with_reducible refine Kd.C_drewN ?_ _) | (with_reducible refine Kd.C_drew ?_))); (case side2 => exact (Kd.R_reads' HO408.out).2.1); rintro e w18 ⟨v413, rfl, ho0, hb⟩; refine ⟨_, rfl, ?_⟩; have n0_ := Aside0.mk (Kd.R_elder' (by (with_reducible repeat (first | apply Kd.R_alloc | apply Kd.R_drewN | apply Kd.R_drew)); exact HO395.out) (Kd.R_base ho0) hb); have n1_ := Aside0.mk (Kd.R_elder' (by (with_reducible repeat (first | apply Kd.R_alloc | apply Kd.R_drewN | apply Kd.R_drew)); exact HO400.out) (Kd.R_base ho0) hb); have n2_ := Aside0.mk (Kd.R_elder' (by (with_reducible repeat (first | apply Kd.R_alloc | apply Kd.R_drewN | apply Kd.R_drew)); exact HO405.out) (Kd.R_base ho0) hb); have n3_ := Aside0.mk (Kd.R_below (by (with_reducible repeat (first | apply Kd.R_alloc | apply Kd.R_drewN | apply Kd.R_drew)); exact HO408.out) hb); have n4_ := Aside0.mk (Kd.R_lower (Kd.R_new' (Kd.R_new' (Kd.R_new' ho0 (Kd.R_lt (by (with_reducible repeat (first | apply Kd.R_alloc | apply Kd.R_drewN | apply Kd.R_drew)); exact HO395.out))) (Kd.R_lt (by (with_reducible repeat (first | apply Kd.R_alloc | apply Kd.R_drewN | apply Kd.R_drew)); exact HO400.out))) (Kd.R_lt (by (with_reducible repeat (first | apply Kd.R_alloc | apply Kd.R_drewN | apply Kd.R_drew)); exact HO405.out))) (below_size (by repeat (first | (with_reducible first | exact HB.out | apply below_alloc | apply pw_below_drewN | apply below_drew1) | exact HB.out)))); have n5_ := Aside0.mk (below_step (by repeat (first | (with_reducible first | exact HB.out | apply below_alloc | apply pw_below_drewN | apply below_drew1) | exact HB.out)) hb); clear HO395; clear HO400; clear HO405; clear HO408; clear HB; have HO395 := n0_; have HO400 := n1_; have HO405 := n2_; have HO408 := n3_; have HO414 := n4_; have HB := n5_; clear n0_ n1_ n2_ n3_ n4_ n5_; (try clear hb); (try clear hb2); (try clear hk); (try clear hi); (try clear ho0); obtain ⟨Ao19, co19, eo19⟩ := Kd.R_slice HO414.out; subst eo19) | ((with_reducible refine gate_callee (f := 34) rfl ?_); refine goesL_ (some 71) rfl rfl Try.func34 (by kernel_rfl) rfl #[.int .i64 t409, .slice Ao19 t410.length co19, .int .i64 t411, .int .i64 t412] rfl (by (try simp only [List.map_toArray, List.map_cons, List.map_nil]); first | done | rfl | (simp only [List.length_drop, List.length_take]; rfl)) ?_; (with_reducible refine (impl_FitNumbers.calls k t409 _ _ t410 t411 t412 t415 t416 _ ?side1 ?side2 A9.out).mono ?_); (case side1 => repeat (first | exact (Kd.R_reads' HO414.out).2.2 | (with_reducible refine Kd.C_alloc ?_ _) | (with_reducible refine Kd.C_drewN ?_ _) | (with_reducible refine Kd.C_drew ?_))); (case side2 => exact (Kd.R_reads' HO414.out).2.1); rintro e w20 ⟨v417, rfl, ho0, hb⟩; refine ⟨_, rfl, ?_⟩; have n0_ := Aside0.mk (Kd.R_elder' (by (with_reducible repeat (first | apply Kd.R_alloc | apply Kd.R_drewN | apply Kd.R_drew)); exact HO395.out) (Kd.R_base ho0) hb); have n1_ := Aside0.mk (Kd.R_elder' (by (with_reducible repeat (first | apply Kd.R_alloc | apply Kd.R_drewN | apply Kd.R_drew)); exact HO400.out) (Kd.R_base ho0) hb); have n2_ := Aside0.mk (Kd.R_elder' (by (with_reducible repeat (first | apply Kd.R_alloc | apply Kd.R_drewN | apply Kd.R_drew)); exact HO405.out) (Kd.R_base ho0) hb); have n3_ := Aside0.mk (Kd.R_below (by (with_reducible repeat (first | apply Kd.R_alloc | apply Kd.R_drewN | apply Kd.R_drew)); exact HO408.out) hb); have n4_ := Aside0.mk (Kd.R_elder' (by (with_reducible repeat (first | apply Kd.R_alloc | apply Kd.R_drewN | apply Kd.R_drew)); exact HO414.out) (Kd.R_base ho0) hb); have n5_ := Aside0.mk (Kd.R_lower (Kd.R_new' (Kd.R_new' (Kd.R_new' (Kd.R_new' ho0 (Kd.R_lt (by (with_reducible repeat (first | apply Kd.R_alloc | apply Kd.R_drewN | apply Kd.R_drew)); exact HO395.out))) (Kd.R_lt (by (with_reducible repeat (first | apply Kd.R_alloc | apply Kd.R_drewN | apply Kd.R_drew)); exact HO400.out))) (Kd.R_lt (by (with_reducible repeat (first | apply Kd.R_alloc | apply Kd.R_drewN | apply Kd.R_drew)); exact HO405.out))) (Kd.R_lt (by (with_reducible repeat (first | apply Kd.R_alloc | apply Kd.R_drewN | apply Kd.R_drew)); exact HO414.out))) (below_size (by repeat (first | (with_reducible first | exact HB.out | apply below_alloc | apply pw_below_drewN | apply below_drew1) | exact HB.out)))); have n6_ := Aside0.mk (below_step (by repeat (first | (with_reducible first | exact HB.out | apply below_alloc | apply pw_below_drewN | apply below_drew1) | exact HB.out)) hb); clear HO395; clear HO400; clear HO405; clear HO408; clear HO414; clear HB; have HO395 := n0_; have HO400 := n1_; have HO405 := n2_; have HO408 := n3_; have HO414 := n4_; have HO418 := n5_; have HB := n6_; clear n0_ n1_ n2_ n3_ n4_ n5_ n6_; (try clear hb); (try clear hb2); (try clear hk); (try clear hi); (try clear ho0)) | ((with_reducible refine gate_callee (f := 35) rfl ?_); refine goesL_ (some 79) rfl rfl Try.func35 (by kernel_rfl) rfl #[.int .i64 t409, .slice Ao19 t410.length co19, .int .i64 t411, .int .i64 t412] rfl (by (try simp only [List.map_toArray, List.map_cons, List.map_nil]); first | done | rfl | (simp only [List.length_drop, List.length_take]; rfl)) ?_; (with_reducible refine (spec_FitNumbers.calls k t409 _ _ t410 t411 t412 t419 t420 _ ?side1 ?side2 A10.out).mono ?_); (case side1 => repeat (first | exact (Kd.R_reads' HO414.out).2.2 | (with_reducible refine Kd.C_alloc ?_ _) | (with_reducible refine Kd.C_drewN ?_ _) | (with_reducible refine Kd.C_drew ?_))); (case side2 => exact (Kd.R_reads' HO414.out).2.1); rintro e w21 ⟨v421, rfl, ho0, hb⟩; refine ⟨_, rfl, ?_⟩; have n0_ := Aside0.mk (Kd.R_elder' (by (with_reducible repeat (first | apply Kd.R_alloc | apply Kd.R_drewN | apply Kd.R_drew)); exact HO395.out) (Kd.R_base ho0) hb); have n1_ := Aside0.mk (Kd.R_elder' (by (with_reducible repeat (first | apply Kd.R_alloc | apply Kd.R_drewN | apply Kd.R_drew)); exact HO400.out) (Kd.R_base ho0) hb); have n2_ := Aside0.mk (Kd.R_elder' (by (with_reducible repeat (first | apply Kd.R_alloc | apply Kd.R_drewN | apply Kd.R_drew)); exact HO405.out) (Kd.R_base ho0) hb); have n3_ := Aside0.mk (Kd.R_below (by (with_reducible repeat (first | apply Kd.R_alloc | apply Kd.R_drewN | apply Kd.R_drew)); exact HO408.out) hb); have n4_ := Aside0.mk (Kd.R_elder' (by (with_reducible repeat (first | apply Kd.R_alloc | apply Kd.R_drewN | apply Kd.R_drew)); exact HO414.out) (Kd.R_base ho0) hb); have n5_ := Aside0.mk (Kd.R_elder' (by (with_reducible repeat (first | apply Kd.R_alloc | apply Kd.R_drewN | apply Kd.R_drew)); exact HO418.out) (Kd.R_base ho0) hb); have n6_ := Aside0.mk (Kd.R_lower (Kd.R_new' (Kd.R_new' (Kd.R_new' (Kd.R_new' (Kd.R_new' ho0 (Kd.R_lt (by (with_reducible repeat (first | apply Kd.R_alloc | apply Kd.R_drewN | apply Kd.R_drew)); exact HO395.out))) (Kd.R_lt (by (with_reducible repeat (first | apply Kd.R_alloc | apply Kd.R_drewN | apply Kd.R_drew)); exact HO400.out))) (Kd.R_lt (by (with_reducible repeat (first | apply Kd.R_alloc | apply Kd.R_drewN | apply Kd.R_drew)); exact HO405.out))) (Kd.R_lt (by (with_reducible repeat (first | apply Kd.R_alloc | apply Kd.R_drewN | apply Kd.R_drew)); exact HO414.out))) (Kd.R_lt (by (with_reducible repeat (first | apply Kd.R_alloc | apply Kd.R_drewN | apply Kd.R_drew)); exact HO418.out))) (below_size (by repeat (first | (with_reducible first | exact HB.out | apply below_alloc | apply pw_below_drewN | apply below_drew1) | exact HB.out)))); have n7_ := Aside0.mk (below_step (by repeat (first | (with_reducible first | exact HB.out | apply below_alloc | apply pw_below_drewN | apply below_drew1) | exact HB.out)) hb); clear HO395; clear HO400; clear HO405; clear HO408; clear HO414; clear HO418; clear HB; have HO395 := n0_; have HO400 := n1_; have HO405 := n2_; have HO408 := n3_; have HO414 := n4_; have HO418 := n5_; have HO422 := n6_; have HB := n7_; clear n0_ n1_ n2_ n3_ n4_ n5_ n6_ n7_; (try clear hb); (try clear hb2); (try clear hk); (try clear hi); (try clear ho0)))
  (try simp only [Act.put, List.setIfInBounds_toArray, List.set_cons_zero, List.set_cons_succ])
  go_cut [106] (fun v106 wc => ∃ (kq : Nat) (x106_10 : Bool), v106 = .bool x106_10 ∧ Aside0 (laws_FnNearNumbers.j0 kq t391 t392 t393 t396 t397 t398 t409 t410 t411 t412 t415 t416 x106_10 = some r) ∧ Aside0 (kq ≤ k) ∧ Aside0 (Kd.R (Kd.int .i64) 3 wc w.heap.size (fun k_ => some k_ ≠ (v399 : Value).ownBlock ∧ some k_ ≠ ((.slice Ao19 t410.length co19) : Value).ownBlock ∧ some k_ ≠ (v417 : Value).ownBlock) (.slice Ao13 t392.length co13) t392) ∧ Aside0 (Kd.R (Kd.int .i64) 3 wc w.heap.size (fun k_ => some k_ ≠ ((.slice Ao13 t392.length co13) : Value).ownBlock ∧ some k_ ≠ ((.slice Ao19 t410.length co19) : Value).ownBlock ∧ some k_ ≠ (v417 : Value).ownBlock) v399 t396) ∧ Aside0 (Kd.R (Kd.int .i64) 3 wc w.heap.size (fun k_ => some k_ ≠ ((.slice Ao13 t392.length co13) : Value).ownBlock ∧ some k_ ≠ (v399 : Value).ownBlock ∧ some k_ ≠ (v417 : Value).ownBlock) (.slice Ao19 t410.length co19) t410) ∧ Aside0 (Kd.R (Kd.int .i64) 3 wc w.heap.size (fun k_ => some k_ ≠ ((.slice Ao13 t392.length co13) : Value).ownBlock ∧ some k_ ≠ (v399 : Value).ownBlock ∧ some k_ ≠ ((.slice Ao19 t410.length co19) : Value).ownBlock) v417 t415) ∧ Aside0 (Below w.heap.size w wc))
  case first =>
   as_aux_lemma =>
    have H := HC11.out
    clear HC11
    by_cases c22 : t397 = t402
    ·
     rw [if_pos c22] at H
     have c22b0 : (t397 == t402) = true := beq_iff_eq.mpr c22
     have c22b1 : (t397 != t402) = false := bne_eq_false_iff_eq.mpr c22
     clear c22
     (first | rw [c22b0] | (simp only [i64_w, i32_w]; rw [c22b0]) | skip)
     by_cases c23 : (t398 != t403) = true
     ·
      rw [if_pos c23] at H
      exact absurd H (by simp)
     ·
      rw [if_neg c23] at H
      have c23b0 : (t398 != t403) = false := by simpa using c23
      (try (have c23b1 : decide (t398 = t403) = true := by simpa using c23))
      (try (have c23b2 : (t398 == t403) = true := by simpa using c23))
      clear c23
      replace H := Option.bind_eq_some_iff.mp H
      obtain ⟨t423, A240, H⟩ := H
      replace H : (if t423 = true then (if (t416 != t420) = true then (none) else ((laws_vInts.f k t415 t419).bind fun t424 => (laws_FnNearNumbers.j0 k t391 t392 t393 t396 t397 t398 t409 t410 t411 t412 t415 t416 (!t424)))) else (none)) = some r := H
      have A24 := Aside0.mk A240
      clear A240
      by_cases c25 : t423 = true
      ·
       subst c25
       have H1 : (if (t416 != t420) = true then (none) else ((laws_vInts.f k t415 t419).bind fun t424 => (laws_FnNearNumbers.j0 k t391 t392 t393 t396 t397 t398 t409 t410 t411 t412 t415 t416 (!t424)))) = some r := by rw [if_pos rfl] at H; exact H
       clear H
       have H := H1
       clear H1
       by_cases c26 : (t416 != t420) = true
       ·
        rw [if_pos c26] at H
        exact absurd H (by simp)
       ·
        rw [if_neg c26] at H
        have c26b0 : (t416 != t420) = false := by simpa using c26
        (try (have c26b1 : decide (t416 = t420) = true := by simpa using c26))
        (try (have c26b2 : (t416 == t420) = true := by simpa using c26))
        clear c26
        replace H := Option.bind_eq_some_iff.mp H
        obtain ⟨t424, A290, H⟩ := H
        replace H : (laws_FnNearNumbers.j0 k t391 t392 t393 t396 t397 t398 t409 t410 t411 t412 t415 t416 (!t424)) = some r := H
        have A29 := Aside0.mk A290
        clear A290
        have H' := Aside0.mk H
        clear H
        obtain ⟨Ao30, co30, eo30⟩ := Kd.R_slice HO400.out
        subst eo30
        obtain ⟨Ao31, co31, eo31⟩ := Kd.R_slice HO405.out
        subst eo31
        go_wp2_with (first | (go_at_call 26; (with_reducible refine (laws_vInts.calls k _ _ t396 _ _ t401 true _ ?side1 ?side2 ?side3 ?side4 A24.out).mono ?_); (case side1 => repeat (first | exact (Kd.R_reads' HO400.out).2.2 | (with_reducible refine Kd.C_alloc ?_ _) | (with_reducible refine Kd.C_drewN ?_ _) | (with_reducible refine Kd.C_drew ?_))); (case side2 => exact (Kd.R_reads' HO400.out).2.1); (case side3 => repeat (first | exact (Kd.R_reads' HO405.out).2.2 | (with_reducible refine Kd.C_alloc ?_ _) | (with_reducible refine Kd.C_drewN ?_ _) | (with_reducible refine Kd.C_drew ?_))); (case side4 => exact (Kd.R_reads' HO405.out).2.1); rintro e w' ⟨rfl, ⟨nd, rfl⟩⟩; obtain ⟨Ao32, co32, eo32⟩ := Kd.R_slice HO418.out; subst eo32; obtain ⟨Ao33, co33, eo33⟩ := Kd.R_slice HO422.out; subst eo33) | (go_at_call 26; (with_reducible refine (laws_vInts.calls k _ _ t415 _ _ t419 t424 _ ?side1 ?side2 ?side3 ?side4 A29.out).mono ?_); (case side1 => repeat (first | exact (Kd.R_reads' HO418.out).2.2 | (with_reducible refine Kd.C_alloc ?_ _) | (with_reducible refine Kd.C_drewN ?_ _) | (with_reducible refine Kd.C_drew ?_))); (case side2 => exact (Kd.R_reads' HO418.out).2.1); (case side3 => repeat (first | exact (Kd.R_reads' HO422.out).2.2 | (with_reducible refine Kd.C_alloc ?_ _) | (with_reducible refine Kd.C_drewN ?_ _) | (with_reducible refine Kd.C_drew ?_))); (case side4 => exact (Kd.R_reads' HO422.out).2.1); rintro e w' ⟨rfl, ⟨nd, rfl⟩⟩))
        go_meet
        case rel => exact ⟨_, (!t424), (by first | rfl | (simp; done) | (simp [*]; done)), H', ⟨by first | omega | exact Nat.le_refl _⟩, ⟨by (with_reducible repeat (first | apply Kd.R_alloc | apply Kd.R_drewN | apply Kd.R_drew)); exact Kd.R_mono HO395.out (fun _ hk => ⟨hk.1.1.1.1.2, ⟨hk.1.1.2, hk.1.2⟩⟩)⟩, ⟨by (with_reducible repeat (first | apply Kd.R_alloc | apply Kd.R_drewN | apply Kd.R_drew)); exact Kd.R_mono HO400.out (fun _ hk => ⟨hk.1.1.1.1.2, ⟨hk.1.1.2, hk.1.2⟩⟩)⟩, ⟨by (with_reducible repeat (first | apply Kd.R_alloc | apply Kd.R_drewN | apply Kd.R_drew)); exact Kd.R_mono HO414.out (fun _ hk => ⟨hk.1.1.1.1.2, ⟨hk.1.1.1.2, hk.1.2⟩⟩)⟩, ⟨by (with_reducible repeat (first | apply Kd.R_alloc | apply Kd.R_drewN | apply Kd.R_drew)); exact Kd.R_mono HO418.out (fun _ hk => ⟨hk.1.1.1.1.2, ⟨hk.1.1.1.2, hk.1.2⟩⟩)⟩, ⟨by repeat (first | (with_reducible first | exact HB.out | apply below_alloc | apply pw_below_drewN | apply below_drew1) | exact HB.out)⟩⟩
      ·
       replace c25 := Bool.eq_false_iff.mpr c25
       subst c25
       have H1 : (none) = some r := by rw [if_neg (show ¬ (false = true) by decide)] at H; exact H
       exact absurd H1 (by simp)
    ·
     rw [if_neg c22] at H
     exact absurd H (by simp)
  case rest =>
   as_aux_lemma =>
    clear HC11
    try clear c1
    try clear c2
    try clear p2
    try clear c3
    try clear c4
    try clear c6
    try clear c15
    try clear c22
    try clear c22b0
    try clear c22b1
    try clear c23
    try clear c23b0
    try clear c23b1
    try clear c23b2
    try clear c25
    try clear c26
    try clear c26b0
    try clear c26b1
    try clear c26b2
    try clear c30
    try clear c31
    try clear c32
    try clear c33
    try clear c34
    try clear c35
    obtain ⟨kq, x106_10, rfl, HA, HJ10, HO_4, HO_6, HO_13, HO_16, HB⟩ := hcut
    cases kq with
    | zero => exact absurd HA.out (by simp [laws_FnNearNumbers.j0])
    | succ kj10 =>
     have H := HA.out
     clear HA
     simp only [laws_FnNearNumbers.j0] at H
     by_cases c36 : x106_10 = true
     ·
      subst c36
      have H1 : (none) = some r := by rw [if_pos rfl] at H; exact H
      exact absurd H1 (by simp)
     ·
      replace c36 := Bool.eq_false_iff.mpr c36
      subst c36
      have H1 : (if t398 = true then (if (t396.length : Int) = 0 then (none) else (if t397 ≤ 14 then ((impl_FitNumbers.f kj10 t391 t392 t393 t397).bind fun bt425 => (if bt425.2 = true then ((laws_vInts.f kj10 bt425.1 t396).bind fun t429 => (if t429 = true then (laws_FnNearNumbers.j1 kj10 t391 t392 t393 t396 t397 t409 t410 t411 t412 t415 t416) else (none))) else (none))) else (laws_FnNearNumbers.j1 kj10 t391 t392 t393 t396 t397 t409 t410 t411 t412 t415 t416))) else (laws_FnNearNumbers.j3 kj10 t409 t410 t411 t412 t415 t416)) = some r := by rw [if_neg (show ¬ (false = true) by decide)] at H; exact H
      clear H
      have H := H1
      clear H1
      have HC37 := Aside0.mk H
      clear H
      go_upto_if 107 with (fail)
      go_cut [] (fun wc => ∃ (kq : Nat), Aside0 (laws_FnNearNumbers.j3 kq t409 t410 t411 t412 t415 t416 = some r) ∧ Aside0 (kq ≤ kj10) ∧ Aside0 (Kd.R (Kd.int .i64) 3 wc w.heap.size (fun k_ => some k_ ≠ (v417 : Value).ownBlock) (.slice Ao19 t410.length co19) t410) ∧ Aside0 (Kd.R (Kd.int .i64) 3 wc w.heap.size (fun k_ => some k_ ≠ ((.slice Ao19 t410.length co19) : Value).ownBlock) v417 t415) ∧ Aside0 (Below w.heap.size w wc))
      case first =>
       as_aux_lemma =>
        have H := HC37.out
        clear HC37
        by_cases c38 : t398 = true
        ·
         subst c38
         have H1 : (if (t396.length : Int) = 0 then (none) else (if t397 ≤ 14 then ((impl_FitNumbers.f kj10 t391 t392 t393 t397).bind fun bt425 => (if bt425.2 = true then ((laws_vInts.f kj10 bt425.1 t396).bind fun t429 => (if t429 = true then (laws_FnNearNumbers.j1 kj10 t391 t392 t393 t396 t397 t409 t410 t411 t412 t415 t416) else (none))) else (none))) else (laws_FnNearNumbers.j1 kj10 t391 t392 t393 t396 t397 t409 t410 t411 t412 t415 t416))) = some r := by rw [if_pos rfl] at H; exact H
         clear H
         have H := H1
         clear H1
         by_cases c39 : (t396.length : Int) = 0
         ·
          rw [if_pos c39] at H
          exact absurd H (by simp)
         ·
          rw [if_neg c39] at H
          have c39b0 : ((t396.length : Int) == 0) = false := beq_eq_false_iff_ne.mpr c39
          have c39b1 : ((t396.length : Int) != 0) = true := bne_iff_ne.mpr c39
          have c39b2 : ¬ (t396 = []) := fun h_ => c39 (by rw [h_]; rfl)
          (first | rw [c39b0] | (simp only [i64_w, i32_w]; rw [c39b0]) | skip)
          have HC41 := Aside0.mk H
          clear H
          obtain ⟨Ao42, co42, eo42⟩ := Kd.R_slice HO_6.out
          subst eo42
          go_upto_if 112 with (fail)
          go_cut [] (fun wc => ∃ (kq : Nat), Aside0 (laws_FnNearNumbers.j1 kq t391 t392 t393 t396 t397 t409 t410 t411 t412 t415 t416 = some r) ∧ Aside0 (kq ≤ kj10) ∧ Aside0 (Kd.R (Kd.int .i64) 3 wc w.heap.size (fun k_ => some k_ ≠ ((.slice Ao42 t396.length co42) : Value).ownBlock ∧ some k_ ≠ ((.slice Ao19 t410.length co19) : Value).ownBlock ∧ some k_ ≠ (v417 : Value).ownBlock) (.slice Ao13 t392.length co13) t392) ∧ Aside0 (Kd.R (Kd.int .i64) 3 wc w.heap.size (fun k_ => some k_ ≠ ((.slice Ao13 t392.length co13) : Value).ownBlock ∧ some k_ ≠ ((.slice Ao19 t410.length co19) : Value).ownBlock ∧ some k_ ≠ (v417 : Value).ownBlock) (.slice Ao42 t396.length co42) t396) ∧ Aside0 (Kd.R (Kd.int .i64) 3 wc w.heap.size (fun k_ => some k_ ≠ ((.slice Ao13 t392.length co13) : Value).ownBlock ∧ some k_ ≠ ((.slice Ao42 t396.length co42) : Value).ownBlock ∧ some k_ ≠ (v417 : Value).ownBlock) (.slice Ao19 t410.length co19) t410) ∧ Aside0 (Kd.R (Kd.int .i64) 3 wc w.heap.size (fun k_ => some k_ ≠ ((.slice Ao13 t392.length co13) : Value).ownBlock ∧ some k_ ≠ ((.slice Ao42 t396.length co42) : Value).ownBlock ∧ some k_ ≠ ((.slice Ao19 t410.length co19) : Value).ownBlock) v417 t415) ∧ Aside0 (Below w.heap.size w wc))
          case first =>
           as_aux_lemma =>
            have H := HC41.out
            clear HC41
            by_cases c43 : t397 ≤ 14
            ·
             rw [if_pos c43] at H
             have c43b0 : decide (t397 ≤ 14) = true := decide_eq_true c43
             clear c43
             (first | rw [c43b0] | (simp only [i64_w, i32_w]; rw [c43b0]) | skip)
             replace H := Option.bind_eq_some_iff.mp H
             obtain ⟨⟨t425, t426⟩, A440, H⟩ := H
             replace H : (if t426 = true then ((laws_vInts.f kj10 t425 t396).bind fun t429 => (if t429 = true then (laws_FnNearNumbers.j1 kj10 t391 t392 t393 t396 t397 t409 t410 t411 t412 t415 t416) else (none))) else (none)) = some r := H
             have A44 := Aside0.mk A440
             clear A440
             by_cases c45 : t426 = true
             ·
              subst c45
              have H1 : ((laws_vInts.f kj10 t425 t396).bind fun t429 => (if t429 = true then (laws_FnNearNumbers.j1 kj10 t391 t392 t393 t396 t397 t409 t410 t411 t412 t415 t416) else (none))) = some r := by rw [if_pos rfl] at H; exact H
              clear H
              have H := H1
              clear H1
              replace H := Option.bind_eq_some_iff.mp H
              obtain ⟨t429, A460, H⟩ := H
              replace H : (if t429 = true then (laws_FnNearNumbers.j1 kj10 t391 t392 t393 t396 t397 t409 t410 t411 t412 t415 t416) else (none)) = some r := H
              have A46 := Aside0.mk A460
              clear A460
              by_cases c47 : t429 = true
              ·
               subst c47
               have H1 : (laws_FnNearNumbers.j1 kj10 t391 t392 t393 t396 t397 t409 t410 t411 t412 t415 t416) = some r := by rw [if_pos rfl] at H; exact H
               clear H
               have H := H1
               clear H1
               have H' := Aside0.mk H
               clear H
               go_wp2_with (first | ((with_reducible refine gate_callee (f := 34) rfl ?_); refine goesL_ (some 118) rfl rfl Try.func34 (by kernel_rfl) rfl #[.int .i64 t391, .slice Ao13 t392.length co13, .int .i64 t393, .int .i64 t397] rfl (by (try simp only [List.map_toArray, List.map_cons, List.map_nil]); first | done | rfl | (simp only [List.length_drop, List.length_take]; rfl)) ?_; (with_reducible refine (impl_FitNumbers.calls kj10 t391 _ _ t392 t393 t397 t425 true _ ?side1 ?side2 A44.out).mono ?_); (case side1 => repeat (first | exact (Kd.R_reads' HO_4.out).2.2 | (with_reducible refine Kd.C_alloc ?_ _) | (with_reducible refine Kd.C_drewN ?_ _) | (with_reducible refine Kd.C_drew ?_))); (case side2 => exact (Kd.R_reads' HO_4.out).2.1); rintro e w48 ⟨v427, rfl, ho0, hb⟩; refine ⟨_, rfl, ?_⟩; have n0_ := Aside0.mk (Kd.R_elder' (by (with_reducible repeat (first | apply Kd.R_alloc | apply Kd.R_drewN | apply Kd.R_drew)); exact HO_4.out) (Kd.R_base ho0) hb); have n1_ := Aside0.mk (Kd.R_elder' (by (with_reducible repeat (first | apply Kd.R_alloc | apply Kd.R_drewN | apply Kd.R_drew)); exact HO_6.out) (Kd.R_base ho0) hb); have n2_ := Aside0.mk (Kd.R_elder' (by (with_reducible repeat (first | apply Kd.R_alloc | apply Kd.R_drewN | apply Kd.R_drew)); exact HO_13.out) (Kd.R_base ho0) hb); have n3_ := Aside0.mk (Kd.R_elder' (by (with_reducible repeat (first | apply Kd.R_alloc | apply Kd.R_drewN | apply Kd.R_drew)); exact HO_16.out) (Kd.R_base ho0) hb); have n4_ := Aside0.mk (Kd.R_lower (Kd.R_new' (Kd.R_new' (Kd.R_new' (Kd.R_new' ho0 (Kd.R_lt (by (with_reducible repeat (first | apply Kd.R_alloc | apply Kd.R_drewN | apply Kd.R_drew)); exact HO_4.out))) (Kd.R_lt (by (with_reducible repeat (first | apply Kd.R_alloc | apply Kd.R_drewN | apply Kd.R_drew)); exact HO_6.out))) (Kd.R_lt (by (with_reducible repeat (first | apply Kd.R_alloc | apply Kd.R_drewN | apply Kd.R_drew)); exact HO_13.out))) (Kd.R_lt (by (with_reducible repeat (first | apply Kd.R_alloc | apply Kd.R_drewN | apply Kd.R_drew)); exact HO_16.out))) (below_size (by repeat (first | (with_reducible first | exact HB.out | apply below_alloc | apply pw_below_drewN | apply below_drew1) | exact HB.out)))); have n5_ := Aside0.mk (below_step (by repeat (first | (with_reducible first | exact HB.out | apply below_alloc | apply pw_below_drewN | apply below_drew1) | exact HB.out)) hb); clear HO_4; clear HO_6; clear HO_13; clear HO_16; clear HB; have HO_4 := n0_; have HO_6 := n1_; have HO_13 := n2_; have HO_16 := n3_; have HO428 := n4_; have HB := n5_; clear n0_ n1_ n2_ n3_ n4_ n5_; (try clear hb); (try clear hb2); (try clear hk); (try clear hi); (try clear ho0); obtain ⟨Ao49, co49, eo49⟩ := Kd.R_slice HO428.out; subst eo49) | (go_at_call 26; (with_reducible refine (laws_vInts.calls kj10 _ _ t425 _ _ t396 true _ ?side1 ?side2 ?side3 ?side4 A46.out).mono ?_); (case side1 => repeat (first | exact (Kd.R_reads' HO428.out).2.2 | (with_reducible refine Kd.C_alloc ?_ _) | (with_reducible refine Kd.C_drewN ?_ _) | (with_reducible refine Kd.C_drew ?_))); (case side2 => exact (Kd.R_reads' HO428.out).2.1); (case side3 => repeat (first | exact (Kd.R_reads' HO_6.out).2.2 | (with_reducible refine Kd.C_alloc ?_ _) | (with_reducible refine Kd.C_drewN ?_ _) | (with_reducible refine Kd.C_drew ?_))); (case side4 => exact (Kd.R_reads' HO_6.out).2.1); rintro e w' ⟨rfl, ⟨nd, rfl⟩⟩))
               go_meet
               case rel => exact ⟨_, H', ⟨by have := HJ10.out; first | omega | exact Nat.le_refl _⟩, ⟨by (with_reducible repeat (first | apply Kd.R_alloc | apply Kd.R_drewN | apply Kd.R_drew)); exact Kd.R_mono HO_4.out (fun _ hk => ⟨hk.1.1, ⟨hk.1.2.1, hk.1.2.2⟩⟩)⟩, ⟨by (with_reducible repeat (first | apply Kd.R_alloc | apply Kd.R_drewN | apply Kd.R_drew)); exact Kd.R_mono HO_6.out (fun _ hk => ⟨hk.1.1, ⟨hk.1.2.1, hk.1.2.2⟩⟩)⟩, ⟨by (with_reducible repeat (first | apply Kd.R_alloc | apply Kd.R_drewN | apply Kd.R_drew)); exact Kd.R_mono HO_13.out (fun _ hk => ⟨hk.1.1, ⟨hk.1.2.1, hk.1.2.2⟩⟩)⟩, ⟨by (with_reducible repeat (first | apply Kd.R_alloc | apply Kd.R_drewN | apply Kd.R_drew)); exact Kd.R_mono HO_16.out (fun _ hk => ⟨hk.1.1, ⟨hk.1.2.1, hk.1.2.2⟩⟩)⟩, ⟨by repeat (first | (with_reducible first | exact HB.out | apply below_alloc | apply pw_below_drewN | apply below_drew1) | exact HB.out)⟩⟩
              ·
               replace c47 := Bool.eq_false_iff.mpr c47
               subst c47
               have H1 : (none) = some r := by rw [if_neg (show ¬ (false = true) by decide)] at H; exact H
               exact absurd H1 (by simp)
             ·
              replace c45 := Bool.eq_false_iff.mpr c45
              subst c45
              have H1 : (none) = some r := by rw [if_neg (show ¬ (false = true) by decide)] at H; exact H
              exact absurd H1 (by simp)
            ·
             rw [if_neg c43] at H
             have c43b0 : decide (t397 ≤ 14) = false := decide_eq_false c43
             clear c43
             (first | rw [c43b0] | (simp only [i64_w, i32_w]; rw [c43b0]) | skip)
             have H' := Aside0.mk H
             clear H
             go_wp2
             go_meet
             case rel => exact ⟨_, H', ⟨by have := HJ10.out; first | omega | exact Nat.le_refl _⟩, ⟨by (with_reducible repeat (first | apply Kd.R_alloc | apply Kd.R_drewN | apply Kd.R_drew)); exact HO_4.out⟩, ⟨by (with_reducible repeat (first | apply Kd.R_alloc | apply Kd.R_drewN | apply Kd.R_drew)); exact HO_6.out⟩, ⟨by (with_reducible repeat (first | apply Kd.R_alloc | apply Kd.R_drewN | apply Kd.R_drew)); exact HO_13.out⟩, ⟨by (with_reducible repeat (first | apply Kd.R_alloc | apply Kd.R_drewN | apply Kd.R_drew)); exact HO_16.out⟩, ⟨by repeat (first | (with_reducible first | exact HB.out | apply below_alloc | apply pw_below_drewN | apply below_drew1) | exact HB.out)⟩⟩
          case rest =>
           as_aux_lemma =>
            clear HC41
            try clear c1
            try clear c2
            try clear p2
            try clear c3
            try clear c4
            try clear c6
            try clear c15
            try clear c22
            try clear c22b0
            try clear c22b1
            try clear c23
            try clear c23b0
            try clear c23b1
            try clear c23b2
            try clear c25
            try clear c26
            try clear c26b0
            try clear c26b1
            try clear c26b2
            try clear c30
            try clear c31
            try clear c32
            try clear c33
            try clear c34
            try clear c35
            try clear c36
            try clear c38
            try clear c39
            try clear c39b0
            try clear c39b1
            try clear c39b2
            try clear c43
            try clear c43b0
            try clear c45
            try clear c47
            try clear p2
            obtain ⟨kq, HA, HJ40, HO_4, HO_6, HO_13, HO_16, HB⟩ := hcut
            cases kq with
            | zero => exact absurd HA.out (by simp [laws_FnNearNumbers.j1])
            | succ kj40 =>
             have H := HA.out
             clear HA
             simp only [laws_FnNearNumbers.j1] at H
             have HC53 := Aside0.mk H
             clear H
             go_upto_if 130 with (fail)
             go_cut [] (fun wc => ∃ (kq : Nat), Aside0 (laws_FnNearNumbers.j2 kq t391 t392 t396 t409 t410 t411 t412 t415 t416 = some r) ∧ Aside0 (kq ≤ kj40) ∧ Aside0 (Kd.R (Kd.int .i64) 3 wc w.heap.size (fun k_ => some k_ ≠ ((.slice Ao42 t396.length co42) : Value).ownBlock ∧ some k_ ≠ ((.slice Ao19 t410.length co19) : Value).ownBlock ∧ some k_ ≠ (v417 : Value).ownBlock) (.slice Ao13 t392.length co13) t392) ∧ Aside0 (Kd.R (Kd.int .i64) 3 wc w.heap.size (fun k_ => some k_ ≠ ((.slice Ao13 t392.length co13) : Value).ownBlock ∧ some k_ ≠ ((.slice Ao19 t410.length co19) : Value).ownBlock ∧ some k_ ≠ (v417 : Value).ownBlock) (.slice Ao42 t396.length co42) t396) ∧ Aside0 (Kd.R (Kd.int .i64) 3 wc w.heap.size (fun k_ => some k_ ≠ ((.slice Ao13 t392.length co13) : Value).ownBlock ∧ some k_ ≠ ((.slice Ao42 t396.length co42) : Value).ownBlock ∧ some k_ ≠ (v417 : Value).ownBlock) (.slice Ao19 t410.length co19) t410) ∧ Aside0 (Kd.R (Kd.int .i64) 3 wc w.heap.size (fun k_ => some k_ ≠ ((.slice Ao13 t392.length co13) : Value).ownBlock ∧ some k_ ≠ ((.slice Ao42 t396.length co42) : Value).ownBlock ∧ some k_ ≠ ((.slice Ao19 t410.length co19) : Value).ownBlock) v417 t415) ∧ Aside0 (Below w.heap.size w wc))
             case first =>
              as_aux_lemma =>
               have H := HC53.out
               clear HC53
               by_cases c54 : t397 > 0
               ·
                rw [if_pos c54] at H
                have c54b0 : decide (0 < t397) = true := decide_eq_true c54
                clear c54
                (first | rw [c54b0] | (simp only [i64_w, i32_w]; rw [c54b0]) | skip)
                replace H := Option.bind_eq_some_iff.mp H
                obtain ⟨⟨t430, t431⟩, A550, H⟩ := H
                replace H : (if t431 = true then (if (t430.length : Int) > 0 then (none) else (laws_FnNearNumbers.j2 kj40 t391 t392 t396 t409 t410 t411 t412 t415 t416)) else (none)) = some r := H
                have A55 := Aside0.mk A550
                clear A550
                by_cases c56 : t431 = true
                ·
                 subst c56
                 have H1 : (if (t430.length : Int) > 0 then (none) else (laws_FnNearNumbers.j2 kj40 t391 t392 t396 t409 t410 t411 t412 t415 t416)) = some r := by rw [if_pos rfl] at H; exact H
                 clear H
                 have H := H1
                 clear H1
                 by_cases c57 : (t430.length : Int) > 0
                 ·
                  rw [if_pos c57] at H
                  exact absurd H (by simp)
                 ·
                  rw [if_neg c57] at H
                  have c57b0 : decide (0 < (t430.length : Int)) = false := decide_eq_false c57
                  have c57b1 : decide (0 < t430.length) = false := decide_eq_false (by omega)
                  clear c57
                  have H' := Aside0.mk H
                  clear H
                  go_wp2_with (first | ((with_reducible refine gate_callee (f := 34) rfl ?_); refine goesL_ (some 137) rfl rfl Try.func34 (by kernel_rfl) rfl #[.int .i64 t391, .slice Ao13 t392.length co13, .int .i64 t393, .int .i64 (wrap64 (t397 - 1))] rfl (by (try simp only [List.map_toArray, List.map_cons, List.map_nil]); first | done | rfl | (simp only [List.length_drop, List.length_take]; rfl)) ?_; (with_reducible refine (impl_FitNumbers.calls kj40 t391 _ _ t392 t393 (wrap64 (t397 - 1)) t430 true _ ?side1 ?side2 A55.out).mono ?_); (case side1 => repeat (first | exact (Kd.R_reads' HO_4.out).2.2 | (with_reducible refine Kd.C_alloc ?_ _) | (with_reducible refine Kd.C_drewN ?_ _) | (with_reducible refine Kd.C_drew ?_))); (case side2 => exact (Kd.R_reads' HO_4.out).2.1); rintro e w60 ⟨v432, rfl, ho0, hb⟩; refine ⟨_, rfl, ?_⟩; have n0_ := Aside0.mk (Kd.R_elder' (by (with_reducible repeat (first | apply Kd.R_alloc | apply Kd.R_drewN | apply Kd.R_drew)); exact HO_4.out) (Kd.R_base ho0) hb); have n1_ := Aside0.mk (Kd.R_elder' (by (with_reducible repeat (first | apply Kd.R_alloc | apply Kd.R_drewN | apply Kd.R_drew)); exact HO_6.out) (Kd.R_base ho0) hb); have n2_ := Aside0.mk (Kd.R_elder' (by (with_reducible repeat (first | apply Kd.R_alloc | apply Kd.R_drewN | apply Kd.R_drew)); exact HO_13.out) (Kd.R_base ho0) hb); have n3_ := Aside0.mk (Kd.R_elder' (by (with_reducible repeat (first | apply Kd.R_alloc | apply Kd.R_drewN | apply Kd.R_drew)); exact HO_16.out) (Kd.R_base ho0) hb); have n4_ := Aside0.mk (Kd.R_lower (Kd.R_new' (Kd.R_new' (Kd.R_new' (Kd.R_new' ho0 (Kd.R_lt (by (with_reducible repeat (first | apply Kd.R_alloc | apply Kd.R_drewN | apply Kd.R_drew)); exact HO_4.out))) (Kd.R_lt (by (with_reducible repeat (first | apply Kd.R_alloc | apply Kd.R_drewN | apply Kd.R_drew)); exact HO_6.out))) (Kd.R_lt (by (with_reducible repeat (first | apply Kd.R_alloc | apply Kd.R_drewN | apply Kd.R_drew)); exact HO_13.out))) (Kd.R_lt (by (with_reducible repeat (first | apply Kd.R_alloc | apply Kd.R_drewN | apply Kd.R_drew)); exact HO_16.out))) (below_size (by repeat (first | (with_reducible first | exact HB.out | apply below_alloc | apply pw_below_drewN | apply below_drew1) | exact HB.out)))); have n5_ := Aside0.mk (below_step (by repeat (first | (with_reducible first | exact HB.out | apply below_alloc | apply pw_below_drewN | apply below_drew1) | exact HB.out)) hb); clear HO_4; clear HO_6; clear HO_13; clear HO_16; clear HB; have HO_4 := n0_; have HO_6 := n1_; have HO_13 := n2_; have HO_16 := n3_; have HO433 := n4_; have HB := n5_; clear n0_ n1_ n2_ n3_ n4_ n5_; (try clear hb); (try clear hb2); (try clear hk); (try clear hi); (try clear ho0); obtain ⟨Ao61, co61, eo61⟩ := Kd.R_slice HO433.out; subst eo61))
                  go_meet
                  case rel => exact ⟨_, H', ⟨by have := HJ10.out; have := HJ40.out; first | omega | exact Nat.le_refl _⟩, ⟨by (with_reducible repeat (first | apply Kd.R_alloc | apply Kd.R_drewN | apply Kd.R_drew)); exact Kd.R_mono HO_4.out (fun _ hk => ⟨hk.1.1, ⟨hk.1.2.1, hk.1.2.2⟩⟩)⟩, ⟨by (with_reducible repeat (first | apply Kd.R_alloc | apply Kd.R_drewN | apply Kd.R_drew)); exact Kd.R_mono HO_6.out (fun _ hk => ⟨hk.1.1, ⟨hk.1.2.1, hk.1.2.2⟩⟩)⟩, ⟨by (with_reducible repeat (first | apply Kd.R_alloc | apply Kd.R_drewN | apply Kd.R_drew)); exact Kd.R_mono HO_13.out (fun _ hk => ⟨hk.1.1, ⟨hk.1.2.1, hk.1.2.2⟩⟩)⟩, ⟨by (with_reducible repeat (first | apply Kd.R_alloc | apply Kd.R_drewN | apply Kd.R_drew)); exact Kd.R_mono HO_16.out (fun _ hk => ⟨hk.1.1, ⟨hk.1.2.1, hk.1.2.2⟩⟩)⟩, ⟨by repeat (first | (with_reducible first | exact HB.out | apply below_alloc | apply pw_below_drewN | apply below_drew1) | exact HB.out)⟩⟩
                ·
                 replace c56 := Bool.eq_false_iff.mpr c56
                 subst c56
                 have H1 : (none) = some r := by rw [if_neg (show ¬ (false = true) by decide)] at H; exact H
                 exact absurd H1 (by simp)
               ·
                rw [if_neg c54] at H
                have c54b0 : decide (0 < t397) = false := decide_eq_false c54
                clear c54
                (first | rw [c54b0] | (simp only [i64_w, i32_w]; rw [c54b0]) | skip)
                have H' := Aside0.mk H
                clear H
                go_wp2
                go_meet
                case rel => exact ⟨_, H', ⟨by have := HJ10.out; have := HJ40.out; first | omega | exact Nat.le_refl _⟩, ⟨by (with_reducible repeat (first | apply Kd.R_alloc | apply Kd.R_drewN | apply Kd.R_drew)); exact HO_4.out⟩, ⟨by (with_reducible repeat (first | apply Kd.R_alloc | apply Kd.R_drewN | apply Kd.R_drew)); exact HO_6.out⟩, ⟨by (with_reducible repeat (first | apply Kd.R_alloc | apply Kd.R_drewN | apply Kd.R_drew)); exact HO_13.out⟩, ⟨by (with_reducible repeat (first | apply Kd.R_alloc | apply Kd.R_drewN | apply Kd.R_drew)); exact HO_16.out⟩, ⟨by repeat (first | (with_reducible first | exact HB.out | apply below_alloc | apply pw_below_drewN | apply below_drew1) | exact HB.out)⟩⟩
             case rest =>
              as_aux_lemma =>
               clear HC53
               try clear c1
               try clear c2
               try clear p2
               try clear c3
               try clear c4
               try clear c5
               try clear c6
               try clear p6
               try clear c15
               try clear c22
               try clear c22b0
               try clear c22b1
               try clear c23
               try clear c23b0
               try clear c23b1
               try clear c23b2
               try clear c25
               try clear c26
               try clear c26b0
               try clear c26b1
               try clear c26b2
               try clear c30
               try clear c31
               try clear c32
               try clear c33
               try clear c34
               try clear c35
               try clear c36
               try clear c38
               try clear c39
               try clear c39b0
               try clear c39b1
               try clear c39b2
               try clear c43
               try clear c43b0
               try clear c45
               try clear c47
               try clear c54
               try clear c54b0
               try clear c56
               try clear c57
               try clear c57b0
               try clear c57b1
               try clear p2
               obtain ⟨kq, HA, HJ52, HO_4, HO_6, HO_13, HO_16, HB⟩ := hcut
               cases kq with
               | zero => exact absurd HA.out (by simp [laws_FnNearNumbers.j2])
               | succ kj52 =>
                have H := HA.out
                clear HA
                simp only [laws_FnNearNumbers.j2] at H
                by_cases c63 : 0 < (t396.length : Int)
                ·
                 rw [if_pos c63] at H
                 have c63b0 : decide (0 < (t396.length : Int)) = true := decide_eq_true c63
                 have c63b1 : decide (0 < t396.length) = true := decide_eq_true (by omega)
                 clear c63
                 replace H := Option.bind_eq_some_iff.mp H
                 obtain ⟨⟨t435, t436⟩, A640, H⟩ := H
                 replace H : ((impl_NearNumbers.f kj52 t391 t392 t435).bind fun bt437 => ((impl_GapOf.f kj52 t391 t392).bind fun bt442 => (if t436 = true then (if bt437.2.2 = true then (if bt442.2 = true then (if bt437.2.1 = 0 then ((laws_vHas.f kj52 bt437.1 (rd t396 0)).bind fun t445 => (if t445 = true then (if bt442.1 > 0 then (if (bt437.1.length : Int) = 1 then (if (true != true) = true then (none) else (laws_FnNearNumbers.j3 kj52 t409 t410 t411 t412 t415 t416)) else (if (true != false) = true then (none) else (laws_FnNearNumbers.j3 kj52 t409 t410 t411 t412 t415 t416))) else (if (bt437.1.length : Int) = 1 then (if ((t391 == 1) != (t391 == 1)) = true then (none) else (laws_FnNearNumbers.j3 kj52 t409 t410 t411 t412 t415 t416)) else (if ((t391 == 1) != false) = true then (none) else (laws_FnNearNumbers.j3 kj52 t409 t410 t411 t412 t415 t416)))) else (none))) else (none)) else (none)) else (none)) else (none)))) = some r := H
                 have A64 := Aside0.mk A640
                 clear A640
                 replace H := Option.bind_eq_some_iff.mp H
                 obtain ⟨⟨t437, t438, t439⟩, A650, H⟩ := H
                 replace H : ((impl_GapOf.f kj52 t391 t392).bind fun bt442 => (if t436 = true then (if t439 = true then (if bt442.2 = true then (if t438 = 0 then ((laws_vHas.f kj52 t437 (rd t396 0)).bind fun t445 => (if t445 = true then (if bt442.1 > 0 then (if (t437.length : Int) = 1 then (if (true != true) = true then (none) else (laws_FnNearNumbers.j3 kj52 t409 t410 t411 t412 t415 t416)) else (if (true != false) = true then (none) else (laws_FnNearNumbers.j3 kj52 t409 t410 t411 t412 t415 t416))) else (if (t437.length : Int) = 1 then (if ((t391 == 1) != (t391 == 1)) = true then (none) else (laws_FnNearNumbers.j3 kj52 t409 t410 t411 t412 t415 t416)) else (if ((t391 == 1) != false) = true then (none) else (laws_FnNearNumbers.j3 kj52 t409 t410 t411 t412 t415 t416)))) else (none))) else (none)) else (none)) else (none)) else (none))) = some r := H
                 have A65 := Aside0.mk A650
                 clear A650
                 replace H := Option.bind_eq_some_iff.mp H
                 obtain ⟨⟨t442, t443⟩, A660, H⟩ := H
                 replace H : (if t436 = true then (if t439 = true then (if t443 = true then (if t438 = 0 then ((laws_vHas.f kj52 t437 (rd t396 0)).bind fun t445 => (if t445 = true then (if t442 > 0 then (if (t437.length : Int) = 1 then (if (true != true) = true then (none) else (laws_FnNearNumbers.j3 kj52 t409 t410 t411 t412 t415 t416)) else (if (true != false) = true then (none) else (laws_FnNearNumbers.j3 kj52 t409 t410 t411 t412 t415 t416))) else (if (t437.length : Int) = 1 then (if ((t391 == 1) != (t391 == 1)) = true then (none) else (laws_FnNearNumbers.j3 kj52 t409 t410 t411 t412 t415 t416)) else (if ((t391 == 1) != false) = true then (none) else (laws_FnNearNumbers.j3 kj52 t409 t410 t411 t412 t415 t416)))) else (none))) else (none)) else (none)) else (none)) else (none)) = some r := H
                 have A66 := Aside0.mk A660
                 clear A660
                 by_cases c67 : t436 = true
                 ·
                  subst c67
                  have H1 : (if t439 = true then (if t443 = true then (if t438 = 0 then ((laws_vHas.f kj52 t437 (rd t396 0)).bind fun t445 => (if t445 = true then (if t442 > 0 then (if (t437.length : Int) = 1 then (if (true != true) = true then (none) else (laws_FnNearNumbers.j3 kj52 t409 t410 t411 t412 t415 t416)) else (if (true != false) = true then (none) else (laws_FnNearNumbers.j3 kj52 t409 t410 t411 t412 t415 t416))) else (if (t437.length : Int) = 1 then (if ((t391 == 1) != (t391 == 1)) = true then (none) else (laws_FnNearNumbers.j3 kj52 t409 t410 t411 t412 t415 t416)) else (if ((t391 == 1) != false) = true then (none) else (laws_FnNearNumbers.j3 kj52 t409 t410 t411 t412 t415 t416)))) else (none))) else (none)) else (none)) else (none)) = some r := by rw [if_pos rfl] at H; exact H
                  clear H
                  have H := H1
                  clear H1
                  by_cases c68 : t439 = true
                  ·
                   subst c68
                   have H1 : (if t443 = true then (if t438 = 0 then ((laws_vHas.f kj52 t437 (rd t396 0)).bind fun t445 => (if t445 = true then (if t442 > 0 then (if (t437.length : Int) = 1 then (if (true != true) = true then (none) else (laws_FnNearNumbers.j3 kj52 t409 t410 t411 t412 t415 t416)) else (if (true != false) = true then (none) else (laws_FnNearNumbers.j3 kj52 t409 t410 t411 t412 t415 t416))) else (if (t437.length : Int) = 1 then (if ((t391 == 1) != (t391 == 1)) = true then (none) else (laws_FnNearNumbers.j3 kj52 t409 t410 t411 t412 t415 t416)) else (if ((t391 == 1) != false) = true then (none) else (laws_FnNearNumbers.j3 kj52 t409 t410 t411 t412 t415 t416)))) else (none))) else (none)) else (none)) = some r := by rw [if_pos rfl] at H; exact H
                   clear H
                   have H := H1
                   clear H1
                   by_cases c69 : t443 = true
                   ·
                    subst c69
                    have H1 : (if t438 = 0 then ((laws_vHas.f kj52 t437 (rd t396 0)).bind fun t445 => (if t445 = true then (if t442 > 0 then (if (t437.length : Int) = 1 then (if (true != true) = true then (none) else (laws_FnNearNumbers.j3 kj52 t409 t410 t411 t412 t415 t416)) else (if (true != false) = true then (none) else (laws_FnNearNumbers.j3 kj52 t409 t410 t411 t412 t415 t416))) else (if (t437.length : Int) = 1 then (if ((t391 == 1) != (t391 == 1)) = true then (none) else (laws_FnNearNumbers.j3 kj52 t409 t410 t411 t412 t415 t416)) else (if ((t391 == 1) != false) = true then (none) else (laws_FnNearNumbers.j3 kj52 t409 t410 t411 t412 t415 t416)))) else (none))) else (none)) = some r := by rw [if_pos rfl] at H; exact H
                    clear H
                    have H := H1
                    clear H1
                    by_cases c70 : t438 = 0
                    ·
                     rw [if_pos c70] at H
                     have c70b0 : (t438 == 0) = true := beq_iff_eq.mpr c70
                     have c70b1 : (t438 != 0) = false := bne_eq_false_iff_eq.mpr c70
                     clear c70
                     replace H := Option.bind_eq_some_iff.mp H
                     obtain ⟨t445, A710, H⟩ := H
                     replace H : (if t445 = true then (if t442 > 0 then (if (t437.length : Int) = 1 then (if (true != true) = true then (none) else (laws_FnNearNumbers.j3 kj52 t409 t410 t411 t412 t415 t416)) else (if (true != false) = true then (none) else (laws_FnNearNumbers.j3 kj52 t409 t410 t411 t412 t415 t416))) else (if (t437.length : Int) = 1 then (if ((t391 == 1) != (t391 == 1)) = true then (none) else (laws_FnNearNumbers.j3 kj52 t409 t410 t411 t412 t415 t416)) else (if ((t391 == 1) != false) = true then (none) else (laws_FnNearNumbers.j3 kj52 t409 t410 t411 t412 t415 t416)))) else (none)) = some r := H
                     have A71 := Aside0.mk A710
                     clear A710
                     by_cases c72 : t445 = true
                     ·
                      subst c72
                      have H1 : (if t442 > 0 then (if (t437.length : Int) = 1 then (if (true != true) = true then (none) else (laws_FnNearNumbers.j3 kj52 t409 t410 t411 t412 t415 t416)) else (if (true != false) = true then (none) else (laws_FnNearNumbers.j3 kj52 t409 t410 t411 t412 t415 t416))) else (if (t437.length : Int) = 1 then (if ((t391 == 1) != (t391 == 1)) = true then (none) else (laws_FnNearNumbers.j3 kj52 t409 t410 t411 t412 t415 t416)) else (if ((t391 == 1) != false) = true then (none) else (laws_FnNearNumbers.j3 kj52 t409 t410 t411 t412 t415 t416)))) = some r := by rw [if_pos rfl] at H; exact H
                      clear H
                      have H := H1
                      clear H1
                      by_cases c73 : t442 > 0
                      ·
                       rw [if_pos c73] at H
                       have c73b0 : decide (0 < t442) = true := decide_eq_true c73
                       clear c73
                       by_cases c74 : (t437.length : Int) = 1
                       ·
                        rw [if_pos c74] at H
                        have c74b0 : ((t437.length : Int) == 1) = true := beq_iff_eq.mpr c74
                        have c74b1 : ((t437.length : Int) != 1) = false := bne_eq_false_iff_eq.mpr c74
                        clear c74
                        by_cases c75 : (true != true) = true
                        ·
                         exact absurd c75 (by simp)
                        ·
                         rw [if_neg c75] at H
                         have c75b0 : (true != true) = false := by simp
                         (try (have c75b1 : decide (true = true) = true := by simp))
                         (try (have c75b2 : (true == true) = true := by simp))
                         clear c75
                         have H' := Aside0.mk H
                         clear H
                         have p434 : 0 ≤ (0 : Int) := (by omega)
                         have q434 : 0 < (t396.length : Int) := of_decide_eq_true (by first | (with_reducible assumption) | assumption)
                         obtain ⟨ad434, e434, hx434_0⟩ := Kd.at_int (Kd.R_reads' HO_6.out).2.2 0 p434 q434
                         cases e434
                         have qi434 : (0 < t396.length) = True := eq_true (by omega)
                         (try rw [show ((0 : Int)).toNat = 0 from rfl] at hx434_0)
                         (try rw [Addr.add_zero'] at hx434_0)
                         replace p434 := eq_true p434
                         replace q434 := eq_true q434
                         go_wp2_with (first | ((with_reducible refine gate_callee (f := 8) rfl ?_); refine goesL_ (some 153) rfl rfl Try.func8 (by kernel_rfl) rfl #[.int .i64 t391, .slice Ao13 t392.length co13, .int .i64 (rd t396 0)] rfl (by (try simp only [List.map_toArray, List.map_cons, List.map_nil]); first | done | rfl | (simp only [List.length_drop, List.length_take]; rfl)) ?_; (with_reducible refine (impl_TrueWord.calls kj52 t391 _ _ t392 (rd t396 0) t435 true _ ?side1 ?side2 A64.out).mono ?_); (case side1 => repeat (first | exact (Kd.R_reads' HO_4.out).2.2 | (with_reducible refine Kd.C_alloc ?_ _) | (with_reducible refine Kd.C_drewN ?_ _) | (with_reducible refine Kd.C_drew ?_))); (case side2 => exact (Kd.R_reads' HO_4.out).2.1); rintro e w80 ⟨rfl, hb⟩; refine ⟨_, rfl, ?_⟩; have n0_ := Aside0.mk (Kd.R_below (by (with_reducible repeat (first | apply Kd.R_alloc | apply Kd.R_drewN | apply Kd.R_drew)); exact HO_4.out) hb); have n1_ := Aside0.mk (Kd.R_below (by (with_reducible repeat (first | apply Kd.R_alloc | apply Kd.R_drewN | apply Kd.R_drew)); exact HO_6.out) hb); have n2_ := Aside0.mk (Kd.R_below (by (with_reducible repeat (first | apply Kd.R_alloc | apply Kd.R_drewN | apply Kd.R_drew)); exact HO_13.out) hb); have n3_ := Aside0.mk (Kd.R_below (by (with_reducible repeat (first | apply Kd.R_alloc | apply Kd.R_drewN | apply Kd.R_drew)); exact HO_16.out) hb); have n4_ := Aside0.mk (below_step (by repeat (first | (with_reducible first | exact HB.out | apply below_alloc | apply pw_below_drewN | apply below_drew1) | exact HB.out)) hb); clear HO_4; clear HO_6; clear HO_13; clear HO_16; clear HB; have HO_4 := n0_; have HO_6 := n1_; have HO_13 := n2_; have HO_16 := n3_; have HB := n4_; clear n0_ n1_ n2_ n3_ n4_; (try clear hb); (try clear hb2); (try clear hk); (try clear hi)) | ((with_reducible refine gate_callee (f := 31) rfl ?_); refine goesL_ (some 160) rfl rfl Try.func31 (by kernel_rfl) rfl #[.int .i64 t391, .slice Ao13 t392.length co13, .int .i64 t435] rfl (by (try simp only [List.map_toArray, List.map_cons, List.map_nil]); first | done | rfl | (simp only [List.length_drop, List.length_take]; rfl)) ?_; (with_reducible refine (impl_NearNumbers.calls kj52 t391 _ _ t392 t435 t437 t438 true _ ?side1 ?side2 A65.out).mono ?_); (case side1 => repeat (first | exact (Kd.R_reads' HO_4.out).2.2 | (with_reducible refine Kd.C_alloc ?_ _) | (with_reducible refine Kd.C_drewN ?_ _) | (with_reducible refine Kd.C_drew ?_))); (case side2 => exact (Kd.R_reads' HO_4.out).2.1); rintro e w81 ⟨v440, rfl, ho0, hb⟩; refine ⟨_, rfl, ?_⟩; have n0_ := Aside0.mk (Kd.R_elder' (by (with_reducible repeat (first | apply Kd.R_alloc | apply Kd.R_drewN | apply Kd.R_drew)); exact HO_4.out) (Kd.R_base ho0) hb); have n1_ := Aside0.mk (Kd.R_elder' (by (with_reducible repeat (first | apply Kd.R_alloc | apply Kd.R_drewN | apply Kd.R_drew)); exact HO_6.out) (Kd.R_base ho0) hb); have n2_ := Aside0.mk (Kd.R_elder' (by (with_reducible repeat (first | apply Kd.R_alloc | apply Kd.R_drewN | apply Kd.R_drew)); exact HO_13.out) (Kd.R_base ho0) hb); have n3_ := Aside0.mk (Kd.R_elder' (by (with_reducible repeat (first | apply Kd.R_alloc | apply Kd.R_drewN | apply Kd.R_drew)); exact HO_16.out) (Kd.R_base ho0) hb); have n4_ := Aside0.mk (Kd.R_lower (Kd.R_new' (Kd.R_new' (Kd.R_new' (Kd.R_new' ho0 (Kd.R_lt (by (with_reducible repeat (first | apply Kd.R_alloc | apply Kd.R_drewN | apply Kd.R_drew)); exact HO_4.out))) (Kd.R_lt (by (with_reducible repeat (first | apply Kd.R_alloc | apply Kd.R_drewN | apply Kd.R_drew)); exact HO_6.out))) (Kd.R_lt (by (with_reducible repeat (first | apply Kd.R_alloc | apply Kd.R_drewN | apply Kd.R_drew)); exact HO_13.out))) (Kd.R_lt (by (with_reducible repeat (first | apply Kd.R_alloc | apply Kd.R_drewN | apply Kd.R_drew)); exact HO_16.out))) (below_size (by repeat (first | (with_reducible first | exact HB.out | apply below_alloc | apply pw_below_drewN | apply below_drew1) | exact HB.out)))); have n5_ := Aside0.mk (below_step (by repeat (first | (with_reducible first | exact HB.out | apply below_alloc | apply pw_below_drewN | apply below_drew1) | exact HB.out)) hb); clear HO_4; clear HO_6; clear HO_13; clear HO_16; clear HB; have HO_4 := n0_; have HO_6 := n1_; have HO_13 := n2_; have HO_16 := n3_; have HO441 := n4_; have HB := n5_; clear n0_ n1_ n2_ n3_ n4_ n5_; (try clear hb); (try clear hb2); (try clear hk); (try clear hi); (try clear ho0)) | ((with_reducible refine gate_callee (f := 12) rfl ?_); refine goesL_ (some 167) rfl rfl Try.func12 (by kernel_rfl) rfl #[.int .i64 t391, .slice Ao13 t392.length co13] rfl (by (try simp only [List.map_toArray, List.map_cons, List.map_nil]); first | done | rfl | (simp only [List.length_drop, List.length_take]; rfl)) ?_; (with_reducible refine (impl_GapOf.calls kj52 t391 _ _ t392 t442 true _ ?side1 ?side2 A66.out).mono ?_); (case side1 => repeat (first | exact (Kd.R_reads' HO_4.out).2.2 | (with_reducible refine Kd.C_alloc ?_ _) | (with_reducible refine Kd.C_drewN ?_ _) | (with_reducible refine Kd.C_drew ?_))); (case side2 => exact (Kd.R_reads' HO_4.out).2.1); rintro e w82 ⟨rfl, hb⟩; refine ⟨_, rfl, ?_⟩; have n0_ := Aside0.mk (Kd.R_below (by (with_reducible repeat (first | apply Kd.R_alloc | apply Kd.R_drewN | apply Kd.R_drew)); exact HO_4.out) hb); have n1_ := Aside0.mk (Kd.R_below (by (with_reducible repeat (first | apply Kd.R_alloc | apply Kd.R_drewN | apply Kd.R_drew)); exact HO_6.out) hb); have n2_ := Aside0.mk (Kd.R_below (by (with_reducible repeat (first | apply Kd.R_alloc | apply Kd.R_drewN | apply Kd.R_drew)); exact HO_13.out) hb); have n3_ := Aside0.mk (Kd.R_below (by (with_reducible repeat (first | apply Kd.R_alloc | apply Kd.R_drewN | apply Kd.R_drew)); exact HO_16.out) hb); have n4_ := Aside0.mk (Kd.R_below (by (with_reducible repeat (first | apply Kd.R_alloc | apply Kd.R_drewN | apply Kd.R_drew)); exact HO441.out) hb); have n5_ := Aside0.mk (below_step (by repeat (first | (with_reducible first | exact HB.out | apply below_alloc | apply pw_below_drewN | apply below_drew1) | exact HB.out)) hb); clear HO_4; clear HO_6; clear HO_13; clear HO_16; clear HO441; clear HB; have HO_4 := n0_; have HO_6 := n1_; have HO_13 := n2_; have HO_16 := n3_; have HO441 := n4_; have HB := n5_; clear n0_ n1_ n2_ n3_ n4_ n5_; (try clear hb); (try clear hb2); (try clear hk); (try clear hi); have p444 : 0 ≤ (0 : Int) := (by omega); have q444 : 0 < (t396.length : Int) := of_decide_eq_true (by first | (with_reducible assumption) | assumption); obtain ⟨ad444, e444, hx444_0⟩ := Kd.at_int (Kd.R_reads' HO_6.out).2.2 0 p444 q444; obtain rfl : ad434 = ad444 := (by injection e444); have qi444 : (0 < t396.length) = True := eq_true (by omega); (try rw [show ((0 : Int)).toNat = 0 from rfl] at hx444_0); (try rw [Addr.add_zero'] at hx444_0); replace p444 := eq_true p444; replace q444 := eq_true q444; obtain ⟨Ao83, co83, eo83⟩ := Kd.R_slice HO441.out; subst eo83) | (go_at_call 36; (with_reducible refine (laws_vHas.calls kj52 _ _ t437 (rd t396 0) true _ ?side1 ?side2 A71.out).mono ?_); (case side1 => repeat (first | exact (Kd.R_reads' HO441.out).2.2 | (with_reducible refine Kd.C_alloc ?_ _) | (with_reducible refine Kd.C_drewN ?_ _) | (with_reducible refine Kd.C_drew ?_))); (case side2 => exact (Kd.R_reads' HO441.out).2.1); rintro e w' ⟨rfl, ⟨nd, rfl⟩⟩))
                         go_meet
                         case rel => exact ⟨_, H', ⟨by have := HJ10.out; have := HJ40.out; have := HJ52.out; first | omega | exact Nat.le_refl _⟩, ⟨by (with_reducible repeat (first | apply Kd.R_alloc | apply Kd.R_drewN | apply Kd.R_drew)); exact Kd.R_mono HO_13.out (fun _ hk => hk.1.2.2)⟩, ⟨by (with_reducible repeat (first | apply Kd.R_alloc | apply Kd.R_drewN | apply Kd.R_drew)); exact Kd.R_mono HO_16.out (fun _ hk => hk.1.2.2)⟩, ⟨by repeat (first | (with_reducible first | exact HB.out | apply below_alloc | apply pw_below_drewN | apply below_drew1) | exact HB.out)⟩⟩
                       ·
                        rw [if_neg c74] at H
                        have c74b0 : ((t437.length : Int) == 1) = false := beq_eq_false_iff_ne.mpr c74
                        have c74b1 : ((t437.length : Int) != 1) = true := bne_iff_ne.mpr c74
                        by_cases c84 : (true != false) = true
                        ·
                         rw [if_pos c84] at H
                         exact absurd H (by simp)
                        ·
                         exact absurd (by simp) c84
                      ·
                       rw [if_neg c73] at H
                       have c73b0 : decide (0 < t442) = false := decide_eq_false c73
                       clear c73
                       by_cases c93 : (t437.length : Int) = 1
                       ·
                        rw [if_pos c93] at H
                        have c93b0 : ((t437.length : Int) == 1) = true := beq_iff_eq.mpr c93
                        have c93b1 : ((t437.length : Int) != 1) = false := bne_eq_false_iff_eq.mpr c93
                        clear c93
                        by_cases c94 : ((t391 == 1) != (t391 == 1)) = true
                        ·
                         exact absurd c94 (by simp)
                        ·
                         rw [if_neg c94] at H
                         have c94b0 : ((t391 == 1) != (t391 == 1)) = false := by simp
                         (try (have c94b1 : decide ((t391 == 1) = (t391 == 1)) = true := by simp))
                         (try (have c94b2 : ((t391 == 1) == (t391 == 1)) = true := by simp))
                         clear c94
                         have H' := Aside0.mk H
                         clear H
                         have p434 : 0 ≤ (0 : Int) := (by omega)
                         have q434 : 0 < (t396.length : Int) := of_decide_eq_true (by first | (with_reducible assumption) | assumption)
                         obtain ⟨ad434, e434, hx434_0⟩ := Kd.at_int (Kd.R_reads' HO_6.out).2.2 0 p434 q434
                         cases e434
                         have qi434 : (0 < t396.length) = True := eq_true (by omega)
                         (try rw [show ((0 : Int)).toNat = 0 from rfl] at hx434_0)
                         (try rw [Addr.add_zero'] at hx434_0)
                         replace p434 := eq_true p434
                         replace q434 := eq_true q434
                         go_wp2_with (first | ((with_reducible refine gate_callee (f := 8) rfl ?_); refine goesL_ (some 153) rfl rfl Try.func8 (by kernel_rfl) rfl #[.int .i64 t391, .slice Ao13 t392.length co13, .int .i64 (rd t396 0)] rfl (by (try simp only [List.map_toArray, List.map_cons, List.map_nil]); first | done | rfl | (simp only [List.length_drop, List.length_take]; rfl)) ?_; (with_reducible refine (impl_TrueWord.calls kj52 t391 _ _ t392 (rd t396 0) t435 true _ ?side1 ?side2 A64.out).mono ?_); (case side1 => repeat (first | exact (Kd.R_reads' HO_4.out).2.2 | (with_reducible refine Kd.C_alloc ?_ _) | (with_reducible refine Kd.C_drewN ?_ _) | (with_reducible refine Kd.C_drew ?_))); (case side2 => exact (Kd.R_reads' HO_4.out).2.1); rintro e w99 ⟨rfl, hb⟩; refine ⟨_, rfl, ?_⟩; have n0_ := Aside0.mk (Kd.R_below (by (with_reducible repeat (first | apply Kd.R_alloc | apply Kd.R_drewN | apply Kd.R_drew)); exact HO_4.out) hb); have n1_ := Aside0.mk (Kd.R_below (by (with_reducible repeat (first | apply Kd.R_alloc | apply Kd.R_drewN | apply Kd.R_drew)); exact HO_6.out) hb); have n2_ := Aside0.mk (Kd.R_below (by (with_reducible repeat (first | apply Kd.R_alloc | apply Kd.R_drewN | apply Kd.R_drew)); exact HO_13.out) hb); have n3_ := Aside0.mk (Kd.R_below (by (with_reducible repeat (first | apply Kd.R_alloc | apply Kd.R_drewN | apply Kd.R_drew)); exact HO_16.out) hb); have n4_ := Aside0.mk (below_step (by repeat (first | (with_reducible first | exact HB.out | apply below_alloc | apply pw_below_drewN | apply below_drew1) | exact HB.out)) hb); clear HO_4; clear HO_6; clear HO_13; clear HO_16; clear HB; have HO_4 := n0_; have HO_6 := n1_; have HO_13 := n2_; have HO_16 := n3_; have HB := n4_; clear n0_ n1_ n2_ n3_ n4_; (try clear hb); (try clear hb2); (try clear hk); (try clear hi)) | ((with_reducible refine gate_callee (f := 31) rfl ?_); refine goesL_ (some 160) rfl rfl Try.func31 (by kernel_rfl) rfl #[.int .i64 t391, .slice Ao13 t392.length co13, .int .i64 t435] rfl (by (try simp only [List.map_toArray, List.map_cons, List.map_nil]); first | done | rfl | (simp only [List.length_drop, List.length_take]; rfl)) ?_; (with_reducible refine (impl_NearNumbers.calls kj52 t391 _ _ t392 t435 t437 t438 true _ ?side1 ?side2 A65.out).mono ?_); (case side1 => repeat (first | exact (Kd.R_reads' HO_4.out).2.2 | (with_reducible refine Kd.C_alloc ?_ _) | (with_reducible refine Kd.C_drewN ?_ _) | (with_reducible refine Kd.C_drew ?_))); (case side2 => exact (Kd.R_reads' HO_4.out).2.1); rintro e w100 ⟨v440, rfl, ho0, hb⟩; refine ⟨_, rfl, ?_⟩; have n0_ := Aside0.mk (Kd.R_elder' (by (with_reducible repeat (first | apply Kd.R_alloc | apply Kd.R_drewN | apply Kd.R_drew)); exact HO_4.out) (Kd.R_base ho0) hb); have n1_ := Aside0.mk (Kd.R_elder' (by (with_reducible repeat (first | apply Kd.R_alloc | apply Kd.R_drewN | apply Kd.R_drew)); exact HO_6.out) (Kd.R_base ho0) hb); have n2_ := Aside0.mk (Kd.R_elder' (by (with_reducible repeat (first | apply Kd.R_alloc | apply Kd.R_drewN | apply Kd.R_drew)); exact HO_13.out) (Kd.R_base ho0) hb); have n3_ := Aside0.mk (Kd.R_elder' (by (with_reducible repeat (first | apply Kd.R_alloc | apply Kd.R_drewN | apply Kd.R_drew)); exact HO_16.out) (Kd.R_base ho0) hb); have n4_ := Aside0.mk (Kd.R_lower (Kd.R_new' (Kd.R_new' (Kd.R_new' (Kd.R_new' ho0 (Kd.R_lt (by (with_reducible repeat (first | apply Kd.R_alloc | apply Kd.R_drewN | apply Kd.R_drew)); exact HO_4.out))) (Kd.R_lt (by (with_reducible repeat (first | apply Kd.R_alloc | apply Kd.R_drewN | apply Kd.R_drew)); exact HO_6.out))) (Kd.R_lt (by (with_reducible repeat (first | apply Kd.R_alloc | apply Kd.R_drewN | apply Kd.R_drew)); exact HO_13.out))) (Kd.R_lt (by (with_reducible repeat (first | apply Kd.R_alloc | apply Kd.R_drewN | apply Kd.R_drew)); exact HO_16.out))) (below_size (by repeat (first | (with_reducible first | exact HB.out | apply below_alloc | apply pw_below_drewN | apply below_drew1) | exact HB.out)))); have n5_ := Aside0.mk (below_step (by repeat (first | (with_reducible first | exact HB.out | apply below_alloc | apply pw_below_drewN | apply below_drew1) | exact HB.out)) hb); clear HO_4; clear HO_6; clear HO_13; clear HO_16; clear HB; have HO_4 := n0_; have HO_6 := n1_; have HO_13 := n2_; have HO_16 := n3_; have HO441 := n4_; have HB := n5_; clear n0_ n1_ n2_ n3_ n4_ n5_; (try clear hb); (try clear hb2); (try clear hk); (try clear hi); (try clear ho0)) | ((with_reducible refine gate_callee (f := 12) rfl ?_); refine goesL_ (some 167) rfl rfl Try.func12 (by kernel_rfl) rfl #[.int .i64 t391, .slice Ao13 t392.length co13] rfl (by (try simp only [List.map_toArray, List.map_cons, List.map_nil]); first | done | rfl | (simp only [List.length_drop, List.length_take]; rfl)) ?_; (with_reducible refine (impl_GapOf.calls kj52 t391 _ _ t392 t442 true _ ?side1 ?side2 A66.out).mono ?_); (case side1 => repeat (first | exact (Kd.R_reads' HO_4.out).2.2 | (with_reducible refine Kd.C_alloc ?_ _) | (with_reducible refine Kd.C_drewN ?_ _) | (with_reducible refine Kd.C_drew ?_))); (case side2 => exact (Kd.R_reads' HO_4.out).2.1); rintro e w101 ⟨rfl, hb⟩; refine ⟨_, rfl, ?_⟩; have n0_ := Aside0.mk (Kd.R_below (by (with_reducible repeat (first | apply Kd.R_alloc | apply Kd.R_drewN | apply Kd.R_drew)); exact HO_4.out) hb); have n1_ := Aside0.mk (Kd.R_below (by (with_reducible repeat (first | apply Kd.R_alloc | apply Kd.R_drewN | apply Kd.R_drew)); exact HO_6.out) hb); have n2_ := Aside0.mk (Kd.R_below (by (with_reducible repeat (first | apply Kd.R_alloc | apply Kd.R_drewN | apply Kd.R_drew)); exact HO_13.out) hb); have n3_ := Aside0.mk (Kd.R_below (by (with_reducible repeat (first | apply Kd.R_alloc | apply Kd.R_drewN | apply Kd.R_drew)); exact HO_16.out) hb); have n4_ := Aside0.mk (Kd.R_below (by (with_reducible repeat (first | apply Kd.R_alloc | apply Kd.R_drewN | apply Kd.R_drew)); exact HO441.out) hb); have n5_ := Aside0.mk (below_step (by repeat (first | (with_reducible first | exact HB.out | apply below_alloc | apply pw_below_drewN | apply below_drew1) | exact HB.out)) hb); clear HO_4; clear HO_6; clear HO_13; clear HO_16; clear HO441; clear HB; have HO_4 := n0_; have HO_6 := n1_; have HO_13 := n2_; have HO_16 := n3_; have HO441 := n4_; have HB := n5_; clear n0_ n1_ n2_ n3_ n4_ n5_; (try clear hb); (try clear hb2); (try clear hk); (try clear hi); have p444 : 0 ≤ (0 : Int) := (by omega); have q444 : 0 < (t396.length : Int) := of_decide_eq_true (by first | (with_reducible assumption) | assumption); obtain ⟨ad444, e444, hx444_0⟩ := Kd.at_int (Kd.R_reads' HO_6.out).2.2 0 p444 q444; obtain rfl : ad434 = ad444 := (by injection e444); have qi444 : (0 < t396.length) = True := eq_true (by omega); (try rw [show ((0 : Int)).toNat = 0 from rfl] at hx444_0); (try rw [Addr.add_zero'] at hx444_0); replace p444 := eq_true p444; replace q444 := eq_true q444; obtain ⟨Ao102, co102, eo102⟩ := Kd.R_slice HO441.out; subst eo102) | (go_at_call 36; (with_reducible refine (laws_vHas.calls kj52 _ _ t437 (rd t396 0) true _ ?side1 ?side2 A71.out).mono ?_); (case side1 => repeat (first | exact (Kd.R_reads' HO441.out).2.2 | (with_reducible refine Kd.C_alloc ?_ _) | (with_reducible refine Kd.C_drewN ?_ _) | (with_reducible refine Kd.C_drew ?_))); (case side2 => exact (Kd.R_reads' HO441.out).2.1); rintro e w' ⟨rfl, ⟨nd, rfl⟩⟩))
                         go_meet
                         case rel => exact ⟨_, H', ⟨by have := HJ10.out; have := HJ40.out; have := HJ52.out; first | omega | exact Nat.le_refl _⟩, ⟨by (with_reducible repeat (first | apply Kd.R_alloc | apply Kd.R_drewN | apply Kd.R_drew)); exact Kd.R_mono HO_13.out (fun _ hk => hk.1.2.2)⟩, ⟨by (with_reducible repeat (first | apply Kd.R_alloc | apply Kd.R_drewN | apply Kd.R_drew)); exact Kd.R_mono HO_16.out (fun _ hk => hk.1.2.2)⟩, ⟨by repeat (first | (with_reducible first | exact HB.out | apply below_alloc | apply pw_below_drewN | apply below_drew1) | exact HB.out)⟩⟩
                       ·
                        rw [if_neg c93] at H
                        have c93b0 : ((t437.length : Int) == 1) = false := beq_eq_false_iff_ne.mpr c93
                        have c93b1 : ((t437.length : Int) != 1) = true := bne_iff_ne.mpr c93
                        by_cases c103 : ((t391 == 1) != false) = true
                        ·
                         rw [if_pos c103] at H
                         exact absurd H (by simp)
                        ·
                         rw [if_neg c103] at H
                         have c103b0 : ((t391 == 1) != false) = false := by simpa using c103
                         (try (have c103b1 : decide ((t391 == 1) = false) = true := by simpa using c103))
                         (try (have c103b2 : ((t391 == 1) == false) = true := by simpa using c103))
                         clear c103
                         have H' := Aside0.mk H
                         clear H
                         have p434 : 0 ≤ (0 : Int) := (by omega)
                         have q434 : 0 < (t396.length : Int) := of_decide_eq_true (by first | (with_reducible assumption) | assumption)
                         obtain ⟨ad434, e434, hx434_0⟩ := Kd.at_int (Kd.R_reads' HO_6.out).2.2 0 p434 q434
                         cases e434
                         have qi434 : (0 < t396.length) = True := eq_true (by omega)
                         (try rw [show ((0 : Int)).toNat = 0 from rfl] at hx434_0)
                         (try rw [Addr.add_zero'] at hx434_0)
                         replace p434 := eq_true p434
                         replace q434 := eq_true q434
                         go_wp2_with (first | ((with_reducible refine gate_callee (f := 8) rfl ?_); refine goesL_ (some 153) rfl rfl Try.func8 (by kernel_rfl) rfl #[.int .i64 t391, .slice Ao13 t392.length co13, .int .i64 (rd t396 0)] rfl (by (try simp only [List.map_toArray, List.map_cons, List.map_nil]); first | done | rfl | (simp only [List.length_drop, List.length_take]; rfl)) ?_; (with_reducible refine (impl_TrueWord.calls kj52 t391 _ _ t392 (rd t396 0) t435 true _ ?side1 ?side2 A64.out).mono ?_); (case side1 => repeat (first | exact (Kd.R_reads' HO_4.out).2.2 | (with_reducible refine Kd.C_alloc ?_ _) | (with_reducible refine Kd.C_drewN ?_ _) | (with_reducible refine Kd.C_drew ?_))); (case side2 => exact (Kd.R_reads' HO_4.out).2.1); rintro e w108 ⟨rfl, hb⟩; refine ⟨_, rfl, ?_⟩; have n0_ := Aside0.mk (Kd.R_below (by (with_reducible repeat (first | apply Kd.R_alloc | apply Kd.R_drewN | apply Kd.R_drew)); exact HO_4.out) hb); have n1_ := Aside0.mk (Kd.R_below (by (with_reducible repeat (first | apply Kd.R_alloc | apply Kd.R_drewN | apply Kd.R_drew)); exact HO_6.out) hb); have n2_ := Aside0.mk (Kd.R_below (by (with_reducible repeat (first | apply Kd.R_alloc | apply Kd.R_drewN | apply Kd.R_drew)); exact HO_13.out) hb); have n3_ := Aside0.mk (Kd.R_below (by (with_reducible repeat (first | apply Kd.R_alloc | apply Kd.R_drewN | apply Kd.R_drew)); exact HO_16.out) hb); have n4_ := Aside0.mk (below_step (by repeat (first | (with_reducible first | exact HB.out | apply below_alloc | apply pw_below_drewN | apply below_drew1) | exact HB.out)) hb); clear HO_4; clear HO_6; clear HO_13; clear HO_16; clear HB; have HO_4 := n0_; have HO_6 := n1_; have HO_13 := n2_; have HO_16 := n3_; have HB := n4_; clear n0_ n1_ n2_ n3_ n4_; (try clear hb); (try clear hb2); (try clear hk); (try clear hi)) | ((with_reducible refine gate_callee (f := 31) rfl ?_); refine goesL_ (some 160) rfl rfl Try.func31 (by kernel_rfl) rfl #[.int .i64 t391, .slice Ao13 t392.length co13, .int .i64 t435] rfl (by (try simp only [List.map_toArray, List.map_cons, List.map_nil]); first | done | rfl | (simp only [List.length_drop, List.length_take]; rfl)) ?_; (with_reducible refine (impl_NearNumbers.calls kj52 t391 _ _ t392 t435 t437 t438 true _ ?side1 ?side2 A65.out).mono ?_); (case side1 => repeat (first | exact (Kd.R_reads' HO_4.out).2.2 | (with_reducible refine Kd.C_alloc ?_ _) | (with_reducible refine Kd.C_drewN ?_ _) | (with_reducible refine Kd.C_drew ?_))); (case side2 => exact (Kd.R_reads' HO_4.out).2.1); rintro e w109 ⟨v440, rfl, ho0, hb⟩; refine ⟨_, rfl, ?_⟩; have n0_ := Aside0.mk (Kd.R_elder' (by (with_reducible repeat (first | apply Kd.R_alloc | apply Kd.R_drewN | apply Kd.R_drew)); exact HO_4.out) (Kd.R_base ho0) hb); have n1_ := Aside0.mk (Kd.R_elder' (by (with_reducible repeat (first | apply Kd.R_alloc | apply Kd.R_drewN | apply Kd.R_drew)); exact HO_6.out) (Kd.R_base ho0) hb); have n2_ := Aside0.mk (Kd.R_elder' (by (with_reducible repeat (first | apply Kd.R_alloc | apply Kd.R_drewN | apply Kd.R_drew)); exact HO_13.out) (Kd.R_base ho0) hb); have n3_ := Aside0.mk (Kd.R_elder' (by (with_reducible repeat (first | apply Kd.R_alloc | apply Kd.R_drewN | apply Kd.R_drew)); exact HO_16.out) (Kd.R_base ho0) hb); have n4_ := Aside0.mk (Kd.R_lower (Kd.R_new' (Kd.R_new' (Kd.R_new' (Kd.R_new' ho0 (Kd.R_lt (by (with_reducible repeat (first | apply Kd.R_alloc | apply Kd.R_drewN | apply Kd.R_drew)); exact HO_4.out))) (Kd.R_lt (by (with_reducible repeat (first | apply Kd.R_alloc | apply Kd.R_drewN | apply Kd.R_drew)); exact HO_6.out))) (Kd.R_lt (by (with_reducible repeat (first | apply Kd.R_alloc | apply Kd.R_drewN | apply Kd.R_drew)); exact HO_13.out))) (Kd.R_lt (by (with_reducible repeat (first | apply Kd.R_alloc | apply Kd.R_drewN | apply Kd.R_drew)); exact HO_16.out))) (below_size (by repeat (first | (with_reducible first | exact HB.out | apply below_alloc | apply pw_below_drewN | apply below_drew1) | exact HB.out)))); have n5_ := Aside0.mk (below_step (by repeat (first | (with_reducible first | exact HB.out | apply below_alloc | apply pw_below_drewN | apply below_drew1) | exact HB.out)) hb); clear HO_4; clear HO_6; clear HO_13; clear HO_16; clear HB; have HO_4 := n0_; have HO_6 := n1_; have HO_13 := n2_; have HO_16 := n3_; have HO441 := n4_; have HB := n5_; clear n0_ n1_ n2_ n3_ n4_ n5_; (try clear hb); (try clear hb2); (try clear hk); (try clear hi); (try clear ho0)) | ((with_reducible refine gate_callee (f := 12) rfl ?_); refine goesL_ (some 167) rfl rfl Try.func12 (by kernel_rfl) rfl #[.int .i64 t391, .slice Ao13 t392.length co13] rfl (by (try simp only [List.map_toArray, List.map_cons, List.map_nil]); first | done | rfl | (simp only [List.length_drop, List.length_take]; rfl)) ?_; (with_reducible refine (impl_GapOf.calls kj52 t391 _ _ t392 t442 true _ ?side1 ?side2 A66.out).mono ?_); (case side1 => repeat (first | exact (Kd.R_reads' HO_4.out).2.2 | (with_reducible refine Kd.C_alloc ?_ _) | (with_reducible refine Kd.C_drewN ?_ _) | (with_reducible refine Kd.C_drew ?_))); (case side2 => exact (Kd.R_reads' HO_4.out).2.1); rintro e w110 ⟨rfl, hb⟩; refine ⟨_, rfl, ?_⟩; have n0_ := Aside0.mk (Kd.R_below (by (with_reducible repeat (first | apply Kd.R_alloc | apply Kd.R_drewN | apply Kd.R_drew)); exact HO_4.out) hb); have n1_ := Aside0.mk (Kd.R_below (by (with_reducible repeat (first | apply Kd.R_alloc | apply Kd.R_drewN | apply Kd.R_drew)); exact HO_6.out) hb); have n2_ := Aside0.mk (Kd.R_below (by (with_reducible repeat (first | apply Kd.R_alloc | apply Kd.R_drewN | apply Kd.R_drew)); exact HO_13.out) hb); have n3_ := Aside0.mk (Kd.R_below (by (with_reducible repeat (first | apply Kd.R_alloc | apply Kd.R_drewN | apply Kd.R_drew)); exact HO_16.out) hb); have n4_ := Aside0.mk (Kd.R_below (by (with_reducible repeat (first | apply Kd.R_alloc | apply Kd.R_drewN | apply Kd.R_drew)); exact HO441.out) hb); have n5_ := Aside0.mk (below_step (by repeat (first | (with_reducible first | exact HB.out | apply below_alloc | apply pw_below_drewN | apply below_drew1) | exact HB.out)) hb); clear HO_4; clear HO_6; clear HO_13; clear HO_16; clear HO441; clear HB; have HO_4 := n0_; have HO_6 := n1_; have HO_13 := n2_; have HO_16 := n3_; have HO441 := n4_; have HB := n5_; clear n0_ n1_ n2_ n3_ n4_ n5_; (try clear hb); (try clear hb2); (try clear hk); (try clear hi); have p444 : 0 ≤ (0 : Int) := (by omega); have q444 : 0 < (t396.length : Int) := of_decide_eq_true (by first | (with_reducible assumption) | assumption); obtain ⟨ad444, e444, hx444_0⟩ := Kd.at_int (Kd.R_reads' HO_6.out).2.2 0 p444 q444; obtain rfl : ad434 = ad444 := (by injection e444); have qi444 : (0 < t396.length) = True := eq_true (by omega); (try rw [show ((0 : Int)).toNat = 0 from rfl] at hx444_0); (try rw [Addr.add_zero'] at hx444_0); replace p444 := eq_true p444; replace q444 := eq_true q444; obtain ⟨Ao111, co111, eo111⟩ := Kd.R_slice HO441.out; subst eo111) | (go_at_call 36; (with_reducible refine (laws_vHas.calls kj52 _ _ t437 (rd t396 0) true _ ?side1 ?side2 A71.out).mono ?_); (case side1 => repeat (first | exact (Kd.R_reads' HO441.out).2.2 | (with_reducible refine Kd.C_alloc ?_ _) | (with_reducible refine Kd.C_drewN ?_ _) | (with_reducible refine Kd.C_drew ?_))); (case side2 => exact (Kd.R_reads' HO441.out).2.1); rintro e w' ⟨rfl, ⟨nd, rfl⟩⟩))
                         go_meet
                         case rel => exact ⟨_, H', ⟨by have := HJ10.out; have := HJ40.out; have := HJ52.out; first | omega | exact Nat.le_refl _⟩, ⟨by (with_reducible repeat (first | apply Kd.R_alloc | apply Kd.R_drewN | apply Kd.R_drew)); exact Kd.R_mono HO_13.out (fun _ hk => hk.1.2.2)⟩, ⟨by (with_reducible repeat (first | apply Kd.R_alloc | apply Kd.R_drewN | apply Kd.R_drew)); exact Kd.R_mono HO_16.out (fun _ hk => hk.1.2.2)⟩, ⟨by repeat (first | (with_reducible first | exact HB.out | apply below_alloc | apply pw_below_drewN | apply below_drew1) | exact HB.out)⟩⟩
                     ·
                      replace c72 := Bool.eq_false_iff.mpr c72
                      subst c72
                      have H1 : (none) = some r := by rw [if_neg (show ¬ (false = true) by decide)] at H; exact H
                      exact absurd H1 (by simp)
                    ·
                     rw [if_neg c70] at H
                     exact absurd H (by simp)
                   ·
                    replace c69 := Bool.eq_false_iff.mpr c69
                    subst c69
                    have H1 : (none) = some r := by rw [if_neg (show ¬ (false = true) by decide)] at H; exact H
                    exact absurd H1 (by simp)
                  ·
                   replace c68 := Bool.eq_false_iff.mpr c68
                   subst c68
                   have H1 : (none) = some r := by rw [if_neg (show ¬ (false = true) by decide)] at H; exact H
                   exact absurd H1 (by simp)
                 ·
                  replace c67 := Bool.eq_false_iff.mpr c67
                  subst c67
                  have H1 : (none) = some r := by rw [if_neg (show ¬ (false = true) by decide)] at H; exact H
                  exact absurd H1 (by simp)
                ·
                 rw [if_neg c63] at H
                 exact absurd H (by simp)
        ·
         replace c38 := Bool.eq_false_iff.mpr c38
         subst c38
         have H1 : (laws_FnNearNumbers.j3 kj10 t409 t410 t411 t412 t415 t416) = some r := by rw [if_neg (show ¬ (false = true) by decide)] at H; exact H
         clear H
         have H := H1
         clear H1
         have H' := Aside0.mk H
         clear H
         go_wp2
         go_meet
         case rel => exact ⟨_, H', ⟨by have := HJ10.out; first | omega | exact Nat.le_refl _⟩, ⟨by (with_reducible repeat (first | apply Kd.R_alloc | apply Kd.R_drewN | apply Kd.R_drew)); exact Kd.R_mono HO_13.out (fun _ hk => hk.2.2)⟩, ⟨by (with_reducible repeat (first | apply Kd.R_alloc | apply Kd.R_drewN | apply Kd.R_drew)); exact Kd.R_mono HO_16.out (fun _ hk => hk.2.2)⟩, ⟨by repeat (first | (with_reducible first | exact HB.out | apply below_alloc | apply pw_below_drewN | apply below_drew1) | exact HB.out)⟩⟩
      case rest =>
       as_aux_lemma =>
        clear HC37
        try clear c1
        try clear c2
        try clear p2
        try clear c3
        try clear c4
        try clear p4
        try clear q4
        try clear hx4
        try clear qi4
        try clear c5
        try clear c6
        try clear p6
        try clear c7
        try clear c8
        try clear c9
        try clear c10
        try clear c12
        try clear c15
        try clear c22
        try clear c22b0
        try clear c22b1
        try clear c23
        try clear c23b0
        try clear c23b1
        try clear c23b2
        try clear c25
        try clear c26
        try clear c26b0
        try clear c26b1
        try clear c26b2
        try clear c30
        try clear c31
        try clear c32
        try clear c33
        try clear c34
        try clear c35
        try clear c36
        try clear c38
        try clear c39
        try clear c39b0
        try clear c39b1
        try clear c39b2
        try clear c43
        try clear c43b0
        try clear p43
        try clear q43
        try clear hx43
        try clear qi43
        try clear p44
        try clear q44
        try clear hx44
        try clear qi44
        try clear c45
        try clear c47
        try clear c54
        try clear c54b0
        try clear c56
        try clear c57
        try clear c57b0
        try clear c57b1
        try clear c63
        try clear c63b0
        try clear c63b1
        try clear p64
        try clear c67
        try clear c68
        try clear c69
        try clear c70
        try clear c70b0
        try clear c70b1
        try clear c72
        try clear c73
        try clear c73b0
        try clear c74
        try clear c74b0
        try clear c74b1
        try clear c75
        try clear c75b0
        try clear c75b1
        try clear c75b2
        try clear c84
        try clear c84b0
        try clear c84b1
        try clear c84b2
        try clear c93
        try clear c93b0
        try clear c93b1
        try clear c94
        try clear c94b0
        try clear c94b1
        try clear c94b2
        try clear c103
        try clear c103b0
        try clear c103b1
        try clear c103b2
        try clear hx434_0
        try clear hx444_0
        try clear p2
        try clear p434
        try clear p444
        try clear p6
        try clear q434
        try clear q444
        obtain ⟨kq, HA, HJ36, HO_13, HO_16, HB⟩ := hcut
        cases kq with
        | zero => exact absurd HA.out (by simp [laws_FnNearNumbers.j3])
        | succ kj36 =>
         have H := HA.out
         clear HA
         simp only [laws_FnNearNumbers.j3] at H
         by_cases c128 : t416 = true
         ·
          subst c128
          have H1 : ((impl_NearNumbers.f kj36 t409 t410 t411).bind fun bt446 => (if bt446.2.2 = true then (if ((decide ((t415.length : Int) > 0)) == (decide (bt446.2.1 ≤ t412))) = true then (if (t415.length : Int) = 0 then (some true) else (if 0 < (bt446.1.length : Int) then ((laws_vHas.f kj36 t415 (rd bt446.1 0)).bind fun t452 => (some t452)) else (none))) else (none)) else (none))) = some r := by rw [if_pos rfl] at H; exact H
          clear H
          have H := H1
          clear H1
          replace H := Option.bind_eq_some_iff.mp H
          obtain ⟨⟨t446, t447, t448⟩, A1290, H⟩ := H
          replace H : (if t448 = true then (if ((decide ((t415.length : Int) > 0)) == (decide (t447 ≤ t412))) = true then (if (t415.length : Int) = 0 then (some true) else (if 0 < (t446.length : Int) then ((laws_vHas.f kj36 t415 (rd t446 0)).bind fun t452 => (some t452)) else (none))) else (none)) else (none)) = some r := H
          have A129 := Aside0.mk A1290
          clear A1290
          by_cases c130 : t448 = true
          ·
           subst c130
           have H1 : (if ((decide ((t415.length : Int) > 0)) == (decide (t447 ≤ t412))) = true then (if (t415.length : Int) = 0 then (some true) else (if 0 < (t446.length : Int) then ((laws_vHas.f kj36 t415 (rd t446 0)).bind fun t452 => (some t452)) else (none))) else (none)) = some r := by rw [if_pos rfl] at H; exact H
           clear H
           have H := H1
           clear H1
           by_cases c131P : (t415.length : Int) > 0
           ·
            have c131Pb0 : decide (0 < (t415.length : Int)) = true := decide_eq_true c131P
            have c131Pb1 : decide (0 < t415.length) = true := decide_eq_true (by omega)
            by_cases c131Q : t447 ≤ t412
            ·
             have c131Qb0 : decide (t447 ≤ t412) = true := decide_eq_true c131Q
             rw [if_pos (by rw [decide_eq_true c131P, decide_eq_true c131Q]; decide)] at H
             by_cases c132 : (t415.length : Int) = 0
             ·
              rw [if_pos c132] at H
              have c132b0 : ((t415.length : Int) == 0) = true := beq_iff_eq.mpr c132
              have c132b1 : ((t415.length : Int) != 0) = false := bne_eq_false_iff_eq.mpr c132
              clear c132
              obtain rfl := Option.some.inj H
              go_wp2_with (first | ((with_reducible refine gate_callee (f := 31) rfl ?_); refine goesL_ (some 217) rfl rfl Try.func31 (by kernel_rfl) rfl #[.int .i64 t409, .slice Ao19 t410.length co19, .int .i64 t411] rfl (by (try simp only [List.map_toArray, List.map_cons, List.map_nil]); first | done | rfl | (simp only [List.length_drop, List.length_take]; rfl)) ?_; (with_reducible refine (impl_NearNumbers.calls kj36 t409 _ _ t410 t411 t446 t447 true _ ?side1 ?side2 A129.out).mono ?_); (case side1 => repeat (first | exact (Kd.R_reads' HO_13.out).2.2 | (with_reducible refine Kd.C_alloc ?_ _) | (with_reducible refine Kd.C_drewN ?_ _) | (with_reducible refine Kd.C_drew ?_))); (case side2 => exact (Kd.R_reads' HO_13.out).2.1); rintro e w133 ⟨v449, rfl, ho0, hb⟩; refine ⟨_, rfl, ?_⟩; have n0_ := Aside0.mk (Kd.R_elder' (by (with_reducible repeat (first | apply Kd.R_alloc | apply Kd.R_drewN | apply Kd.R_drew)); exact HO_13.out) (Kd.R_base ho0) hb); have n1_ := Aside0.mk (Kd.R_elder' (by (with_reducible repeat (first | apply Kd.R_alloc | apply Kd.R_drewN | apply Kd.R_drew)); exact HO_16.out) (Kd.R_base ho0) hb); have n2_ := Aside0.mk (Kd.R_lower (Kd.R_new' (Kd.R_new' ho0 (Kd.R_lt (by (with_reducible repeat (first | apply Kd.R_alloc | apply Kd.R_drewN | apply Kd.R_drew)); exact HO_13.out))) (Kd.R_lt (by (with_reducible repeat (first | apply Kd.R_alloc | apply Kd.R_drewN | apply Kd.R_drew)); exact HO_16.out))) (below_size (by repeat (first | (with_reducible first | exact HB.out | apply below_alloc | apply pw_below_drewN | apply below_drew1) | exact HB.out)))); have n3_ := Aside0.mk (below_step (by repeat (first | (with_reducible first | exact HB.out | apply below_alloc | apply pw_below_drewN | apply below_drew1) | exact HB.out)) hb); clear HO_13; clear HO_16; clear HB; have HO_13 := n0_; have HO_16 := n1_; have HO450 := n2_; have HB := n3_; clear n0_ n1_ n2_ n3_; (try clear hb); (try clear hb2); (try clear hk); (try clear hi); (try clear ho0); obtain ⟨Ao134, co134, eo134⟩ := Kd.R_slice HO_16.out; subst eo134))
              go_ret
              exact ⟨by first | rfl | (simp [errW_none, errW_some] <;> rfl) | (simp [*, errW_none, errW_some] <;> rfl), by repeat (first | (with_reducible first | exact HB.out | apply below_alloc | apply pw_below_drewN | apply below_drew1) | exact HB.out)⟩
             ·
              rw [if_neg c132] at H
              have c132b0 : ((t415.length : Int) == 0) = false := beq_eq_false_iff_ne.mpr c132
              have c132b1 : ((t415.length : Int) != 0) = true := bne_iff_ne.mpr c132
              have c132b2 : ¬ (t415 = []) := fun h_ => c132 (by rw [h_]; rfl)
              by_cases c135 : 0 < (t446.length : Int)
              ·
               rw [if_pos c135] at H
               have c135b0 : decide (0 < (t446.length : Int)) = true := decide_eq_true c135
               have c135b1 : decide (0 < t446.length) = true := decide_eq_true (by omega)
               clear c135
               replace H := Option.bind_eq_some_iff.mp H
               obtain ⟨t452, A1360, H⟩ := H
               replace H : (some t452) = some r := H
               have A136 := Aside0.mk A1360
               clear A1360
               obtain rfl := Option.some.inj H
               go_wp2_with (first | ((with_reducible refine gate_callee (f := 31) rfl ?_); refine goesL_ (some 217) rfl rfl Try.func31 (by kernel_rfl) rfl #[.int .i64 t409, .slice Ao19 t410.length co19, .int .i64 t411] rfl (by (try simp only [List.map_toArray, List.map_cons, List.map_nil]); first | done | rfl | (simp only [List.length_drop, List.length_take]; rfl)) ?_; (with_reducible refine (impl_NearNumbers.calls kj36 t409 _ _ t410 t411 t446 t447 true _ ?side1 ?side2 A129.out).mono ?_); (case side1 => repeat (first | exact (Kd.R_reads' HO_13.out).2.2 | (with_reducible refine Kd.C_alloc ?_ _) | (with_reducible refine Kd.C_drewN ?_ _) | (with_reducible refine Kd.C_drew ?_))); (case side2 => exact (Kd.R_reads' HO_13.out).2.1); rintro e w137 ⟨v449, rfl, ho0, hb⟩; refine ⟨_, rfl, ?_⟩; have n0_ := Aside0.mk (Kd.R_elder' (by (with_reducible repeat (first | apply Kd.R_alloc | apply Kd.R_drewN | apply Kd.R_drew)); exact HO_13.out) (Kd.R_base ho0) hb); have n1_ := Aside0.mk (Kd.R_elder' (by (with_reducible repeat (first | apply Kd.R_alloc | apply Kd.R_drewN | apply Kd.R_drew)); exact HO_16.out) (Kd.R_base ho0) hb); have n2_ := Aside0.mk (Kd.R_lower (Kd.R_new' (Kd.R_new' ho0 (Kd.R_lt (by (with_reducible repeat (first | apply Kd.R_alloc | apply Kd.R_drewN | apply Kd.R_drew)); exact HO_13.out))) (Kd.R_lt (by (with_reducible repeat (first | apply Kd.R_alloc | apply Kd.R_drewN | apply Kd.R_drew)); exact HO_16.out))) (below_size (by repeat (first | (with_reducible first | exact HB.out | apply below_alloc | apply pw_below_drewN | apply below_drew1) | exact HB.out)))); have n3_ := Aside0.mk (below_step (by repeat (first | (with_reducible first | exact HB.out | apply below_alloc | apply pw_below_drewN | apply below_drew1) | exact HB.out)) hb); clear HO_13; clear HO_16; clear HB; have HO_13 := n0_; have HO_16 := n1_; have HO450 := n2_; have HB := n3_; clear n0_ n1_ n2_ n3_; (try clear hb); (try clear hb2); (try clear hk); (try clear hi); (try clear ho0); obtain ⟨Ao138, co138, eo138⟩ := Kd.R_slice HO_16.out; subst eo138; obtain ⟨Ao139, co139, eo139⟩ := Kd.R_slice HO450.out; subst eo139; have p451 : 0 ≤ (0 : Int) := (by omega); have q451 : 0 < (t446.length : Int) := of_decide_eq_true (by first | (with_reducible assumption) | assumption); obtain ⟨ad451, e451, hx451_0⟩ := Kd.at_int (Kd.R_reads' HO450.out).2.2 0 p451 q451; cases e451; have qi451 : (0 < t446.length) = True := eq_true (by omega); (try rw [show ((0 : Int)).toNat = 0 from rfl] at hx451_0); (try rw [Addr.add_zero'] at hx451_0); replace p451 := eq_true p451; replace q451 := eq_true q451) | (go_at_call 36; (with_reducible refine (laws_vHas.calls kj36 _ _ t415 (rd t446 0) t452 _ ?side1 ?side2 A136.out).mono ?_); (case side1 => repeat (first | exact (Kd.R_reads' HO_16.out).2.2 | (with_reducible refine Kd.C_alloc ?_ _) | (with_reducible refine Kd.C_drewN ?_ _) | (with_reducible refine Kd.C_drew ?_))); (case side2 => exact (Kd.R_reads' HO_16.out).2.1); rintro e w' ⟨rfl, ⟨nd, rfl⟩⟩))
               go_ret
               exact ⟨by first | rfl | (simp [errW_none, errW_some] <;> rfl) | (simp [*, errW_none, errW_some] <;> rfl), by repeat (first | (with_reducible first | exact HB.out | apply below_alloc | apply pw_below_drewN | apply below_drew1) | exact HB.out)⟩
              ·
               rw [if_neg c135] at H
               exact absurd H (by simp)
            ·
             have c131Qb0 : decide (t447 ≤ t412) = false := decide_eq_false c131Q
             rw [if_neg (by rw [decide_eq_true c131P, decide_eq_false c131Q]; decide)] at H
             exact absurd H (by simp)
           ·
            have c131Pb0 : decide (0 < (t415.length : Int)) = false := decide_eq_false c131P
            have c131Pb1 : decide (0 < t415.length) = false := decide_eq_false (by omega)
            by_cases c131Q : t447 ≤ t412
            ·
             have c131Qb0 : decide (t447 ≤ t412) = true := decide_eq_true c131Q
             rw [if_neg (by rw [decide_eq_false c131P, decide_eq_true c131Q]; decide)] at H
             exact absurd H (by simp)
            ·
             have c131Qb0 : decide (t447 ≤ t412) = false := decide_eq_false c131Q
             rw [if_pos (by rw [decide_eq_false c131P, decide_eq_false c131Q]; decide)] at H
             by_cases c132 : (t415.length : Int) = 0
             ·
              rw [if_pos c132] at H
              have c132b0 : ((t415.length : Int) == 0) = true := beq_iff_eq.mpr c132
              have c132b1 : ((t415.length : Int) != 0) = false := bne_eq_false_iff_eq.mpr c132
              clear c132
              obtain rfl := Option.some.inj H
              go_wp2_with (first | ((with_reducible refine gate_callee (f := 31) rfl ?_); refine goesL_ (some 217) rfl rfl Try.func31 (by kernel_rfl) rfl #[.int .i64 t409, .slice Ao19 t410.length co19, .int .i64 t411] rfl (by (try simp only [List.map_toArray, List.map_cons, List.map_nil]); first | done | rfl | (simp only [List.length_drop, List.length_take]; rfl)) ?_; (with_reducible refine (impl_NearNumbers.calls kj36 t409 _ _ t410 t411 t446 t447 true _ ?side1 ?side2 A129.out).mono ?_); (case side1 => repeat (first | exact (Kd.R_reads' HO_13.out).2.2 | (with_reducible refine Kd.C_alloc ?_ _) | (with_reducible refine Kd.C_drewN ?_ _) | (with_reducible refine Kd.C_drew ?_))); (case side2 => exact (Kd.R_reads' HO_13.out).2.1); rintro e w133 ⟨v449, rfl, ho0, hb⟩; refine ⟨_, rfl, ?_⟩; have n0_ := Aside0.mk (Kd.R_elder' (by (with_reducible repeat (first | apply Kd.R_alloc | apply Kd.R_drewN | apply Kd.R_drew)); exact HO_13.out) (Kd.R_base ho0) hb); have n1_ := Aside0.mk (Kd.R_elder' (by (with_reducible repeat (first | apply Kd.R_alloc | apply Kd.R_drewN | apply Kd.R_drew)); exact HO_16.out) (Kd.R_base ho0) hb); have n2_ := Aside0.mk (Kd.R_lower (Kd.R_new' (Kd.R_new' ho0 (Kd.R_lt (by (with_reducible repeat (first | apply Kd.R_alloc | apply Kd.R_drewN | apply Kd.R_drew)); exact HO_13.out))) (Kd.R_lt (by (with_reducible repeat (first | apply Kd.R_alloc | apply Kd.R_drewN | apply Kd.R_drew)); exact HO_16.out))) (below_size (by repeat (first | (with_reducible first | exact HB.out | apply below_alloc | apply pw_below_drewN | apply below_drew1) | exact HB.out)))); have n3_ := Aside0.mk (below_step (by repeat (first | (with_reducible first | exact HB.out | apply below_alloc | apply pw_below_drewN | apply below_drew1) | exact HB.out)) hb); clear HO_13; clear HO_16; clear HB; have HO_13 := n0_; have HO_16 := n1_; have HO450 := n2_; have HB := n3_; clear n0_ n1_ n2_ n3_; (try clear hb); (try clear hb2); (try clear hk); (try clear hi); (try clear ho0); obtain ⟨Ao134, co134, eo134⟩ := Kd.R_slice HO_16.out; subst eo134))
              go_ret
              exact ⟨by first | rfl | (simp [errW_none, errW_some] <;> rfl) | (simp [*, errW_none, errW_some] <;> rfl), by repeat (first | (with_reducible first | exact HB.out | apply below_alloc | apply pw_below_drewN | apply below_drew1) | exact HB.out)⟩
             ·
              rw [if_neg c132] at H
              have c132b0 : ((t415.length : Int) == 0) = false := beq_eq_false_iff_ne.mpr c132
              have c132b1 : ((t415.length : Int) != 0) = true := bne_iff_ne.mpr c132
              have c132b2 : ¬ (t415 = []) := fun h_ => c132 (by rw [h_]; rfl)
              by_cases c135 : 0 < (t446.length : Int)
              ·
               rw [if_pos c135] at H
               have c135b0 : decide (0 < (t446.length : Int)) = true := decide_eq_true c135
               have c135b1 : decide (0 < t446.length) = true := decide_eq_true (by omega)
               clear c135
               replace H := Option.bind_eq_some_iff.mp H
               obtain ⟨t452, A1360, H⟩ := H
               replace H : (some t452) = some r := H
               have A136 := Aside0.mk A1360
               clear A1360
               obtain rfl := Option.some.inj H
               go_wp2_with (first | ((with_reducible refine gate_callee (f := 31) rfl ?_); refine goesL_ (some 217) rfl rfl Try.func31 (by kernel_rfl) rfl #[.int .i64 t409, .slice Ao19 t410.length co19, .int .i64 t411] rfl (by (try simp only [List.map_toArray, List.map_cons, List.map_nil]); first | done | rfl | (simp only [List.length_drop, List.length_take]; rfl)) ?_; (with_reducible refine (impl_NearNumbers.calls kj36 t409 _ _ t410 t411 t446 t447 true _ ?side1 ?side2 A129.out).mono ?_); (case side1 => repeat (first | exact (Kd.R_reads' HO_13.out).2.2 | (with_reducible refine Kd.C_alloc ?_ _) | (with_reducible refine Kd.C_drewN ?_ _) | (with_reducible refine Kd.C_drew ?_))); (case side2 => exact (Kd.R_reads' HO_13.out).2.1); rintro e w137 ⟨v449, rfl, ho0, hb⟩; refine ⟨_, rfl, ?_⟩; have n0_ := Aside0.mk (Kd.R_elder' (by (with_reducible repeat (first | apply Kd.R_alloc | apply Kd.R_drewN | apply Kd.R_drew)); exact HO_13.out) (Kd.R_base ho0) hb); have n1_ := Aside0.mk (Kd.R_elder' (by (with_reducible repeat (first | apply Kd.R_alloc | apply Kd.R_drewN | apply Kd.R_drew)); exact HO_16.out) (Kd.R_base ho0) hb); have n2_ := Aside0.mk (Kd.R_lower (Kd.R_new' (Kd.R_new' ho0 (Kd.R_lt (by (with_reducible repeat (first | apply Kd.R_alloc | apply Kd.R_drewN | apply Kd.R_drew)); exact HO_13.out))) (Kd.R_lt (by (with_reducible repeat (first | apply Kd.R_alloc | apply Kd.R_drewN | apply Kd.R_drew)); exact HO_16.out))) (below_size (by repeat (first | (with_reducible first | exact HB.out | apply below_alloc | apply pw_below_drewN | apply below_drew1) | exact HB.out)))); have n3_ := Aside0.mk (below_step (by repeat (first | (with_reducible first | exact HB.out | apply below_alloc | apply pw_below_drewN | apply below_drew1) | exact HB.out)) hb); clear HO_13; clear HO_16; clear HB; have HO_13 := n0_; have HO_16 := n1_; have HO450 := n2_; have HB := n3_; clear n0_ n1_ n2_ n3_; (try clear hb); (try clear hb2); (try clear hk); (try clear hi); (try clear ho0); obtain ⟨Ao138, co138, eo138⟩ := Kd.R_slice HO_16.out; subst eo138; obtain ⟨Ao139, co139, eo139⟩ := Kd.R_slice HO450.out; subst eo139; have p451 : 0 ≤ (0 : Int) := (by omega); have q451 : 0 < (t446.length : Int) := of_decide_eq_true (by first | (with_reducible assumption) | assumption); obtain ⟨ad451, e451, hx451_0⟩ := Kd.at_int (Kd.R_reads' HO450.out).2.2 0 p451 q451; cases e451; have qi451 : (0 < t446.length) = True := eq_true (by omega); (try rw [show ((0 : Int)).toNat = 0 from rfl] at hx451_0); (try rw [Addr.add_zero'] at hx451_0); replace p451 := eq_true p451; replace q451 := eq_true q451) | (go_at_call 36; (with_reducible refine (laws_vHas.calls kj36 _ _ t415 (rd t446 0) t452 _ ?side1 ?side2 A136.out).mono ?_); (case side1 => repeat (first | exact (Kd.R_reads' HO_16.out).2.2 | (with_reducible refine Kd.C_alloc ?_ _) | (with_reducible refine Kd.C_drewN ?_ _) | (with_reducible refine Kd.C_drew ?_))); (case side2 => exact (Kd.R_reads' HO_16.out).2.1); rintro e w' ⟨rfl, ⟨nd, rfl⟩⟩))
               go_ret
               exact ⟨by first | rfl | (simp [errW_none, errW_some] <;> rfl) | (simp [*, errW_none, errW_some] <;> rfl), by repeat (first | (with_reducible first | exact HB.out | apply below_alloc | apply pw_below_drewN | apply below_drew1) | exact HB.out)⟩
              ·
               rw [if_neg c135] at H
               exact absurd H (by simp)
          ·
           replace c130 := Bool.eq_false_iff.mpr c130
           subst c130
           have H1 : (none) = some r := by rw [if_neg (show ¬ (false = true) by decide)] at H; exact H
           exact absurd H1 (by simp)
         ·
          replace c128 := Bool.eq_false_iff.mpr c128
          subst c128
          have H1 : (some true) = some r := by rw [if_neg (show ¬ (false = true) by decide)] at H; exact H
          clear H
          have H := H1
          clear H1
          obtain rfl := Option.some.inj H
          go_wp2
          go_ret
          exact ⟨by first | rfl | (simp [errW_none, errW_some] <;> rfl) | (simp [*, errW_none, errW_some] <;> rfl), by repeat (first | (with_reducible first | exact HB.out | apply below_alloc | apply pw_below_drewN | apply below_drew1) | exact HB.out)⟩

/-- THE ONE PURE STATEMENT of laws_FnNearNumbers. -/
def laws_FnNearNumbers.Pure : Prop := ∀ (l0 : List Int), l0.length ≤ maxLen → (∀ x ∈ l0, (Lit.int .u8 x).wf = true) → ∃ k, laws_FnNearNumbers.f k l0 = some true

end Go.Proofs.Ytmckmagdiokhiaa.PFnNearNumbers
