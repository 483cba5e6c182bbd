/- The Go functions' Lean forms, each with the proof that the function comes to what its form says: for one law, no condition. Written by a program for this work. -/
import Derived.Test.YtmckmagdiokhiaaPFnMadeSchemesx0
import Derived.Test.YtmckmagdiokhiaaPFnMadeSchemesx1
import Derived.Test.YtmckmagdiokhiaaPFnMadeSchemesx2
import Derived.Test.YtmckmagdiokhiaaPFnMadeSchemesx3
import Derived.Test.YtmckmagdiokhiaaPFnMadeSchemesx4
import Derived.Test.YtmckmagdiokhiaaPFnMadeSchemesx5
import Derived.Test.YtmckmagdiokhiaaPFnMadeSchemesx6
import Derived.Test.YtmckmagdiokhiaaPFnMadeSchemesx7
import Derived.Test.YtmckmagdiokhiaaPFnMadeSchemesx8
import Derived.Test.YtmckmagdiokhiaaPFnMadeSchemesx9
namespace Go.Proofs.Ytmckmagdiokhiaa.PFnMadeSchemes
open Go.RowKit Go.Proofs.YtmckmagdiokhiaaW.PrintWords Go.Proofs.YtmckmagdiokhiaaW.PrintLast Go.Proofs.YtmckmagdiokhiaaW.PrintMore
open Go.Proofs.Ytmckmagdiokhiaa.Lib
attribute [local go_sem] max2_int min2_int max_two min_two max_three min_three max_four min_four   -- for this text's walks alone
set_option linter.unusedVariables false
set_option linter.unusedSimpArgs false

/-! ### laws_FnMadeSchemes: function 5 -/
mutual
def laws_FnMadeSchemes.j0 : Nat → Int → List Int → Int → List Int → Bool → Int → List Int → Bool → Int → Int → List Int → Bool → List Int → List Int → Bool → Bool → Option (Bool)
 | 0, _, _, _, _, _, _, _, _, _, _, _, _, _, _, _, _ => none
 | k + 1, x3, x4, x5, x6, x7, x10, x11, x12, x15, x16, x17, x18, x22, x24, x25, x154 => if x154 = true then (none) else (if x7 = true then ((impl_GapOf.f k x3 x4).bind fun bt441 => ((impl_GapOf.f k x3 x6).bind fun bt443 => (if bt441.2 = true then (if bt443.2 = true then (if bt443.1 = (wrap64 (bt441.1 * x5)) then (if (x6.length : Int) = (wrap64 ((x4.length : Int) * x5)) then (laws_FnMadeSchemes.j1 k x10 x11 x12 x15 x16 x17 x18 x22 x24 x25) else (none)) else (none)) else (none)) else (none)))) else (laws_FnMadeSchemes.j1 k x10 x11 x12 x15 x16 x17 x18 x22 x24 x25))
def laws_FnMadeSchemes.j1 : Nat → Int → List Int → Bool → Int → Int → List Int → Bool → List Int → List Int → Bool → Option (Bool)
 | 0, _, _, _, _, _, _, _, _, _, _ => none
 | k + 1, x10, x11, x12, x15, x16, x17, x18, x22, x24, x25 => if x12 = true then ((impl_TrueWords.f k x10 x11).bind fun bt445 => (if bt445.2 = true then (if (x11.length : Int) > 0 then (if 0 ≤ (wrap64 ((x11.length : Int) - 1)) then (if (shl .i64 1 (wrap64 ((x11.length : Int) - 1))) ≥ x10 then (none) else (laws_FnMadeSchemes.j2 k x15 x16 x17 x18 x22 x24 x25 bt445.1 (decide ((shl .i64 1 (x11.length : Int)) < x10)))) else (none)) else (laws_FnMadeSchemes.j2 k x15 x16 x17 x18 x22 x24 x25 bt445.1 (decide ((shl .i64 1 (x11.length : Int)) < x10)))) else (none))) else (laws_FnMadeSchemes.j4 k x15 x16 x17 x18 x22 x24 x25)
def laws_FnMadeSchemes.j4 : Nat → Int → Int → List Int → Bool → List Int → List Int → Bool → Option (Bool)
 | 0, _, _, _, _, _, _, _ => none
 | k + 1, x15, x16, x17, x18, x22, x24, x25 => if x18 = true then ((impl_IsSafe.f k x15 x17 x16).bind fun bt450 => ((impl_TrueWords.f k x15 x17).bind fun bt452 => (if bt450.2 = true then (if bt452.2 = true then (if bt450.1 = true then (if 0 < (bt452.1.length : Int) then (laws_FnMadeSchemes.j5 k x22 x24 x25 bt452.1 ((rd bt452.1 0) != 0)) else (none)) else (none)) else (none)) else (none)))) else (if x25 = true then (some ((x24.length : Int) == (wrap64 ((x22.length : Int) - 1)))) else (some true))
def laws_FnMadeSchemes.j5 : Nat → List Int → List Int → Bool → List Int → Bool → Option (Bool)
 | 0, _, _, _, _, _ => none
 | k + 1, x22, x24, x25, x37, x260 => if x260 = true then (none) else (laws_FnMadeSchemes.l1 k x22 x24 x25 x37 1)
def laws_FnMadeSchemes.l1 : Nat → List Int → List Int → Bool → List Int → Int → Option (Bool)
 | 0, _, _, _, _, _ => none
 | k + 1, x22, x24, x25, x37, x39 => if x39 < (x37.length : Int) then (if 0 ≤ x39 then (if 0 ≤ (wrap64 (x39 - 1)) then (if (wrap64 (x39 - 1)) < (x37.length : Int) then (if (rd x37 x39) ≤ (rd x37 (wrap64 (x39 - 1))) then (none) else (laws_FnMadeSchemes.l1 k x22 x24 x25 x37 (wrap64 (x39 + 1)))) else (none)) else (none)) else (none)) else (if x25 = true then (some ((x24.length : Int) == (wrap64 ((x22.length : Int) - 1)))) else (some true))
def laws_FnMadeSchemes.j2 : Nat → Int → Int → List Int → Bool → List Int → List Int → Bool → List Int → Bool → Option (Bool)
 | 0, _, _, _, _, _, _, _, _, _ => none
 | k + 1, x15, x16, x17, x18, x22, x24, x25, x32, x218 => if x218 = true then (none) else (laws_FnMadeSchemes.l0 k x15 x16 x17 x18 x22 x24 x25 x32 0)
def laws_FnMadeSchemes.l0 : Nat → Int → Int → List Int → Bool → List Int → List Int → Bool → List Int → Int → Option (Bool)
 | 0, _, _, _, _, _, _, _, _, _ => none
 | k + 1, x15, x16, x17, x18, x22, x24, x25, x32, x34 => if x34 < (x32.length : Int) then (if 0 ≤ x34 then (if (rd x32 x34) = x34 then (laws_FnMadeSchemes.l0 k x15 x16 x17 x18 x22 x24 x25 x32 (wrap64 (x34 + 1))) else (none)) else (none)) else (laws_FnMadeSchemes.j4 k x15 x16 x17 x18 x22 x24 x25)
end
def laws_FnMadeSchemes.f (k : Nat) (l0 : List Int) : Option (Bool) := (laws_vBig.f l0).bind fun t385 => (if t385 = true then (some true) else ((spec_DrawRepeatScheme.f k l0).bind fun bt386 => ((impl_RepeatScheme.f k bt386.1 bt386.2.1 bt386.2.2).bind fun bt391 => ((spec_RepeatScheme.f k bt386.1 bt386.2.1 bt386.2.2).bind fun bt395 => ((laws_vCut.f l0 1).bind fun t399 => ((spec_DrawBitScheme.f t399).bind fun t402 => ((impl_BitScheme.f k t402).bind fun bt403 => ((spec_BitScheme.f k t402).bind fun bt407 => ((laws_vCut.f l0 2).bind fun t411 => ((spec_DrawGreedyScheme.f t411).bind fun bt414 => ((impl_GreedyScheme.f k bt414.1 bt414.2).bind fun bt416 => ((spec_GreedyScheme.f k bt414.1 bt414.2).bind fun bt420 => ((spec_DrawDropFixed.f k l0).bind fun bt424 => ((impl_DropFixed.f bt424.1 bt424.2.1 bt424.2.2).bind fun bt429 => ((spec_DropFixed.f k bt424.1 bt424.2.1 bt424.2.2).bind fun bt433 => (if (bt391.2 != bt395.2) = true then (none) else ((laws_vInts.f k bt391.1 bt395.1).bind fun t437 => (if t437 = true then (if (bt403.2 != bt407.2) = true then (none) else ((laws_vInts.f k bt403.1 bt407.1).bind fun t438 => (if t438 = true then (if (bt416.2 != bt420.2) = true then (none) else ((laws_vInts.f k bt416.1 bt420.1).bind fun t439 => (if t439 = true then (if (bt429.2 != bt433.2) = true then (none) else ((laws_vInts.f k bt429.1 bt433.1).bind fun t440 => (laws_FnMadeSchemes.j0 k bt386.1 bt386.2.1 bt386.2.2 bt391.1 bt391.2 t402 bt403.1 bt403.2 bt414.1 bt414.2 bt416.1 bt416.2 bt424.2.1 bt429.1 bt429.2 (!t440)))) else (none)))) else (none)))) else (none)))))))))))))))))))
theorem laws_FnMadeSchemes.mono_l : ∀ k, (∀ y0 y1 y2 y3 y4 y5 y6 y7 y8 y9 y10 y11 y12 y13 y14 y15, LeO (laws_FnMadeSchemes.j0 k y0 y1 y2 y3 y4 y5 y6 y7 y8 y9 y10 y11 y12 y13 y14 y15) (laws_FnMadeSchemes.j0 (k + 1) y0 y1 y2 y3 y4 y5 y6 y7 y8 y9 y10 y11 y12 y13 y14 y15)) ∧ (∀ y0 y1 y2 y3 y4 y5 y6 y7 y8 y9, LeO (laws_FnMadeSchemes.j1 k y0 y1 y2 y3 y4 y5 y6 y7 y8 y9) (laws_FnMadeSchemes.j1 (k + 1) y0 y1 y2 y3 y4 y5 y6 y7 y8 y9)) ∧ (∀ y0 y1 y2 y3 y4 y5 y6, LeO (laws_FnMadeSchemes.j4 k y0 y1 y2 y3 y4 y5 y6) (laws_FnMadeSchemes.j4 (k + 1) y0 y1 y2 y3 y4 y5 y6)) ∧ (∀ y0 y1 y2 y3 y4, LeO (laws_FnMadeSchemes.j5 k y0 y1 y2 y3 y4) (laws_FnMadeSchemes.j5 (k + 1) y0 y1 y2 y3 y4)) ∧ (∀ y0 y1 y2 y3 y4, LeO (laws_FnMadeSchemes.l1 k y0 y1 y2 y3 y4) (laws_FnMadeSchemes.l1 (k + 1) y0 y1 y2 y3 y4)) ∧ (∀ y0 y1 y2 y3 y4 y5 y6 y7 y8, LeO (laws_FnMadeSchemes.j2 k y0 y1 y2 y3 y4 y5 y6 y7 y8) (laws_FnMadeSchemes.j2 (k + 1) y0 y1 y2 y3 y4 y5 y6 y7 y8)) ∧ (∀ y0 y1 y2 y3 y4 y5 y6 y7 y8, LeO (laws_FnMadeSchemes.l0 k y0 y1 y2 y3 y4 y5 y6 y7 y8) (laws_FnMadeSchemes.l0 (k + 1) y0 y1 y2 y3 y4 y5 y6 y7 y8))
 | 0 => ⟨fun _ _ _ _ _ _ _ _ _ _ _ _ _ _ _ _ r h => by simp [laws_FnMadeSchemes.j0] at h, fun _ _ _ _ _ _ _ _ _ _ r h => by simp [laws_FnMadeSchemes.j1] at h, fun _ _ _ _ _ _ _ r h => by simp [laws_FnMadeSchemes.j4] at h, fun _ _ _ _ _ r h => by simp [laws_FnMadeSchemes.j5] at h, fun _ _ _ _ _ r h => by simp [laws_FnMadeSchemes.l1] at h, fun _ _ _ _ _ _ _ _ _ r h => by simp [laws_FnMadeSchemes.j2] at h, fun _ _ _ _ _ _ _ _ _ r h => by simp [laws_FnMadeSchemes.l0] at h⟩
 | k + 1 => by
  obtain ⟨ih0, ih1, ih2, ih3, ih4, ih5, ih6⟩ := laws_FnMadeSchemes.mono_l k
  refine ⟨?_, ?_, ?_, ?_, ?_, ?_, ?_⟩
  ·
   intro y0 y1 y2 y3 y4 y5 y6 y7 y8 y9 y10 y11 y12 y13 y14 y15
   unfold laws_FnMadeSchemes.j0
   repeat' first
   | (with_reducible exact ih0 _ _ _ _ _ _ _ _ _ _ _ _ _ _ _ _)
   | (with_reducible exact ih1 _ _ _ _ _ _ _ _ _ _)
   | (with_reducible exact ih2 _ _ _ _ _ _ _)
   | (with_reducible exact ih3 _ _ _ _ _)
   | (with_reducible exact ih4 _ _ _ _ _)
   | (with_reducible exact ih5 _ _ _ _ _ _ _ _ _)
   | (with_reducible exact ih6 _ _ _ _ _ _ _ _ _)
   | (with_reducible exact impl_BitScheme.mono _ _)
   | (with_reducible exact impl_GapOf.mono _ _ _)
   | (with_reducible exact impl_GreedyScheme.mono _ _ _)
   | (with_reducible exact impl_IsSafe.mono _ _ _ _)
   | (with_reducible exact impl_RepeatScheme.mono _ _ _ _)
   | (with_reducible exact impl_TrueWords.mono _ _ _)
   | (with_reducible exact laws_vInts.mono _ _ _)
   | (with_reducible exact spec_BitScheme.mono _ _)
   | (with_reducible exact spec_DrawDropFixed.mono _ _)
   | (with_reducible exact spec_DrawRepeatScheme.mono _ _)
   | (with_reducible exact spec_DropFixed.mono _ _ _ _)
   | (with_reducible exact spec_GreedyScheme.mono _ _ _)
   | (with_reducible exact spec_RepeatScheme.mono _ _ _ _)
   | (with_reducible exact LeO.refl _)
   | (with_reducible exact LeO.none _)
   | (with_reducible exact LeO.none _)
   | (with_reducible refine LeO.ite ?_ ?_)
   | (with_reducible refine LeO.bind ?_ (fun _ => ?_))
   | exact ih0 _ _ _ _ _ _ _ _ _ _ _ _ _ _ _ _
   | exact ih1 _ _ _ _ _ _ _ _ _ _
   | exact ih2 _ _ _ _ _ _ _
   | exact ih3 _ _ _ _ _
   | exact ih4 _ _ _ _ _
   | exact ih5 _ _ _ _ _ _ _ _ _
   | exact ih6 _ _ _ _ _ _ _ _ _
   | exact impl_BitScheme.mono _ _
   | exact impl_GapOf.mono _ _ _
   | exact impl_GreedyScheme.mono _ _ _
   | exact impl_IsSafe.mono _ _ _ _
   | exact impl_RepeatScheme.mono _ _ _ _
   | exact impl_TrueWords.mono _ _ _
   | exact laws_vInts.mono _ _ _
   | exact spec_BitScheme.mono _ _
   | exact spec_DrawDropFixed.mono _ _
   | exact spec_DrawRepeatScheme.mono _ _
   | exact spec_DropFixed.mono _ _ _ _
   | exact spec_GreedyScheme.mono _ _ _
   | exact spec_RepeatScheme.mono _ _ _ _
   | exact LeO.none _
   | refine LeO.ite ?_ ?_
   | refine LeO.bind ?_ (fun _ => ?_)
  ·
   intro y0 y1 y2 y3 y4 y5 y6 y7 y8 y9
   unfold laws_FnMadeSchemes.j1
   repeat' first
   | (with_reducible exact ih0 _ _ _ _ _ _ _ _ _ _ _ _ _ _ _ _)
   | (with_reducible exact ih1 _ _ _ _ _ _ _ _ _ _)
   | (with_reducible exact ih2 _ _ _ _ _ _ _)
   | (with_reducible exact ih3 _ _ _ _ _)
   | (with_reducible exact ih4 _ _ _ _ _)
   | (with_reducible exact ih5 _ _ _ _ _ _ _ _ _)
   | (with_reducible exact ih6 _ _ _ _ _ _ _ _ _)
   | (with_reducible exact impl_BitScheme.mono _ _)
   | (with_reducible exact impl_GapOf.mono _ _ _)
   | (with_reducible exact impl_GreedyScheme.mono _ _ _)
   | (with_reducible exact impl_IsSafe.mono _ _ _ _)
   | (with_reducible exact impl_RepeatScheme.mono _ _ _ _)
   | (with_reducible exact impl_TrueWords.mono _ _ _)
   | (with_reducible exact laws_vInts.mono _ _ _)
   | (with_reducible exact spec_BitScheme.mono _ _)
   | (with_reducible exact spec_DrawDropFixed.mono _ _)
   | (with_reducible exact spec_DrawRepeatScheme.mono _ _)
   | (with_reducible exact spec_DropFixed.mono _ _ _ _)
   | (with_reducible exact spec_GreedyScheme.mono _ _ _)
   | (with_reducible exact spec_RepeatScheme.mono _ _ _ _)
   | (with_reducible exact LeO.refl _)
   | (with_reducible exact LeO.none _)
   | (with_reducible exact LeO.none _)
   | (with_reducible refine LeO.ite ?_ ?_)
   | (with_reducible refine LeO.bind ?_ (fun _ => ?_))
   | exact ih0 _ _ _ _ _ _ _ _ _ _ _ _ _ _ _ _
   | exact ih1 _ _ _ _ _ _ _ _ _ _
   | exact ih2 _ _ _ _ _ _ _
   | exact ih3 _ _ _ _ _
   | exact ih4 _ _ _ _ _
   | exact ih5 _ _ _ _ _ _ _ _ _
   | exact ih6 _ _ _ _ _ _ _ _ _
   | exact impl_BitScheme.mono _ _
   | exact impl_GapOf.mono _ _ _
   | exact impl_GreedyScheme.mono _ _ _
   | exact impl_IsSafe.mono _ _ _ _
   | exact impl_RepeatScheme.mono _ _ _ _
   | exact impl_TrueWords.mono _ _ _
   | exact laws_vInts.mono _ _ _
   | exact spec_BitScheme.mono _ _
   | exact spec_DrawDropFixed.mono _ _
   | exact spec_DrawRepeatScheme.mono _ _
   | exact spec_DropFixed.mono _ _ _ _
   | exact spec_GreedyScheme.mono _ _ _
   | exact spec_RepeatScheme.mono _ _ _ _
   | exact LeO.none _
   | refine LeO.ite ?_ ?_
   | refine LeO.bind ?_ (fun _ => ?_)
  ·
   intro y0 y1 y2 y3 y4 y5 y6
   unfold laws_FnMadeSchemes.j4
   repeat' first
   | (with_reducible exact ih0 _ _ _ _ _ _ _ _ _ _ _ _ _ _ _ _)
   | (with_reducible exact ih1 _ _ _ _ _ _ _ _ _ _)
   | (with_reducible exact ih2 _ _ _ _ _ _ _)
   | (with_reducible exact ih3 _ _ _ _ _)
   | (with_reducible exact ih4 _ _ _ _ _)
   | (with_reducible exact ih5 _ _ _ _ _ _ _ _ _)
   | (with_reducible exact ih6 _ _ _ _ _ _ _ _ _)
   | (with_reducible exact impl_BitScheme.mono _ _)
   | (with_reducible exact impl_GapOf.mono _ _ _)
   | (with_reducible exact impl_GreedyScheme.mono _ _ _)
   | (with_reducible exact impl_IsSafe.mono _ _ _ _)
   | (with_reducible exact impl_RepeatScheme.mono _ _ _ _)
   | (with_reducible exact impl_TrueWords.mono _ _ _)
   | (with_reducible exact laws_vInts.mono _ _ _)
   | (with_reducible exact spec_BitScheme.mono _ _)
   | (with_reducible exact spec_DrawDropFixed.mono _ _)
   | (with_reducible exact spec_DrawRepeatScheme.mono _ _)
   | (with_reducible exact spec_DropFixed.mono _ _ _ _)
   | (with_reducible exact spec_GreedyScheme.mono _ _ _)
   | (with_reducible exact spec_RepeatScheme.mono _ _ _ _)
   | (with_reducible exact LeO.refl _)
   | (with_reducible exact LeO.none _)
   | (with_reducible exact LeO.none _)
   | (with_reducible refine LeO.ite ?_ ?_)
   | (with_reducible refine LeO.bind ?_ (fun _ => ?_))
   | exact ih0 _ _ _ _ _ _ _ _ _ _ _ _ _ _ _ _
   | exact ih1 _ _ _ _ _ _ _ _ _ _
   | exact ih2 _ _ _ _ _ _ _
   | exact ih3 _ _ _ _ _
   | exact ih4 _ _ _ _ _
   | exact ih5 _ _ _ _ _ _ _ _ _
   | exact ih6 _ _ _ _ _ _ _ _ _
   | exact impl_BitScheme.mono _ _
   | exact impl_GapOf.mono _ _ _
   | exact impl_GreedyScheme.mono _ _ _
   | exact impl_IsSafe.mono _ _ _ _
   | exact impl_RepeatScheme.mono _ _ _ _
   | exact impl_TrueWords.mono _ _ _
   | exact laws_vInts.mono _ _ _
   | exact spec_BitScheme.mono _ _
   | exact spec_DrawDropFixed.mono _ _
   | exact spec_DrawRepeatScheme.mono _ _
   | exact spec_DropFixed.mono _ _ _ _
   | exact spec_GreedyScheme.mono _ _ _
   | exact spec_RepeatScheme.mono _ _ _ _
   | exact LeO.none _
   | refine LeO.ite ?_ ?_
   | refine LeO.bind ?_ (fun _ => ?_)
  ·
   intro y0 y1 y2 y3 y4
   unfold laws_FnMadeSchemes.j5
   repeat' first
   | (with_reducible exact ih0 _ _ _ _ _ _ _ _ _ _ _ _ _ _ _ _)
   | (with_reducible exact ih1 _ _ _ _ _ _ _ _ _ _)
   | (with_reducible exact ih2 _ _ _ _ _ _ _)
   | (with_reducible exact ih3 _ _ _ _ _)
   | (with_reducible exact ih4 _ _ _ _ _)
   | (with_reducible exact ih5 _ _ _ _ _ _ _ _ _)
   | (with_reducible exact ih6 _ _ _ _ _ _ _ _ _)
   | (with_reducible exact impl_BitScheme.mono _ _)
   | (with_reducible exact impl_GapOf.mono _ _ _)
   | (with_reducible exact impl_GreedyScheme.mono _ _ _)
   | (with_reducible exact impl_IsSafe.mono _ _ _ _)
   | (with_reducible exact impl_RepeatScheme.mono _ _ _ _)
   | (with_reducible exact impl_TrueWords.mono _ _ _)
   | (with_reducible exact laws_vInts.mono _ _ _)
   | (with_reducible exact spec_BitScheme.mono _ _)
   | (with_reducible exact spec_DrawDropFixed.mono _ _)
   | (with_reducible exact spec_DrawRepeatScheme.mono _ _)
   | (with_reducible exact spec_DropFixed.mono _ _ _ _)
   | (with_reducible exact spec_GreedyScheme.mono _ _ _)
   | (with_reducible exact spec_RepeatScheme.mono _ _ _ _)
   | (with_reducible exact LeO.refl _)
   | (with_reducible exact LeO.none _)
   | (with_reducible exact LeO.none _)
   | (with_reducible refine LeO.ite ?_ ?_)
   | (with_reducible refine LeO.bind ?_ (fun _ => ?_))
   | exact ih0 _ _ _ _ _ _ _ _ _ _ _ _ _ _ _ _
   | exact ih1 _ _ _ _ _ _ _ _ _ _
   | exact ih2 _ _ _ _ _ _ _
   | exact ih3 _ _ _ _ _
   | exact ih4 _ _ _ _ _
   | exact ih5 _ _ _ _ _ _ _ _ _
   | exact ih6 _ _ _ _ _ _ _ _ _
   | exact impl_BitScheme.mono _ _
   | exact impl_GapOf.mono _ _ _
   | exact impl_GreedyScheme.mono _ _ _
   | exact impl_IsSafe.mono _ _ _ _
   | exact impl_RepeatScheme.mono _ _ _ _
   | exact impl_TrueWords.mono _ _ _
   | exact laws_vInts.mono _ _ _
   | exact spec_BitScheme.mono _ _
   | exact spec_DrawDropFixed.mono _ _
   | exact spec_DrawRepeatScheme.mono _ _
   | exact spec_DropFixed.mono _ _ _ _
   | exact spec_GreedyScheme.mono _ _ _
   | exact spec_RepeatScheme.mono _ _ _ _
   | exact LeO.none _
   | refine LeO.ite ?_ ?_
   | refine LeO.bind ?_ (fun _ => ?_)
  ·
   intro y0 y1 y2 y3 y4
   unfold laws_FnMadeSchemes.l1
   repeat' first
   | (with_reducible exact ih0 _ _ _ _ _ _ _ _ _ _ _ _ _ _ _ _)
   | (with_reducible exact ih1 _ _ _ _ _ _ _ _ _ _)
   | (with_reducible exact ih2 _ _ _ _ _ _ _)
   | (with_reducible exact ih3 _ _ _ _ _)
   | (with_reducible exact ih4 _ _ _ _ _)
   | (with_reducible exact ih5 _ _ _ _ _ _ _ _ _)
   | (with_reducible exact ih6 _ _ _ _ _ _ _ _ _)
   | (with_reducible exact impl_BitScheme.mono _ _)
   | (with_reducible exact impl_GapOf.mono _ _ _)
   | (with_reducible exact impl_GreedyScheme.mono _ _ _)
   | (with_reducible exact impl_IsSafe.mono _ _ _ _)
   | (with_reducible exact impl_RepeatScheme.mono _ _ _ _)
   | (with_reducible exact impl_TrueWords.mono _ _ _)
   | (with_reducible exact laws_vInts.mono _ _ _)
   | (with_reducible exact spec_BitScheme.mono _ _)
   | (with_reducible exact spec_DrawDropFixed.mono _ _)
   | (with_reducible exact spec_DrawRepeatScheme.mono _ _)
   | (with_reducible exact spec_DropFixed.mono _ _ _ _)
   | (with_reducible exact spec_GreedyScheme.mono _ _ _)
   | (with_reducible exact spec_RepeatScheme.mono _ _ _ _)
   | (with_reducible exact LeO.refl _)
   | (with_reducible exact LeO.none _)
   | (with_reducible exact LeO.none _)
   | (with_reducible refine LeO.ite ?_ ?_)
   | (with_reducible refine LeO.bind ?_ (fun _ => ?_))
   | exact ih0 _ _ _ _ _ _ _ _ _ _ _ _ _ _ _ _
   | exact ih1 _ _ _ _ _ _ _ _ _ _
   | exact ih2 _ _ _ _ _ _ _
   | exact ih3 _ _ _ _ _
   | exact ih4 _ _ _ _ _
   | exact ih5 _ _ _ _ _ _ _ _ _
   | exact ih6 _ _ _ _ _ _ _ _ _
   | exact impl_BitScheme.mono _ _
   | exact impl_GapOf.mono _ _ _
   | exact impl_GreedyScheme.mono _ _ _
   | exact impl_IsSafe.mono _ _ _ _
   | exact impl_RepeatScheme.mono _ _ _ _
   | exact impl_TrueWords.mono _ _ _
   | exact laws_vInts.mono _ _ _
   | exact spec_BitScheme.mono _ _
   | exact spec_DrawDropFixed.mono _ _
   | exact spec_DrawRepeatScheme.mono _ _
   | exact spec_DropFixed.mono _ _ _ _
   | exact spec_GreedyScheme.mono _ _ _
   | exact spec_RepeatScheme.mono _ _ _ _
   | exact LeO.none _
   | refine LeO.ite ?_ ?_
   | refine LeO.bind ?_ (fun _ => ?_)
  ·
   intro y0 y1 y2 y3 y4 y5 y6 y7 y8
   unfold laws_FnMadeSchemes.j2
   repeat' first
   | (with_reducible exact ih0 _ _ _ _ _ _ _ _ _ _ _ _ _ _ _ _)
   | (with_reducible exact ih1 _ _ _ _ _ _ _ _ _ _)
   | (with_reducible exact ih2 _ _ _ _ _ _ _)
   | (with_reducible exact ih3 _ _ _ _ _)
   | (with_reducible exact ih4 _ _ _ _ _)
   | (with_reducible exact ih5 _ _ _ _ _ _ _ _ _)
   | (with_reducible exact ih6 _ _ _ _ _ _ _ _ _)
   | (with_reducible exact impl_BitScheme.mono _ _)
   | (with_reducible exact impl_GapOf.mono _ _ _)
   | (with_reducible exact impl_GreedyScheme.mono _ _ _)
   | (with_reducible exact impl_IsSafe.mono _ _ _ _)
   | (with_reducible exact impl_RepeatScheme.mono _ _ _ _)
   | (with_reducible exact impl_TrueWords.mono _ _ _)
   | (with_reducible exact laws_vInts.mono _ _ _)
   | (with_reducible exact spec_BitScheme.mono _ _)
   | (with_reducible exact spec_DrawDropFixed.mono _ _)
   | (with_reducible exact spec_DrawRepeatScheme.mono _ _)
   | (with_reducible exact spec_DropFixed.mono _ _ _ _)
   | (with_reducible exact spec_GreedyScheme.mono _ _ _)
   | (with_reducible exact spec_RepeatScheme.mono _ _ _ _)
   | (with_reducible exact LeO.refl _)
   | (with_reducible exact LeO.none _)
   | (with_reducible exact LeO.none _)
   | (with_reducible refine LeO.ite ?_ ?_)
   | (with_reducible refine LeO.bind ?_ (fun _ => ?_))
   | exact ih0 _ _ _ _ _ _ _ _ _ _ _ _ _ _ _ _
   | exact ih1 _ _ _ _ _ _ _ _ _ _
   | exact ih2 _ _ _ _ _ _ _
   | exact ih3 _ _ _ _ _
   | exact ih4 _ _ _ _ _
   | exact ih5 _ _ _ _ _ _ _ _ _
   | exact ih6 _ _ _ _ _ _ _ _ _
   | exact impl_BitScheme.mono _ _
   | exact impl_GapOf.mono _ _ _
   | exact impl_GreedyScheme.mono _ _ _
   | exact impl_IsSafe.mono _ _ _ _
   | exact impl_RepeatScheme.mono _ _ _ _
   | exact impl_TrueWords.mono _ _ _
   | exact laws_vInts.mono _ _ _
   | exact spec_BitScheme.mono _ _
   | exact spec_DrawDropFixed.mono _ _
   | exact spec_DrawRepeatScheme.mono _ _
   | exact spec_DropFixed.mono _ _ _ _
   | exact spec_GreedyScheme.mono _ _ _
   | exact spec_RepeatScheme.mono _ _ _ _
   | exact LeO.none _
   | refine LeO.ite ?_ ?_
   | refine LeO.bind ?_ (fun _ => ?_)
  ·
   intro y0 y1 y2 y3 y4 y5 y6 y7 y8
   unfold laws_FnMadeSchemes.l0
   repeat' first
   | (with_reducible exact ih0 _ _ _ _ _ _ _ _ _ _ _ _ _ _ _ _)
   | (with_reducible exact ih1 _ _ _ _ _ _ _ _ _ _)
   | (with_reducible exact ih2 _ _ _ _ _ _ _)
   | (with_reducible exact ih3 _ _ _ _ _)
   | (with_reducible exact ih4 _ _ _ _ _)
   | (with_reducible exact ih5 _ _ _ _ _ _ _ _ _)
   | (with_reducible exact ih6 _ _ _ _ _ _ _ _ _)
   | (with_reducible exact impl_BitScheme.mono _ _)
   | (with_reducible exact impl_GapOf.mono _ _ _)
   | (with_reducible exact impl_GreedyScheme.mono _ _ _)
   | (with_reducible exact impl_IsSafe.mono _ _ _ _)
   | (with_reducible exact impl_RepeatScheme.mono _ _ _ _)
   | (with_reducible exact impl_TrueWords.mono _ _ _)
   | (with_reducible exact laws_vInts.mono _ _ _)
   | (with_reducible exact spec_BitScheme.mono _ _)
   | (with_reducible exact spec_DrawDropFixed.mono _ _)
   | (with_reducible exact spec_DrawRepeatScheme.mono _ _)
   | (with_reducible exact spec_DropFixed.mono _ _ _ _)
   | (with_reducible exact spec_GreedyScheme.mono _ _ _)
   | (with_reducible exact spec_RepeatScheme.mono _ _ _ _)
   | (with_reducible exact LeO.refl _)
   | (with_reducible exact LeO.none _)
   | (with_reducible exact LeO.none _)
   | (with_reducible refine LeO.ite ?_ ?_)
   | (with_reducible refine LeO.bind ?_ (fun _ => ?_))
   | exact ih0 _ _ _ _ _ _ _ _ _ _ _ _ _ _ _ _
   | exact ih1 _ _ _ _ _ _ _ _ _ _
   | exact ih2 _ _ _ _ _ _ _
   | exact ih3 _ _ _ _ _
   | exact ih4 _ _ _ _ _
   | exact ih5 _ _ _ _ _ _ _ _ _
   | exact ih6 _ _ _ _ _ _ _ _ _
   | exact impl_BitScheme.mono _ _
   | exact impl_GapOf.mono _ _ _
   | exact impl_GreedyScheme.mono _ _ _
   | exact impl_IsSafe.mono _ _ _ _
   | exact impl_RepeatScheme.mono _ _ _ _
   | exact impl_TrueWords.mono _ _ _
   | exact laws_vInts.mono _ _ _
   | exact spec_BitScheme.mono _ _
   | exact spec_DrawDropFixed.mono _ _
   | exact spec_DrawRepeatScheme.mono _ _
   | exact spec_DropFixed.mono _ _ _ _
   | exact spec_GreedyScheme.mono _ _ _
   | exact spec_RepeatScheme.mono _ _ _ _
   | exact LeO.none _
   | refine LeO.ite ?_ ?_
   | refine LeO.bind ?_ (fun _ => ?_)
theorem laws_FnMadeSchemes.mono : ∀ a0 k, LeO (laws_FnMadeSchemes.f k a0) (laws_FnMadeSchemes.f (k + 1) a0) := by
 intro a0 k
 obtain ⟨ih0, ih1, ih2, ih3, ih4, ih5, ih6⟩ := laws_FnMadeSchemes.mono_l k
 unfold laws_FnMadeSchemes.f
 repeat' first
   | (with_reducible exact ih0 _ _ _ _ _ _ _ _ _ _ _ _ _ _ _ _)
   | (with_reducible exact ih1 _ _ _ _ _ _ _ _ _ _)
   | (with_reducible exact ih2 _ _ _ _ _ _ _)
   | (with_reducible exact ih3 _ _ _ _ _)
   | (with_reducible exact ih4 _ _ _ _ _)
   | (with_reducible exact ih5 _ _ _ _ _ _ _ _ _)
   | (with_reducible exact ih6 _ _ _ _ _ _ _ _ _)
   | (with_reducible exact impl_BitScheme.mono _ _)
   | (with_reducible exact impl_GapOf.mono _ _ _)
   | (with_reducible exact impl_GreedyScheme.mono _ _ _)
   | (with_reducible exact impl_IsSafe.mono _ _ _ _)
   | (with_reducible exact impl_RepeatScheme.mono _ _ _ _)
   | (with_reducible exact impl_TrueWords.mono _ _ _)
   | (with_reducible exact laws_vInts.mono _ _ _)
   | (with_reducible exact spec_BitScheme.mono _ _)
   | (with_reducible exact spec_DrawDropFixed.mono _ _)
   | (with_reducible exact spec_DrawRepeatScheme.mono _ _)
   | (with_reducible exact spec_DropFixed.mono _ _ _ _)
   | (with_reducible exact spec_GreedyScheme.mono _ _ _)
   | (with_reducible exact spec_RepeatScheme.mono _ _ _ _)
   | (with_reducible exact LeO.refl _)
   | (with_reducible exact LeO.none _)
   | (with_reducible exact LeO.none _)
   | (with_reducible refine LeO.ite ?_ ?_)
   | (with_reducible refine LeO.bind ?_ (fun _ => ?_))
   | exact ih0 _ _ _ _ _ _ _ _ _ _ _ _ _ _ _ _
   | exact ih1 _ _ _ _ _ _ _ _ _ _
   | exact ih2 _ _ _ _ _ _ _
   | exact ih3 _ _ _ _ _
   | exact ih4 _ _ _ _ _
   | exact ih5 _ _ _ _ _ _ _ _ _
   | exact ih6 _ _ _ _ _ _ _ _ _
   | exact impl_BitScheme.mono _ _
   | exact impl_GapOf.mono _ _ _
   | exact impl_GreedyScheme.mono _ _ _
   | exact impl_IsSafe.mono _ _ _ _
   | exact impl_RepeatScheme.mono _ _ _ _
   | exact impl_TrueWords.mono _ _ _
   | exact laws_vInts.mono _ _ _
   | exact spec_BitScheme.mono _ _
   | exact spec_DrawDropFixed.mono _ _
   | exact spec_DrawRepeatScheme.mono _ _
   | exact spec_DropFixed.mono _ _ _ _
   | exact spec_GreedyScheme.mono _ _ _
   | exact spec_RepeatScheme.mono _ _ _ _
   | exact LeO.none _
   | refine LeO.ite ?_ ?_
   | refine LeO.bind ?_ (fun _ => ?_)
set_option maxHeartbeats 8000000 in
set_option maxRecDepth 100000 in
theorem laws_FnMadeSchemes.calls (k : Nat) (A0 : Option Addr) (c0 : Nat) (l0 : List Int) (r : Bool) (w : World) (hr0 : Kd.C (Kd.int .u8) w A0 l0.length l0) (hc0 : l0.length ≤ c0) (h : laws_FnMadeSchemes.f k l0 = some r) :
  Calls Try.prog 5 #[.slice A0 l0.length c0] w fun e w' => e = .returned (.bool r) ∧ Below w.heap.size w w' := by
 have HR0 := Aside0.mk hr0
 have HC0 := Aside0.mk hc0
 clear hr0 hc0
 have HB := Aside0.mk (Below.refl w.heap.size w)
 have H : ((laws_vBig.f l0).bind fun t385 => (if t385 = true then (some true) else ((spec_DrawRepeatScheme.f k l0).bind fun bt386 => ((impl_RepeatScheme.f k bt386.1 bt386.2.1 bt386.2.2).bind fun bt391 => ((spec_RepeatScheme.f k bt386.1 bt386.2.1 bt386.2.2).bind fun bt395 => ((laws_vCut.f l0 1).bind fun t399 => ((spec_DrawBitScheme.f t399).bind fun t402 => ((impl_BitScheme.f k t402).bind fun bt403 => ((spec_BitScheme.f k t402).bind fun bt407 => ((laws_vCut.f l0 2).bind fun t411 => ((spec_DrawGreedyScheme.f t411).bind fun bt414 => ((impl_GreedyScheme.f k bt414.1 bt414.2).bind fun bt416 => ((spec_GreedyScheme.f k bt414.1 bt414.2).bind fun bt420 => ((spec_DrawDropFixed.f k l0).bind fun bt424 => ((impl_DropFixed.f bt424.1 bt424.2.1 bt424.2.2).bind fun bt429 => ((spec_DropFixed.f k bt424.1 bt424.2.1 bt424.2.2).bind fun bt433 => (if (bt391.2 != bt395.2) = true then (none) else ((laws_vInts.f k bt391.1 bt395.1).bind fun t437 => (if t437 = true then (if (bt403.2 != bt407.2) = true then (none) else ((laws_vInts.f k bt403.1 bt407.1).bind fun t438 => (if t438 = true then (if (bt416.2 != bt420.2) = true then (none) else ((laws_vInts.f k bt416.1 bt420.1).bind fun t439 => (if t439 = true then (if (bt429.2 != bt433.2) = true then (none) else ((laws_vInts.f k bt429.1 bt433.1).bind fun t440 => (laws_FnMadeSchemes.j0 k bt386.1 bt386.2.1 bt386.2.2 bt391.1 bt391.2 t402 bt403.1 bt403.2 bt414.1 bt414.2 bt416.1 bt416.2 bt424.2.1 bt429.1 bt429.2 (!t440)))) else (none)))) else (none)))) else (none)))))))))))))))))))) = some r := h
 clear h
 replace H := Option.bind_eq_some_iff.mp H
 obtain ⟨t385, A20, H⟩ := H
 replace H : (if t385 = true then (some true) else ((spec_DrawRepeatScheme.f k l0).bind fun bt386 => ((impl_RepeatScheme.f k bt386.1 bt386.2.1 bt386.2.2).bind fun bt391 => ((spec_RepeatScheme.f k bt386.1 bt386.2.1 bt386.2.2).bind fun bt395 => ((laws_vCut.f l0 1).bind fun t399 => ((spec_DrawBitScheme.f t399).bind fun t402 => ((impl_BitScheme.f k t402).bind fun bt403 => ((spec_BitScheme.f k t402).bind fun bt407 => ((laws_vCut.f l0 2).bind fun t411 => ((spec_DrawGreedyScheme.f t411).bind fun bt414 => ((impl_GreedyScheme.f k bt414.1 bt414.2).bind fun bt416 => ((spec_GreedyScheme.f k bt414.1 bt414.2).bind fun bt420 => ((spec_DrawDropFixed.f k l0).bind fun bt424 => ((impl_DropFixed.f bt424.1 bt424.2.1 bt424.2.2).bind fun bt429 => ((spec_DropFixed.f k bt424.1 bt424.2.1 bt424.2.2).bind fun bt433 => (if (bt391.2 != bt395.2) = true then (none) else ((laws_vInts.f k bt391.1 bt395.1).bind fun t437 => (if t437 = true then (if (bt403.2 != bt407.2) = true then (none) else ((laws_vInts.f k bt403.1 bt407.1).bind fun t438 => (if t438 = true then (if (bt416.2 != bt420.2) = true then (none) else ((laws_vInts.f k bt416.1 bt420.1).bind fun t439 => (if t439 = true then (if (bt429.2 != bt433.2) = true then (none) else ((laws_vInts.f k bt429.1 bt433.1).bind fun t440 => (laws_FnMadeSchemes.j0 k bt386.1 bt386.2.1 bt386.2.2 bt391.1 bt391.2 t402 bt403.1 bt403.2 bt414.1 bt414.2 bt416.1 bt416.2 bt424.2.1 bt429.1 bt429.2 (!t440)))) else (none)))) else (none)))) else (none))))))))))))))))))) = some r := H
 have A2 := Aside0.mk A20
 clear A20
 by_cases c3 : t385 = true
 ·
  subst c3
  have H1 : (some true) = some r := by rw [if_pos rfl] at H; exact H
  clear H
  have H := H1
  clear H1
  obtain rfl := Option.some.inj H
  go_enter Try.func5, Try.ntmps5
  go_wp2_with (first | (go_at_call 6; (with_reducible refine (laws_vBig.calls _ _ l0 true _ ?side1 ?side2 A2.out).mono ?_); (case side1 => repeat (first | exact HR0.out | (with_reducible refine Kd.C_alloc ?_ _) | (with_reducible refine Kd.C_drewN ?_ _) | (with_reducible refine Kd.C_drew ?_))); (case side2 => exact HC0.out); rintro e w' ⟨rfl, ⟨nd, rfl⟩⟩; (try first | exact ⟨rfl, _, World.drewN_drewN _ _ _⟩ | exact ⟨rfl, _, Eq.trans (World.drewN_drewN _ _ _) (congrArg (World.drewN _) (Nat.add_assoc _ _ _))⟩)))
  go_ret
  exact ⟨by first | rfl | (simp [errW_none, errW_some] <;> rfl) | (simp [*, errW_none, errW_some] <;> rfl), by repeat (first | (with_reducible first | exact HB.out | apply below_alloc | apply pw_below_drewN | apply below_drew1) | exact HB.out)⟩
 ·
  replace c3 := Bool.eq_false_iff.mpr c3
  subst c3
  have H1 : ((spec_DrawRepeatScheme.f k l0).bind fun bt386 => ((impl_RepeatScheme.f k bt386.1 bt386.2.1 bt386.2.2).bind fun bt391 => ((spec_RepeatScheme.f k bt386.1 bt386.2.1 bt386.2.2).bind fun bt395 => ((laws_vCut.f l0 1).bind fun t399 => ((spec_DrawBitScheme.f t399).bind fun t402 => ((impl_BitScheme.f k t402).bind fun bt403 => ((spec_BitScheme.f k t402).bind fun bt407 => ((laws_vCut.f l0 2).bind fun t411 => ((spec_DrawGreedyScheme.f t411).bind fun bt414 => ((impl_GreedyScheme.f k bt414.1 bt414.2).bind fun bt416 => ((spec_GreedyScheme.f k bt414.1 bt414.2).bind fun bt420 => ((spec_DrawDropFixed.f k l0).bind fun bt424 => ((impl_DropFixed.f bt424.1 bt424.2.1 bt424.2.2).bind fun bt429 => ((spec_DropFixed.f k bt424.1 bt424.2.1 bt424.2.2).bind fun bt433 => (if (bt391.2 != bt395.2) = true then (none) else ((laws_vInts.f k bt391.1 bt395.1).bind fun t437 => (if t437 = true then (if (bt403.2 != bt407.2) = true then (none) else ((laws_vInts.f k bt403.1 bt407.1).bind fun t438 => (if t438 = true then (if (bt416.2 != bt420.2) = true then (none) else ((laws_vInts.f k bt416.1 bt420.1).bind fun t439 => (if t439 = true then (if (bt429.2 != bt433.2) = true then (none) else ((laws_vInts.f k bt429.1 bt433.1).bind fun t440 => (laws_FnMadeSchemes.j0 k bt386.1 bt386.2.1 bt386.2.2 bt391.1 bt391.2 t402 bt403.1 bt403.2 bt414.1 bt414.2 bt416.1 bt416.2 bt424.2.1 bt429.1 bt429.2 (!t440)))) else (none)))) else (none)))) else (none)))))))))))))))))) = some r := by rw [if_neg (show ¬ (false = true) by decide)] at H; exact H
  clear H
  have H := H1
  clear H1
  replace H := Option.bind_eq_some_iff.mp H
  obtain ⟨⟨t386, t387, t388⟩, A40, H⟩ := H
  replace H : ((impl_RepeatScheme.f k t386 t387 t388).bind fun bt391 => ((spec_RepeatScheme.f k t386 t387 t388).bind fun bt395 => ((laws_vCut.f l0 1).bind fun t399 => ((spec_DrawBitScheme.f t399).bind fun t402 => ((impl_BitScheme.f k t402).bind fun bt403 => ((spec_BitScheme.f k t402).bind fun bt407 => ((laws_vCut.f l0 2).bind fun t411 => ((spec_DrawGreedyScheme.f t411).bind fun bt414 => ((impl_GreedyScheme.f k bt414.1 bt414.2).bind fun bt416 => ((spec_GreedyScheme.f k bt414.1 bt414.2).bind fun bt420 => ((spec_DrawDropFixed.f k l0).bind fun bt424 => ((impl_DropFixed.f bt424.1 bt424.2.1 bt424.2.2).bind fun bt429 => ((spec_DropFixed.f k bt424.1 bt424.2.1 bt424.2.2).bind fun bt433 => (if (bt391.2 != bt395.2) = true then (none) else ((laws_vInts.f k bt391.1 bt395.1).bind fun t437 => (if t437 = true then (if (bt403.2 != bt407.2) = true then (none) else ((laws_vInts.f k bt403.1 bt407.1).bind fun t438 => (if t438 = true then (if (bt416.2 != bt420.2) = true then (none) else ((laws_vInts.f k bt416.1 bt420.1).bind fun t439 => (if t439 = true then (if (bt429.2 != bt433.2) = true then (none) else ((laws_vInts.f k bt429.1 bt433.1).bind fun t440 => (laws_FnMadeSchemes.j0 k t386 t387 t388 bt391.1 bt391.2 t402 bt403.1 bt403.2 bt414.1 bt414.2 bt416.1 bt416.2 bt424.2.1 bt429.1 bt429.2 (!t440)))) else (none)))) else (none)))) else (none))))))))))))))))) = some r := H
  have A4 := Aside0.mk A40
  clear A40
  replace H := Option.bind_eq_some_iff.mp H
  obtain ⟨⟨t391, t392⟩, A50, H⟩ := H
  replace H : ((spec_RepeatScheme.f k t386 t387 t388).bind fun bt395 => ((laws_vCut.f l0 1).bind fun t399 => ((spec_DrawBitScheme.f t399).bind fun t402 => ((impl_BitScheme.f k t402).bind fun bt403 => ((spec_BitScheme.f k t402).bind fun bt407 => ((laws_vCut.f l0 2).bind fun t411 => ((spec_DrawGreedyScheme.f t411).bind fun bt414 => ((impl_GreedyScheme.f k bt414.1 bt414.2).bind fun bt416 => ((spec_GreedyScheme.f k bt414.1 bt414.2).bind fun bt420 => ((spec_DrawDropFixed.f k l0).bind fun bt424 => ((impl_DropFixed.f bt424.1 bt424.2.1 bt424.2.2).bind fun bt429 => ((spec_DropFixed.f k bt424.1 bt424.2.1 bt424.2.2).bind fun bt433 => (if (t392 != bt395.2) = true then (none) else ((laws_vInts.f k t391 bt395.1).bind fun t437 => (if t437 = true then (if (bt403.2 != bt407.2) = true then (none) else ((laws_vInts.f k bt403.1 bt407.1).bind fun t438 => (if t438 = true then (if (bt416.2 != bt420.2) = true then (none) else ((laws_vInts.f k bt416.1 bt420.1).bind fun t439 => (if t439 = true then (if (bt429.2 != bt433.2) = true then (none) else ((laws_vInts.f k bt429.1 bt433.1).bind fun t440 => (laws_FnMadeSchemes.j0 k t386 t387 t388 t391 t392 t402 bt403.1 bt403.2 bt414.1 bt414.2 bt416.1 bt416.2 bt424.2.1 bt429.1 bt429.2 (!t440)))) else (none)))) else (none)))) else (none)))))))))))))))) = some r := H
  have A5 := Aside0.mk A50
  clear A50
  replace H := Option.bind_eq_some_iff.mp H
  obtain ⟨⟨t395, t396⟩, A60, H⟩ := H
  replace H : ((laws_vCut.f l0 1).bind fun t399 => ((spec_DrawBitScheme.f t399).bind fun t402 => ((impl_BitScheme.f k t402).bind fun bt403 => ((spec_BitScheme.f k t402).bind fun bt407 => ((laws_vCut.f l0 2).bind fun t411 => ((spec_DrawGreedyScheme.f t411).bind fun bt414 => ((impl_GreedyScheme.f k bt414.1 bt414.2).bind fun bt416 => ((spec_GreedyScheme.f k bt414.1 bt414.2).bind fun bt420 => ((spec_DrawDropFixed.f k l0).bind fun bt424 => ((impl_DropFixed.f bt424.1 bt424.2.1 bt424.2.2).bind fun bt429 => ((spec_DropFixed.f k bt424.1 bt424.2.1 bt424.2.2).bind fun bt433 => (if (t392 != t396) = true then (none) else ((laws_vInts.f k t391 t395).bind fun t437 => (if t437 = true then (if (bt403.2 != bt407.2) = true then (none) else ((laws_vInts.f k bt403.1 bt407.1).bind fun t438 => (if t438 = true then (if (bt416.2 != bt420.2) = true then (none) else ((laws_vInts.f k bt416.1 bt420.1).bind fun t439 => (if t439 = true then (if (bt429.2 != bt433.2) = true then (none) else ((laws_vInts.f k bt429.1 bt433.1).bind fun t440 => (laws_FnMadeSchemes.j0 k t386 t387 t388 t391 t392 t402 bt403.1 bt403.2 bt414.1 bt414.2 bt416.1 bt416.2 bt424.2.1 bt429.1 bt429.2 (!t440)))) else (none)))) else (none)))) else (none))))))))))))))) = some r := H
  have A6 := Aside0.mk A60
  clear A60
  replace H := Option.bind_eq_some_iff.mp H
  obtain ⟨t399, A70, H⟩ := H
  replace H : ((spec_DrawBitScheme.f t399).bind fun t402 => ((impl_BitScheme.f k t402).bind fun bt403 => ((spec_BitScheme.f k t402).bind fun bt407 => ((laws_vCut.f l0 2).bind fun t411 => ((spec_DrawGreedyScheme.f t411).bind fun bt414 => ((impl_GreedyScheme.f k bt414.1 bt414.2).bind fun bt416 => ((spec_GreedyScheme.f k bt414.1 bt414.2).bind fun bt420 => ((spec_DrawDropFixed.f k l0).bind fun bt424 => ((impl_DropFixed.f bt424.1 bt424.2.1 bt424.2.2).bind fun bt429 => ((spec_DropFixed.f k bt424.1 bt424.2.1 bt424.2.2).bind fun bt433 => (if (t392 != t396) = true then (none) else ((laws_vInts.f k t391 t395).bind fun t437 => (if t437 = true then (if (bt403.2 != bt407.2) = true then (none) else ((laws_vInts.f k bt403.1 bt407.1).bind fun t438 => (if t438 = true then (if (bt416.2 != bt420.2) = true then (none) else ((laws_vInts.f k bt416.1 bt420.1).bind fun t439 => (if t439 = true then (if (bt429.2 != bt433.2) = true then (none) else ((laws_vInts.f k bt429.1 bt433.1).bind fun t440 => (laws_FnMadeSchemes.j0 k t386 t387 t388 t391 t392 t402 bt403.1 bt403.2 bt414.1 bt414.2 bt416.1 bt416.2 bt424.2.1 bt429.1 bt429.2 (!t440)))) else (none)))) else (none)))) else (none)))))))))))))) = some r := H
  have A7 := Aside0.mk A70
  clear A70
  replace H := Option.bind_eq_some_iff.mp H
  obtain ⟨t402, A80, H⟩ := H
  replace H : ((impl_BitScheme.f k t402).bind fun bt403 => ((spec_BitScheme.f k t402).bind fun bt407 => ((laws_vCut.f l0 2).bind fun t411 => ((spec_DrawGreedyScheme.f t411).bind fun bt414 => ((impl_GreedyScheme.f k bt414.1 bt414.2).bind fun bt416 => ((spec_GreedyScheme.f k bt414.1 bt414.2).bind fun bt420 => ((spec_DrawDropFixed.f k l0).bind fun bt424 => ((impl_DropFixed.f bt424.1 bt424.2.1 bt424.2.2).bind fun bt429 => ((spec_DropFixed.f k bt424.1 bt424.2.1 bt424.2.2).bind fun bt433 => (if (t392 != t396) = true then (none) else ((laws_vInts.f k t391 t395).bind fun t437 => (if t437 = true then (if (bt403.2 != bt407.2) = true then (none) else ((laws_vInts.f k bt403.1 bt407.1).bind fun t438 => (if t438 = true then (if (bt416.2 != bt420.2) = true then (none) else ((laws_vInts.f k bt416.1 bt420.1).bind fun t439 => (if t439 = true then (if (bt429.2 != bt433.2) = true then (none) else ((laws_vInts.f k bt429.1 bt433.1).bind fun t440 => (laws_FnMadeSchemes.j0 k t386 t387 t388 t391 t392 t402 bt403.1 bt403.2 bt414.1 bt414.2 bt416.1 bt416.2 bt424.2.1 bt429.1 bt429.2 (!t440)))) else (none)))) else (none)))) else (none))))))))))))) = some r := H
  have A8 := Aside0.mk A80
  clear A80
  replace H := Option.bind_eq_some_iff.mp H
  obtain ⟨⟨t403, t404⟩, A90, H⟩ := H
  replace H : ((spec_BitScheme.f k t402).bind fun bt407 => ((laws_vCut.f l0 2).bind fun t411 => ((spec_DrawGreedyScheme.f t411).bind fun bt414 => ((impl_GreedyScheme.f k bt414.1 bt414.2).bind fun bt416 => ((spec_GreedyScheme.f k bt414.1 bt414.2).bind fun bt420 => ((spec_DrawDropFixed.f k l0).bind fun bt424 => ((impl_DropFixed.f bt424.1 bt424.2.1 bt424.2.2).bind fun bt429 => ((spec_DropFixed.f k bt424.1 bt424.2.1 bt424.2.2).bind fun bt433 => (if (t392 != t396) = true then (none) else ((laws_vInts.f k t391 t395).bind fun t437 => (if t437 = true then (if (t404 != bt407.2) = true then (none) else ((laws_vInts.f k t403 bt407.1).bind fun t438 => (if t438 = true then (if (bt416.2 != bt420.2) = true then (none) else ((laws_vInts.f k bt416.1 bt420.1).bind fun t439 => (if t439 = true then (if (bt429.2 != bt433.2) = true then (none) else ((laws_vInts.f k bt429.1 bt433.1).bind fun t440 => (laws_FnMadeSchemes.j0 k t386 t387 t388 t391 t392 t402 t403 t404 bt414.1 bt414.2 bt416.1 bt416.2 bt424.2.1 bt429.1 bt429.2 (!t440)))) else (none)))) else (none)))) else (none)))))))))))) = some r := H
  have A9 := Aside0.mk A90
  clear A90
  replace H := Option.bind_eq_some_iff.mp H
  obtain ⟨⟨t407, t408⟩, A100, H⟩ := H
  replace H : ((laws_vCut.f l0 2).bind fun t411 => ((spec_DrawGreedyScheme.f t411).bind fun bt414 => ((impl_GreedyScheme.f k bt414.1 bt414.2).bind fun bt416 => ((spec_GreedyScheme.f k bt414.1 bt414.2).bind fun bt420 => ((spec_DrawDropFixed.f k l0).bind fun bt424 => ((impl_DropFixed.f bt424.1 bt424.2.1 bt424.2.2).bind fun bt429 => ((spec_DropFixed.f k bt424.1 bt424.2.1 bt424.2.2).bind fun bt433 => (if (t392 != t396) = true then (none) else ((laws_vInts.f k t391 t395).bind fun t437 => (if t437 = true then (if (t404 != t408) = true then (none) else ((laws_vInts.f k t403 t407).bind fun t438 => (if t438 = true then (if (bt416.2 != bt420.2) = true then (none) else ((laws_vInts.f k bt416.1 bt420.1).bind fun t439 => (if t439 = true then (if (bt429.2 != bt433.2) = true then (none) else ((laws_vInts.f k bt429.1 bt433.1).bind fun t440 => (laws_FnMadeSchemes.j0 k t386 t387 t388 t391 t392 t402 t403 t404 bt414.1 bt414.2 bt416.1 bt416.2 bt424.2.1 bt429.1 bt429.2 (!t440)))) else (none)))) else (none)))) else (none))))))))))) = some r := H
  have A10 := Aside0.mk A100
  clear A100
  replace H := Option.bind_eq_some_iff.mp H
  obtain ⟨t411, A110, H⟩ := H
  replace H : ((spec_DrawGreedyScheme.f t411).bind fun bt414 => ((impl_GreedyScheme.f k bt414.1 bt414.2).bind fun bt416 => ((spec_GreedyScheme.f k bt414.1 bt414.2).bind fun bt420 => ((spec_DrawDropFixed.f k l0).bind fun bt424 => ((impl_DropFixed.f bt424.1 bt424.2.1 bt424.2.2).bind fun bt429 => ((spec_DropFixed.f k bt424.1 bt424.2.1 bt424.2.2).bind fun bt433 => (if (t392 != t396) = true then (none) else ((laws_vInts.f k t391 t395).bind fun t437 => (if t437 = true then (if (t404 != t408) = true then (none) else ((laws_vInts.f k t403 t407).bind fun t438 => (if t438 = true then (if (bt416.2 != bt420.2) = true then (none) else ((laws_vInts.f k bt416.1 bt420.1).bind fun t439 => (if t439 = true then (if (bt429.2 != bt433.2) = true then (none) else ((laws_vInts.f k bt429.1 bt433.1).bind fun t440 => (laws_FnMadeSchemes.j0 k t386 t387 t388 t391 t392 t402 t403 t404 bt414.1 bt414.2 bt416.1 bt416.2 bt424.2.1 bt429.1 bt429.2 (!t440)))) else (none)))) else (none)))) else (none)))))))))) = some r := H
  have A11 := Aside0.mk A110
  clear A110
  replace H := Option.bind_eq_some_iff.mp H
  obtain ⟨⟨t414, t415⟩, A120, H⟩ := H
  replace H : ((impl_GreedyScheme.f k t414 t415).bind fun bt416 => ((spec_GreedyScheme.f k t414 t415).bind fun bt420 => ((spec_DrawDropFixed.f k l0).bind fun bt424 => ((impl_DropFixed.f bt424.1 bt424.2.1 bt424.2.2).bind fun bt429 => ((spec_DropFixed.f k bt424.1 bt424.2.1 bt424.2.2).bind fun bt433 => (if (t392 != t396) = true then (none) else ((laws_vInts.f k t391 t395).bind fun t437 => (if t437 = true then (if (t404 != t408) = true then (none) else ((laws_vInts.f k t403 t407).bind fun t438 => (if t438 = true then (if (bt416.2 != bt420.2) = true then (none) else ((laws_vInts.f k bt416.1 bt420.1).bind fun t439 => (if t439 = true then (if (bt429.2 != bt433.2) = true then (none) else ((laws_vInts.f k bt429.1 bt433.1).bind fun t440 => (laws_FnMadeSchemes.j0 k t386 t387 t388 t391 t392 t402 t403 t404 t414 t415 bt416.1 bt416.2 bt424.2.1 bt429.1 bt429.2 (!t440)))) else (none)))) else (none)))) else (none))))))))) = some r := H
  have A12 := Aside0.mk A120
  clear A120
  replace H := Option.bind_eq_some_iff.mp H
  obtain ⟨⟨t416, t417⟩, A130, H⟩ := H
  replace H : ((spec_GreedyScheme.f k t414 t415).bind fun bt420 => ((spec_DrawDropFixed.f k l0).bind fun bt424 => ((impl_DropFixed.f bt424.1 bt424.2.1 bt424.2.2).bind fun bt429 => ((spec_DropFixed.f k bt424.1 bt424.2.1 bt424.2.2).bind fun bt433 => (if (t392 != t396) = true then (none) else ((laws_vInts.f k t391 t395).bind fun t437 => (if t437 = true then (if (t404 != t408) = true then (none) else ((laws_vInts.f k t403 t407).bind fun t438 => (if t438 = true then (if (t417 != bt420.2) = true then (none) else ((laws_vInts.f k t416 bt420.1).bind fun t439 => (if t439 = true then (if (bt429.2 != bt433.2) = true then (none) else ((laws_vInts.f k bt429.1 bt433.1).bind fun t440 => (laws_FnMadeSchemes.j0 k t386 t387 t388 t391 t392 t402 t403 t404 t414 t415 t416 t417 bt424.2.1 bt429.1 bt429.2 (!t440)))) else (none)))) else (none)))) else (none)))))))) = some r := H
  have A13 := Aside0.mk A130
  clear A130
  replace H := Option.bind_eq_some_iff.mp H
  obtain ⟨⟨t420, t421⟩, A140, H⟩ := H
  replace H : ((spec_DrawDropFixed.f k l0).bind fun bt424 => ((impl_DropFixed.f bt424.1 bt424.2.1 bt424.2.2).bind fun bt429 => ((spec_DropFixed.f k bt424.1 bt424.2.1 bt424.2.2).bind fun bt433 => (if (t392 != t396) = true then (none) else ((laws_vInts.f k t391 t395).bind fun t437 => (if t437 = true then (if (t404 != t408) = true then (none) else ((laws_vInts.f k t403 t407).bind fun t438 => (if t438 = true then (if (t417 != t421) = true then (none) else ((laws_vInts.f k t416 t420).bind fun t439 => (if t439 = true then (if (bt429.2 != bt433.2) = true then (none) else ((laws_vInts.f k bt429.1 bt433.1).bind fun t440 => (laws_FnMadeSchemes.j0 k t386 t387 t388 t391 t392 t402 t403 t404 t414 t415 t416 t417 bt424.2.1 bt429.1 bt429.2 (!t440)))) else (none)))) else (none)))) else (none))))))) = some r := H
  have A14 := Aside0.mk A140
  clear A140
  replace H := Option.bind_eq_some_iff.mp H
  obtain ⟨⟨t424, t425, t426⟩, A150, H⟩ := H
  replace H : ((impl_DropFixed.f t424 t425 t426).bind fun bt429 => ((spec_DropFixed.f k t424 t425 t426).bind fun bt433 => (if (t392 != t396) = true then (none) else ((laws_vInts.f k t391 t395).bind fun t437 => (if t437 = true then (if (t404 != t408) = true then (none) else ((laws_vInts.f k t403 t407).bind fun t438 => (if t438 = true then (if (t417 != t421) = true then (none) else ((laws_vInts.f k t416 t420).bind fun t439 => (if t439 = true then (if (bt429.2 != bt433.2) = true then (none) else ((laws_vInts.f k bt429.1 bt433.1).bind fun t440 => (laws_FnMadeSchemes.j0 k t386 t387 t388 t391 t392 t402 t403 t404 t414 t415 t416 t417 t425 bt429.1 bt429.2 (!t440)))) else (none)))) else (none)))) else (none)))))) = some r := H
  have A15 := Aside0.mk A150
  clear A150
  replace H := Option.bind_eq_some_iff.mp H
  obtain ⟨⟨t429, t430⟩, A160, H⟩ := H
  replace H : ((spec_DropFixed.f k t424 t425 t426).bind fun bt433 => (if (t392 != t396) = true then (none) else ((laws_vInts.f k t391 t395).bind fun t437 => (if t437 = true then (if (t404 != t408) = true then (none) else ((laws_vInts.f k t403 t407).bind fun t438 => (if t438 = true then (if (t417 != t421) = true then (none) else ((laws_vInts.f k t416 t420).bind fun t439 => (if t439 = true then (if (t430 != bt433.2) = true then (none) else ((laws_vInts.f k t429 bt433.1).bind fun t440 => (laws_FnMadeSchemes.j0 k t386 t387 t388 t391 t392 t402 t403 t404 t414 t415 t416 t417 t425 t429 t430 (!t440)))) else (none)))) else (none)))) else (none))))) = some r := H
  have A16 := Aside0.mk A160
  clear A160
  replace H := Option.bind_eq_some_iff.mp H
  obtain ⟨⟨t433, t434⟩, A170, H⟩ := H
  replace H : (if (t392 != t396) = true then (none) else ((laws_vInts.f k t391 t395).bind fun t437 => (if t437 = true then (if (t404 != t408) = true then (none) else ((laws_vInts.f k t403 t407).bind fun t438 => (if t438 = true then (if (t417 != t421) = true then (none) else ((laws_vInts.f k t416 t420).bind fun t439 => (if t439 = true then (if (t430 != t434) = true then (none) else ((laws_vInts.f k t429 t433).bind fun t440 => (laws_FnMadeSchemes.j0 k t386 t387 t388 t391 t392 t402 t403 t404 t414 t415 t416 t417 t425 t429 t430 (!t440)))) else (none)))) else (none)))) else (none)))) = some r := H
  have A17 := Aside0.mk A170
  clear A170
  have HC18 := Aside0.mk H
  clear H
  go_enter Try.func5, Try.ntmps5
  go_upto_region 15 with (first | (go_at_call 6; (with_reducible refine (laws_vBig.calls _ _ l0 false _ ?side1 ?side2 A2.out).mono ?_); (case side1 => repeat (first | exact HR0.out | (with_reducible refine Kd.C_alloc ?_ _) | (with_reducible refine Kd.C_drewN ?_ _) | (with_reducible refine Kd.C_drew ?_))); (case side2 => exact HC0.out); rintro e w' ⟨rfl, ⟨nd, rfl⟩⟩; (try first | exact ⟨rfl, _, World.drewN_drewN _ _ _⟩ | exact ⟨rfl, _, Eq.trans (World.drewN_drewN _ _ _) (congrArg (World.drewN _) (Nat.add_assoc _ _ _))⟩)) | (go_at_call 37; (with_reducible refine (spec_DrawRepeatScheme.calls k _ _ l0 t386 t387 t388 _ ?side1 ?side2 A4.out).mono ?_); (case side1 => repeat (first | exact HR0.out | (with_reducible refine Kd.C_alloc ?_ _) | (with_reducible refine Kd.C_drewN ?_ _) | (with_reducible refine Kd.C_drew ?_))); (case side2 => exact HC0.out); rintro e w19 ⟨v389, rfl, ho0, hb⟩; have n0_ := Aside0.mk (Kd.R_lower ho0 (below_size (by repeat (first | (with_reducible first | exact HB.out | apply below_alloc | apply pw_below_drewN | apply below_drew1) | exact HB.out)))); have n1_ := Aside0.mk (below_step (by repeat (first | (with_reducible first | exact HB.out | apply below_alloc | apply pw_below_drewN | apply below_drew1) | exact HB.out)) hb); clear HB; have HO390 := n0_; have HB := n1_; clear n0_ n1_; (try clear hb); (try clear hb2); (try clear hk); (try clear hi); (try clear ho0); obtain ⟨Ao20, co20, eo20⟩ := Kd.R_slice HO390.out; subst eo20) | (go_at_call 38; (with_reducible refine (impl_RepeatScheme.calls k t386 _ _ t387 t388 t391 t392 _ ?side1 ?side2 A5.out).mono ?_); (case side1 => repeat (first | exact (Kd.R_reads' HO390.out).2.2 | (with_reducible refine Kd.C_alloc ?_ _) | (with_reducible refine Kd.C_drewN ?_ _) | (with_reducible refine Kd.C_drew ?_))); (case side2 => exact (Kd.R_reads' HO390.out).2.1); rintro e w21 ⟨v393, rfl, ho0, hb⟩; have n0_ := Aside0.mk (Kd.R_elder' (by (with_reducible repeat (first | apply Kd.R_alloc | apply Kd.R_drewN | apply Kd.R_drew)); exact HO390.out) (Kd.R_base ho0) hb); have n1_ := Aside0.mk (Kd.R_lower (Kd.R_new' ho0 (Kd.R_lt (by (with_reducible repeat (first | apply Kd.R_alloc | apply Kd.R_drewN | apply Kd.R_drew)); exact HO390.out))) (below_size (by repeat (first | (with_reducible first | exact HB.out | apply below_alloc | apply pw_below_drewN | apply below_drew1) | exact HB.out)))); have n2_ := Aside0.mk (below_step (by repeat (first | (with_reducible first | exact HB.out | apply below_alloc | apply pw_below_drewN | apply below_drew1) | exact HB.out)) hb); clear HO390; clear HB; have HO390 := n0_; have HO394 := n1_; have HB := n2_; clear n0_ n1_ n2_; (try clear hb); (try clear hb2); (try clear hk); (try clear hi); (try clear ho0)) | (go_at_call 39; (with_reducible refine (spec_RepeatScheme.calls k t386 _ _ t387 t388 t395 t396 _ ?side1 ?side2 A6.out).mono ?_); (case side1 => repeat (first | exact (Kd.R_reads' HO390.out).2.2 | (with_reducible refine Kd.C_alloc ?_ _) | (with_reducible refine Kd.C_drewN ?_ _) | (with_reducible refine Kd.C_drew ?_))); (case side2 => exact (Kd.R_reads' HO390.out).2.1); rintro e w22 ⟨v397, rfl, ho0, hb⟩; have n0_ := Aside0.mk (Kd.R_elder' (by (with_reducible repeat (first | apply Kd.R_alloc | apply Kd.R_drewN | apply Kd.R_drew)); exact HO390.out) (Kd.R_base ho0) hb); have n1_ := Aside0.mk (Kd.R_elder' (by (with_reducible repeat (first | apply Kd.R_alloc | apply Kd.R_drewN | apply Kd.R_drew)); exact HO394.out) (Kd.R_base ho0) hb); have n2_ := Aside0.mk (Kd.R_lower (Kd.R_new' (Kd.R_new' ho0 (Kd.R_lt (by (with_reducible repeat (first | apply Kd.R_alloc | apply Kd.R_drewN | apply Kd.R_drew)); exact HO390.out))) (Kd.R_lt (by (with_reducible repeat (first | apply Kd.R_alloc | apply Kd.R_drewN | apply Kd.R_drew)); exact HO394.out))) (below_size (by repeat (first | (with_reducible first | exact HB.out | apply below_alloc | apply pw_below_drewN | apply below_drew1) | exact HB.out)))); have n3_ := Aside0.mk (below_step (by repeat (first | (with_reducible first | exact HB.out | apply below_alloc | apply pw_below_drewN | apply below_drew1) | exact HB.out)) hb); clear HO390; clear HO394; clear HB; have HO390 := n0_; have HO394 := n1_; have HO398 := n2_; have HB := n3_; clear n0_ n1_ n2_ n3_; (try clear hb); (try clear hb2); (try clear hk); (try clear hi); (try clear ho0)) | (go_at_call 15; (with_reducible refine (laws_vCut.calls _ _ l0 1 t399 _ ?side1 ?side2 A7.out).mono ?_); (case side1 => repeat (first | exact (Kd.C_below HR0.out HB.out) | (with_reducible refine Kd.C_alloc ?_ _) | (with_reducible refine Kd.C_drewN ?_ _) | (with_reducible refine Kd.C_drew ?_))); (case side2 => exact HC0.out); rintro e w23 ⟨v400, rfl, ho0, hb⟩; have n0_ := Aside0.mk (Kd.R_below (by (with_reducible repeat (first | apply Kd.R_alloc | apply Kd.R_drewN | apply Kd.R_drew)); exact HO390.out) hb); have n1_ := Aside0.mk (Kd.R_below (by (with_reducible repeat (first | apply Kd.R_alloc | apply Kd.R_drewN | apply Kd.R_drew)); exact HO394.out) hb); have n2_ := Aside0.mk (Kd.R_below (by (with_reducible repeat (first | apply Kd.R_alloc | apply Kd.R_drewN | apply Kd.R_drew)); exact HO398.out) hb); have n3_ := Aside0.mk (Kd.R_lower ho0 (below_size (by repeat (first | (with_reducible first | exact HB.out | apply below_alloc | apply pw_below_drewN | apply below_drew1) | exact HB.out)))); have n4_ := Aside0.mk (below_step (by repeat (first | (with_reducible first | exact HB.out | apply below_alloc | apply pw_below_drewN | apply below_drew1) | exact HB.out)) hb); clear HO390; clear HO394; clear HO398; clear HB; have HO390 := n0_; have HO394 := n1_; have HO398 := n2_; have HO401 := n3_; have HB := n4_; clear n0_ n1_ n2_ n3_ n4_; (try clear hb); (try clear hb2); (try clear hk); (try clear hi); (try clear ho0); obtain ⟨Ao24, co24, eo24⟩ := Kd.R_slice HO401.out; subst eo24) | (go_at_call 40; (with_reducible refine (spec_DrawBitScheme.calls _ _ t399 t402 _ ?side1 ?side2 A8.out).mono ?_); (case side1 => repeat (first | exact (Kd.R_reads' HO401.out).2.2 | (with_reducible refine Kd.C_alloc ?_ _) | (with_reducible refine Kd.C_drewN ?_ _) | (with_reducible refine Kd.C_drew ?_))); (case side2 => exact (Kd.R_reads' HO401.out).2.1); rintro e w25 ⟨rfl, hb⟩; have n0_ := Aside0.mk (Kd.R_below (by (with_reducible repeat (first | apply Kd.R_alloc | apply Kd.R_drewN | apply Kd.R_drew)); exact HO390.out) hb); have n1_ := Aside0.mk (Kd.R_below (by (with_reducible repeat (first | apply Kd.R_alloc | apply Kd.R_drewN | apply Kd.R_drew)); exact HO394.out) hb); have n2_ := Aside0.mk (Kd.R_below (by (with_reducible repeat (first | apply Kd.R_alloc | apply Kd.R_drewN | apply Kd.R_drew)); exact HO398.out) hb); have n3_ := Aside0.mk (Kd.R_below (by (with_reducible repeat (first | apply Kd.R_alloc | apply Kd.R_drewN | apply Kd.R_drew)); exact HO401.out) hb); have n4_ := Aside0.mk (below_step (by repeat (first | (with_reducible first | exact HB.out | apply below_alloc | apply pw_below_drewN | apply below_drew1) | exact HB.out)) hb); clear HO390; clear HO394; clear HO398; clear HO401; clear HB; have HO390 := n0_; have HO394 := n1_; have HO398 := n2_; have HO401 := n3_; have HB := n4_; clear n0_ n1_ n2_ n3_ n4_; (try clear hb); (try clear hb2); (try clear hk); (try clear hi)) | (go_at_call 41; (with_reducible refine (impl_BitScheme.calls k t402 t403 t404 _ A9.out).mono ?_); rintro e w26 ⟨v405, rfl, ho0, hb⟩; have n0_ := Aside0.mk (Kd.R_elder' (by (with_reducible repeat (first | apply Kd.R_alloc | apply Kd.R_drewN | apply Kd.R_drew)); exact HO390.out) (Kd.R_base ho0) hb); have n1_ := Aside0.mk (Kd.R_elder' (by (with_reducible repeat (first | apply Kd.R_alloc | apply Kd.R_drewN | apply Kd.R_drew)); exact HO394.out) (Kd.R_base ho0) hb); have n2_ := Aside0.mk (Kd.R_elder' (by (with_reducible repeat (first | apply Kd.R_alloc | apply Kd.R_drewN | apply Kd.R_drew)); exact HO398.out) (Kd.R_base ho0) hb); have n3_ := Aside0.mk (Kd.R_below (by (with_reducible repeat (first | apply Kd.R_alloc | apply Kd.R_drewN | apply Kd.R_drew)); exact HO401.out) hb); have n4_ := Aside0.mk (Kd.R_lower (Kd.R_new' (Kd.R_new' (Kd.R_new' ho0 (Kd.R_lt (by (with_reducible repeat (first | apply Kd.R_alloc | apply Kd.R_drewN | apply Kd.R_drew)); exact HO390.out))) (Kd.R_lt (by (with_reducible repeat (first | apply Kd.R_alloc | apply Kd.R_drewN | apply Kd.R_drew)); exact HO394.out))) (Kd.R_lt (by (with_reducible repeat (first | apply Kd.R_alloc | apply Kd.R_drewN | apply Kd.R_drew)); exact HO398.out))) (below_size (by repeat (first | (with_reducible first | exact HB.out | apply below_alloc | apply pw_below_drewN | apply below_drew1) | exact HB.out)))); have n5_ := Aside0.mk (below_step (by repeat (first | (with_reducible first | exact HB.out | apply below_alloc | apply pw_below_drewN | apply below_drew1) | exact HB.out)) hb); clear HO390; clear HO394; clear HO398; clear HO401; clear HB; have HO390 := n0_; have HO394 := n1_; have HO398 := n2_; have HO401 := n3_; have HO406 := n4_; have HB := n5_; clear n0_ n1_ n2_ n3_ n4_ n5_; (try clear hb); (try clear hb2); (try clear hk); (try clear hi); (try clear ho0)) | (go_at_call 42; (with_reducible refine (spec_BitScheme.calls k t402 t407 t408 _ A10.out).mono ?_); rintro e w27 ⟨v409, rfl, ho0, hb⟩; have n0_ := Aside0.mk (Kd.R_elder' (by (with_reducible repeat (first | apply Kd.R_alloc | apply Kd.R_drewN | apply Kd.R_drew)); exact HO390.out) (Kd.R_base ho0) hb); have n1_ := Aside0.mk (Kd.R_elder' (by (with_reducible repeat (first | apply Kd.R_alloc | apply Kd.R_drewN | apply Kd.R_drew)); exact HO394.out) (Kd.R_base ho0) hb); have n2_ := Aside0.mk (Kd.R_elder' (by (with_reducible repeat (first | apply Kd.R_alloc | apply Kd.R_drewN | apply Kd.R_drew)); exact HO398.out) (Kd.R_base ho0) hb); have n3_ := Aside0.mk (Kd.R_below (by (with_reducible repeat (first | apply Kd.R_alloc | apply Kd.R_drewN | apply Kd.R_drew)); exact HO401.out) hb); have n4_ := Aside0.mk (Kd.R_elder' (by (with_reducible repeat (first | apply Kd.R_alloc | apply Kd.R_drewN | apply Kd.R_drew)); exact HO406.out) (Kd.R_base ho0) hb); have n5_ := Aside0.mk (Kd.R_lower (Kd.R_new' (Kd.R_new' (Kd.R_new' (Kd.R_new' ho0 (Kd.R_lt (by (with_reducible repeat (first | apply Kd.R_alloc | apply Kd.R_drewN | apply Kd.R_drew)); exact HO390.out))) (Kd.R_lt (by (with_reducible repeat (first | apply Kd.R_alloc | apply Kd.R_drewN | apply Kd.R_drew)); exact HO394.out))) (Kd.R_lt (by (with_reducible repeat (first | apply Kd.R_alloc | apply Kd.R_drewN | apply Kd.R_drew)); exact HO398.out))) (Kd.R_lt (by (with_reducible repeat (first | apply Kd.R_alloc | apply Kd.R_drewN | apply Kd.R_drew)); exact HO406.out))) (below_size (by repeat (first | (with_reducible first | exact HB.out | apply below_alloc | apply pw_below_drewN | apply below_drew1) | exact HB.out)))); have n6_ := Aside0.mk (below_step (by repeat (first | (with_reducible first | exact HB.out | apply below_alloc | apply pw_below_drewN | apply below_drew1) | exact HB.out)) hb); clear HO390; clear HO394; clear HO398; clear HO401; clear HO406; clear HB; have HO390 := n0_; have HO394 := n1_; have HO398 := n2_; have HO401 := n3_; have HO406 := n4_; have HO410 := n5_; have HB := n6_; clear n0_ n1_ n2_ n3_ n4_ n5_ n6_; (try clear hb); (try clear hb2); (try clear hk); (try clear hi); (try clear ho0)) | (go_at_call 15; (with_reducible refine (laws_vCut.calls _ _ l0 2 t411 _ ?side1 ?side2 A11.out).mono ?_); (case side1 => repeat (first | exact (Kd.C_below HR0.out HB.out) | (with_reducible refine Kd.C_alloc ?_ _) | (with_reducible refine Kd.C_drewN ?_ _) | (with_reducible refine Kd.C_drew ?_))); (case side2 => exact HC0.out); rintro e w28 ⟨v412, rfl, ho0, hb⟩; have n0_ := Aside0.mk (Kd.R_below (by (with_reducible repeat (first | apply Kd.R_alloc | apply Kd.R_drewN | apply Kd.R_drew)); exact HO390.out) hb); have n1_ := Aside0.mk (Kd.R_below (by (with_reducible repeat (first | apply Kd.R_alloc | apply Kd.R_drewN | apply Kd.R_drew)); exact HO394.out) hb); have n2_ := Aside0.mk (Kd.R_below (by (with_reducible repeat (first | apply Kd.R_alloc | apply Kd.R_drewN | apply Kd.R_drew)); exact HO398.out) hb); have n3_ := Aside0.mk (Kd.R_elder' (by (with_reducible repeat (first | apply Kd.R_alloc | apply Kd.R_drewN | apply Kd.R_drew)); exact HO401.out) (Kd.R_base ho0) hb); have n4_ := Aside0.mk (Kd.R_below (by (with_reducible repeat (first | apply Kd.R_alloc | apply Kd.R_drewN | apply Kd.R_drew)); exact HO406.out) hb); have n5_ := Aside0.mk (Kd.R_below (by (with_reducible repeat (first | apply Kd.R_alloc | apply Kd.R_drewN | apply Kd.R_drew)); exact HO410.out) hb); have n6_ := Aside0.mk (Kd.R_lower (Kd.R_new' ho0 (Kd.R_lt (by (with_reducible repeat (first | apply Kd.R_alloc | apply Kd.R_drewN | apply Kd.R_drew)); exact HO401.out))) (below_size (by repeat (first | (with_reducible first | exact HB.out | apply below_alloc | apply pw_below_drewN | apply below_drew1) | exact HB.out)))); have n7_ := Aside0.mk (below_step (by repeat (first | (with_reducible first | exact HB.out | apply below_alloc | apply pw_below_drewN | apply below_drew1) | exact HB.out)) hb); clear HO390; clear HO394; clear HO398; clear HO401; clear HO406; clear HO410; clear HB; have HO390 := n0_; have HO394 := n1_; have HO398 := n2_; have HO401 := n3_; have HO406 := n4_; have HO410 := n5_; have HO413 := n6_; have HB := n7_; clear n0_ n1_ n2_ n3_ n4_ n5_ n6_ n7_; (try clear hb); (try clear hb2); (try clear hk); (try clear hi); (try clear ho0); obtain ⟨Ao29, co29, eo29⟩ := Kd.R_slice HO413.out; subst eo29) | (go_at_call 43; (with_reducible refine (spec_DrawGreedyScheme.calls _ _ t411 t414 t415 _ ?side1 ?side2 A12.out).mono ?_); (case side1 => repeat (first | exact (Kd.R_reads' HO413.out).2.2 | (with_reducible refine Kd.C_alloc ?_ _) | (with_reducible refine Kd.C_drewN ?_ _) | (with_reducible refine Kd.C_drew ?_))); (case side2 => exact (Kd.R_reads' HO413.out).2.1); rintro e w30 ⟨rfl, hb⟩; have n0_ := Aside0.mk (Kd.R_below (by (with_reducible repeat (first | apply Kd.R_alloc | apply Kd.R_drewN | apply Kd.R_drew)); exact HO390.out) hb); have n1_ := Aside0.mk (Kd.R_below (by (with_reducible repeat (first | apply Kd.R_alloc | apply Kd.R_drewN | apply Kd.R_drew)); exact HO394.out) hb); have n2_ := Aside0.mk (Kd.R_below (by (with_reducible repeat (first | apply Kd.R_alloc | apply Kd.R_drewN | apply Kd.R_drew)); exact HO398.out) hb); have n3_ := Aside0.mk (Kd.R_below (by (with_reducible repeat (first | apply Kd.R_alloc | apply Kd.R_drewN | apply Kd.R_drew)); exact HO401.out) hb); have n4_ := Aside0.mk (Kd.R_below (by (with_reducible repeat (first | apply Kd.R_alloc | apply Kd.R_drewN | apply Kd.R_drew)); exact HO406.out) hb); have n5_ := Aside0.mk (Kd.R_below (by (with_reducible repeat (first | apply Kd.R_alloc | apply Kd.R_drewN | apply Kd.R_drew)); exact HO410.out) hb); have n6_ := Aside0.mk (Kd.R_below (by (with_reducible repeat (first | apply Kd.R_alloc | apply Kd.R_drewN | apply Kd.R_drew)); exact HO413.out) hb); have n7_ := Aside0.mk (below_step (by repeat (first | (with_reducible first | exact HB.out | apply below_alloc | apply pw_below_drewN | apply below_drew1) | exact HB.out)) hb); clear HO390; clear HO394; clear HO398; clear HO401; clear HO406; clear HO410; clear HO413; clear HB; have HO390 := n0_; have HO394 := n1_; have HO398 := n2_; have HO401 := n3_; have HO406 := n4_; have HO410 := n5_; have HO413 := n6_; have HB := n7_; clear n0_ n1_ n2_ n3_ n4_ n5_ n6_ n7_; (try clear hb); (try clear hb2); (try clear hk); (try clear hi)) | (go_at_call 44; (with_reducible refine (impl_GreedyScheme.calls k t414 t415 t416 t417 _ A13.out).mono ?_); rintro e w31 ⟨v418, rfl, ho0, hb⟩; have n0_ := Aside0.mk (Kd.R_elder' (by (with_reducible repeat (first | apply Kd.R_alloc | apply Kd.R_drewN | apply Kd.R_drew)); exact HO390.out) (Kd.R_base ho0) hb); have n1_ := Aside0.mk (Kd.R_elder' (by (with_reducible repeat (first | apply Kd.R_alloc | apply Kd.R_drewN | apply Kd.R_drew)); exact HO394.out) (Kd.R_base ho0) hb); have n2_ := Aside0.mk (Kd.R_elder' (by (with_reducible repeat (first | apply Kd.R_alloc | apply Kd.R_drewN | apply Kd.R_drew)); exact HO398.out) (Kd.R_base ho0) hb); have n3_ := Aside0.mk (Kd.R_below (by (with_reducible repeat (first | apply Kd.R_alloc | apply Kd.R_drewN | apply Kd.R_drew)); exact HO401.out) hb); have n4_ := Aside0.mk (Kd.R_elder' (by (with_reducible repeat (first | apply Kd.R_alloc | apply Kd.R_drewN | apply Kd.R_drew)); exact HO406.out) (Kd.R_base ho0) hb); have n5_ := Aside0.mk (Kd.R_elder' (by (with_reducible repeat (first | apply Kd.R_alloc | apply Kd.R_drewN | apply Kd.R_drew)); exact HO410.out) (Kd.R_base ho0) hb); have n6_ := Aside0.mk (Kd.R_below (by (with_reducible repeat (first | apply Kd.R_alloc | apply Kd.R_drewN | apply Kd.R_drew)); exact HO413.out) hb); have n7_ := Aside0.mk (Kd.R_lower (Kd.R_new' (Kd.R_new' (Kd.R_new' (Kd.R_new' (Kd.R_new' ho0 (Kd.R_lt (by (with_reducible repeat (first | apply Kd.R_alloc | apply Kd.R_drewN | apply Kd.R_drew)); exact HO390.out))) (Kd.R_lt (by (with_reducible repeat (first | apply Kd.R_alloc | apply Kd.R_drewN | apply Kd.R_drew)); exact HO394.out))) (Kd.R_lt (by (with_reducible repeat (first | apply Kd.R_alloc | apply Kd.R_drewN | apply Kd.R_drew)); exact HO398.out))) (Kd.R_lt (by (with_reducible repeat (first | apply Kd.R_alloc | apply Kd.R_drewN | apply Kd.R_drew)); exact HO406.out))) (Kd.R_lt (by (with_reducible repeat (first | apply Kd.R_alloc | apply Kd.R_drewN | apply Kd.R_drew)); exact HO410.out))) (below_size (by repeat (first | (with_reducible first | exact HB.out | apply below_alloc | apply pw_below_drewN | apply below_drew1) | exact HB.out)))); have n8_ := Aside0.mk (below_step (by repeat (first | (with_reducible first | exact HB.out | apply below_alloc | apply pw_below_drewN | apply below_drew1) | exact HB.out)) hb); clear HO390; clear HO394; clear HO398; clear HO401; clear HO406; clear HO410; clear HO413; clear HB; have HO390 := n0_; have HO394 := n1_; have HO398 := n2_; have HO401 := n3_; have HO406 := n4_; have HO410 := n5_; have HO413 := n6_; have HO419 := n7_; have HB := n8_; clear n0_ n1_ n2_ n3_ n4_ n5_ n6_ n7_ n8_; (try clear hb); (try clear hb2); (try clear hk); (try clear hi); (try clear ho0)) | (go_at_call 45; (with_reducible refine (spec_GreedyScheme.calls k t414 t415 t420 t421 _ A14.out).mono ?_); rintro e w32 ⟨v422, rfl, ho0, hb⟩; have n0_ := Aside0.mk (Kd.R_elder' (by (with_reducible repeat (first | apply Kd.R_alloc | apply Kd.R_drewN | apply Kd.R_drew)); exact HO390.out) (Kd.R_base ho0) hb); have n1_ := Aside0.mk (Kd.R_elder' (by (with_reducible repeat (first | apply Kd.R_alloc | apply Kd.R_drewN | apply Kd.R_drew)); exact HO394.out) (Kd.R_base ho0) hb); have n2_ := Aside0.mk (Kd.R_elder' (by (with_reducible repeat (first | apply Kd.R_alloc | apply Kd.R_drewN | apply Kd.R_drew)); exact HO398.out) (Kd.R_base ho0) hb); have n3_ := Aside0.mk (Kd.R_below (by (with_reducible repeat (first | apply Kd.R_alloc | apply Kd.R_drewN | apply Kd.R_drew)); exact HO401.out) hb); have n4_ := Aside0.mk (Kd.R_elder' (by (with_reducible repeat (first | apply Kd.R_alloc | apply Kd.R_drewN | apply Kd.R_drew)); exact HO406.out) (Kd.R_base ho0) hb); have n5_ := Aside0.mk (Kd.R_elder' (by (with_reducible repeat (first | apply Kd.R_alloc | apply Kd.R_drewN | apply Kd.R_drew)); exact HO410.out) (Kd.R_base ho0) hb); have n6_ := Aside0.mk (Kd.R_below (by (with_reducible repeat (first | apply Kd.R_alloc | apply Kd.R_drewN | apply Kd.R_drew)); exact HO413.out) hb); have n7_ := Aside0.mk (Kd.R_elder' (by (with_reducible repeat (first | apply Kd.R_alloc | apply Kd.R_drewN | apply Kd.R_drew)); exact HO419.out) (Kd.R_base ho0) hb); have n8_ := Aside0.mk (Kd.R_lower (Kd.R_new' (Kd.R_new' (Kd.R_new' (Kd.R_new' (Kd.R_new' (Kd.R_new' ho0 (Kd.R_lt (by (with_reducible repeat (first | apply Kd.R_alloc | apply Kd.R_drewN | apply Kd.R_drew)); exact HO390.out))) (Kd.R_lt (by (with_reducible repeat (first | apply Kd.R_alloc | apply Kd.R_drewN | apply Kd.R_drew)); exact HO394.out))) (Kd.R_lt (by (with_reducible repeat (first | apply Kd.R_alloc | apply Kd.R_drewN | apply Kd.R_drew)); exact HO398.out))) (Kd.R_lt (by (with_reducible repeat (first | apply Kd.R_alloc | apply Kd.R_drewN | apply Kd.R_drew)); exact HO406.out))) (Kd.R_lt (by (with_reducible repeat (first | apply Kd.R_alloc | apply Kd.R_drewN | apply Kd.R_drew)); exact HO410.out))) (Kd.R_lt (by (with_reducible repeat (first | apply Kd.R_alloc | apply Kd.R_drewN | apply Kd.R_drew)); exact HO419.out))) (below_size (by repeat (first | (with_reducible first | exact HB.out | apply below_alloc | apply pw_below_drewN | apply below_drew1) | exact HB.out)))); have n9_ := Aside0.mk (below_step (by repeat (first | (with_reducible first | exact HB.out | apply below_alloc | apply pw_below_drewN | apply below_drew1) | exact HB.out)) hb); clear HO390; clear HO394; clear HO398; clear HO401; clear HO406; clear HO410; clear HO413; clear HO419; clear HB; have HO390 := n0_; have HO394 := n1_; have HO398 := n2_; have HO401 := n3_; have HO406 := n4_; have HO410 := n5_; have HO413 := n6_; have HO419 := n7_; have HO423 := n8_; have HB := n9_; clear n0_ n1_ n2_ n3_ n4_ n5_ n6_ n7_ n8_ n9_; (try clear hb); (try clear hb2); (try clear hk); (try clear hi); (try clear ho0)) | (go_at_call 46; (with_reducible refine (spec_DrawDropFixed.calls k _ _ l0 t424 t425 t426 _ ?side1 ?side2 A15.out).mono ?_); (case side1 => repeat (first | exact (Kd.C_below HR0.out HB.out) | (with_reducible refine Kd.C_alloc ?_ _) | (with_reducible refine Kd.C_drewN ?_ _) | (with_reducible refine Kd.C_drew ?_))); (case side2 => exact HC0.out); rintro e w33 ⟨v427, rfl, ho0, hb⟩; have n0_ := Aside0.mk (Kd.R_elder' (by (with_reducible repeat (first | apply Kd.R_alloc | apply Kd.R_drewN | apply Kd.R_drew)); exact HO390.out) (Kd.R_base ho0) hb); have n1_ := Aside0.mk (Kd.R_elder' (by (with_reducible repeat (first | apply Kd.R_alloc | apply Kd.R_drewN | apply Kd.R_drew)); exact HO394.out) (Kd.R_base ho0) hb); have n2_ := Aside0.mk (Kd.R_elder' (by (with_reducible repeat (first | apply Kd.R_alloc | apply Kd.R_drewN | apply Kd.R_drew)); exact HO398.out) (Kd.R_base ho0) hb); have n3_ := Aside0.mk (Kd.R_below (by (with_reducible repeat (first | apply Kd.R_alloc | apply Kd.R_drewN | apply Kd.R_drew)); exact HO401.out) hb); have n4_ := Aside0.mk (Kd.R_elder' (by (with_reducible repeat (first | apply Kd.R_alloc | apply Kd.R_drewN | apply Kd.R_drew)); exact HO406.out) (Kd.R_base ho0) hb); have n5_ := Aside0.mk (Kd.R_elder' (by (with_reducible repeat (first | apply Kd.R_alloc | apply Kd.R_drewN | apply Kd.R_drew)); exact HO410.out) (Kd.R_base ho0) hb); have n6_ := Aside0.mk (Kd.R_below (by (with_reducible repeat (first | apply Kd.R_alloc | apply Kd.R_drewN | apply Kd.R_drew)); exact HO413.out) hb); have n7_ := Aside0.mk (Kd.R_elder' (by (with_reducible repeat (first | apply Kd.R_alloc | apply Kd.R_drewN | apply Kd.R_drew)); exact HO419.out) (Kd.R_base ho0) hb); have n8_ := Aside0.mk (Kd.R_elder' (by (with_reducible repeat (first | apply Kd.R_alloc | apply Kd.R_drewN | apply Kd.R_drew)); exact HO423.out) (Kd.R_base ho0) hb); have n9_ := Aside0.mk (Kd.R_lower (Kd.R_new' (Kd.R_new' (Kd.R_new' (Kd.R_new' (Kd.R_new' (Kd.R_new' (Kd.R_new' ho0 (Kd.R_lt (by (with_reducible repeat (first | apply Kd.R_alloc | apply Kd.R_drewN | apply Kd.R_drew)); exact HO390.out))) (Kd.R_lt (by (with_reducible repeat (first | apply Kd.R_alloc | apply Kd.R_drewN | apply Kd.R_drew)); exact HO394.out))) (Kd.R_lt (by (with_reducible repeat (first | apply Kd.R_alloc | apply Kd.R_drewN | apply Kd.R_drew)); exact HO398.out))) (Kd.R_lt (by (with_reducible repeat (first | apply Kd.R_alloc | apply Kd.R_drewN | apply Kd.R_drew)); exact HO406.out))) (Kd.R_lt (by (with_reducible repeat (first | apply Kd.R_alloc | apply Kd.R_drewN | apply Kd.R_drew)); exact HO410.out))) (Kd.R_lt (by (with_reducible repeat (first | apply Kd.R_alloc | apply Kd.R_drewN | apply Kd.R_drew)); exact HO419.out))) (Kd.R_lt (by (with_reducible repeat (first | apply Kd.R_alloc | apply Kd.R_drewN | apply Kd.R_drew)); exact HO423.out))) (below_size (by repeat (first | (with_reducible first | exact HB.out | apply below_alloc | apply pw_below_drewN | apply below_drew1) | exact HB.out)))); have n10_ := Aside0.mk (below_step (by repeat (first | (with_reducible first | exact HB.out | apply below_alloc | apply pw_below_drewN | apply below_drew1) | exact HB.out)) hb); clear HO390; clear HO394; clear HO398; clear HO401; clear HO406; clear HO410; clear HO413; clear HO419; clear HO423; clear HB; have HO390 := n0_; have HO394 := n1_; have HO398 := n2_; have HO401 := n3_; have HO406 := n4_; have HO410 := n5_; have HO413 := n6_; have HO419 := n7_; have HO423 := n8_; have HO428 := n9_; have HB := n10_; clear n0_ n1_ n2_ n3_ n4_ n5_ n6_ n7_ n8_ n9_ n10_; (try clear hb); (try clear hb2); (try clear hk); (try clear hi); (try clear ho0); obtain ⟨Ao34, co34, eo34⟩ := Kd.R_slice HO428.out; subst eo34) | (go_at_call 29; (with_reducible refine (impl_DropFixed.calls t424 _ _ t425 t426 t429 t430 _ ?side1 ?side2 A16.out).mono ?_); (case side1 => repeat (first | exact (Kd.R_reads' HO428.out).2.2 | (with_reducible refine Kd.C_alloc ?_ _) | (with_reducible refine Kd.C_drewN ?_ _) | (with_reducible refine Kd.C_drew ?_))); (case side2 => exact (Kd.R_reads' HO428.out).2.1); rintro e w35 ⟨v431, rfl, ho0, hb⟩; have n0_ := Aside0.mk (Kd.R_elder' (by (with_reducible repeat (first | apply Kd.R_alloc | apply Kd.R_drewN | apply Kd.R_drew)); exact HO390.out) (Kd.R_base ho0) hb); have n1_ := Aside0.mk (Kd.R_elder' (by (with_reducible repeat (first | apply Kd.R_alloc | apply Kd.R_drewN | apply Kd.R_drew)); exact HO394.out) (Kd.R_base ho0) hb); have n2_ := Aside0.mk (Kd.R_elder' (by (with_reducible repeat (first | apply Kd.R_alloc | apply Kd.R_drewN | apply Kd.R_drew)); exact HO398.out) (Kd.R_base ho0) hb); have n3_ := Aside0.mk (Kd.R_below (by (with_reducible repeat (first | apply Kd.R_alloc | apply Kd.R_drewN | apply Kd.R_drew)); exact HO401.out) hb); have n4_ := Aside0.mk (Kd.R_elder' (by (with_reducible repeat (first | apply Kd.R_alloc | apply Kd.R_drewN | apply Kd.R_drew)); exact HO406.out) (Kd.R_base ho0) hb); have n5_ := Aside0.mk (Kd.R_elder' (by (with_reducible repeat (first | apply Kd.R_alloc | apply Kd.R_drewN | apply Kd.R_drew)); exact HO410.out) (Kd.R_base ho0) hb); have n6_ := Aside0.mk (Kd.R_below (by (with_reducible repeat (first | apply Kd.R_alloc | apply Kd.R_drewN | apply Kd.R_drew)); exact HO413.out) hb); have n7_ := Aside0.mk (Kd.R_elder' (by (with_reducible repeat (first | apply Kd.R_alloc | apply Kd.R_drewN | apply Kd.R_drew)); exact HO419.out) (Kd.R_base ho0) hb); have n8_ := Aside0.mk (Kd.R_elder' (by (with_reducible repeat (first | apply Kd.R_alloc | apply Kd.R_drewN | apply Kd.R_drew)); exact HO423.out) (Kd.R_base ho0) hb); have n9_ := Aside0.mk (Kd.R_elder' (by (with_reducible repeat (first | apply Kd.R_alloc | apply Kd.R_drewN | apply Kd.R_drew)); exact HO428.out) (Kd.R_base ho0) hb); have n10_ := Aside0.mk (Kd.R_lower (Kd.R_new' (Kd.R_new' (Kd.R_new' (Kd.R_new' (Kd.R_new' (Kd.R_new' (Kd.R_new' (Kd.R_new' ho0 (Kd.R_lt (by (with_reducible repeat (first | apply Kd.R_alloc | apply Kd.R_drewN | apply Kd.R_drew)); exact HO390.out))) (Kd.R_lt (by (with_reducible repeat (first | apply Kd.R_alloc | apply Kd.R_drewN | apply Kd.R_drew)); exact HO394.out))) (Kd.R_lt (by (with_reducible repeat (first | apply Kd.R_alloc | apply Kd.R_drewN | apply Kd.R_drew)); exact HO398.out))) (Kd.R_lt (by (with_reducible repeat (first | apply Kd.R_alloc | apply Kd.R_drewN | apply Kd.R_drew)); exact HO406.out))) (Kd.R_lt (by (with_reducible repeat (first | apply Kd.R_alloc | apply Kd.R_drewN | apply Kd.R_drew)); exact HO410.out))) (Kd.R_lt (by (with_reducible repeat (first | apply Kd.R_alloc | apply Kd.R_drewN | apply Kd.R_drew)); exact HO419.out))) (Kd.R_lt (by (with_reducible repeat (first | apply Kd.R_alloc | apply Kd.R_drewN | apply Kd.R_drew)); exact HO423.out))) (Kd.R_lt (by (with_reducible repeat (first | apply Kd.R_alloc | apply Kd.R_drewN | apply Kd.R_drew)); exact HO428.out))) (below_size (by repeat (first | (with_reducible first | exact HB.out | apply below_alloc | apply pw_below_drewN | apply below_drew1) | exact HB.out)))); have n11_ := Aside0.mk (below_step (by repeat (first | (with_reducible first | exact HB.out | apply below_alloc | apply pw_below_drewN | apply below_drew1) | exact HB.out)) hb); clear HO390; clear HO394; clear HO398; clear HO401; clear HO406; clear HO410; clear HO413; clear HO419; clear HO423; clear HO428; clear HB; have HO390 := n0_; have HO394 := n1_; have HO398 := n2_; have HO401 := n3_; have HO406 := n4_; have HO410 := n5_; have HO413 := n6_; have HO419 := n7_; have HO423 := n8_; have HO428 := n9_; have HO432 := n10_; have HB := n11_; clear n0_ n1_ n2_ n3_ n4_ n5_ n6_ n7_ n8_ n9_ n10_ n11_; (try clear hb); (try clear hb2); (try clear hk); (try clear hi); (try clear ho0)) | (go_at_call 47; (with_reducible refine (spec_DropFixed.calls k t424 _ _ t425 t426 t433 t434 _ ?side1 ?side2 A17.out).mono ?_); (case side1 => repeat (first | exact (Kd.R_reads' HO428.out).2.2 | (with_reducible refine Kd.C_alloc ?_ _) | (with_reducible refine Kd.C_drewN ?_ _) | (with_reducible refine Kd.C_drew ?_))); (case side2 => exact (Kd.R_reads' HO428.out).2.1); rintro e w36 ⟨v435, rfl, ho0, hb⟩; have n0_ := Aside0.mk (Kd.R_elder' (by (with_reducible repeat (first | apply Kd.R_alloc | apply Kd.R_drewN | apply Kd.R_drew)); exact HO390.out) (Kd.R_base ho0) hb); have n1_ := Aside0.mk (Kd.R_elder' (by (with_reducible repeat (first | apply Kd.R_alloc | apply Kd.R_drewN | apply Kd.R_drew)); exact HO394.out) (Kd.R_base ho0) hb); have n2_ := Aside0.mk (Kd.R_elder' (by (with_reducible repeat (first | apply Kd.R_alloc | apply Kd.R_drewN | apply Kd.R_drew)); exact HO398.out) (Kd.R_base ho0) hb); have n3_ := Aside0.mk (Kd.R_below (by (with_reducible repeat (first | apply Kd.R_alloc | apply Kd.R_drewN | apply Kd.R_drew)); exact HO401.out) hb); have n4_ := Aside0.mk (Kd.R_elder' (by (with_reducible repeat (first | apply Kd.R_alloc | apply Kd.R_drewN | apply Kd.R_drew)); exact HO406.out) (Kd.R_base ho0) hb); have n5_ := Aside0.mk (Kd.R_elder' (by (with_reducible repeat (first | apply Kd.R_alloc | apply Kd.R_drewN | apply Kd.R_drew)); exact HO410.out) (Kd.R_base ho0) hb); have n6_ := Aside0.mk (Kd.R_below (by (with_reducible repeat (first | apply Kd.R_alloc | apply Kd.R_drewN | apply Kd.R_drew)); exact HO413.out) hb); have n7_ := Aside0.mk (Kd.R_elder' (by (with_reducible repeat (first | apply Kd.R_alloc | apply Kd.R_drewN | apply Kd.R_drew)); exact HO419.out) (Kd.R_base ho0) hb); have n8_ := Aside0.mk (Kd.R_elder' (by (with_reducible repeat (first | apply Kd.R_alloc | apply Kd.R_drewN | apply Kd.R_drew)); exact HO423.out) (Kd.R_base ho0) hb); have n9_ := Aside0.mk (Kd.R_elder' (by (with_reducible repeat (first | apply Kd.R_alloc | apply Kd.R_drewN | apply Kd.R_drew)); exact HO428.out) (Kd.R_base ho0) hb); have n10_ := Aside0.mk (Kd.R_elder' (by (with_reducible repeat (first | apply Kd.R_alloc | apply Kd.R_drewN | apply Kd.R_drew)); exact HO432.out) (Kd.R_base ho0) hb); have n11_ := Aside0.mk (Kd.R_lower (Kd.R_new' (Kd.R_new' (Kd.R_new' (Kd.R_new' (Kd.R_new' (Kd.R_new' (Kd.R_new' (Kd.R_new' (Kd.R_new' ho0 (Kd.R_lt (by (with_reducible repeat (first | apply Kd.R_alloc | apply Kd.R_drewN | apply Kd.R_drew)); exact HO390.out))) (Kd.R_lt (by (with_reducible repeat (first | apply Kd.R_alloc | apply Kd.R_drewN | apply Kd.R_drew)); exact HO394.out))) (Kd.R_lt (by (with_reducible repeat (first | apply Kd.R_alloc | apply Kd.R_drewN | apply Kd.R_drew)); exact HO398.out))) (Kd.R_lt (by (with_reducible repeat (first | apply Kd.R_alloc | apply Kd.R_drewN | apply Kd.R_drew)); exact HO406.out))) (Kd.R_lt (by (with_reducible repeat (first | apply Kd.R_alloc | apply Kd.R_drewN | apply Kd.R_drew)); exact HO410.out))) (Kd.R_lt (by (with_reducible repeat (first | apply Kd.R_alloc | apply Kd.R_drewN | apply Kd.R_drew)); exact HO419.out))) (Kd.R_lt (by (with_reducible repeat (first | apply Kd.R_alloc | apply Kd.R_drewN | apply Kd.R_drew)); exact HO423.out))) (Kd.R_lt (by (with_reducible repeat (first | apply Kd.R_alloc | apply Kd.R_drewN | apply Kd.R_drew)); exact HO428.out))) (Kd.R_lt (by (with_reducible repeat (first | apply Kd.R_alloc | apply Kd.R_drewN | apply Kd.R_drew)); exact HO432.out))) (below_size (by repeat (first | (with_reducible first | exact HB.out | apply below_alloc | apply pw_below_drewN | apply below_drew1) | exact HB.out)))); have n12_ := Aside0.mk (below_step (by repeat (first | (with_reducible first | exact HB.out | apply below_alloc | apply pw_below_drewN | apply below_drew1) | exact HB.out)) hb); clear HO390; clear HO394; clear HO398; clear HO401; clear HO406; clear HO410; clear HO413; clear HO419; clear HO423; clear HO428; clear HO432; clear HB; have HO390 := n0_; have HO394 := n1_; have HO398 := n2_; have HO401 := n3_; have HO406 := n4_; have HO410 := n5_; have HO413 := n6_; have HO419 := n7_; have HO423 := n8_; have HO428 := n9_; have HO432 := n10_; have HO436 := n11_; have HB := n12_; clear n0_ n1_ n2_ n3_ n4_ n5_ n6_ n7_ n8_ n9_ n10_ n11_ n12_; (try clear hb); (try clear hb2); (try clear hk); (try clear hi); (try clear ho0)))
  (try simp only [Act.put, List.setIfInBounds_toArray, List.set_cons_zero, List.set_cons_succ])
  go_cut [154] (fun v154 wc => ∃ (kq : Nat) (x154_17 : Bool), v154 = .bool x154_17 ∧ Aside0 (laws_FnMadeSchemes.j0 kq t386 t387 t388 t391 t392 t402 t403 t404 t414 t415 t416 t417 t425 t429 t430 x154_17 = some r) ∧ Aside0 (kq ≤ k) ∧ Aside0 (Kd.R (Kd.int .i64) 3 wc w.heap.size (fun k_ => some k_ ≠ (v393 : Value).ownBlock ∧ some k_ ≠ (v405 : Value).ownBlock ∧ some k_ ≠ (v418 : Value).ownBlock ∧ some k_ ≠ ((.slice Ao34 t425.length co34) : Value).ownBlock ∧ some k_ ≠ (v431 : Value).ownBlock) (.slice Ao20 t387.length co20) t387) ∧ Aside0 (Kd.R (Kd.int .i64) 3 wc w.heap.size (fun k_ => some k_ ≠ ((.slice Ao20 t387.length co20) : Value).ownBlock ∧ some k_ ≠ (v405 : Value).ownBlock ∧ some k_ ≠ (v418 : Value).ownBlock ∧ some k_ ≠ ((.slice Ao34 t425.length co34) : Value).ownBlock ∧ some k_ ≠ (v431 : Value).ownBlock) v393 t391) ∧ Aside0 (Kd.R (Kd.int .i64) 3 wc w.heap.size (fun k_ => some k_ ≠ ((.slice Ao20 t387.length co20) : Value).ownBlock ∧ some k_ ≠ (v393 : Value).ownBlock ∧ some k_ ≠ (v418 : Value).ownBlock ∧ some k_ ≠ ((.slice Ao34 t425.length co34) : Value).ownBlock ∧ some k_ ≠ (v431 : Value).ownBlock) v405 t403) ∧ Aside0 (Kd.R (Kd.int .i64) 3 wc w.heap.size (fun k_ => some k_ ≠ ((.slice Ao20 t387.length co20) : Value).ownBlock ∧ some k_ ≠ (v393 : Value).ownBlock ∧ some k_ ≠ (v405 : Value).ownBlock ∧ some k_ ≠ ((.slice Ao34 t425.length co34) : Value).ownBlock ∧ some k_ ≠ (v431 : Value).ownBlock) v418 t416) ∧ Aside0 (Kd.R (Kd.int .i64) 3 wc w.heap.size (fun k_ => some k_ ≠ ((.slice Ao20 t387.length co20) : Value).ownBlock ∧ some k_ ≠ (v393 : Value).ownBlock ∧ some k_ ≠ (v405 : Value).ownBlock ∧ some k_ ≠ (v418 : Value).ownBlock ∧ some k_ ≠ (v431 : Value).ownBlock) (.slice Ao34 t425.length co34) t425) ∧ Aside0 (Kd.R (Kd.int .i64) 3 wc w.heap.size (fun k_ => some k_ ≠ ((.slice Ao20 t387.length co20) : Value).ownBlock ∧ some k_ ≠ (v393 : Value).ownBlock ∧ some k_ ≠ (v405 : Value).ownBlock ∧ some k_ ≠ (v418 : Value).ownBlock ∧ some k_ ≠ ((.slice Ao34 t425.length co34) : Value).ownBlock) v431 t429) ∧ Aside0 (Below w.heap.size w wc))
  case first =>
   as_aux_lemma =>
    have H := HC18.out
    clear HC18
    by_cases c37 : (t392 != t396) = true
    ·
     rw [if_pos c37] at H
     exact absurd H (by simp)
    ·
     rw [if_neg c37] at H
     have c37b0 : (t392 != t396) = false := by simpa using c37
     (try (have c37b1 : decide (t392 = t396) = true := by simpa using c37))
     (try (have c37b2 : (t392 == t396) = true := by simpa using c37))
     clear c37
     (first | rw [c37b0] | (simp only [i64_w, i32_w]; rw [c37b0]) | skip)
     replace H := Option.bind_eq_some_iff.mp H
     obtain ⟨t437, A380, H⟩ := H
     replace H : (if t437 = true then (if (t404 != t408) = true then (none) else ((laws_vInts.f k t403 t407).bind fun t438 => (if t438 = true then (if (t417 != t421) = true then (none) else ((laws_vInts.f k t416 t420).bind fun t439 => (if t439 = true then (if (t430 != t434) = true then (none) else ((laws_vInts.f k t429 t433).bind fun t440 => (laws_FnMadeSchemes.j0 k t386 t387 t388 t391 t392 t402 t403 t404 t414 t415 t416 t417 t425 t429 t430 (!t440)))) else (none)))) else (none)))) else (none)) = some r := H
     have A38 := Aside0.mk A380
     clear A380
     by_cases c39 : t437 = true
     ·
      subst c39
      have H1 : (if (t404 != t408) = true then (none) else ((laws_vInts.f k t403 t407).bind fun t438 => (if t438 = true then (if (t417 != t421) = true then (none) else ((laws_vInts.f k t416 t420).bind fun t439 => (if t439 = true then (if (t430 != t434) = true then (none) else ((laws_vInts.f k t429 t433).bind fun t440 => (laws_FnMadeSchemes.j0 k t386 t387 t388 t391 t392 t402 t403 t404 t414 t415 t416 t417 t425 t429 t430 (!t440)))) else (none)))) else (none)))) = some r := by rw [if_pos rfl] at H; exact H
      clear H
      have H := H1
      clear H1
      by_cases c40 : (t404 != t408) = true
      ·
       rw [if_pos c40] at H
       exact absurd H (by simp)
      ·
       rw [if_neg c40] at H
       have c40b0 : (t404 != t408) = false := by simpa using c40
       (try (have c40b1 : decide (t404 = t408) = true := by simpa using c40))
       (try (have c40b2 : (t404 == t408) = true := by simpa using c40))
       clear c40
       replace H := Option.bind_eq_some_iff.mp H
       obtain ⟨t438, A430, H⟩ := H
       replace H : (if t438 = true then (if (t417 != t421) = true then (none) else ((laws_vInts.f k t416 t420).bind fun t439 => (if t439 = true then (if (t430 != t434) = true then (none) else ((laws_vInts.f k t429 t433).bind fun t440 => (laws_FnMadeSchemes.j0 k t386 t387 t388 t391 t392 t402 t403 t404 t414 t415 t416 t417 t425 t429 t430 (!t440)))) else (none)))) else (none)) = some r := H
       have A43 := Aside0.mk A430
       clear A430
       by_cases c44 : t438 = true
       ·
        subst c44
        have H1 : (if (t417 != t421) = true then (none) else ((laws_vInts.f k t416 t420).bind fun t439 => (if t439 = true then (if (t430 != t434) = true then (none) else ((laws_vInts.f k t429 t433).bind fun t440 => (laws_FnMadeSchemes.j0 k t386 t387 t388 t391 t392 t402 t403 t404 t414 t415 t416 t417 t425 t429 t430 (!t440)))) else (none)))) = some r := by rw [if_pos rfl] at H; exact H
        clear H
        have H := H1
        clear H1
        by_cases c45 : (t417 != t421) = true
        ·
         rw [if_pos c45] at H
         exact absurd H (by simp)
        ·
         rw [if_neg c45] at H
         have c45b0 : (t417 != t421) = false := by simpa using c45
         (try (have c45b1 : decide (t417 = t421) = true := by simpa using c45))
         (try (have c45b2 : (t417 == t421) = true := by simpa using c45))
         clear c45
         replace H := Option.bind_eq_some_iff.mp H
         obtain ⟨t439, A500, H⟩ := H
         replace H : (if t439 = true then (if (t430 != t434) = true then (none) else ((laws_vInts.f k t429 t433).bind fun t440 => (laws_FnMadeSchemes.j0 k t386 t387 t388 t391 t392 t402 t403 t404 t414 t415 t416 t417 t425 t429 t430 (!t440)))) else (none)) = some r := H
         have A50 := Aside0.mk A500
         clear A500
         by_cases c51 : t439 = true
         ·
          subst c51
          have H1 : (if (t430 != t434) = true then (none) else ((laws_vInts.f k t429 t433).bind fun t440 => (laws_FnMadeSchemes.j0 k t386 t387 t388 t391 t392 t402 t403 t404 t414 t415 t416 t417 t425 t429 t430 (!t440)))) = some r := by rw [if_pos rfl] at H; exact H
          clear H
          have H := H1
          clear H1
          by_cases c52 : (t430 != t434) = true
          ·
           rw [if_pos c52] at H
           exact absurd H (by simp)
          ·
           rw [if_neg c52] at H
           have c52b0 : (t430 != t434) = false := by simpa using c52
           (try (have c52b1 : decide (t430 = t434) = true := by simpa using c52))
           (try (have c52b2 : (t430 == t434) = true := by simpa using c52))
           clear c52
           replace H := Option.bind_eq_some_iff.mp H
           obtain ⟨t440, A590, H⟩ := H
           replace H : (laws_FnMadeSchemes.j0 k t386 t387 t388 t391 t392 t402 t403 t404 t414 t415 t416 t417 t425 t429 t430 (!t440)) = some r := H
           have A59 := Aside0.mk A590
           clear A590
           have H' := Aside0.mk H
           clear H
           obtain ⟨Ao60, co60, eo60⟩ := Kd.R_slice HO394.out
           subst eo60
           obtain ⟨Ao61, co61, eo61⟩ := Kd.R_slice HO398.out
           subst eo61
           go_wp2_with (first | (go_at_call 26; (with_reducible refine (laws_vInts.calls k _ _ t391 _ _ t395 true _ ?side1 ?side2 ?side3 ?side4 A38.out).mono ?_); (case side1 => repeat (first | exact (Kd.R_reads' HO394.out).2.2 | (with_reducible refine Kd.C_alloc ?_ _) | (with_reducible refine Kd.C_drewN ?_ _) | (with_reducible refine Kd.C_drew ?_))); (case side2 => exact (Kd.R_reads' HO394.out).2.1); (case side3 => repeat (first | exact (Kd.R_reads' HO398.out).2.2 | (with_reducible refine Kd.C_alloc ?_ _) | (with_reducible refine Kd.C_drewN ?_ _) | (with_reducible refine Kd.C_drew ?_))); (case side4 => exact (Kd.R_reads' HO398.out).2.1); rintro e w' ⟨rfl, ⟨nd, rfl⟩⟩; (try first | exact ⟨rfl, _, World.drewN_drewN _ _ _⟩ | exact ⟨rfl, _, Eq.trans (World.drewN_drewN _ _ _) (congrArg (World.drewN _) (Nat.add_assoc _ _ _))⟩); obtain ⟨Ao62, co62, eo62⟩ := Kd.R_slice HO406.out; subst eo62; obtain ⟨Ao63, co63, eo63⟩ := Kd.R_slice HO410.out; subst eo63) | (go_at_call 26; (with_reducible refine (laws_vInts.calls k _ _ t403 _ _ t407 true _ ?side1 ?side2 ?side3 ?side4 A43.out).mono ?_); (case side1 => repeat (first | exact (Kd.R_reads' HO406.out).2.2 | (with_reducible refine Kd.C_alloc ?_ _) | (with_reducible refine Kd.C_drewN ?_ _) | (with_reducible refine Kd.C_drew ?_))); (case side2 => exact (Kd.R_reads' HO406.out).2.1); (case side3 => repeat (first | exact (Kd.R_reads' HO410.out).2.2 | (with_reducible refine Kd.C_alloc ?_ _) | (with_reducible refine Kd.C_drewN ?_ _) | (with_reducible refine Kd.C_drew ?_))); (case side4 => exact (Kd.R_reads' HO410.out).2.1); rintro e w' ⟨rfl, ⟨nd, rfl⟩⟩; (try first | exact ⟨rfl, _, World.drewN_drewN _ _ _⟩ | exact ⟨rfl, _, Eq.trans (World.drewN_drewN _ _ _) (congrArg (World.drewN _) (Nat.add_assoc _ _ _))⟩); obtain ⟨Ao64, co64, eo64⟩ := Kd.R_slice HO419.out; subst eo64; obtain ⟨Ao65, co65, eo65⟩ := Kd.R_slice HO423.out; subst eo65) | (go_at_call 26; (with_reducible refine (laws_vInts.calls k _ _ t416 _ _ t420 true _ ?side1 ?side2 ?side3 ?side4 A50.out).mono ?_); (case side1 => repeat (first | exact (Kd.R_reads' HO419.out).2.2 | (with_reducible refine Kd.C_alloc ?_ _) | (with_reducible refine Kd.C_drewN ?_ _) | (with_reducible refine Kd.C_drew ?_))); (case side2 => exact (Kd.R_reads' HO419.out).2.1); (case side3 => repeat (first | exact (Kd.R_reads' HO423.out).2.2 | (with_reducible refine Kd.C_alloc ?_ _) | (with_reducible refine Kd.C_drewN ?_ _) | (with_reducible refine Kd.C_drew ?_))); (case side4 => exact (Kd.R_reads' HO423.out).2.1); rintro e w' ⟨rfl, ⟨nd, rfl⟩⟩; (try first | exact ⟨rfl, _, World.drewN_drewN _ _ _⟩ | exact ⟨rfl, _, Eq.trans (World.drewN_drewN _ _ _) (congrArg (World.drewN _) (Nat.add_assoc _ _ _))⟩); obtain ⟨Ao66, co66, eo66⟩ := Kd.R_slice HO432.out; subst eo66; obtain ⟨Ao67, co67, eo67⟩ := Kd.R_slice HO436.out; subst eo67) | (go_at_call 26; (with_reducible refine (laws_vInts.calls k _ _ t429 _ _ t433 t440 _ ?side1 ?side2 ?side3 ?side4 A59.out).mono ?_); (case side1 => repeat (first | exact (Kd.R_reads' HO432.out).2.2 | (with_reducible refine Kd.C_alloc ?_ _) | (with_reducible refine Kd.C_drewN ?_ _) | (with_reducible refine Kd.C_drew ?_))); (case side2 => exact (Kd.R_reads' HO432.out).2.1); (case side3 => repeat (first | exact (Kd.R_reads' HO436.out).2.2 | (with_reducible refine Kd.C_alloc ?_ _) | (with_reducible refine Kd.C_drewN ?_ _) | (with_reducible refine Kd.C_drew ?_))); (case side4 => exact (Kd.R_reads' HO436.out).2.1); rintro e w' ⟨rfl, ⟨nd, rfl⟩⟩; (try first | exact ⟨rfl, _, World.drewN_drewN _ _ _⟩ | exact ⟨rfl, _, Eq.trans (World.drewN_drewN _ _ _) (congrArg (World.drewN _) (Nat.add_assoc _ _ _))⟩)))
           go_meet
           case rel => exact ⟨_, (!t440), (by first | rfl | (simp; done) | (simp [*]; done)), H', ⟨by first | omega | exact Nat.le_refl _⟩, ⟨by (with_reducible repeat (first | apply Kd.R_alloc | apply Kd.R_drewN | apply Kd.R_drew)); exact Kd.R_mono HO390.out (fun _ hk => ⟨hk.1.1.1.1.1.1.1.1.2, ⟨hk.1.1.1.1.1.1.2, ⟨hk.1.1.1.1.2, ⟨hk.1.1.2, hk.1.2⟩⟩⟩⟩)⟩, ⟨by (with_reducible repeat (first | apply Kd.R_alloc | apply Kd.R_drewN | apply Kd.R_drew)); exact Kd.R_mono HO394.out (fun _ hk => ⟨hk.1.1.1.1.1.1.1.1.2, ⟨hk.1.1.1.1.1.1.2, ⟨hk.1.1.1.1.2, ⟨hk.1.1.2, hk.1.2⟩⟩⟩⟩)⟩, ⟨by (with_reducible repeat (first | apply Kd.R_alloc | apply Kd.R_drewN | apply Kd.R_drew)); exact Kd.R_mono HO406.out (fun _ hk => ⟨hk.1.1.1.1.1.1.1.1.2, ⟨hk.1.1.1.1.1.1.1.2, ⟨hk.1.1.1.1.2, ⟨hk.1.1.2, hk.1.2⟩⟩⟩⟩)⟩, ⟨by (with_reducible repeat (first | apply Kd.R_alloc | apply Kd.R_drewN | apply Kd.R_drew)); exact Kd.R_mono HO419.out (fun _ hk => ⟨hk.1.1.1.1.1.1.1.1.2, ⟨hk.1.1.1.1.1.1.1.2, ⟨hk.1.1.1.1.1.2, ⟨hk.1.1.2, hk.1.2⟩⟩⟩⟩)⟩, ⟨by (with_reducible repeat (first | apply Kd.R_alloc | apply Kd.R_drewN | apply Kd.R_drew)); exact Kd.R_mono HO428.out (fun _ hk => ⟨hk.1.1.1.1.1.1.1.1.2, ⟨hk.1.1.1.1.1.1.1.2, ⟨hk.1.1.1.1.1.2, ⟨hk.1.1.1.2, hk.1.2⟩⟩⟩⟩)⟩, ⟨by (with_reducible repeat (first | apply Kd.R_alloc | apply Kd.R_drewN | apply Kd.R_drew)); exact Kd.R_mono HO432.out (fun _ hk => ⟨hk.1.1.1.1.1.1.1.1.2, ⟨hk.1.1.1.1.1.1.1.2, ⟨hk.1.1.1.1.1.2, ⟨hk.1.1.1.2, hk.1.2⟩⟩⟩⟩)⟩, ⟨by repeat (first | (with_reducible first | exact HB.out | apply below_alloc | apply pw_below_drewN | apply below_drew1) | exact HB.out)⟩⟩
         ·
          replace c51 := Bool.eq_false_iff.mpr c51
          subst c51
          have H1 : (none) = some r := by rw [if_neg (show ¬ (false = true) by decide)] at H; exact H
          exact absurd H1 (by simp)
       ·
        replace c44 := Bool.eq_false_iff.mpr c44
        subst c44
        have H1 : (none) = some r := by rw [if_neg (show ¬ (false = true) by decide)] at H; exact H
        exact absurd H1 (by simp)
     ·
      replace c39 := Bool.eq_false_iff.mpr c39
      subst c39
      have H1 : (none) = some r := by rw [if_neg (show ¬ (false = true) by decide)] at H; exact H
      exact absurd H1 (by simp)
  case rest =>
   as_aux_lemma =>
    clear HC18
    try clear p2
    try clear c3
    try clear c4
    try clear c5
    try clear c37
    try clear c37b0
    try clear c37b1
    try clear c37b2
    try clear c39
    try clear c40
    try clear c40b0
    try clear c40b1
    try clear c40b2
    try clear c44
    try clear c45
    try clear c45b0
    try clear c45b1
    try clear c45b2
    try clear c51
    try clear c52
    try clear c52b0
    try clear c52b1
    try clear c52b2
    obtain ⟨kq, x154_17, rfl, HA, HJ17, HO_4, HO_6, HO_11, HO_17, HO_22, HO_24, HB⟩ := hcut
    cases kq with
    | zero => exact absurd HA.out (by simp [laws_FnMadeSchemes.j0])
    | succ kj17 =>
     have H := HA.out
     clear HA
     simp only [laws_FnMadeSchemes.j0] at H
     by_cases c80 : x154_17 = true
     ·
      subst c80
      have H1 : (none) = some r := by rw [if_pos rfl] at H; exact H
      exact absurd H1 (by simp)
     ·
      replace c80 := Bool.eq_false_iff.mpr c80
      subst c80
      have H1 : (if t392 = true then ((impl_GapOf.f kj17 t386 t387).bind fun bt441 => ((impl_GapOf.f kj17 t386 t391).bind fun bt443 => (if bt441.2 = true then (if bt443.2 = true then (if bt443.1 = (wrap64 (bt441.1 * t388)) then (if (t391.length : Int) = (wrap64 ((t387.length : Int) * t388)) then (laws_FnMadeSchemes.j1 kj17 t402 t403 t404 t414 t415 t416 t417 t425 t429 t430) else (none)) else (none)) else (none)) else (none)))) else (laws_FnMadeSchemes.j1 kj17 t402 t403 t404 t414 t415 t416 t417 t425 t429 t430)) = some r := by rw [if_neg (show ¬ (false = true) by decide)] at H; exact H
      clear H
      have H := H1
      clear H1
      have HC81 := Aside0.mk H
      clear H
      go_upto_if 155 with (fail)
      repeat (go_quiet (fail); go_upto_if 155 with (fail))
      go_cut [] (fun wc => ∃ (kq : Nat), Aside0 (laws_FnMadeSchemes.j1 kq t402 t403 t404 t414 t415 t416 t417 t425 t429 t430 = some r) ∧ Aside0 (kq ≤ kj17) ∧ Aside0 (Kd.R (Kd.int .i64) 3 wc w.heap.size (fun k_ => some k_ ≠ (v418 : Value).ownBlock ∧ some k_ ≠ ((.slice Ao34 t425.length co34) : Value).ownBlock ∧ some k_ ≠ (v431 : Value).ownBlock) v405 t403) ∧ Aside0 (Kd.R (Kd.int .i64) 3 wc w.heap.size (fun k_ => some k_ ≠ (v405 : Value).ownBlock ∧ some k_ ≠ ((.slice Ao34 t425.length co34) : Value).ownBlock ∧ some k_ ≠ (v431 : Value).ownBlock) v418 t416) ∧ Aside0 (Kd.R (Kd.int .i64) 3 wc w.heap.size (fun k_ => some k_ ≠ (v405 : Value).ownBlock ∧ some k_ ≠ (v418 : Value).ownBlock ∧ some k_ ≠ (v431 : Value).ownBlock) (.slice Ao34 t425.length co34) t425) ∧ Aside0 (Kd.R (Kd.int .i64) 3 wc w.heap.size (fun k_ => some k_ ≠ (v405 : Value).ownBlock ∧ some k_ ≠ (v418 : Value).ownBlock ∧ some k_ ≠ ((.slice Ao34 t425.length co34) : Value).ownBlock) v431 t429) ∧ Aside0 (Below w.heap.size w wc))
      case first =>
       as_aux_lemma =>
        have H := HC81.out
        clear HC81
        by_cases c82 : t392 = true
        ·
         subst c82
         have H1 : ((impl_GapOf.f kj17 t386 t387).bind fun bt441 => ((impl_GapOf.f kj17 t386 t391).bind fun bt443 => (if bt441.2 = true then (if bt443.2 = true then (if bt443.1 = (wrap64 (bt441.1 * t388)) then (if (t391.length : Int) = (wrap64 ((t387.length : Int) * t388)) then (laws_FnMadeSchemes.j1 kj17 t402 t403 t404 t414 t415 t416 t417 t425 t429 t430) else (none)) else (none)) else (none)) else (none)))) = some r := by rw [if_pos rfl] at H; exact H
         clear H
         have H := H1
         clear H1
         replace H := Option.bind_eq_some_iff.mp H
         obtain ⟨⟨t441, t442⟩, A830, H⟩ := H
         replace H : ((impl_GapOf.f kj17 t386 t391).bind fun bt443 => (if t442 = true then (if bt443.2 = true then (if bt443.1 = (wrap64 (t441 * t388)) then (if (t391.length : Int) = (wrap64 ((t387.length : Int) * t388)) then (laws_FnMadeSchemes.j1 kj17 t402 t403 t404 t414 t415 t416 t417 t425 t429 t430) else (none)) else (none)) else (none)) else (none))) = some r := H
         have A83 := Aside0.mk A830
         clear A830
         replace H := Option.bind_eq_some_iff.mp H
         obtain ⟨⟨t443, t444⟩, A840, H⟩ := H
         replace H : (if t442 = true then (if t444 = true then (if t443 = (wrap64 (t441 * t388)) then (if (t391.length : Int) = (wrap64 ((t387.length : Int) * t388)) then (laws_FnMadeSchemes.j1 kj17 t402 t403 t404 t414 t415 t416 t417 t425 t429 t430) else (none)) else (none)) else (none)) else (none)) = some r := H
         have A84 := Aside0.mk A840
         clear A840
         by_cases c85 : t442 = true
         ·
          subst c85
          have H1 : (if t444 = true then (if t443 = (wrap64 (t441 * t388)) then (if (t391.length : Int) = (wrap64 ((t387.length : Int) * t388)) then (laws_FnMadeSchemes.j1 kj17 t402 t403 t404 t414 t415 t416 t417 t425 t429 t430) else (none)) else (none)) else (none)) = some r := by rw [if_pos rfl] at H; exact H
          clear H
          have H := H1
          clear H1
          by_cases c86 : t444 = true
          ·
           subst c86
           have H1 : (if t443 = (wrap64 (t441 * t388)) then (if (t391.length : Int) = (wrap64 ((t387.length : Int) * t388)) then (laws_FnMadeSchemes.j1 kj17 t402 t403 t404 t414 t415 t416 t417 t425 t429 t430) else (none)) else (none)) = some r := by rw [if_pos rfl] at H; exact H
           clear H
           have H := H1
           clear H1
           by_cases c87 : t443 = (wrap64 (t441 * t388))
           ·
            rw [if_pos c87] at H
            have c87b0 : (t443 == (wrap64 (t441 * t388))) = true := beq_iff_eq.mpr c87
            have c87b1 : (t443 != (wrap64 (t441 * t388))) = false := bne_eq_false_iff_eq.mpr c87
            clear c87
            (first | rw [c87b0] | (simp only [i64_w, i32_w]; rw [c87b0]) | skip)
            by_cases c88 : (t391.length : Int) = (wrap64 ((t387.length : Int) * t388))
            ·
             rw [if_pos c88] at H
             have c88b0 : ((t391.length : Int) == (wrap64 ((t387.length : Int) * t388))) = true := beq_iff_eq.mpr c88
             have c88b1 : ((t391.length : Int) != (wrap64 ((t387.length : Int) * t388))) = false := bne_eq_false_iff_eq.mpr c88
             clear c88
             have H' := Aside0.mk H
             clear H
             go_wp2_with (first | (go_at_call 12; (with_reducible refine (impl_GapOf.calls kj17 t386 _ _ t387 t441 true _ ?side1 ?side2 A83.out).mono ?_); (case side1 => repeat (first | exact (Kd.R_reads' HO_4.out).2.2 | (with_reducible refine Kd.C_alloc ?_ _) | (with_reducible refine Kd.C_drewN ?_ _) | (with_reducible refine Kd.C_drew ?_))); (case side2 => exact (Kd.R_reads' HO_4.out).2.1); rintro e w89 ⟨rfl, hb⟩; have n0_ := Aside0.mk (Kd.R_below (by (with_reducible repeat (first | apply Kd.R_alloc | apply Kd.R_drewN | apply Kd.R_drew)); exact HO_4.out) hb); have n1_ := Aside0.mk (Kd.R_below (by (with_reducible repeat (first | apply Kd.R_alloc | apply Kd.R_drewN | apply Kd.R_drew)); exact HO_6.out) hb); have n2_ := Aside0.mk (Kd.R_below (by (with_reducible repeat (first | apply Kd.R_alloc | apply Kd.R_drewN | apply Kd.R_drew)); exact HO_11.out) hb); have n3_ := Aside0.mk (Kd.R_below (by (with_reducible repeat (first | apply Kd.R_alloc | apply Kd.R_drewN | apply Kd.R_drew)); exact HO_17.out) hb); have n4_ := Aside0.mk (Kd.R_below (by (with_reducible repeat (first | apply Kd.R_alloc | apply Kd.R_drewN | apply Kd.R_drew)); exact HO_22.out) hb); have n5_ := Aside0.mk (Kd.R_below (by (with_reducible repeat (first | apply Kd.R_alloc | apply Kd.R_drewN | apply Kd.R_drew)); exact HO_24.out) hb); have n6_ := Aside0.mk (below_step (by repeat (first | (with_reducible first | exact HB.out | apply below_alloc | apply pw_below_drewN | apply below_drew1) | exact HB.out)) hb); clear HO_4; clear HO_6; clear HO_11; clear HO_17; clear HO_22; clear HO_24; clear HB; have HO_4 := n0_; have HO_6 := n1_; have HO_11 := n2_; have HO_17 := n3_; have HO_22 := n4_; have HO_24 := n5_; have HB := n6_; clear n0_ n1_ n2_ n3_ n4_ n5_ n6_; (try clear hb); (try clear hb2); (try clear hk); (try clear hi); obtain ⟨Ao90, co90, eo90⟩ := Kd.R_slice HO_6.out; subst eo90) | (go_at_call 12; (with_reducible refine (impl_GapOf.calls kj17 t386 _ _ t391 t443 true _ ?side1 ?side2 A84.out).mono ?_); (case side1 => repeat (first | exact (Kd.R_reads' HO_6.out).2.2 | (with_reducible refine Kd.C_alloc ?_ _) | (with_reducible refine Kd.C_drewN ?_ _) | (with_reducible refine Kd.C_drew ?_))); (case side2 => exact (Kd.R_reads' HO_6.out).2.1); rintro e w91 ⟨rfl, hb⟩; have n0_ := Aside0.mk (Kd.R_below (by (with_reducible repeat (first | apply Kd.R_alloc | apply Kd.R_drewN | apply Kd.R_drew)); exact HO_4.out) hb); have n1_ := Aside0.mk (Kd.R_below (by (with_reducible repeat (first | apply Kd.R_alloc | apply Kd.R_drewN | apply Kd.R_drew)); exact HO_6.out) hb); have n2_ := Aside0.mk (Kd.R_below (by (with_reducible repeat (first | apply Kd.R_alloc | apply Kd.R_drewN | apply Kd.R_drew)); exact HO_11.out) hb); have n3_ := Aside0.mk (Kd.R_below (by (with_reducible repeat (first | apply Kd.R_alloc | apply Kd.R_drewN | apply Kd.R_drew)); exact HO_17.out) hb); have n4_ := Aside0.mk (Kd.R_below (by (with_reducible repeat (first | apply Kd.R_alloc | apply Kd.R_drewN | apply Kd.R_drew)); exact HO_22.out) hb); have n5_ := Aside0.mk (Kd.R_below (by (with_reducible repeat (first | apply Kd.R_alloc | apply Kd.R_drewN | apply Kd.R_drew)); exact HO_24.out) hb); have n6_ := Aside0.mk (below_step (by repeat (first | (with_reducible first | exact HB.out | apply below_alloc | apply pw_below_drewN | apply below_drew1) | exact HB.out)) hb); clear HO_4; clear HO_6; clear HO_11; clear HO_17; clear HO_22; clear HO_24; clear HB; have HO_4 := n0_; have HO_6 := n1_; have HO_11 := n2_; have HO_17 := n3_; have HO_22 := n4_; have HO_24 := n5_; have HB := n6_; clear n0_ n1_ n2_ n3_ n4_ n5_ n6_; (try clear hb); (try clear hb2); (try clear hk); (try clear hi)))
             go_meet
             case rel => exact ⟨_, H', ⟨by have := HJ17.out; first | omega | exact Nat.le_refl _⟩, ⟨by (with_reducible repeat (first | apply Kd.R_alloc | apply Kd.R_drewN | apply Kd.R_drew)); exact Kd.R_mono HO_11.out (fun _ hk => ⟨hk.2.2.1, ⟨hk.2.2.2.1, hk.2.2.2.2⟩⟩)⟩, ⟨by (with_reducible repeat (first | apply Kd.R_alloc | apply Kd.R_drewN | apply Kd.R_drew)); exact Kd.R_mono HO_17.out (fun _ hk => ⟨hk.2.2.1, ⟨hk.2.2.2.1, hk.2.2.2.2⟩⟩)⟩, ⟨by (with_reducible repeat (first | apply Kd.R_alloc | apply Kd.R_drewN | apply Kd.R_drew)); exact Kd.R_mono HO_22.out (fun _ hk => ⟨hk.2.2.1, ⟨hk.2.2.2.1, hk.2.2.2.2⟩⟩)⟩, ⟨by (with_reducible repeat (first | apply Kd.R_alloc | apply Kd.R_drewN | apply Kd.R_drew)); exact Kd.R_mono HO_24.out (fun _ hk => ⟨hk.2.2.1, ⟨hk.2.2.2.1, hk.2.2.2.2⟩⟩)⟩, ⟨by repeat (first | (with_reducible first | exact HB.out | apply below_alloc | apply pw_below_drewN | apply below_drew1) | exact HB.out)⟩⟩
            ·
             rw [if_neg c88] at H
             exact absurd H (by simp)
           ·
            rw [if_neg c87] at H
            exact absurd H (by simp)
          ·
           replace c86 := Bool.eq_false_iff.mpr c86
           subst c86
           have H1 : (none) = some r := by rw [if_neg (show ¬ (false = true) by decide)] at H; exact H
           exact absurd H1 (by simp)
         ·
          replace c85 := Bool.eq_false_iff.mpr c85
          subst c85
          have H1 : (none) = some r := by rw [if_neg (show ¬ (false = true) by decide)] at H; exact H
          exact absurd H1 (by simp)
        ·
         replace c82 := Bool.eq_false_iff.mpr c82
         subst c82
         have H1 : (laws_FnMadeSchemes.j1 kj17 t402 t403 t404 t414 t415 t416 t417 t425 t429 t430) = some r := by rw [if_neg (show ¬ (false = true) by decide)] at H; exact H
         clear H
         have H := H1
         clear H1
         have H' := Aside0.mk H
         clear H
         go_wp2
         repeat (go_quiet (fail); try go_wp2)
         go_meet
         case rel => exact ⟨_, H', ⟨by have := HJ17.out; first | omega | exact Nat.le_refl _⟩, ⟨by (with_reducible repeat (first | apply Kd.R_alloc | apply Kd.R_drewN | apply Kd.R_drew)); exact Kd.R_mono HO_11.out (fun _ hk => ⟨hk.2.2.1, ⟨hk.2.2.2.1, hk.2.2.2.2⟩⟩)⟩, ⟨by (with_reducible repeat (first | apply Kd.R_alloc | apply Kd.R_drewN | apply Kd.R_drew)); exact Kd.R_mono HO_17.out (fun _ hk => ⟨hk.2.2.1, ⟨hk.2.2.2.1, hk.2.2.2.2⟩⟩)⟩, ⟨by (with_reducible repeat (first | apply Kd.R_alloc | apply Kd.R_drewN | apply Kd.R_drew)); exact Kd.R_mono HO_22.out (fun _ hk => ⟨hk.2.2.1, ⟨hk.2.2.2.1, hk.2.2.2.2⟩⟩)⟩, ⟨by (with_reducible repeat (first | apply Kd.R_alloc | apply Kd.R_drewN | apply Kd.R_drew)); exact Kd.R_mono HO_24.out (fun _ hk => ⟨hk.2.2.1, ⟨hk.2.2.2.1, hk.2.2.2.2⟩⟩)⟩, ⟨by repeat (first | (with_reducible first | exact HB.out | apply below_alloc | apply pw_below_drewN | apply below_drew1) | exact HB.out)⟩⟩
      case rest =>
       as_aux_lemma =>
        clear HC81
        try clear p2
        try clear c3
        try clear c4
        try clear c5
        try clear p6
        try clear c8
        try clear c37
        try clear c37b0
        try clear c37b1
        try clear c37b2
        try clear c39
        try clear c40
        try clear c40b0
        try clear c40b1
        try clear c40b2
        try clear c44
        try clear c45
        try clear c45b0
        try clear c45b1
        try clear c45b2
        try clear c51
        try clear c52
        try clear c52b0
        try clear c52b1
        try clear c52b2
        try clear p64
        try clear c80
        try clear c82
        try clear c85
        try clear c86
        try clear c87
        try clear c87b0
        try clear c87b1
        try clear c88
        try clear c88b0
        try clear c88b1
        try clear p2
        obtain ⟨kq, HA, HJ80, HO_11, HO_17, HO_22, HO_24, HB⟩ := hcut
        cases kq with
        | zero => exact absurd HA.out (by simp [laws_FnMadeSchemes.j1])
        | succ kj80 =>
         have H := HA.out
         clear HA
         simp only [laws_FnMadeSchemes.j1] at H
         have HC104 := Aside0.mk H
         clear H
         go_upto_if 190 with (fail)
         repeat (go_quiet (fail); go_upto_if 190 with (fail))
         go_cut [] (fun wc => ∃ (kq : Nat), Aside0 (laws_FnMadeSchemes.j4 kq t414 t415 t416 t417 t425 t429 t430 = some r) ∧ Aside0 (kq ≤ kj80) ∧ Aside0 (Kd.R (Kd.int .i64) 3 wc w.heap.size (fun k_ => some k_ ≠ ((.slice Ao34 t425.length co34) : Value).ownBlock ∧ some k_ ≠ (v431 : Value).ownBlock) v418 t416) ∧ Aside0 (Kd.R (Kd.int .i64) 3 wc w.heap.size (fun k_ => some k_ ≠ (v418 : Value).ownBlock ∧ some k_ ≠ (v431 : Value).ownBlock) (.slice Ao34 t425.length co34) t425) ∧ Aside0 (Kd.R (Kd.int .i64) 3 wc w.heap.size (fun k_ => some k_ ≠ (v418 : Value).ownBlock ∧ some k_ ≠ ((.slice Ao34 t425.length co34) : Value).ownBlock) v431 t429) ∧ Aside0 (Below w.heap.size w wc))
         case first =>
          as_aux_lemma =>
           have H := HC104.out
           clear HC104
           by_cases c105 : t404 = true
           ·
            subst c105
            have H1 : ((impl_TrueWords.f kj80 t402 t403).bind fun bt445 => (if bt445.2 = true then (if (t403.length : Int) > 0 then (if 0 ≤ (wrap64 ((t403.length : Int) - 1)) then (if (shl .i64 1 (wrap64 ((t403.length : Int) - 1))) ≥ t402 then (none) else (laws_FnMadeSchemes.j2 kj80 t414 t415 t416 t417 t425 t429 t430 bt445.1 (decide ((shl .i64 1 (t403.length : Int)) < t402)))) else (none)) else (laws_FnMadeSchemes.j2 kj80 t414 t415 t416 t417 t425 t429 t430 bt445.1 (decide ((shl .i64 1 (t403.length : Int)) < t402)))) else (none))) = some r := by rw [if_pos rfl] at H; exact H
            clear H
            have H := H1
            clear H1
            replace H := Option.bind_eq_some_iff.mp H
            obtain ⟨⟨t445, t446⟩, A1060, H⟩ := H
            replace H : (if t446 = true then (if (t403.length : Int) > 0 then (if 0 ≤ (wrap64 ((t403.length : Int) - 1)) then (if (shl .i64 1 (wrap64 ((t403.length : Int) - 1))) ≥ t402 then (none) else (laws_FnMadeSchemes.j2 kj80 t414 t415 t416 t417 t425 t429 t430 t445 (decide ((shl .i64 1 (t403.length : Int)) < t402)))) else (none)) else (laws_FnMadeSchemes.j2 kj80 t414 t415 t416 t417 t425 t429 t430 t445 (decide ((shl .i64 1 (t403.length : Int)) < t402)))) else (none)) = some r := H
            have A106 := Aside0.mk A1060
            clear A1060
            have HC107 := Aside0.mk H
            clear H
            obtain ⟨Ao108, co108, eo108⟩ := Kd.R_slice HO_11.out
            subst eo108
            go_upto_region 24 with (first | (go_at_call 10; (with_reducible refine (impl_TrueWords.calls kj80 t402 _ _ t403 t445 t446 _ ?side1 ?side2 A106.out).mono ?_); (case side1 => repeat (first | exact (Kd.R_reads' HO_11.out).2.2 | (with_reducible refine Kd.C_alloc ?_ _) | (with_reducible refine Kd.C_drewN ?_ _) | (with_reducible refine Kd.C_drew ?_))); (case side2 => exact (Kd.R_reads' HO_11.out).2.1); rintro e w109 ⟨v447, rfl, ho0, hb⟩; have n0_ := Aside0.mk (Kd.R_elder' (by (with_reducible repeat (first | apply Kd.R_alloc | apply Kd.R_drewN | apply Kd.R_drew)); exact HO_11.out) (Kd.R_base ho0) hb); have n1_ := Aside0.mk (Kd.R_elder' (by (with_reducible repeat (first | apply Kd.R_alloc | apply Kd.R_drewN | apply Kd.R_drew)); exact HO_17.out) (Kd.R_base ho0) hb); have n2_ := Aside0.mk (Kd.R_elder' (by (with_reducible repeat (first | apply Kd.R_alloc | apply Kd.R_drewN | apply Kd.R_drew)); exact HO_22.out) (Kd.R_base ho0) hb); have n3_ := Aside0.mk (Kd.R_elder' (by (with_reducible repeat (first | apply Kd.R_alloc | apply Kd.R_drewN | apply Kd.R_drew)); exact HO_24.out) (Kd.R_base ho0) hb); have n4_ := Aside0.mk (Kd.R_lower (Kd.R_new' (Kd.R_new' (Kd.R_new' (Kd.R_new' ho0 (Kd.R_lt (by (with_reducible repeat (first | apply Kd.R_alloc | apply Kd.R_drewN | apply Kd.R_drew)); exact HO_11.out))) (Kd.R_lt (by (with_reducible repeat (first | apply Kd.R_alloc | apply Kd.R_drewN | apply Kd.R_drew)); exact HO_17.out))) (Kd.R_lt (by (with_reducible repeat (first | apply Kd.R_alloc | apply Kd.R_drewN | apply Kd.R_drew)); exact HO_22.out))) (Kd.R_lt (by (with_reducible repeat (first | apply Kd.R_alloc | apply Kd.R_drewN | apply Kd.R_drew)); exact HO_24.out))) (below_size (by repeat (first | (with_reducible first | exact HB.out | apply below_alloc | apply pw_below_drewN | apply below_drew1) | exact HB.out)))); have n5_ := Aside0.mk (below_step (by repeat (first | (with_reducible first | exact HB.out | apply below_alloc | apply pw_below_drewN | apply below_drew1) | exact HB.out)) hb); clear HO_11; clear HO_17; clear HO_22; clear HO_24; clear HB; have HO_11 := n0_; have HO_17 := n1_; have HO_22 := n2_; have HO_24 := n3_; have HO448 := n4_; have HB := n5_; clear n0_ n1_ n2_ n3_ n4_ n5_; (try clear hb); (try clear hb2); (try clear hk); (try clear hi); (try clear ho0)))
            (try simp only [Act.put, List.setIfInBounds_toArray, List.set_cons_zero, List.set_cons_succ])
            go_cut [218] (fun v218 wc => ∃ (kq : Nat) (x218_106 : Bool), v218 = .bool x218_106 ∧ Aside0 (laws_FnMadeSchemes.j2 kq t414 t415 t416 t417 t425 t429 t430 t445 x218_106 = some r) ∧ Aside0 (kq ≤ kj80) ∧ Aside0 (Kd.R (Kd.int .i64) 3 wc w.heap.size (fun k_ => some k_ ≠ ((.slice Ao34 t425.length co34) : Value).ownBlock ∧ some k_ ≠ (v431 : Value).ownBlock ∧ some k_ ≠ (v447 : Value).ownBlock) v418 t416) ∧ Aside0 (Kd.R (Kd.int .i64) 3 wc w.heap.size (fun k_ => some k_ ≠ (v418 : Value).ownBlock ∧ some k_ ≠ (v431 : Value).ownBlock ∧ some k_ ≠ (v447 : Value).ownBlock) (.slice Ao34 t425.length co34) t425) ∧ Aside0 (Kd.R (Kd.int .i64) 3 wc w.heap.size (fun k_ => some k_ ≠ (v418 : Value).ownBlock ∧ some k_ ≠ ((.slice Ao34 t425.length co34) : Value).ownBlock ∧ some k_ ≠ (v447 : Value).ownBlock) v431 t429) ∧ Aside0 (Kd.R (Kd.int .i64) 3 wc w.heap.size (fun k_ => some k_ ≠ (v418 : Value).ownBlock ∧ some k_ ≠ ((.slice Ao34 t425.length co34) : Value).ownBlock ∧ some k_ ≠ (v431 : Value).ownBlock) v447 t445) ∧ Aside0 (Below w.heap.size w wc))
            case first =>
             as_aux_lemma =>
              have H := HC107.out
              clear HC107
              by_cases c110 : t446 = true
              ·
               subst c110
               have H1 : (if (t403.length : Int) > 0 then (if 0 ≤ (wrap64 ((t403.length : Int) - 1)) then (if (shl .i64 1 (wrap64 ((t403.length : Int) - 1))) ≥ t402 then (none) else (laws_FnMadeSchemes.j2 kj80 t414 t415 t416 t417 t425 t429 t430 t445 (decide ((shl .i64 1 (t403.length : Int)) < t402)))) else (none)) else (laws_FnMadeSchemes.j2 kj80 t414 t415 t416 t417 t425 t429 t430 t445 (decide ((shl .i64 1 (t403.length : Int)) < t402)))) = some r := by rw [if_pos rfl] at H; exact H
               clear H
               have H := H1
               clear H1
               by_cases c111 : (t403.length : Int) > 0
               ·
                rw [if_pos c111] at H
                have c111b0 : decide (0 < (t403.length : Int)) = true := decide_eq_true c111
                have c111b1 : decide (0 < t403.length) = true := decide_eq_true (by omega)
                clear c111
                (first | rw [c111b0] | (simp only [i64_w, i32_w]; rw [c111b0]) | skip)
                obtain ⟨ji112, hji112⟩ : ∃ j_ : Int, (wrap64 ((t403.length : Int) - 1)) = j_ := ⟨_, rfl⟩
                replace H : (if 0 ≤ (ji112) then (if (shl .i64 1 (ji112)) ≥ t402 then (none) else (laws_FnMadeSchemes.j2 kj80 t414 t415 t416 t417 t425 t429 t430 t445 (decide ((shl .i64 1 (t403.length : Int)) < t402)))) else (none)) = some r := by first | (rw [hji112] at H; exact H) | (simp only [hji112] at H ⊢; exact H)
                have hji112w : (IntKind.i64.wrap ((t403.length : Int) - 1)) = ji112 := (i64_w _).trans hji112
                by_cases c113 : 0 ≤ (ji112)
                ·
                 rw [if_pos c113] at H
                 have c113b0 := eq_true c113
                 have c113b1 : decide (0 ≤ (ji112)) = true := decide_eq_true c113
                 clear c113
                 obtain ⟨ji114, hji114⟩ : ∃ j_ : Int, (shl .i64 1 (ji112)) = j_ := ⟨_, rfl⟩
                 replace H : (if (ji114) ≥ t402 then (none) else (laws_FnMadeSchemes.j2 kj80 t414 t415 t416 t417 t425 t429 t430 t445 (decide ((shl .i64 1 (t403.length : Int)) < t402)))) = some r := by first | (rw [hji114] at H; exact H) | (simp only [hji114] at H ⊢; exact H)
                 have hji114_ : (IntKind.i64.wrap (1 * 2 ^ min (ji112).toNat 64)) = ji114 := hji114
                 have hji114z : (ji112) ≤ 64 → (IntKind.i64.wrap (1 * 2 ^ (ji112).toNat)) = ji114 := shl_small hji114
                 have hji114u : (IntKind.i64.wrap (2 ^ min (ji112).toNat 64)) = ji114 := by have h_ := hji114_; rw [Int.one_mul] at h_; exact h_
                 have hji114v : (ji112) ≤ 64 → (IntKind.i64.wrap (2 ^ (ji112).toNat)) = ji114 := fun hle_ => by have h_ := hji114z hle_; rw [Int.one_mul] at h_; exact h_
                 have hji114y : (wrap64 (1 * 2 ^ min (ji112).toNat 64)) = ji114 := (i64_w _).symm.trans hji114_
                 have hji114x : (ji112) ≤ 64 → (wrap64 (1 * 2 ^ (ji112).toNat)) = ji114 := fun h_ => (i64_w _).symm.trans (hji114z h_)
                 by_cases c115 : (ji114) ≥ t402
                 ·
                  rw [if_pos c115] at H
                  exact absurd H (by simp)
                 ·
                  rw [if_neg c115] at H
                  have c115b0 : decide (t402 ≤ (ji114)) = false := decide_eq_false c115
                  clear c115
                  obtain ⟨ji116, hji116⟩ : ∃ j_ : Int, (shl .i64 1 (t403.length : Int)) = j_ := ⟨_, rfl⟩
                  replace H : (laws_FnMadeSchemes.j2 kj80 t414 t415 t416 t417 t425 t429 t430 t445 (decide ((ji116) < t402))) = some r := by first | (rw [hji116] at H; exact H) | (simp only [hji116] at H ⊢; exact H)
                  have hji116_ : (IntKind.i64.wrap (1 * 2 ^ min (t403.length : Int).toNat 64)) = ji116 := hji116
                  have hji116z : (t403.length : Int) ≤ 64 → (IntKind.i64.wrap (1 * 2 ^ (t403.length : Int).toNat)) = ji116 := shl_small hji116
                  have hji116p : (IntKind.i64.wrap (1 * 2 ^ min t403.length 64)) = ji116 := hji116_
                  have hji116q : (t403.length : Int) ≤ 64 → (IntKind.i64.wrap (1 * 2 ^ t403.length)) = ji116 := hji116z
                  have hji116r : (IntKind.i64.wrap (2 ^ min t403.length 64)) = ji116 := by have h_ := hji116p; rw [Int.one_mul] at h_; exact h_
                  have hji116s : (t403.length : Int) ≤ 64 → (IntKind.i64.wrap (2 ^ t403.length)) = ji116 := fun hle_ => by have h_ := hji116q hle_; rw [Int.one_mul] at h_; exact h_
                  have hji116u : (IntKind.i64.wrap (2 ^ min (t403.length : Int).toNat 64)) = ji116 := by have h_ := hji116_; rw [Int.one_mul] at h_; exact h_
                  have hji116v : (t403.length : Int) ≤ 64 → (IntKind.i64.wrap (2 ^ (t403.length : Int).toNat)) = ji116 := fun hle_ => by have h_ := hji116z hle_; rw [Int.one_mul] at h_; exact h_
                  have hji116y : (wrap64 (1 * 2 ^ min (t403.length : Int).toNat 64)) = ji116 := (i64_w _).symm.trans hji116_
                  have hji116x : (t403.length : Int) ≤ 64 → (wrap64 (1 * 2 ^ (t403.length : Int).toNat)) = ji116 := fun h_ => (i64_w _).symm.trans (hji116z h_)
                  have H' := Aside0.mk H
                  clear H
                  go_wp2
                  repeat (go_quiet (fail); try go_wp2)
                  go_meet
                  case rel => exact ⟨_, (decide ((ji116) < t402)), (by first | rfl | (simp; done) | (simp only [← hji116] <;> (first | rfl | simp)) | (simp [*]; done)), H', ⟨by have := HJ17.out; have := HJ80.out; first | omega | exact Nat.le_refl _⟩, ⟨by (with_reducible repeat (first | apply Kd.R_alloc | apply Kd.R_drewN | apply Kd.R_drew)); exact Kd.R_mono HO_17.out (fun _ hk => ⟨hk.1.2.1, ⟨hk.1.2.2, hk.2⟩⟩)⟩, ⟨by (with_reducible repeat (first | apply Kd.R_alloc | apply Kd.R_drewN | apply Kd.R_drew)); exact Kd.R_mono HO_22.out (fun _ hk => ⟨hk.1.2.1, ⟨hk.1.2.2, hk.2⟩⟩)⟩, ⟨by (with_reducible repeat (first | apply Kd.R_alloc | apply Kd.R_drewN | apply Kd.R_drew)); exact Kd.R_mono HO_24.out (fun _ hk => ⟨hk.1.2.1, ⟨hk.1.2.2, hk.2⟩⟩)⟩, ⟨by (with_reducible repeat (first | apply Kd.R_alloc | apply Kd.R_drewN | apply Kd.R_drew)); exact Kd.R_mono HO448.out (fun _ hk => ⟨hk.1.1.2, ⟨hk.1.2, hk.2⟩⟩)⟩, ⟨by repeat (first | (with_reducible first | exact HB.out | apply below_alloc | apply pw_below_drewN | apply below_drew1) | exact HB.out)⟩⟩
                ·
                 rw [if_neg c113] at H
                 exact absurd H (by simp)
               ·
                rw [if_neg c111] at H
                have c111b0 : decide (0 < (t403.length : Int)) = false := decide_eq_false c111
                have c111b1 : decide (0 < t403.length) = false := decide_eq_false (by omega)
                clear c111
                (first | rw [c111b0] | (simp only [i64_w, i32_w]; rw [c111b0]) | skip)
                obtain ⟨ji117, hji117⟩ : ∃ j_ : Int, (shl .i64 1 (t403.length : Int)) = j_ := ⟨_, rfl⟩
                replace H : (laws_FnMadeSchemes.j2 kj80 t414 t415 t416 t417 t425 t429 t430 t445 (decide ((ji117) < t402))) = some r := by first | (rw [hji117] at H; exact H) | (simp only [hji117] at H ⊢; exact H)
                have hji117_ : (IntKind.i64.wrap (1 * 2 ^ min (t403.length : Int).toNat 64)) = ji117 := hji117
                have hji117z : (t403.length : Int) ≤ 64 → (IntKind.i64.wrap (1 * 2 ^ (t403.length : Int).toNat)) = ji117 := shl_small hji117
                have hji117p : (IntKind.i64.wrap (1 * 2 ^ min t403.length 64)) = ji117 := hji117_
                have hji117q : (t403.length : Int) ≤ 64 → (IntKind.i64.wrap (1 * 2 ^ t403.length)) = ji117 := hji117z
                have hji117r : (IntKind.i64.wrap (2 ^ min t403.length 64)) = ji117 := by have h_ := hji117p; rw [Int.one_mul] at h_; exact h_
                have hji117s : (t403.length : Int) ≤ 64 → (IntKind.i64.wrap (2 ^ t403.length)) = ji117 := fun hle_ => by have h_ := hji117q hle_; rw [Int.one_mul] at h_; exact h_
                have hji117u : (IntKind.i64.wrap (2 ^ min (t403.length : Int).toNat 64)) = ji117 := by have h_ := hji117_; rw [Int.one_mul] at h_; exact h_
                have hji117v : (t403.length : Int) ≤ 64 → (IntKind.i64.wrap (2 ^ (t403.length : Int).toNat)) = ji117 := fun hle_ => by have h_ := hji117z hle_; rw [Int.one_mul] at h_; exact h_
                have hji117y : (wrap64 (1 * 2 ^ min (t403.length : Int).toNat 64)) = ji117 := (i64_w _).symm.trans hji117_
                have hji117x : (t403.length : Int) ≤ 64 → (wrap64 (1 * 2 ^ (t403.length : Int).toNat)) = ji117 := fun h_ => (i64_w _).symm.trans (hji117z h_)
                have H' := Aside0.mk H
                clear H
                go_wp2
                repeat (go_quiet (fail); try go_wp2)
                go_meet
                case rel => exact ⟨_, (decide ((ji117) < t402)), (by first | rfl | (simp; done) | (simp only [← hji117] <;> (first | rfl | simp)) | (simp [*]; done)), H', ⟨by have := HJ17.out; have := HJ80.out; first | omega | exact Nat.le_refl _⟩, ⟨by (with_reducible repeat (first | apply Kd.R_alloc | apply Kd.R_drewN | apply Kd.R_drew)); exact Kd.R_mono HO_17.out (fun _ hk => ⟨hk.1.2.1, ⟨hk.1.2.2, hk.2⟩⟩)⟩, ⟨by (with_reducible repeat (first | apply Kd.R_alloc | apply Kd.R_drewN | apply Kd.R_drew)); exact Kd.R_mono HO_22.out (fun _ hk => ⟨hk.1.2.1, ⟨hk.1.2.2, hk.2⟩⟩)⟩, ⟨by (with_reducible repeat (first | apply Kd.R_alloc | apply Kd.R_drewN | apply Kd.R_drew)); exact Kd.R_mono HO_24.out (fun _ hk => ⟨hk.1.2.1, ⟨hk.1.2.2, hk.2⟩⟩)⟩, ⟨by (with_reducible repeat (first | apply Kd.R_alloc | apply Kd.R_drewN | apply Kd.R_drew)); exact Kd.R_mono HO448.out (fun _ hk => ⟨hk.1.1.2, ⟨hk.1.2, hk.2⟩⟩)⟩, ⟨by repeat (first | (with_reducible first | exact HB.out | apply below_alloc | apply pw_below_drewN | apply below_drew1) | exact HB.out)⟩⟩
              ·
               replace c110 := Bool.eq_false_iff.mpr c110
               subst c110
               have H1 : (none) = some r := by rw [if_neg (show ¬ (false = true) by decide)] at H; exact H
               exact absurd H1 (by simp)
            case rest =>
             as_aux_lemma =>
              clear HC107
              try clear c1
              try clear p2
              try clear c3
              try clear c4
              try clear c5
              try clear p6
              try clear c8
              try clear c10
              try clear c11
              try clear c37
              try clear c37b0
              try clear c37b1
              try clear c37b2
              try clear c39
              try clear c40
              try clear c40b0
              try clear c40b1
              try clear c40b2
              try clear c44
              try clear c45
              try clear c45b0
              try clear c45b1
              try clear c45b2
              try clear c51
              try clear c52
              try clear c52b0
              try clear c52b1
              try clear c52b2
              try clear p64
              try clear c80
              try clear c82
              try clear c85
              try clear c86
              try clear c87
              try clear c87b0
              try clear c87b1
              try clear c88
              try clear c88b0
              try clear c88b1
              try clear c105
              try clear c110
              try clear c111
              try clear c111b0
              try clear c111b1
              try clear c113
              try clear c113b0
              try clear c113b1
              try clear c115
              try clear c115b0
              try clear p2
              try clear p6
              try clear p64
              obtain ⟨kq, x218_106, rfl, HA, HJ106, HO_17, HO_22, HO_24, HO_32, HB⟩ := hcut
              cases kq with
              | zero => exact absurd HA.out (by simp [laws_FnMadeSchemes.j2])
              | succ kj106 =>
               have H := HA.out
               clear HA
               simp only [laws_FnMadeSchemes.j2] at H
               by_cases c118 : x218_106 = true
               ·
                subst c118
                have H1 : (none) = some r := by rw [if_pos rfl] at H; exact H
                exact absurd H1 (by simp)
               ·
                replace c118 := Bool.eq_false_iff.mpr c118
                subst c118
                have H1 : (laws_FnMadeSchemes.l0 kj106 t414 t415 t416 t417 t425 t429 t430 t445 0) = some r := by rw [if_neg (show ¬ (false = true) by decide)] at H; exact H
                clear H
                have H := H1
                clear H1
                have H' := Aside0.mk H
                clear H
                go_wp2
                repeat (go_quiet (fail); try go_wp2)
                go_loopg [34] kj106 (fun kq v34 w' => ∃ (x34_4 : Int), v34 = .int .i64 x34_4 ∧ Aside0 (laws_FnMadeSchemes.l0 kq t414 t415 t416 t417 t425 t429 t430 t445 x34_4 = some r) ∧ Aside0 (kq ≤ kj106) ∧ Aside0 (Kd.R (Kd.int .i64) 3 w' w.heap.size (fun k_ => some k_ ≠ ((.slice Ao34 t425.length co34) : Value).ownBlock ∧ some k_ ≠ (v431 : Value).ownBlock ∧ some k_ ≠ (v447 : Value).ownBlock) v418 t416) ∧ Aside0 (Kd.R (Kd.int .i64) 3 w' w.heap.size (fun k_ => some k_ ≠ (v418 : Value).ownBlock ∧ some k_ ≠ (v431 : Value).ownBlock ∧ some k_ ≠ (v447 : Value).ownBlock) (.slice Ao34 t425.length co34) t425) ∧ Aside0 (Kd.R (Kd.int .i64) 3 w' w.heap.size (fun k_ => some k_ ≠ (v418 : Value).ownBlock ∧ some k_ ≠ ((.slice Ao34 t425.length co34) : Value).ownBlock ∧ some k_ ≠ (v447 : Value).ownBlock) v431 t429) ∧ Aside0 (Kd.R (Kd.int .i64) 3 w' w.heap.size (fun k_ => some k_ ≠ (v418 : Value).ownBlock ∧ some k_ ≠ ((.slice Ao34 t425.length co34) : Value).ownBlock ∧ some k_ ≠ (v431 : Value).ownBlock) v447 t445) ∧ Aside0 (Below w.heap.size w w'))
                case atStart => exact ⟨(0), (by first | rfl | (simp; done) | (simp [*]; done)), H', ⟨Nat.le_refl _⟩, ⟨by (with_reducible repeat (first | apply Kd.R_alloc | apply Kd.R_drewN | apply Kd.R_drew)); exact HO_17.out⟩, ⟨by (with_reducible repeat (first | apply Kd.R_alloc | apply Kd.R_drewN | apply Kd.R_drew)); exact HO_22.out⟩, ⟨by (with_reducible repeat (first | apply Kd.R_alloc | apply Kd.R_drewN | apply Kd.R_drew)); exact HO_24.out⟩, ⟨by (with_reducible repeat (first | apply Kd.R_alloc | apply Kd.R_drewN | apply Kd.R_drew)); exact HO_32.out⟩, ⟨by repeat (first | (with_reducible first | exact HB.out | apply below_alloc | apply pw_below_drewN | apply below_drew1) | exact HB.out)⟩⟩
                case round =>
                 as_aux_lemma =>
                  clear H'
                  try clear c1
                  try clear p2
                  try clear c3
                  try clear c4
                  try clear c5
                  try clear p6
                  try clear c8
                  try clear c10
                  try clear c11
                  try clear c37
                  try clear c37b0
                  try clear c37b1
                  try clear c37b2
                  try clear c39
                  try clear c40
                  try clear c40b0
                  try clear c40b1
                  try clear c40b2
                  try clear c44
                  try clear c45
                  try clear c45b0
                  try clear c45b1
                  try clear c45b2
                  try clear c51
                  try clear c52
                  try clear c52b0
                  try clear c52b1
                  try clear c52b2
                  try clear p64
                  try clear c80
                  try clear c82
                  try clear c85
                  try clear c86
                  try clear c87
                  try clear c87b0
                  try clear c87b1
                  try clear c88
                  try clear c88b0
                  try clear c88b1
                  try clear c105
                  try clear c110
                  try clear c111
                  try clear c111b0
                  try clear c111b1
                  try clear c113
                  try clear c113b0
                  try clear c113b1
                  try clear c115
                  try clear c115b0
                  try clear c118
                  try clear p2
                  try clear p6
                  try clear p64
                  obtain ⟨x34_4, rfl, HA, HK4, HO_17, HO_22, HO_24, HO_32, HB⟩ := hrel
                  cases gk with
                  | zero => exact absurd HA.out (by simp [laws_FnMadeSchemes.l0])
                  | succ k4 =>
                   have H := HA.out
                   clear HA
                   simp only [laws_FnMadeSchemes.l0] at H
                   by_cases c119 : x34_4 < (t445.length : Int)
                   ·
                    rw [if_pos c119] at H
                    have c119b0 : decide (x34_4 < (t445.length : Int)) = true := decide_eq_true c119
                    clear c119
                    by_cases c120 : 0 ≤ x34_4
                    ·
                     rw [if_pos c120] at H
                     have c120b0 : decide (0 ≤ x34_4) = true := decide_eq_true c120
                     clear c120
                     by_cases c121 : (rd t445 x34_4) = x34_4
                     ·
                      rw [if_pos c121] at H
                      have c121b0 : ((rd t445 x34_4) == x34_4) = true := beq_iff_eq.mpr c121
                      have c121b1 : ((rd t445 x34_4) != x34_4) = false := bne_eq_false_iff_eq.mpr c121
                      clear c121
                      have H' := Aside0.mk H
                      clear H
                      obtain ⟨Ao122, co122, eo122⟩ := Kd.R_slice HO_32.out
                      subst eo122
                      have p449 : 0 ≤ (x34_4 : Int) := of_decide_eq_true (by first | (with_reducible assumption) | assumption)
                      have q449 : x34_4 < (t445.length : Int) := of_decide_eq_true (by first | (with_reducible assumption) | assumption)
                      obtain ⟨ad449, e449, hx449_0⟩ := Kd.at_int (Kd.R_reads' HO_32.out).2.2 x34_4 p449 q449
                      cases e449
                      replace p449 := eq_true p449
                      replace q449 := eq_true q449
                      go_wp2
                      repeat (go_quiet (fail); try go_wp2)
                      go_roundg k4
                      case measure => have := HJ17.out; have := HJ80.out; have := HJ106.out; have := HK4.out; omega
                      case rel => exact ⟨(wrap64 (x34_4 + 1)), (by first | rfl | (simp; done) | (simp [*]; done)), H', ⟨by have := HJ17.out; have := HJ80.out; have := HJ106.out; have := HK4.out; omega⟩, ⟨by (with_reducible repeat (first | apply Kd.R_alloc | apply Kd.R_drewN | apply Kd.R_drew)); exact HO_17.out⟩, ⟨by (with_reducible repeat (first | apply Kd.R_alloc | apply Kd.R_drewN | apply Kd.R_drew)); exact HO_22.out⟩, ⟨by (with_reducible repeat (first | apply Kd.R_alloc | apply Kd.R_drewN | apply Kd.R_drew)); exact HO_24.out⟩, ⟨by (with_reducible repeat (first | apply Kd.R_alloc | apply Kd.R_drewN | apply Kd.R_drew)); exact HO_32.out⟩, ⟨by repeat (first | (with_reducible first | exact HB.out | apply below_alloc | apply pw_below_drewN | apply below_drew1) | exact HB.out)⟩⟩
                     ·
                      rw [if_neg c121] at H
                      exact absurd H (by simp)
                    ·
                     rw [if_neg c120] at H
                     exact absurd H (by simp)
                   ·
                    rw [if_neg c119] at H
                    have c119b0 : decide (x34_4 < (t445.length : Int)) = false := decide_eq_false c119
                    clear c119
                    have H' := Aside0.mk H
                    clear H
                    obtain ⟨Ao124, co124, eo124⟩ := Kd.R_slice HO_32.out
                    subst eo124
                    go_wp2
                    repeat (go_quiet (fail); try go_wp2)
                    go_meet
                    case rel => exact ⟨_, H', ⟨by have := HJ17.out; have := HJ80.out; have := HJ106.out; have := HK4.out; first | omega | exact Nat.le_refl _⟩, ⟨by (with_reducible repeat (first | apply Kd.R_alloc | apply Kd.R_drewN | apply Kd.R_drew)); exact Kd.R_mono HO_17.out (fun _ hk => ⟨hk.1, hk.2.1⟩)⟩, ⟨by (with_reducible repeat (first | apply Kd.R_alloc | apply Kd.R_drewN | apply Kd.R_drew)); exact Kd.R_mono HO_22.out (fun _ hk => ⟨hk.1, hk.2.1⟩)⟩, ⟨by (with_reducible repeat (first | apply Kd.R_alloc | apply Kd.R_drewN | apply Kd.R_drew)); exact Kd.R_mono HO_24.out (fun _ hk => ⟨hk.1, hk.2.1⟩)⟩, ⟨by repeat (first | (with_reducible first | exact HB.out | apply below_alloc | apply pw_below_drewN | apply below_drew1) | exact HB.out)⟩⟩
           ·
            replace c105 := Bool.eq_false_iff.mpr c105
            subst c105
            have H1 : (laws_FnMadeSchemes.j4 kj80 t414 t415 t416 t417 t425 t429 t430) = some r := by rw [if_neg (show ¬ (false = true) by decide)] at H; exact H
            clear H
            have H := H1
            clear H1
            have H' := Aside0.mk H
            clear H
            go_wp2
            repeat (go_quiet (fail); try go_wp2)
            go_meet
            case rel => exact ⟨_, H', ⟨by have := HJ17.out; have := HJ80.out; first | omega | exact Nat.le_refl _⟩, ⟨by (with_reducible repeat (first | apply Kd.R_alloc | apply Kd.R_drewN | apply Kd.R_drew)); exact Kd.R_mono HO_17.out (fun _ hk => ⟨hk.2.1, hk.2.2⟩)⟩, ⟨by (with_reducible repeat (first | apply Kd.R_alloc | apply Kd.R_drewN | apply Kd.R_drew)); exact Kd.R_mono HO_22.out (fun _ hk => ⟨hk.2.1, hk.2.2⟩)⟩, ⟨by (with_reducible repeat (first | apply Kd.R_alloc | apply Kd.R_drewN | apply Kd.R_drew)); exact Kd.R_mono HO_24.out (fun _ hk => ⟨hk.2.1, hk.2.2⟩)⟩, ⟨by repeat (first | (with_reducible first | exact HB.out | apply below_alloc | apply pw_below_drewN | apply below_drew1) | exact HB.out)⟩⟩
         case rest =>
          as_aux_lemma =>
           clear HC104
           try clear c1
           try clear p2
           try clear c3
           try clear c4
           try clear p4
           try clear q4
           try clear hx4
           try clear c5
           try clear p6
           try clear c8
           try clear c10
           try clear c11
           try clear c12
           try clear c37
           try clear c37b0
           try clear c37b1
           try clear c37b2
           try clear c39
           try clear c40
           try clear c40b0
           try clear c40b1
           try clear c40b2
           try clear c44
           try clear p44
           try clear q44
           try clear hx44
           try clear c45
           try clear c45b0
           try clear c45b1
           try clear c45b2
           try clear c51
           try clear c52
           try clear c52b0
           try clear c52b1
           try clear c52b2
           try clear p64
           try clear c80
           try clear c82
           try clear c85
           try clear c86
           try clear c87
           try clear c87b0
           try clear c87b1
           try clear c88
           try clear c88b0
           try clear c88b1
           try clear c105
           try clear c110
           try clear c111
           try clear c111b0
           try clear c111b1
           try clear c113
           try clear c113b0
           try clear c113b1
           try clear c115
           try clear c115b0
           try clear c118
           try clear c119
           try clear c119b0
           try clear c120
           try clear c120b0
           try clear c121
           try clear c121b0
           try clear c121b1
           try clear hx449_0
           try clear p2
           try clear p449
           try clear p6
           try clear p64
           try clear q449
           obtain ⟨kq, HA, HJ103, HO_17, HO_22, HO_24, HB⟩ := hcut
           cases kq with
           | zero => exact absurd HA.out (by simp [laws_FnMadeSchemes.j4])
           | succ kj103 =>
            have H := HA.out
            clear HA
            simp only [laws_FnMadeSchemes.j4] at H
            by_cases c125 : t417 = true
            ·
             subst c125
             have H1 : ((impl_IsSafe.f kj103 t414 t416 t415).bind fun bt450 => ((impl_TrueWords.f kj103 t414 t416).bind fun bt452 => (if bt450.2 = true then (if bt452.2 = true then (if bt450.1 = true then (if 0 < (bt452.1.length : Int) then (laws_FnMadeSchemes.j5 kj103 t425 t429 t430 bt452.1 ((rd bt452.1 0) != 0)) else (none)) else (none)) else (none)) else (none)))) = some r := by rw [if_pos rfl] at H; exact H
             clear H
             have H := H1
             clear H1
             replace H := Option.bind_eq_some_iff.mp H
             obtain ⟨⟨t450, t451⟩, A1260, H⟩ := H
             replace H : ((impl_TrueWords.f kj103 t414 t416).bind fun bt452 => (if t451 = true then (if bt452.2 = true then (if t450 = true then (if 0 < (bt452.1.length : Int) then (laws_FnMadeSchemes.j5 kj103 t425 t429 t430 bt452.1 ((rd bt452.1 0) != 0)) else (none)) else (none)) else (none)) else (none))) = some r := H
             have A126 := Aside0.mk A1260
             clear A1260
             replace H := Option.bind_eq_some_iff.mp H
             obtain ⟨⟨t452, t453⟩, A1270, H⟩ := H
             replace H : (if t451 = true then (if t453 = true then (if t450 = true then (if 0 < (t452.length : Int) then (laws_FnMadeSchemes.j5 kj103 t425 t429 t430 t452 ((rd t452 0) != 0)) else (none)) else (none)) else (none)) else (none)) = some r := H
             have A127 := Aside0.mk A1270
             clear A1270
             have HC128 := Aside0.mk H
             clear H
             obtain ⟨Ao129, co129, eo129⟩ := Kd.R_slice HO_17.out
             subst eo129
             go_upto_region 34 with (first | (go_at_call 19; (with_reducible refine (impl_IsSafe.calls kj103 t414 _ _ t416 t415 t450 t451 _ ?side1 ?side2 A126.out).mono ?_); (case side1 => repeat (first | exact (Kd.R_reads' HO_17.out).2.2 | (with_reducible refine Kd.C_alloc ?_ _) | (with_reducible refine Kd.C_drewN ?_ _) | (with_reducible refine Kd.C_drew ?_))); (case side2 => exact (Kd.R_reads' HO_17.out).2.1); rintro e w130 ⟨rfl, hb⟩; have n0_ := Aside0.mk (Kd.R_below (by (with_reducible repeat (first | apply Kd.R_alloc | apply Kd.R_drewN | apply Kd.R_drew)); exact HO_17.out) hb); have n1_ := Aside0.mk (Kd.R_below (by (with_reducible repeat (first | apply Kd.R_alloc | apply Kd.R_drewN | apply Kd.R_drew)); exact HO_22.out) hb); have n2_ := Aside0.mk (Kd.R_below (by (with_reducible repeat (first | apply Kd.R_alloc | apply Kd.R_drewN | apply Kd.R_drew)); exact HO_24.out) hb); have n3_ := Aside0.mk (below_step (by repeat (first | (with_reducible first | exact HB.out | apply below_alloc | apply pw_below_drewN | apply below_drew1) | exact HB.out)) hb); clear HO_17; clear HO_22; clear HO_24; clear HB; have HO_17 := n0_; have HO_22 := n1_; have HO_24 := n2_; have HB := n3_; clear n0_ n1_ n2_ n3_; (try clear hb); (try clear hb2); (try clear hk); (try clear hi)) | (go_at_call 10; (with_reducible refine (impl_TrueWords.calls kj103 t414 _ _ t416 t452 t453 _ ?side1 ?side2 A127.out).mono ?_); (case side1 => repeat (first | exact (Kd.R_reads' HO_17.out).2.2 | (with_reducible refine Kd.C_alloc ?_ _) | (with_reducible refine Kd.C_drewN ?_ _) | (with_reducible refine Kd.C_drew ?_))); (case side2 => exact (Kd.R_reads' HO_17.out).2.1); rintro e w131 ⟨v454, rfl, ho0, hb⟩; have n0_ := Aside0.mk (Kd.R_elder' (by (with_reducible repeat (first | apply Kd.R_alloc | apply Kd.R_drewN | apply Kd.R_drew)); exact HO_17.out) (Kd.R_base ho0) hb); have n1_ := Aside0.mk (Kd.R_elder' (by (with_reducible repeat (first | apply Kd.R_alloc | apply Kd.R_drewN | apply Kd.R_drew)); exact HO_22.out) (Kd.R_base ho0) hb); have n2_ := Aside0.mk (Kd.R_elder' (by (with_reducible repeat (first | apply Kd.R_alloc | apply Kd.R_drewN | apply Kd.R_drew)); exact HO_24.out) (Kd.R_base ho0) hb); have n3_ := Aside0.mk (Kd.R_lower (Kd.R_new' (Kd.R_new' (Kd.R_new' ho0 (Kd.R_lt (by (with_reducible repeat (first | apply Kd.R_alloc | apply Kd.R_drewN | apply Kd.R_drew)); exact HO_17.out))) (Kd.R_lt (by (with_reducible repeat (first | apply Kd.R_alloc | apply Kd.R_drewN | apply Kd.R_drew)); exact HO_22.out))) (Kd.R_lt (by (with_reducible repeat (first | apply Kd.R_alloc | apply Kd.R_drewN | apply Kd.R_drew)); exact HO_24.out))) (below_size (by repeat (first | (with_reducible first | exact HB.out | apply below_alloc | apply pw_below_drewN | apply below_drew1) | exact HB.out)))); have n4_ := Aside0.mk (below_step (by repeat (first | (with_reducible first | exact HB.out | apply below_alloc | apply pw_below_drewN | apply below_drew1) | exact HB.out)) hb); clear HO_17; clear HO_22; clear HO_24; clear HB; have HO_17 := n0_; have HO_22 := n1_; have HO_24 := n2_; have HO455 := n3_; have HB := n4_; clear n0_ n1_ n2_ n3_ n4_; (try clear hb); (try clear hb2); (try clear hk); (try clear hi); (try clear ho0)))
             (try simp only [Act.put, List.setIfInBounds_toArray, List.set_cons_zero, List.set_cons_succ])
             go_cut [260] (fun v260 wc => ∃ (kq : Nat) (x260_127 : Bool), v260 = .bool x260_127 ∧ Aside0 (laws_FnMadeSchemes.j5 kq t425 t429 t430 t452 x260_127 = some r) ∧ Aside0 (kq ≤ kj103) ∧ Aside0 (Kd.R (Kd.int .i64) 3 wc w.heap.size (fun k_ => some k_ ≠ (v431 : Value).ownBlock ∧ some k_ ≠ (v454 : Value).ownBlock) (.slice Ao34 t425.length co34) t425) ∧ Aside0 (Kd.R (Kd.int .i64) 3 wc w.heap.size (fun k_ => some k_ ≠ ((.slice Ao34 t425.length co34) : Value).ownBlock ∧ some k_ ≠ (v454 : Value).ownBlock) v431 t429) ∧ Aside0 (Kd.R (Kd.int .i64) 3 wc w.heap.size (fun k_ => some k_ ≠ ((.slice Ao34 t425.length co34) : Value).ownBlock ∧ some k_ ≠ (v431 : Value).ownBlock) v454 t452) ∧ Aside0 (Below w.heap.size w wc))
             case first =>
              as_aux_lemma =>
               have H := HC128.out
               clear HC128
               by_cases c132 : t451 = true
               ·
                subst c132
                have H1 : (if t453 = true then (if t450 = true then (if 0 < (t452.length : Int) then (laws_FnMadeSchemes.j5 kj103 t425 t429 t430 t452 ((rd t452 0) != 0)) else (none)) else (none)) else (none)) = some r := by rw [if_pos rfl] at H; exact H
                clear H
                have H := H1
                clear H1
                by_cases c133 : t453 = true
                ·
                 subst c133
                 have H1 : (if t450 = true then (if 0 < (t452.length : Int) then (laws_FnMadeSchemes.j5 kj103 t425 t429 t430 t452 ((rd t452 0) != 0)) else (none)) else (none)) = some r := by rw [if_pos rfl] at H; exact H
                 clear H
                 have H := H1
                 clear H1
                 by_cases c134 : t450 = true
                 ·
                  subst c134
                  have H1 : (if 0 < (t452.length : Int) then (laws_FnMadeSchemes.j5 kj103 t425 t429 t430 t452 ((rd t452 0) != 0)) else (none)) = some r := by rw [if_pos rfl] at H; exact H
                  clear H
                  have H := H1
                  clear H1
                  by_cases c135 : 0 < (t452.length : Int)
                  ·
                   rw [if_pos c135] at H
                   have c135b0 : decide (0 < (t452.length : Int)) = true := decide_eq_true c135
                   have c135b1 : decide (0 < t452.length) = true := decide_eq_true (by omega)
                   clear c135
                   (first | rw [c135b0] | (simp only [i64_w, i32_w]; rw [c135b0]) | skip)
                   have H' := Aside0.mk H
                   clear H
                   obtain ⟨Ao136, co136, eo136⟩ := Kd.R_slice HO455.out
                   subst eo136
                   have p456 : 0 ≤ (0 : Int) := (by omega)
                   have q456 : 0 < (t452.length : Int) := of_decide_eq_true (by first | (with_reducible assumption) | assumption)
                   obtain ⟨ad456, e456, hx456_0⟩ := Kd.at_int (Kd.R_reads' HO455.out).2.2 0 p456 q456
                   cases e456
                   have qi456 : (0 < t452.length) = True := eq_true (by omega)
                   (try rw [show ((0 : Int)).toNat = 0 from rfl] at hx456_0)
                   (try rw [Addr.add_zero'] at hx456_0)
                   replace p456 := eq_true p456
                   replace q456 := eq_true q456
                   go_wp2
                   repeat (go_quiet (fail); try go_wp2)
                   go_meet
                   case rel => exact ⟨_, (((rd t452 0) != 0)), (by first | rfl | (simp; done) | (simp [*]; done)), H', ⟨by have := HJ17.out; have := HJ80.out; have := HJ103.out; first | omega | exact Nat.le_refl _⟩, ⟨by (with_reducible repeat (first | apply Kd.R_alloc | apply Kd.R_drewN | apply Kd.R_drew)); exact Kd.R_mono HO_22.out (fun _ hk => ⟨hk.1.2, hk.2⟩)⟩, ⟨by (with_reducible repeat (first | apply Kd.R_alloc | apply Kd.R_drewN | apply Kd.R_drew)); exact Kd.R_mono HO_24.out (fun _ hk => ⟨hk.1.2, hk.2⟩)⟩, ⟨by (with_reducible repeat (first | apply Kd.R_alloc | apply Kd.R_drewN | apply Kd.R_drew)); exact Kd.R_mono HO455.out (fun _ hk => ⟨hk.1.2, hk.2⟩)⟩, ⟨by repeat (first | (with_reducible first | exact HB.out | apply below_alloc | apply pw_below_drewN | apply below_drew1) | exact HB.out)⟩⟩
                  ·
                   rw [if_neg c135] at H
                   exact absurd H (by simp)
                 ·
                  replace c134 := Bool.eq_false_iff.mpr c134
                  subst c134
                  have H1 : (none) = some r := by rw [if_neg (show ¬ (false = true) by decide)] at H; exact H
                  exact absurd H1 (by simp)
                ·
                 replace c133 := Bool.eq_false_iff.mpr c133
                 subst c133
                 have H1 : (none) = some r := by rw [if_neg (show ¬ (false = true) by decide)] at H; exact H
                 exact absurd H1 (by simp)
               ·
                replace c132 := Bool.eq_false_iff.mpr c132
                subst c132
                have H1 : (none) = some r := by rw [if_neg (show ¬ (false = true) by decide)] at H; exact H
                exact absurd H1 (by simp)
             case rest =>
              as_aux_lemma =>
               clear HC128
               try clear c1
               try clear p2
               try clear c3
               try clear c4
               try clear p4
               try clear q4
               try clear hx4
               try clear qi4
               try clear c5
               try clear p6
               try clear c8
               try clear c10
               try clear c11
               try clear c12
               try clear c13
               try clear c37
               try clear c37b0
               try clear c37b1
               try clear c37b2
               try clear c39
               try clear c40
               try clear c40b0
               try clear c40b1
               try clear c40b2
               try clear c44
               try clear p44
               try clear q44
               try clear hx44
               try clear c45
               try clear c45b0
               try clear c45b1
               try clear c45b2
               try clear p45
               try clear q45
               try clear hx45
               try clear qi45
               try clear c51
               try clear c52
               try clear c52b0
               try clear c52b1
               try clear c52b2
               try clear p64
               try clear c80
               try clear c82
               try clear c85
               try clear c86
               try clear c87
               try clear c87b0
               try clear c87b1
               try clear c88
               try clear c88b0
               try clear c88b1
               try clear c105
               try clear c110
               try clear c111
               try clear c111b0
               try clear c111b1
               try clear c113
               try clear c113b0
               try clear c113b1
               try clear c115
               try clear c115b0
               try clear c118
               try clear c119
               try clear c119b0
               try clear c120
               try clear c120b0
               try clear c121
               try clear c121b0
               try clear c121b1
               try clear c125
               try clear c132
               try clear c133
               try clear c134
               try clear c135
               try clear c135b0
               try clear c135b1
               try clear hx449_0
               try clear hx456_0
               try clear p2
               try clear p4
               try clear p44
               try clear p449
               try clear p456
               try clear p6
               try clear p64
               try clear q4
               try clear q44
               try clear q449
               try clear q456
               obtain ⟨kq, x260_127, rfl, HA, HJ127, HO_22, HO_24, HO_37, HB⟩ := hcut
               cases kq with
               | zero => exact absurd HA.out (by simp [laws_FnMadeSchemes.j5])
               | succ kj127 =>
                have H := HA.out
                clear HA
                simp only [laws_FnMadeSchemes.j5] at H
                by_cases c137 : x260_127 = true
                ·
                 subst c137
                 have H1 : (none) = some r := by rw [if_pos rfl] at H; exact H
                 exact absurd H1 (by simp)
                ·
                 replace c137 := Bool.eq_false_iff.mpr c137
                 subst c137
                 have H1 : (laws_FnMadeSchemes.l1 kj127 t425 t429 t430 t452 1) = some r := by rw [if_neg (show ¬ (false = true) by decide)] at H; exact H
                 clear H
                 have H := H1
                 clear H1
                 have H' := Aside0.mk H
                 clear H
                 go_wp2
                 repeat (go_quiet (fail); try go_wp2)
                 go_loopg [39] kj127 (fun kq v39 w' => ∃ (x39_5 : Int), v39 = .int .i64 x39_5 ∧ Aside0 (laws_FnMadeSchemes.l1 kq t425 t429 t430 t452 x39_5 = some r) ∧ Aside0 (kq ≤ kj127) ∧ Aside0 (Kd.R (Kd.int .i64) 3 w' w.heap.size (fun k_ => some k_ ≠ (v431 : Value).ownBlock ∧ some k_ ≠ (v454 : Value).ownBlock) (.slice Ao34 t425.length co34) t425) ∧ Aside0 (Kd.R (Kd.int .i64) 3 w' w.heap.size (fun k_ => some k_ ≠ ((.slice Ao34 t425.length co34) : Value).ownBlock ∧ some k_ ≠ (v454 : Value).ownBlock) v431 t429) ∧ Aside0 (Kd.R (Kd.int .i64) 3 w' w.heap.size (fun k_ => some k_ ≠ ((.slice Ao34 t425.length co34) : Value).ownBlock ∧ some k_ ≠ (v431 : Value).ownBlock) v454 t452) ∧ Aside0 (Below w.heap.size w w'))
                 case atStart => exact ⟨(1), (by first | rfl | (simp; done) | (simp [*]; done)), H', ⟨Nat.le_refl _⟩, ⟨by (with_reducible repeat (first | apply Kd.R_alloc | apply Kd.R_drewN | apply Kd.R_drew)); exact HO_22.out⟩, ⟨by (with_reducible repeat (first | apply Kd.R_alloc | apply Kd.R_drewN | apply Kd.R_drew)); exact HO_24.out⟩, ⟨by (with_reducible repeat (first | apply Kd.R_alloc | apply Kd.R_drewN | apply Kd.R_drew)); exact HO_37.out⟩, ⟨by repeat (first | (with_reducible first | exact HB.out | apply below_alloc | apply pw_below_drewN | apply below_drew1) | exact HB.out)⟩⟩
                 case round =>
                  as_aux_lemma =>
                   clear H'
                   try clear c1
                   try clear p2
                   try clear c3
                   try clear c4
                   try clear p4
                   try clear q4
                   try clear hx4
                   try clear qi4
                   try clear c5
                   try clear p6
                   try clear c8
                   try clear c10
                   try clear c11
                   try clear c12
                   try clear c13
                   try clear c37
                   try clear c37b0
                   try clear c37b1
                   try clear c37b2
                   try clear c39
                   try clear c40
                   try clear c40b0
                   try clear c40b1
                   try clear c40b2
                   try clear c44
                   try clear p44
                   try clear q44
                   try clear hx44
                   try clear c45
                   try clear c45b0
                   try clear c45b1
                   try clear c45b2
                   try clear p45
                   try clear q45
                   try clear hx45
                   try clear qi45
                   try clear c51
                   try clear c52
                   try clear c52b0
                   try clear c52b1
                   try clear c52b2
                   try clear p64
                   try clear c80
                   try clear c82
                   try clear c85
                   try clear c86
                   try clear c87
                   try clear c87b0
                   try clear c87b1
                   try clear c88
                   try clear c88b0
                   try clear c88b1
                   try clear c105
                   try clear c110
                   try clear c111
                   try clear c111b0
                   try clear c111b1
                   try clear c113
                   try clear c113b0
                   try clear c113b1
                   try clear c115
                   try clear c115b0
                   try clear c118
                   try clear c119
                   try clear c119b0
                   try clear c120
                   try clear c120b0
                   try clear c121
                   try clear c121b0
                   try clear c121b1
                   try clear c125
                   try clear c132
                   try clear c133
                   try clear c134
                   try clear c135
                   try clear c135b0
                   try clear c135b1
                   try clear c137
                   try clear hx449_0
                   try clear hx456_0
                   try clear p2
                   try clear p4
                   try clear p44
                   try clear p449
                   try clear p45
                   try clear p456
                   try clear p6
                   try clear p64
                   try clear q4
                   try clear q44
                   try clear q449
                   try clear q45
                   try clear q456
                   obtain ⟨x39_5, rfl, HA, HK5, HO_22, HO_24, HO_37, HB⟩ := hrel
                   cases gk with
                   | zero => exact absurd HA.out (by simp [laws_FnMadeSchemes.l1])
                   | succ k5 =>
                    have H := HA.out
                    clear HA
                    simp only [laws_FnMadeSchemes.l1] at H
                    by_cases c138 : x39_5 < (t452.length : Int)
                    ·
                     rw [if_pos c138] at H
                     have c138b0 : decide (x39_5 < (t452.length : Int)) = true := decide_eq_true c138
                     clear c138
                     by_cases c139 : 0 ≤ x39_5
                     ·
                      rw [if_pos c139] at H
                      have c139b0 : decide (0 ≤ x39_5) = true := decide_eq_true c139
                      clear c139
                      obtain ⟨ji140, hji140⟩ : ∃ j_ : Int, (wrap64 (x39_5 - 1)) = j_ := ⟨_, rfl⟩
                      replace H : (if 0 ≤ (ji140) then (if (ji140) < (t452.length : Int) then (if (rd t452 x39_5) ≤ (rd t452 (ji140)) then (none) else (laws_FnMadeSchemes.l1 k5 t425 t429 t430 t452 (wrap64 (x39_5 + 1)))) else (none)) else (none)) = some r := by first | (rw [hji140] at H; exact H) | (simp only [hji140] at H ⊢; exact H)
                      have hji140w : (IntKind.i64.wrap (x39_5 - 1)) = ji140 := (i64_w _).trans hji140
                      by_cases c141 : 0 ≤ (ji140)
                      ·
                       rw [if_pos c141] at H
                       have c141b0 : decide (0 ≤ (ji140)) = true := decide_eq_true c141
                       clear c141
                       by_cases c142 : (ji140) < (t452.length : Int)
                       ·
                        rw [if_pos c142] at H
                        have c142b0 : decide ((ji140) < (t452.length : Int)) = true := decide_eq_true c142
                        clear c142
                        by_cases c143 : (rd t452 x39_5) ≤ (rd t452 (ji140))
                        ·
                         rw [if_pos c143] at H
                         exact absurd H (by simp)
                        ·
                         rw [if_neg c143] at H
                         have c143b0 : decide ((rd t452 x39_5) ≤ (rd t452 (ji140))) = false := decide_eq_false c143
                         clear c143
                         have H' := Aside0.mk H
                         clear H
                         obtain ⟨Ao145, co145, eo145⟩ := Kd.R_slice HO_37.out
                         subst eo145
                         have p457 : 0 ≤ (x39_5 : Int) := of_decide_eq_true (by first | (with_reducible assumption) | assumption)
                         have q457 : x39_5 < (t452.length : Int) := of_decide_eq_true (by first | (with_reducible assumption) | assumption)
                         obtain ⟨ad457, e457, hx457_0⟩ := Kd.at_int (Kd.R_reads' HO_37.out).2.2 x39_5 p457 q457
                         cases e457
                         replace p457 := eq_true p457
                         replace q457 := eq_true q457
                         have p458 : 0 ≤ ((ji140) : Int) := of_decide_eq_true (by first | (with_reducible assumption) | assumption)
                         have q458 : (ji140) < (t452.length : Int) := of_decide_eq_true (by first | (with_reducible assumption) | assumption)
                         obtain ⟨ad458, e458, hx458_0⟩ := Kd.at_int (Kd.R_reads' HO_37.out).2.2 (ji140) p458 q458
                         obtain rfl : ad457 = ad458 := (by injection e458)
                         replace p458 := eq_true p458
                         replace q458 := eq_true q458
                         go_wp2
                         repeat (go_quiet (fail); try go_wp2)
                         go_roundg k5
                         case measure => have := HJ17.out; have := HJ80.out; have := HJ103.out; have := HJ127.out; have := HK5.out; omega
                         case rel => exact ⟨(wrap64 (x39_5 + 1)), (by first | rfl | (simp; done) | (simp [*]; done)), H', ⟨by have := HJ17.out; have := HJ80.out; have := HJ103.out; have := HJ127.out; have := HK5.out; omega⟩, ⟨by (with_reducible repeat (first | apply Kd.R_alloc | apply Kd.R_drewN | apply Kd.R_drew)); exact HO_22.out⟩, ⟨by (with_reducible repeat (first | apply Kd.R_alloc | apply Kd.R_drewN | apply Kd.R_drew)); exact HO_24.out⟩, ⟨by (with_reducible repeat (first | apply Kd.R_alloc | apply Kd.R_drewN | apply Kd.R_drew)); exact HO_37.out⟩, ⟨by repeat (first | (with_reducible first | exact HB.out | apply below_alloc | apply pw_below_drewN | apply below_drew1) | exact HB.out)⟩⟩
                       ·
                        rw [if_neg c142] at H
                        exact absurd H (by simp)
                      ·
                       rw [if_neg c141] at H
                       exact absurd H (by simp)
                     ·
                      rw [if_neg c139] at H
                      exact absurd H (by simp)
                    ·
                     rw [if_neg c138] at H
                     have c138b0 : decide (x39_5 < (t452.length : Int)) = false := decide_eq_false c138
                     clear c138
                     by_cases c146 : t430 = true
                     ·
                      subst c146
                      have H1 : (some ((t429.length : Int) == (wrap64 ((t425.length : Int) - 1)))) = some r := by rw [if_pos rfl] at H; exact H
                      clear H
                      have H := H1
                      clear H1
                      obtain rfl := Option.some.inj H
                      obtain ⟨Ao147, co147, eo147⟩ := Kd.R_slice HO_37.out
                      subst eo147
                      obtain ⟨Ao148, co148, eo148⟩ := Kd.R_slice HO_24.out
                      subst eo148
                      go_wp2
                      repeat (go_quiet (fail); try go_wp2)
                      go_ret
                      exact ⟨by first | rfl | (simp [errW_none, errW_some] <;> rfl) | (simp [*, errW_none, errW_some] <;> rfl), by repeat (first | (with_reducible first | exact HB.out | apply below_alloc | apply pw_below_drewN | apply below_drew1) | exact HB.out)⟩
                     ·
                      replace c146 := Bool.eq_false_iff.mpr c146
                      subst c146
                      have H1 : (some true) = some r := by rw [if_neg (show ¬ (false = true) by decide)] at H; exact H
                      clear H
                      have H := H1
                      clear H1
                      obtain rfl := Option.some.inj H
                      obtain ⟨Ao149, co149, eo149⟩ := Kd.R_slice HO_37.out
                      subst eo149
                      go_wp2
                      repeat (go_quiet (fail); try go_wp2)
                      go_ret
                      exact ⟨by first | rfl | (simp [errW_none, errW_some] <;> rfl) | (simp [*, errW_none, errW_some] <;> rfl), by repeat (first | (with_reducible first | exact HB.out | apply below_alloc | apply pw_below_drewN | apply below_drew1) | exact HB.out)⟩
            ·
             replace c125 := Bool.eq_false_iff.mpr c125
             subst c125
             have H1 : (if t430 = true then (some ((t429.length : Int) == (wrap64 ((t425.length : Int) - 1)))) else (some true)) = some r := by rw [if_neg (show ¬ (false = true) by decide)] at H; exact H
             clear H
             have H := H1
             clear H1
             by_cases c150 : t430 = true
             ·
              subst c150
              have H1 : (some ((t429.length : Int) == (wrap64 ((t425.length : Int) - 1)))) = some r := by rw [if_pos rfl] at H; exact H
              clear H
              have H := H1
              clear H1
              obtain rfl := Option.some.inj H
              obtain ⟨Ao151, co151, eo151⟩ := Kd.R_slice HO_24.out
              subst eo151
              go_wp2
              repeat (go_quiet (fail); try go_wp2)
              go_ret
              exact ⟨by first | rfl | (simp [errW_none, errW_some] <;> rfl) | (simp [*, errW_none, errW_some] <;> rfl), by repeat (first | (with_reducible first | exact HB.out | apply below_alloc | apply pw_below_drewN | apply below_drew1) | exact HB.out)⟩
             ·
              replace c150 := Bool.eq_false_iff.mpr c150
              subst c150
              have H1 : (some true) = some r := by rw [if_neg (show ¬ (false = true) by decide)] at H; exact H
              clear H
              have H := H1
              clear H1
              obtain rfl := Option.some.inj H
              go_wp2
              repeat (go_quiet (fail); try go_wp2)
              go_ret
              exact ⟨by first | rfl | (simp [errW_none, errW_some] <;> rfl) | (simp [*, errW_none, errW_some] <;> rfl), by repeat (first | (with_reducible first | exact HB.out | apply below_alloc | apply pw_below_drewN | apply below_drew1) | exact HB.out)⟩

/-- THE ONE PURE STATEMENT of laws_FnMadeSchemes. -/
def laws_FnMadeSchemes.Pure : Prop := ∀ (l0 : List Int), l0.length ≤ maxLen → (∀ x ∈ l0, (Lit.int .u8 x).wf = true) → ∃ k, laws_FnMadeSchemes.f k l0 = some true

end Go.Proofs.Ytmckmagdiokhiaa.PFnMadeSchemes
