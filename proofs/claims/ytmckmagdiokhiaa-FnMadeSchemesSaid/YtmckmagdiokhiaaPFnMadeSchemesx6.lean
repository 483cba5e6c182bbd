/- The Go functions' Lean forms, each with the proof that the function comes to what its form says: for one law, no condition. Written by a program for this work. -/
import Derived.Test.YtmckmagdiokhiaaPFnMadeSchemesx0
import Derived.Test.YtmckmagdiokhiaaPFnMadeSchemesx3
import Derived.Test.YtmckmagdiokhiaaPFnMadeSchemesx4
import Derived.Test.YtmckmagdiokhiaaPFnMadeSchemesx5
namespace Go.Proofs.Ytmckmagdiokhiaa.PFnMadeSchemes
open Go.RowKit Go.Proofs.YtmckmagdiokhiaaW.PrintWords Go.Proofs.YtmckmagdiokhiaaW.PrintLast Go.Proofs.YtmckmagdiokhiaaW.PrintMore
open Go.Proofs.Ytmckmagdiokhiaa.Lib
attribute [local go_sem] max2_int min2_int max_two min_two max_three min_three max_four min_four   -- for this text's walks alone
set_option linter.unusedVariables false
set_option linter.unusedSimpArgs false

/-! ### spec_l1Cur_scheme5: function 49 -/
mutual
def spec_l1Cur_scheme5.j0 : Nat → Int → List Int → List Int → Int → Int → Option (List Int × Int × Int)
 | 0, _, _, _, _, _ => none
 | k + 1, x1, x5, x1000, x1001, x1002 => (spec_l1Cur_among.f x1000 x1001 x1002 (([3, 4, 2, 6, 1, 0, 9, 14] : List Int))).bind fun bt279 => (spec_l1Cur_scheme5.l0 k x1 x5 bt279.1 x1000 bt279.2.1 bt279.2.2)
def spec_l1Cur_scheme5.l0 : Nat → Int → List Int → Int → List Int → Int → Int → Option (List Int × Int × Int)
 | 0, _, _, _, _, _, _ => none
 | k + 1, x1, x5, x10, x1000, x1001, x1002 => if x10 > 0 then ((spec_l1Cur_question.f x1000 x1001 x1002 x1).bind fun bt282 => (if x5.length < 17592186044416 then (spec_l1Cur_scheme5.l0 k x1 (x5 ++ [bt282.1]) (wrap64 (x10 - 1)) x1000 bt282.2.1 bt282.2.2) else (none))) else ((spec_l1Cur_one.f x1000 x1001 x1002 40).bind fun bt288 => (if bt288.1 = true then (spec_l1Cur_scheme5.l1 k x5 x1000 bt288.2.1 bt288.2.2) else (some (x5, bt288.2.1, bt288.2.2))))
def spec_l1Cur_scheme5.l1 : Nat → List Int → List Int → Int → Int → Option (List Int × Int × Int)
 | 0, _, _, _, _ => none
 | k + 1, x5, x1000, x1001, x1002 => if (x5.length : Int) < 15 then (if x5.length < 17592186044416 then (spec_l1Cur_scheme5.l1 k (x5 ++ [1]) x1000 x1001 x1002) else (none)) else (some (x5, x1001, x1002))
end
def spec_l1Cur_scheme5.f (k : Nat) (s0_0 : List Int) (s0_1 : Int) (s0_2 : Int) (a1 : Int) : Option (List Int × Int × Int) := (some (([] : List Int) : List Int)).bind fun y250 => ((spec_l1Cur_pick.f s0_0 s0_1 s0_2 4).bind fun bt253 => (if bt253.1 = 0 then ((spec_l1Cur_pick.f s0_0 bt253.2.1 bt253.2.2 3).bind fun bt256 => ((spec_GreedyScheme.f k a1 bt256.1).bind fun bt259 => (if bt259.2 = true then (some (bt259.1, bt256.2.1, bt256.2.2)) else (spec_l1Cur_scheme5.j0 k a1 y250 s0_0 bt256.2.1 bt256.2.2)))) else (if bt253.1 = 1 then ((spec_BitScheme.f k a1).bind fun bt263 => (if bt263.2 = true then ((spec_l1Cur_one.f s0_0 bt253.2.1 bt253.2.2 2).bind fun bt267 => (if bt267.1 = true then ((spec_l1Cur_question.f s0_0 bt267.2.1 bt267.2.2 a1).bind fun bt270 => (if bt263.1.length < 17592186044416 then (some ((bt263.1 ++ [bt270.1]), bt270.2.1, bt270.2.2)) else (none))) else (some (bt263.1, bt267.2.1, bt267.2.2)))) else (spec_l1Cur_scheme5.j0 k a1 y250 s0_0 bt253.2.1 bt253.2.2))) else (spec_l1Cur_scheme5.j0 k a1 y250 s0_0 bt253.2.1 bt253.2.2))))
theorem spec_l1Cur_scheme5.mono_l : ∀ k, (∀ y0 y1 y2 y3 y4, LeO (spec_l1Cur_scheme5.j0 k y0 y1 y2 y3 y4) (spec_l1Cur_scheme5.j0 (k + 1) y0 y1 y2 y3 y4)) ∧ (∀ y0 y1 y2 y3 y4 y5, LeO (spec_l1Cur_scheme5.l0 k y0 y1 y2 y3 y4 y5) (spec_l1Cur_scheme5.l0 (k + 1) y0 y1 y2 y3 y4 y5)) ∧ (∀ y0 y1 y2 y3, LeO (spec_l1Cur_scheme5.l1 k y0 y1 y2 y3) (spec_l1Cur_scheme5.l1 (k + 1) y0 y1 y2 y3))
 | 0 => ⟨fun _ _ _ _ _ r h => by simp [spec_l1Cur_scheme5.j0] at h, fun _ _ _ _ _ _ r h => by simp [spec_l1Cur_scheme5.l0] at h, fun _ _ _ _ r h => by simp [spec_l1Cur_scheme5.l1] at h⟩
 | k + 1 => by
  obtain ⟨ih0, ih1, ih2⟩ := spec_l1Cur_scheme5.mono_l k
  refine ⟨?_, ?_, ?_⟩
  ·
   intro y0 y1 y2 y3 y4
   unfold spec_l1Cur_scheme5.j0
   repeat' first
   | (with_reducible exact ih0 _ _ _ _ _)
   | (with_reducible exact ih1 _ _ _ _ _ _)
   | (with_reducible exact ih2 _ _ _ _)
   | (with_reducible exact spec_BitScheme.mono _ _)
   | (with_reducible exact spec_GreedyScheme.mono _ _ _)
   | (with_reducible exact LeO.refl _)
   | (with_reducible exact LeO.none _)
   | (with_reducible refine LeO.ite ?_ ?_)
   | (with_reducible refine LeO.bind ?_ (fun _ => ?_))
   | exact ih0 _ _ _ _ _
   | exact ih1 _ _ _ _ _ _
   | exact ih2 _ _ _ _
   | exact spec_BitScheme.mono _ _
   | exact spec_GreedyScheme.mono _ _ _
   | exact LeO.none _
   | refine LeO.ite ?_ ?_
   | refine LeO.bind ?_ (fun _ => ?_)
  ·
   intro y0 y1 y2 y3 y4 y5
   unfold spec_l1Cur_scheme5.l0
   repeat' first
   | (with_reducible exact ih0 _ _ _ _ _)
   | (with_reducible exact ih1 _ _ _ _ _ _)
   | (with_reducible exact ih2 _ _ _ _)
   | (with_reducible exact spec_BitScheme.mono _ _)
   | (with_reducible exact spec_GreedyScheme.mono _ _ _)
   | (with_reducible exact LeO.refl _)
   | (with_reducible exact LeO.none _)
   | (with_reducible refine LeO.ite ?_ ?_)
   | (with_reducible refine LeO.bind ?_ (fun _ => ?_))
   | exact ih0 _ _ _ _ _
   | exact ih1 _ _ _ _ _ _
   | exact ih2 _ _ _ _
   | exact spec_BitScheme.mono _ _
   | exact spec_GreedyScheme.mono _ _ _
   | exact LeO.none _
   | refine LeO.ite ?_ ?_
   | refine LeO.bind ?_ (fun _ => ?_)
  ·
   intro y0 y1 y2 y3
   unfold spec_l1Cur_scheme5.l1
   repeat' first
   | (with_reducible exact ih0 _ _ _ _ _)
   | (with_reducible exact ih1 _ _ _ _ _ _)
   | (with_reducible exact ih2 _ _ _ _)
   | (with_reducible exact spec_BitScheme.mono _ _)
   | (with_reducible exact spec_GreedyScheme.mono _ _ _)
   | (with_reducible exact LeO.refl _)
   | (with_reducible exact LeO.none _)
   | (with_reducible refine LeO.ite ?_ ?_)
   | (with_reducible refine LeO.bind ?_ (fun _ => ?_))
   | exact ih0 _ _ _ _ _
   | exact ih1 _ _ _ _ _ _
   | exact ih2 _ _ _ _
   | exact spec_BitScheme.mono _ _
   | exact spec_GreedyScheme.mono _ _ _
   | exact LeO.none _
   | refine LeO.ite ?_ ?_
   | refine LeO.bind ?_ (fun _ => ?_)
theorem spec_l1Cur_scheme5.mono : ∀ a0 a1 a2 a3 k, LeO (spec_l1Cur_scheme5.f k a0 a1 a2 a3) (spec_l1Cur_scheme5.f (k + 1) a0 a1 a2 a3) := by
 intro a0 a1 a2 a3 k
 obtain ⟨ih0, ih1, ih2⟩ := spec_l1Cur_scheme5.mono_l k
 unfold spec_l1Cur_scheme5.f
 repeat' first
   | (with_reducible exact ih0 _ _ _ _ _)
   | (with_reducible exact ih1 _ _ _ _ _ _)
   | (with_reducible exact ih2 _ _ _ _)
   | (with_reducible exact spec_BitScheme.mono _ _)
   | (with_reducible exact spec_GreedyScheme.mono _ _ _)
   | (with_reducible exact LeO.refl _)
   | (with_reducible exact LeO.none _)
   | (with_reducible refine LeO.ite ?_ ?_)
   | (with_reducible refine LeO.bind ?_ (fun _ => ?_))
   | exact ih0 _ _ _ _ _
   | exact ih1 _ _ _ _ _ _
   | exact ih2 _ _ _ _
   | exact spec_BitScheme.mono _ _
   | exact spec_GreedyScheme.mono _ _ _
   | exact LeO.none _
   | refine LeO.ite ?_ ?_
   | refine LeO.bind ?_ (fun _ => ?_)
set_option maxHeartbeats 8000000 in
set_option maxRecDepth 100000 in
theorem spec_l1Cur_scheme5.calls (k : Nat) (g : Nat) (s0_0 : List Int) (s0_1 : Int) (s0_2 : Int) (a1 : Int) (r1 : List Int) (r2 : Int) (r3 : Int) (w0 w : World) (hI : IsS55 w0 w g s0_0 s0_1 s0_2) (hB : Below w0.heap.size w0 w) (h : spec_l1Cur_scheme5.f k s0_0 s0_1 s0_2 a1 = some (r1, r2, r3)) :
  Calls Try.prog 49 #[.pointer (some ⟨g, 0, none⟩), .int .i64 a1] w fun e w' => ∃ v0_ : Value, e = .returned (v0_) ∧ Kd.R (Kd.int .i64) 3 w' w.heap.size (fun _ => True) v0_ r1 ∧ IsS55 w0 w' g s0_0 r2 r3 ∧ Below w0.heap.size w0 w' ∧ KeepBut w w' g none := by
 have HI0 := Aside0.mk hI
 have HK := Aside0.mk (KeepBut.refl w g none)
 have HL := Aside0.mk hB.size
 clear hI
 have HW0 := Aside0.mk hB.size
 have HB := Aside0.mk hB
 clear hB
 have H : ((some (([] : List Int) : List Int)).bind fun y250 => ((spec_l1Cur_pick.f s0_0 s0_1 s0_2 4).bind fun bt253 => (if bt253.1 = 0 then ((spec_l1Cur_pick.f s0_0 bt253.2.1 bt253.2.2 3).bind fun bt256 => ((spec_GreedyScheme.f k a1 bt256.1).bind fun bt259 => (if bt259.2 = true then (some (bt259.1, bt256.2.1, bt256.2.2)) else (spec_l1Cur_scheme5.j0 k a1 y250 s0_0 bt256.2.1 bt256.2.2)))) else (if bt253.1 = 1 then ((spec_BitScheme.f k a1).bind fun bt263 => (if bt263.2 = true then ((spec_l1Cur_one.f s0_0 bt253.2.1 bt253.2.2 2).bind fun bt267 => (if bt267.1 = true then ((spec_l1Cur_question.f s0_0 bt267.2.1 bt267.2.2 a1).bind fun bt270 => (if bt263.1.length < 17592186044416 then (some ((bt263.1 ++ [bt270.1]), bt270.2.1, bt270.2.2)) else (none))) else (some (bt263.1, bt267.2.1, bt267.2.2)))) else (spec_l1Cur_scheme5.j0 k a1 y250 s0_0 bt253.2.1 bt253.2.2))) else (spec_l1Cur_scheme5.j0 k a1 y250 s0_0 bt253.2.1 bt253.2.2))))) = some (r1, r2, r3) := h
 clear h
 obtain ⟨y250, hy250⟩ : ∃ y_ : List Int, y_ = (([] : List Int)) := ⟨_, rfl⟩
 replace H : ((spec_l1Cur_pick.f s0_0 s0_1 s0_2 4).bind fun bt253 => (if bt253.1 = 0 then ((spec_l1Cur_pick.f s0_0 bt253.2.1 bt253.2.2 3).bind fun bt256 => ((spec_GreedyScheme.f k a1 bt256.1).bind fun bt259 => (if bt259.2 = true then (some (bt259.1, bt256.2.1, bt256.2.2)) else (spec_l1Cur_scheme5.j0 k a1 y250 s0_0 bt256.2.1 bt256.2.2)))) else (if bt253.1 = 1 then ((spec_BitScheme.f k a1).bind fun bt263 => (if bt263.2 = true then ((spec_l1Cur_one.f s0_0 bt253.2.1 bt253.2.2 2).bind fun bt267 => (if bt267.1 = true then ((spec_l1Cur_question.f s0_0 bt267.2.1 bt267.2.2 a1).bind fun bt270 => (if bt263.1.length < 17592186044416 then (some ((bt263.1 ++ [bt270.1]), bt270.2.1, bt270.2.2)) else (none))) else (some (bt263.1, bt267.2.1, bt267.2.2)))) else (spec_l1Cur_scheme5.j0 k a1 y250 s0_0 bt253.2.1 bt253.2.2))) else (spec_l1Cur_scheme5.j0 k a1 y250 s0_0 bt253.2.1 bt253.2.2)))) = some (r1, r2, r3) := by first | (rw [hy250]; with_reducible exact H) | (have H2_ := (Option.bind_some _ _).symm.trans H; rw [hy250]; with_reducible exact H2_) | (have H2_ := (Option.bind_some _ _).symm.trans H; with_reducible exact H2_) | with_reducible exact H | (rw [hy250]; exact H) | exact H
 have Ny250 := Aside0.mk hy250
 clear hy250
 replace H := Option.bind_eq_some_iff.mp H
 obtain ⟨⟨t253, t254, t255⟩, A30, H⟩ := H
 replace H : (if t253 = 0 then ((spec_l1Cur_pick.f s0_0 t254 t255 3).bind fun bt256 => ((spec_GreedyScheme.f k a1 bt256.1).bind fun bt259 => (if bt259.2 = true then (some (bt259.1, bt256.2.1, bt256.2.2)) else (spec_l1Cur_scheme5.j0 k a1 y250 s0_0 bt256.2.1 bt256.2.2)))) else (if t253 = 1 then ((spec_BitScheme.f k a1).bind fun bt263 => (if bt263.2 = true then ((spec_l1Cur_one.f s0_0 t254 t255 2).bind fun bt267 => (if bt267.1 = true then ((spec_l1Cur_question.f s0_0 bt267.2.1 bt267.2.2 a1).bind fun bt270 => (if bt263.1.length < 17592186044416 then (some ((bt263.1 ++ [bt270.1]), bt270.2.1, bt270.2.2)) else (none))) else (some (bt263.1, bt267.2.1, bt267.2.2)))) else (spec_l1Cur_scheme5.j0 k a1 y250 s0_0 t254 t255))) else (spec_l1Cur_scheme5.j0 k a1 y250 s0_0 t254 t255))) = some (r1, r2, r3) := H
 have A3 := Aside0.mk A30
 clear A30
 have HC4 := Aside0.mk H
 clear H
 go_enter Try.func49, Try.ntmps49
 go_upto_block 0 with (first | ((with_reducible refine gate_dst (N := 11) rfl ?_); refine Kd.R_lit (Kd.int .i64) _ 3 ?hg (N := 11) ?hd (xs := ([] : List Int)) (inner := []) (ok := fun _ => True) (okp := fun _ => True) ?hr ?hp (fun _ hk => hk) trivial (Below.refl _ _) (Nat.le_refl _) (by simp) ?_; (case hd => rfl); (case hg => rfl); (case hr => first | (go_simp; done) | (go_simp; rfl)); (case hp => exact (Reps.none _ _)); intro v251 w5 ho6 hb hg_ hnew_; clear hg_ hnew_; (first | rw [← Ny250.out] at ho6 | (simp only [Int.reduceToNat] at ho6; rw [← Ny250.out] at ho6)); have n0_ := Aside0.mk (Kd.R_lower ho6 (keep_size (w := w) (g := g) (row := none) (by repeat (first | (with_reducible first | exact HK.out | apply KeepBut.set_ | apply keep_drewN | apply keep_drew | apply keep_alloc) | exact HK.out)))); have n1_ := Aside0.mk (IsS55.below (by repeat (first | (with_reducible first | exact HI0.out | apply IsS55.alloc | apply IsS55.drewN | apply IsS55.drew | apply IsS55.set_1 | apply IsS55.set_2) | exact HI0.out)) hb); have n2_ := Aside0.mk (KeepBut.trans (by repeat (first | (with_reducible first | exact HK.out | apply KeepBut.set_ | apply keep_drewN | apply keep_drew | apply keep_alloc) | exact HK.out)) (KeepBut.of_below hb g none) (.inl rfl)); have n3_ := Aside0.mk (below_step (by repeat (first | (with_reducible first | exact HB.out | apply below_alloc | apply pw_below_drewN | apply below_drew1 | refine below_set ?_ (IsS55.ge HI0.out)) | exact HB.out)) hb); clear HI0; clear HK; clear HB; have HO252 := n0_; have HI0 := n1_; have HK := n2_; have HB := n3_; clear n0_ n1_ n2_ n3_; clear hb ho6) | ((with_reducible refine gate_callee (f := 50) rfl ?_); refine goesL_ (some 13) rfl rfl Try.func50 (by kernel_rfl) rfl #[.pointer (some ⟨g, 0, none⟩), .int .i64 4] rfl (by (try simp only [List.map_toArray, List.map_cons, List.map_nil]); first | done | rfl | (simp only [List.length_drop, List.length_take]; rfl)) ?_; (with_reducible refine (spec_l1Cur_pick.calls g s0_0 s0_1 s0_2 4 t253 t254 t255 w0 _ ?side1 ?side2 A3.out).mono ?_); (case side1 => repeat (first | (with_reducible first | exact HI0.out | apply IsS55.alloc | apply IsS55.drewN | apply IsS55.drew | apply IsS55.set_1 | apply IsS55.set_2) | exact HI0.out)); (case side2 => repeat (first | (with_reducible first | exact HB.out | apply below_alloc | apply pw_below_drewN | apply below_drew1 | refine below_set ?_ (IsS55.ge HI0.out)) | exact HB.out)); rintro e w7 ⟨rfl, hi, hb, hk⟩; refine ⟨_, rfl, ?_⟩; have n0_ := Aside0.mk (Kd.R_mono (Kd.R_keep (IsS55.apart (show IsS55 w0 _ g s0_0 s0_1 s0_2 from by repeat (first | (with_reducible first | exact HI0.out | apply IsS55.alloc | apply IsS55.drewN | apply IsS55.drew | apply IsS55.set_1 | apply IsS55.set_2) | exact HI0.out)) (by (with_reducible repeat (first | apply Kd.R_alloc | apply Kd.R_drewN | apply Kd.R_drew)); exact HO252.out) (by decide)) hk (fun _ h => h.2)) (fun _ h => h.1)); have n1_ := Aside0.mk (KeepBut.trans (by repeat (first | (with_reducible first | exact HK.out | apply KeepBut.set_ | apply keep_drewN | apply keep_drew | apply keep_alloc) | exact HK.out)) hk (.inl rfl)); have n2_ := Aside0.mk (hb); have n3_ := Aside0.mk (hi); clear HO252; clear HK; clear HB; clear HI0; have HO252 := n0_; have HK := n1_; have HB := n2_; have HI0 := n3_; clear n0_ n1_ n2_ n3_; (try clear hb); (try clear hb2); (try clear hk); (try clear hi)))
 (try simp only [Act.put, List.setIfInBounds_toArray, List.set_cons_zero, List.set_cons_succ])
 go_cut [] (fun wc => ∃ (kq : Nat) (x1001_3 : Int) (x1002_3 : Int), Aside0 (spec_l1Cur_scheme5.j0 kq a1 y250 s0_0 x1001_3 x1002_3 = some (r1, r2, r3)) ∧ Aside0 (kq ≤ k) ∧ Aside0 (Kd.R (Kd.int .i64) 3 wc w.heap.size (fun _ => True) v251 y250) ∧ Aside0 (IsS55 w0 wc g s0_0 x1001_3 x1002_3) ∧ Aside0 (KeepBut w wc g none) ∧ Aside0 (Below w0.heap.size w0 wc))
 case first =>
  have H := HC4.out
  clear HC4
  by_cases c8 : t253 = 0
  ·
   rw [if_pos c8] at H
   have c8b0 : (t253 == 0) = true := beq_iff_eq.mpr c8
   have c8b1 : (t253 != 0) = false := bne_eq_false_iff_eq.mpr c8
   clear c8
   (first | rw [c8b0] | (simp only [i64_w, i32_w]; rw [c8b0]) | skip)
   replace H := Option.bind_eq_some_iff.mp H
   obtain ⟨⟨t256, t257, t258⟩, A90, H⟩ := H
   replace H : ((spec_GreedyScheme.f k a1 t256).bind fun bt259 => (if bt259.2 = true then (some (bt259.1, t257, t258)) else (spec_l1Cur_scheme5.j0 k a1 y250 s0_0 t257 t258))) = some (r1, r2, r3) := H
   have A9 := Aside0.mk A90
   clear A90
   replace H := Option.bind_eq_some_iff.mp H
   obtain ⟨⟨t259, t260⟩, A100, H⟩ := H
   replace H : (if t260 = true then (some (t259, t257, t258)) else (spec_l1Cur_scheme5.j0 k a1 y250 s0_0 t257 t258)) = some (r1, r2, r3) := H
   have A10 := Aside0.mk A100
   clear A100
   by_cases c11 : t260 = true
   ·
    subst c11
    have H1 : (some (t259, t257, t258)) = some (r1, r2, r3) := by rw [if_pos rfl] at H; exact H
    clear H
    have H := H1
    clear H1
    simp only [Option.some.injEq, Prod.mk.injEq] at H
    obtain ⟨rfl, rfl, rfl⟩ := H
    go_wp2_with (first | ((with_reducible refine gate_callee (f := 50) rfl ?_); refine goesL_ (some 19) rfl rfl Try.func50 (by kernel_rfl) rfl #[.pointer (some ⟨g, 0, none⟩), .int .i64 3] rfl (by (try simp only [List.map_toArray, List.map_cons, List.map_nil]); first | done | rfl | (simp only [List.length_drop, List.length_take]; rfl)) ?_; (with_reducible refine (spec_l1Cur_pick.calls g s0_0 t254 t255 3 t256 t257 t258 w0 _ ?side1 ?side2 A9.out).mono ?_); (case side1 => repeat (first | (with_reducible first | exact HI0.out | apply IsS55.alloc | apply IsS55.drewN | apply IsS55.drew | apply IsS55.set_1 | apply IsS55.set_2) | exact HI0.out)); (case side2 => repeat (first | (with_reducible first | exact HB.out | apply below_alloc | apply pw_below_drewN | apply below_drew1 | refine below_set ?_ (IsS55.ge HI0.out)) | exact HB.out)); rintro e w12 ⟨rfl, hi, hb, hk⟩; refine ⟨_, rfl, ?_⟩; have n0_ := Aside0.mk (Kd.R_mono (Kd.R_keep (IsS55.apart (show IsS55 w0 _ g s0_0 t254 t255 from by repeat (first | (with_reducible first | exact HI0.out | apply IsS55.alloc | apply IsS55.drewN | apply IsS55.drew | apply IsS55.set_1 | apply IsS55.set_2) | exact HI0.out)) (by (with_reducible repeat (first | apply Kd.R_alloc | apply Kd.R_drewN | apply Kd.R_drew)); exact HO252.out) (by decide)) hk (fun _ h => h.2)) (fun _ h => h.1)); have n1_ := Aside0.mk (KeepBut.trans (by repeat (first | (with_reducible first | exact HK.out | apply KeepBut.set_ | apply keep_drewN | apply keep_drew | apply keep_alloc) | exact HK.out)) hk (.inl rfl)); have n2_ := Aside0.mk (hb); have n3_ := Aside0.mk (hi); clear HO252; clear HK; clear HB; clear HI0; have HO252 := n0_; have HK := n1_; have HB := n2_; have HI0 := n3_; clear n0_ n1_ n2_ n3_; (try clear hb); (try clear hb2); (try clear hk); (try clear hi)) | ((with_reducible refine gate_callee (f := 45) rfl ?_); refine goesL_ (some 20) rfl rfl Try.func45 (by kernel_rfl) rfl #[.int .i64 a1, .int .i64 t256] rfl (by (try simp only [List.map_toArray, List.map_cons, List.map_nil]); first | done | rfl | (simp only [List.length_drop, List.length_take]; rfl)) ?_; (with_reducible refine (spec_GreedyScheme.calls k a1 t256 t259 true _ A10.out).mono ?_); rintro e w13 ⟨v261, rfl, ho0, hb⟩; refine ⟨_, rfl, ?_⟩; have n0_ := Aside0.mk (Kd.R_elder' (by (with_reducible repeat (first | apply Kd.R_alloc | apply Kd.R_drewN | apply Kd.R_drew)); exact HO252.out) (Kd.R_base ho0) hb); have n1_ := Aside0.mk (Kd.R_lower (Kd.R_new' ho0 (Kd.R_lt (by (with_reducible repeat (first | apply Kd.R_alloc | apply Kd.R_drewN | apply Kd.R_drew)); exact HO252.out))) (keep_size (w := w) (g := g) (row := none) (by repeat (first | (with_reducible first | exact HK.out | apply KeepBut.set_ | apply keep_drewN | apply keep_drew | apply keep_alloc) | exact HK.out)))); have n2_ := Aside0.mk (IsS55.below (by repeat (first | (with_reducible first | exact HI0.out | apply IsS55.alloc | apply IsS55.drewN | apply IsS55.drew | apply IsS55.set_1 | apply IsS55.set_2) | exact HI0.out)) hb); have n3_ := Aside0.mk (KeepBut.trans (by repeat (first | (with_reducible first | exact HK.out | apply KeepBut.set_ | apply keep_drewN | apply keep_drew | apply keep_alloc) | exact HK.out)) (KeepBut.of_below hb g none) (.inl rfl)); have n4_ := Aside0.mk (below_step (by repeat (first | (with_reducible first | exact HB.out | apply below_alloc | apply pw_below_drewN | apply below_drew1 | refine below_set ?_ (IsS55.ge HI0.out)) | exact HB.out)) hb); clear HO252; clear HI0; clear HK; clear HB; have HO252 := n0_; have HO262 := n1_; have HI0 := n2_; have HK := n3_; have HB := n4_; clear n0_ n1_ n2_ n3_ n4_; (try clear hb); (try clear hb2); (try clear hk); (try clear hi); (try clear ho0)))
    go_ret
    exact ⟨_, by first | rfl | (simp [errW_none, errW_some] <;> rfl) | (simp [*, errW_none, errW_some] <;> rfl), by (with_reducible repeat (first | apply Kd.R_alloc | apply Kd.R_drewN | apply Kd.R_drew)); exact Kd.R_mono HO262.out (fun _ hk => trivial), by repeat (first | (with_reducible first | exact HI0.out | apply IsS55.alloc | apply IsS55.drewN | apply IsS55.drew | apply IsS55.set_1 | apply IsS55.set_2) | exact HI0.out), by repeat (first | (with_reducible first | exact HB.out | apply below_alloc | apply pw_below_drewN | apply below_drew1 | refine below_set ?_ (IsS55.ge HI0.out)) | exact HB.out), by repeat (first | (with_reducible first | exact HK.out | apply KeepBut.set_ | apply keep_drewN | apply keep_drew | apply keep_alloc) | exact HK.out)⟩
   ·
    replace c11 := Bool.eq_false_iff.mpr c11
    subst c11
    have H1 : (spec_l1Cur_scheme5.j0 k a1 y250 s0_0 t257 t258) = some (r1, r2, r3) := by rw [if_neg (show ¬ (false = true) by decide)] at H; exact H
    clear H
    have H := H1
    clear H1
    have H' := Aside0.mk H
    clear H
    go_wp2_with (first | ((with_reducible refine gate_callee (f := 50) rfl ?_); refine goesL_ (some 19) rfl rfl Try.func50 (by kernel_rfl) rfl #[.pointer (some ⟨g, 0, none⟩), .int .i64 3] rfl (by (try simp only [List.map_toArray, List.map_cons, List.map_nil]); first | done | rfl | (simp only [List.length_drop, List.length_take]; rfl)) ?_; (with_reducible refine (spec_l1Cur_pick.calls g s0_0 t254 t255 3 t256 t257 t258 w0 _ ?side1 ?side2 A9.out).mono ?_); (case side1 => repeat (first | (with_reducible first | exact HI0.out | apply IsS55.alloc | apply IsS55.drewN | apply IsS55.drew | apply IsS55.set_1 | apply IsS55.set_2) | exact HI0.out)); (case side2 => repeat (first | (with_reducible first | exact HB.out | apply below_alloc | apply pw_below_drewN | apply below_drew1 | refine below_set ?_ (IsS55.ge HI0.out)) | exact HB.out)); rintro e w14 ⟨rfl, hi, hb, hk⟩; refine ⟨_, rfl, ?_⟩; have n0_ := Aside0.mk (Kd.R_mono (Kd.R_keep (IsS55.apart (show IsS55 w0 _ g s0_0 t254 t255 from by repeat (first | (with_reducible first | exact HI0.out | apply IsS55.alloc | apply IsS55.drewN | apply IsS55.drew | apply IsS55.set_1 | apply IsS55.set_2) | exact HI0.out)) (by (with_reducible repeat (first | apply Kd.R_alloc | apply Kd.R_drewN | apply Kd.R_drew)); exact HO252.out) (by decide)) hk (fun _ h => h.2)) (fun _ h => h.1)); have n1_ := Aside0.mk (KeepBut.trans (by repeat (first | (with_reducible first | exact HK.out | apply KeepBut.set_ | apply keep_drewN | apply keep_drew | apply keep_alloc) | exact HK.out)) hk (.inl rfl)); have n2_ := Aside0.mk (hb); have n3_ := Aside0.mk (hi); clear HO252; clear HK; clear HB; clear HI0; have HO252 := n0_; have HK := n1_; have HB := n2_; have HI0 := n3_; clear n0_ n1_ n2_ n3_; (try clear hb); (try clear hb2); (try clear hk); (try clear hi)) | ((with_reducible refine gate_callee (f := 45) rfl ?_); refine goesL_ (some 20) rfl rfl Try.func45 (by kernel_rfl) rfl #[.int .i64 a1, .int .i64 t256] rfl (by (try simp only [List.map_toArray, List.map_cons, List.map_nil]); first | done | rfl | (simp only [List.length_drop, List.length_take]; rfl)) ?_; (with_reducible refine (spec_GreedyScheme.calls k a1 t256 t259 false _ A10.out).mono ?_); rintro e w15 ⟨v261, rfl, ho0, hb⟩; refine ⟨_, rfl, ?_⟩; have n0_ := Aside0.mk (Kd.R_elder' (by (with_reducible repeat (first | apply Kd.R_alloc | apply Kd.R_drewN | apply Kd.R_drew)); exact HO252.out) (Kd.R_base ho0) hb); have n1_ := Aside0.mk (Kd.R_lower (Kd.R_new' ho0 (Kd.R_lt (by (with_reducible repeat (first | apply Kd.R_alloc | apply Kd.R_drewN | apply Kd.R_drew)); exact HO252.out))) (keep_size (w := w) (g := g) (row := none) (by repeat (first | (with_reducible first | exact HK.out | apply KeepBut.set_ | apply keep_drewN | apply keep_drew | apply keep_alloc) | exact HK.out)))); have n2_ := Aside0.mk (IsS55.below (by repeat (first | (with_reducible first | exact HI0.out | apply IsS55.alloc | apply IsS55.drewN | apply IsS55.drew | apply IsS55.set_1 | apply IsS55.set_2) | exact HI0.out)) hb); have n3_ := Aside0.mk (KeepBut.trans (by repeat (first | (with_reducible first | exact HK.out | apply KeepBut.set_ | apply keep_drewN | apply keep_drew | apply keep_alloc) | exact HK.out)) (KeepBut.of_below hb g none) (.inl rfl)); have n4_ := Aside0.mk (below_step (by repeat (first | (with_reducible first | exact HB.out | apply below_alloc | apply pw_below_drewN | apply below_drew1 | refine below_set ?_ (IsS55.ge HI0.out)) | exact HB.out)) hb); clear HO252; clear HI0; clear HK; clear HB; have HO252 := n0_; have HO262 := n1_; have HI0 := n2_; have HK := n3_; have HB := n4_; clear n0_ n1_ n2_ n3_ n4_; (try clear hb); (try clear hb2); (try clear hk); (try clear hi); (try clear ho0)))
    go_meet
    case rel => exact ⟨_, (t257), (t258), H', ⟨by first | omega | exact Nat.le_refl _⟩, ⟨by (with_reducible repeat (first | apply Kd.R_alloc | apply Kd.R_drewN | apply Kd.R_drew)); exact Kd.R_mono HO252.out (fun _ hk => trivial)⟩, ⟨by repeat (first | (with_reducible first | exact HI0.out | apply IsS55.alloc | apply IsS55.drewN | apply IsS55.drew | apply IsS55.set_1 | apply IsS55.set_2) | exact HI0.out)⟩, ⟨by repeat (first | (with_reducible first | exact HK.out | apply KeepBut.set_ | apply keep_drewN | apply keep_drew | apply keep_alloc) | exact HK.out)⟩, ⟨by repeat (first | (with_reducible first | exact HB.out | apply below_alloc | apply pw_below_drewN | apply below_drew1 | refine below_set ?_ (IsS55.ge HI0.out)) | exact HB.out)⟩⟩
  ·
   rw [if_neg c8] at H
   have c8b0 : (t253 == 0) = false := beq_eq_false_iff_ne.mpr c8
   have c8b1 : (t253 != 0) = true := bne_iff_ne.mpr c8
   (first | rw [c8b0] | (simp only [i64_w, i32_w]; rw [c8b0]) | skip)
   by_cases c16 : t253 = 1
   ·
    rw [if_pos c16] at H
    have c16b0 : (t253 == 1) = true := beq_iff_eq.mpr c16
    have c16b1 : (t253 != 1) = false := bne_eq_false_iff_eq.mpr c16
    clear c16
    replace H := Option.bind_eq_some_iff.mp H
    obtain ⟨⟨t263, t264⟩, A170, H⟩ := H
    replace H : (if t264 = true then ((spec_l1Cur_one.f s0_0 t254 t255 2).bind fun bt267 => (if bt267.1 = true then ((spec_l1Cur_question.f s0_0 bt267.2.1 bt267.2.2 a1).bind fun bt270 => (if t263.length < 17592186044416 then (some ((t263 ++ [bt270.1]), bt270.2.1, bt270.2.2)) else (none))) else (some (t263, bt267.2.1, bt267.2.2)))) else (spec_l1Cur_scheme5.j0 k a1 y250 s0_0 t254 t255)) = some (r1, r2, r3) := H
    have A17 := Aside0.mk A170
    clear A170
    by_cases c18 : t264 = true
    ·
     subst c18
     have H1 : ((spec_l1Cur_one.f s0_0 t254 t255 2).bind fun bt267 => (if bt267.1 = true then ((spec_l1Cur_question.f s0_0 bt267.2.1 bt267.2.2 a1).bind fun bt270 => (if t263.length < 17592186044416 then (some ((t263 ++ [bt270.1]), bt270.2.1, bt270.2.2)) else (none))) else (some (t263, bt267.2.1, bt267.2.2)))) = some (r1, r2, r3) := by rw [if_pos rfl] at H; exact H
     clear H
     have H := H1
     clear H1
     replace H := Option.bind_eq_some_iff.mp H
     obtain ⟨⟨t267, t268, t269⟩, A190, H⟩ := H
     replace H : (if t267 = true then ((spec_l1Cur_question.f s0_0 t268 t269 a1).bind fun bt270 => (if t263.length < 17592186044416 then (some ((t263 ++ [bt270.1]), bt270.2.1, bt270.2.2)) else (none))) else (some (t263, t268, t269))) = some (r1, r2, r3) := H
     have A19 := Aside0.mk A190
     clear A190
     by_cases c20 : t267 = true
     ·
      subst c20
      have H1 : ((spec_l1Cur_question.f s0_0 t268 t269 a1).bind fun bt270 => (if t263.length < 17592186044416 then (some ((t263 ++ [bt270.1]), bt270.2.1, bt270.2.2)) else (none))) = some (r1, r2, r3) := by rw [if_pos rfl] at H; exact H
      clear H
      have H := H1
      clear H1
      replace H := Option.bind_eq_some_iff.mp H
      obtain ⟨⟨t270, t271, t272⟩, A210, H⟩ := H
      replace H : (if t263.length < 17592186044416 then (some ((t263 ++ [t270]), t271, t272)) else (none)) = some (r1, r2, r3) := H
      have A21 := Aside0.mk A210
      clear A210
      by_cases c22 : t263.length < 17592186044416
      ·
       rw [if_pos c22] at H
       have LMc22 := Aside0.mk c22
       clear c22
       obtain ⟨y273, hy273⟩ : ∃ y_ : List Int, y_ = (t263 ++ [t270]) := ⟨_, rfl⟩
       replace H : (some (y273, t271, t272)) = some (r1, r2, r3) := by first | (rw [hy273]; with_reducible exact H) | (have H2_ := (Option.bind_some _ _).symm.trans H; rw [hy273]; with_reducible exact H2_) | (have H2_ := (Option.bind_some _ _).symm.trans H; with_reducible exact H2_) | with_reducible exact H | (rw [hy273]; exact H) | exact H
       have Ny273 := Aside0.mk hy273
       clear hy273
       simp only [Option.some.injEq, Prod.mk.injEq] at H
       obtain ⟨rfl, rfl, rfl⟩ := H
       go_wp2_with (first | ((with_reducible refine gate_callee (f := 42) rfl ?_); refine goesL_ (some 29) rfl rfl Try.func42 (by kernel_rfl) rfl #[.int .i64 a1] rfl (by (try simp only [List.map_toArray, List.map_cons, List.map_nil]); first | done | rfl | (simp only [List.length_drop, List.length_take]; rfl)) ?_; (with_reducible refine (spec_BitScheme.calls k a1 t263 true _ A17.out).mono ?_); rintro e w23 ⟨v265, rfl, ho0, hb⟩; refine ⟨_, rfl, ?_⟩; have n0_ := Aside0.mk (Kd.R_elder' (by (with_reducible repeat (first | apply Kd.R_alloc | apply Kd.R_drewN | apply Kd.R_drew)); exact HO252.out) (Kd.R_base ho0) hb); have n1_ := Aside0.mk (Kd.R_lower (Kd.R_new' ho0 (Kd.R_lt (by (with_reducible repeat (first | apply Kd.R_alloc | apply Kd.R_drewN | apply Kd.R_drew)); exact HO252.out))) (keep_size (w := w) (g := g) (row := none) (by repeat (first | (with_reducible first | exact HK.out | apply KeepBut.set_ | apply keep_drewN | apply keep_drew | apply keep_alloc) | exact HK.out)))); have n2_ := Aside0.mk (IsS55.below (by repeat (first | (with_reducible first | exact HI0.out | apply IsS55.alloc | apply IsS55.drewN | apply IsS55.drew | apply IsS55.set_1 | apply IsS55.set_2) | exact HI0.out)) hb); have n3_ := Aside0.mk (KeepBut.trans (by repeat (first | (with_reducible first | exact HK.out | apply KeepBut.set_ | apply keep_drewN | apply keep_drew | apply keep_alloc) | exact HK.out)) (KeepBut.of_below hb g none) (.inl rfl)); have n4_ := Aside0.mk (below_step (by repeat (first | (with_reducible first | exact HB.out | apply below_alloc | apply pw_below_drewN | apply below_drew1 | refine below_set ?_ (IsS55.ge HI0.out)) | exact HB.out)) hb); clear HO252; clear HI0; clear HK; clear HB; have HO252 := n0_; have HO266 := n1_; have HI0 := n2_; have HK := n3_; have HB := n4_; clear n0_ n1_ n2_ n3_ n4_; (try clear hb); (try clear hb2); (try clear hk); (try clear hi); (try clear ho0)) | ((with_reducible refine gate_callee (f := 85) rfl ?_); refine goesL_ (some 34) rfl rfl Try.func85 (by kernel_rfl) rfl #[.pointer (some ⟨g, 0, none⟩), .int .i64 2] rfl (by (try simp only [List.map_toArray, List.map_cons, List.map_nil]); first | done | rfl | (simp only [List.length_drop, List.length_take]; rfl)) ?_; (with_reducible refine (spec_l1Cur_one.calls g s0_0 t254 t255 2 true t268 t269 w0 _ ?side1 ?side2 A19.out).mono ?_); (case side1 => repeat (first | (with_reducible first | exact HI0.out | apply IsS55.alloc | apply IsS55.drewN | apply IsS55.drew | apply IsS55.set_1 | apply IsS55.set_2) | exact HI0.out)); (case side2 => repeat (first | (with_reducible first | exact HB.out | apply below_alloc | apply pw_below_drewN | apply below_drew1 | refine below_set ?_ (IsS55.ge HI0.out)) | exact HB.out)); rintro e w24 ⟨rfl, hi, hb, hk⟩; refine ⟨_, rfl, ?_⟩; have n0_ := Aside0.mk (Kd.R_mono (Kd.R_keep (IsS55.apart (show IsS55 w0 _ g s0_0 t254 t255 from by repeat (first | (with_reducible first | exact HI0.out | apply IsS55.alloc | apply IsS55.drewN | apply IsS55.drew | apply IsS55.set_1 | apply IsS55.set_2) | exact HI0.out)) (by (with_reducible repeat (first | apply Kd.R_alloc | apply Kd.R_drewN | apply Kd.R_drew)); exact HO252.out) (by decide)) hk (fun _ h => h.2)) (fun _ h => h.1)); have n1_ := Aside0.mk (Kd.R_mono (Kd.R_keep (IsS55.apart (show IsS55 w0 _ g s0_0 t254 t255 from by repeat (first | (with_reducible first | exact HI0.out | apply IsS55.alloc | apply IsS55.drewN | apply IsS55.drew | apply IsS55.set_1 | apply IsS55.set_2) | exact HI0.out)) (by (with_reducible repeat (first | apply Kd.R_alloc | apply Kd.R_drewN | apply Kd.R_drew)); exact HO266.out) (by decide)) hk (fun _ h => h.2)) (fun _ h => h.1)); have n2_ := Aside0.mk (KeepBut.trans (by repeat (first | (with_reducible first | exact HK.out | apply KeepBut.set_ | apply keep_drewN | apply keep_drew | apply keep_alloc) | exact HK.out)) hk (.inl rfl)); have n3_ := Aside0.mk (hb); have n4_ := Aside0.mk (hi); clear HO252; clear HO266; clear HK; clear HB; clear HI0; have HO252 := n0_; have HO266 := n1_; have HK := n2_; have HB := n3_; have HI0 := n4_; clear n0_ n1_ n2_ n3_ n4_; (try clear hb); (try clear hb2); (try clear hk); (try clear hi)) | ((with_reducible refine gate_callee (f := 90) rfl ?_); refine goesL_ (some 38) rfl rfl Try.func90 (by kernel_rfl) rfl #[.pointer (some ⟨g, 0, none⟩), .int .i64 a1] rfl (by (try simp only [List.map_toArray, List.map_cons, List.map_nil]); first | done | rfl | (simp only [List.length_drop, List.length_take]; rfl)) ?_; (with_reducible refine (spec_l1Cur_question.calls g s0_0 t268 t269 a1 t270 t271 t272 w0 _ ?side1 ?side2 A21.out).mono ?_); (case side1 => repeat (first | (with_reducible first | exact HI0.out | apply IsS55.alloc | apply IsS55.drewN | apply IsS55.drew | apply IsS55.set_1 | apply IsS55.set_2) | exact HI0.out)); (case side2 => repeat (first | (with_reducible first | exact HB.out | apply below_alloc | apply pw_below_drewN | apply below_drew1 | refine below_set ?_ (IsS55.ge HI0.out)) | exact HB.out)); rintro e w25 ⟨rfl, hi, hb, hk⟩; refine ⟨_, rfl, ?_⟩; have n0_ := Aside0.mk (Kd.R_mono (Kd.R_keep (IsS55.apart (show IsS55 w0 _ g s0_0 t268 t269 from by repeat (first | (with_reducible first | exact HI0.out | apply IsS55.alloc | apply IsS55.drewN | apply IsS55.drew | apply IsS55.set_1 | apply IsS55.set_2) | exact HI0.out)) (by (with_reducible repeat (first | apply Kd.R_alloc | apply Kd.R_drewN | apply Kd.R_drew)); exact HO252.out) (by decide)) hk (fun _ h => h.2)) (fun _ h => h.1)); have n1_ := Aside0.mk (Kd.R_mono (Kd.R_keep (IsS55.apart (show IsS55 w0 _ g s0_0 t268 t269 from by repeat (first | (with_reducible first | exact HI0.out | apply IsS55.alloc | apply IsS55.drewN | apply IsS55.drew | apply IsS55.set_1 | apply IsS55.set_2) | exact HI0.out)) (by (with_reducible repeat (first | apply Kd.R_alloc | apply Kd.R_drewN | apply Kd.R_drew)); exact HO266.out) (by decide)) hk (fun _ h => h.2)) (fun _ h => h.1)); have n2_ := Aside0.mk (KeepBut.trans (by repeat (first | (with_reducible first | exact HK.out | apply KeepBut.set_ | apply keep_drewN | apply keep_drew | apply keep_alloc) | exact HK.out)) hk (.inl rfl)); have n3_ := Aside0.mk (hb); have n4_ := Aside0.mk (hi); clear HO252; clear HO266; clear HK; clear HB; clear HI0; have HO252 := n0_; have HO266 := n1_; have HK := n2_; have HB := n3_; have HI0 := n4_; clear n0_ n1_ n2_ n3_ n4_; (try clear hb); (try clear hb2); (try clear hk); (try clear hi)) | ((with_reducible refine gate_builtin (b := .append) (xs := #[.tmp 35, .tmp 39]) rfl ?_); at_builtin; refine Kd.R_append (Kd.int .i64) w.heap.size rfl (.tmp 35) (.tmp 39) 24 3 (.int .i64 0) 8 rfl Try.underlying24 info3 rfl (by decide) (by omega) v265 t263 t270 [.int .i64 t270] (fun k_ => some k_ ≠ (v251 : Value).ownBlock) (fun _ => False) rfl rfl ?aP (fun _ hk => hk.elim) ?aF ?aO (Below.refl _ _) ?aS ?aL ?_; (case aP => exact rfl); (case aF => exact (fun k_ hk => Kd.fresh' (Kd.R_lt (by (with_reducible repeat (first | apply Kd.R_alloc | apply Kd.R_drewN | apply Kd.R_drew)); exact HO252.out)) k_ hk)); (case aO => exact (by (with_reducible repeat (first | apply Kd.R_alloc | apply Kd.R_drewN | apply Kd.R_drew)); exact Kd.R_mono HO266.out (fun _ hk => hk.2))); (case aS => exact (keep_size (w := w) (g := g) (row := none) (by repeat (first | (with_reducible first | exact HK.out | apply KeepBut.set_ | apply keep_drewN | apply keep_drew | apply keep_alloc) | exact HK.out)))); (case aL => have := LMc22.out; omega); intro v274 w26 ho hb hg hat; rw [← Ny273.out] at ho; have n0_ := Aside0.mk (IsS55.grown (by repeat (first | (with_reducible first | exact HI0.out | apply IsS55.alloc | apply IsS55.drewN | apply IsS55.drew | apply IsS55.set_1 | apply IsS55.set_2) | exact HI0.out)) hg (IsS55.own_ne HI0.out HO266.out (by decide))); have n1_ := Aside0.mk (Kd.R_after (ok := (fun _ => True)) (by (with_reducible repeat (first | apply Kd.R_alloc | apply Kd.R_drewN | apply Kd.R_drew)); exact HO252.out) hg hat); have n2_ := Aside0.mk (below_weaken (by repeat (first | (with_reducible first | exact HB.out | apply below_alloc | apply pw_below_drewN | apply below_drew1 | refine below_set ?_ (IsS55.ge HI0.out)) | exact HB.out)) HL.out hb); have n3_ := Aside0.mk (KeepBut.trans (by repeat (first | (with_reducible first | exact HK.out | apply KeepBut.set_ | apply keep_drewN | apply keep_drew | apply keep_alloc) | exact HK.out)) (KeepBut.of_grown hg g) (Kd.R_base2 HO266.out)); have n4_ := Aside0.mk (ho); clear HI0; clear HO252; clear HB; clear HK; clear HO266; have HI0 := n0_; have HO252 := n1_; have HB := n2_; have HK := n3_; have HO275 := n4_; clear n0_ n1_ n2_ n3_ n4_; clear ho hb hg hat))
       go_ret
       exact ⟨_, by first | rfl | (simp [errW_none, errW_some] <;> rfl) | (simp [*, errW_none, errW_some] <;> rfl), by (with_reducible repeat (first | apply Kd.R_alloc | apply Kd.R_drewN | apply Kd.R_drew)); exact Kd.R_mono HO275.out (fun _ hk => trivial), by repeat (first | (with_reducible first | exact HI0.out | apply IsS55.alloc | apply IsS55.drewN | apply IsS55.drew | apply IsS55.set_1 | apply IsS55.set_2) | exact HI0.out), by repeat (first | (with_reducible first | exact HB.out | apply below_alloc | apply pw_below_drewN | apply below_drew1 | refine below_set ?_ (IsS55.ge HI0.out)) | exact HB.out), by repeat (first | (with_reducible first | exact HK.out | apply KeepBut.set_ | apply keep_drewN | apply keep_drew | apply keep_alloc) | exact HK.out)⟩
      ·
       rw [if_neg c22] at H
       exact absurd H (by simp)
     ·
      replace c20 := Bool.eq_false_iff.mpr c20
      subst c20
      have H1 : (some (t263, t268, t269)) = some (r1, r2, r3) := by rw [if_neg (show ¬ (false = true) by decide)] at H; exact H
      clear H
      have H := H1
      clear H1
      simp only [Option.some.injEq, Prod.mk.injEq] at H
      obtain ⟨rfl, rfl, rfl⟩ := H
      go_wp2_with (first | ((with_reducible refine gate_callee (f := 42) rfl ?_); refine goesL_ (some 29) rfl rfl Try.func42 (by kernel_rfl) rfl #[.int .i64 a1] rfl (by (try simp only [List.map_toArray, List.map_cons, List.map_nil]); first | done | rfl | (simp only [List.length_drop, List.length_take]; rfl)) ?_; (with_reducible refine (spec_BitScheme.calls k a1 t263 true _ A17.out).mono ?_); rintro e w27 ⟨v265, rfl, ho0, hb⟩; refine ⟨_, rfl, ?_⟩; have n0_ := Aside0.mk (Kd.R_elder' (by (with_reducible repeat (first | apply Kd.R_alloc | apply Kd.R_drewN | apply Kd.R_drew)); exact HO252.out) (Kd.R_base ho0) hb); have n1_ := Aside0.mk (Kd.R_lower (Kd.R_new' ho0 (Kd.R_lt (by (with_reducible repeat (first | apply Kd.R_alloc | apply Kd.R_drewN | apply Kd.R_drew)); exact HO252.out))) (keep_size (w := w) (g := g) (row := none) (by repeat (first | (with_reducible first | exact HK.out | apply KeepBut.set_ | apply keep_drewN | apply keep_drew | apply keep_alloc) | exact HK.out)))); have n2_ := Aside0.mk (IsS55.below (by repeat (first | (with_reducible first | exact HI0.out | apply IsS55.alloc | apply IsS55.drewN | apply IsS55.drew | apply IsS55.set_1 | apply IsS55.set_2) | exact HI0.out)) hb); have n3_ := Aside0.mk (KeepBut.trans (by repeat (first | (with_reducible first | exact HK.out | apply KeepBut.set_ | apply keep_drewN | apply keep_drew | apply keep_alloc) | exact HK.out)) (KeepBut.of_below hb g none) (.inl rfl)); have n4_ := Aside0.mk (below_step (by repeat (first | (with_reducible first | exact HB.out | apply below_alloc | apply pw_below_drewN | apply below_drew1 | refine below_set ?_ (IsS55.ge HI0.out)) | exact HB.out)) hb); clear HO252; clear HI0; clear HK; clear HB; have HO252 := n0_; have HO266 := n1_; have HI0 := n2_; have HK := n3_; have HB := n4_; clear n0_ n1_ n2_ n3_ n4_; (try clear hb); (try clear hb2); (try clear hk); (try clear hi); (try clear ho0)) | ((with_reducible refine gate_callee (f := 85) rfl ?_); refine goesL_ (some 34) rfl rfl Try.func85 (by kernel_rfl) rfl #[.pointer (some ⟨g, 0, none⟩), .int .i64 2] rfl (by (try simp only [List.map_toArray, List.map_cons, List.map_nil]); first | done | rfl | (simp only [List.length_drop, List.length_take]; rfl)) ?_; (with_reducible refine (spec_l1Cur_one.calls g s0_0 t254 t255 2 false t268 t269 w0 _ ?side1 ?side2 A19.out).mono ?_); (case side1 => repeat (first | (with_reducible first | exact HI0.out | apply IsS55.alloc | apply IsS55.drewN | apply IsS55.drew | apply IsS55.set_1 | apply IsS55.set_2) | exact HI0.out)); (case side2 => repeat (first | (with_reducible first | exact HB.out | apply below_alloc | apply pw_below_drewN | apply below_drew1 | refine below_set ?_ (IsS55.ge HI0.out)) | exact HB.out)); rintro e w28 ⟨rfl, hi, hb, hk⟩; refine ⟨_, rfl, ?_⟩; have n0_ := Aside0.mk (Kd.R_mono (Kd.R_keep (IsS55.apart (show IsS55 w0 _ g s0_0 t254 t255 from by repeat (first | (with_reducible first | exact HI0.out | apply IsS55.alloc | apply IsS55.drewN | apply IsS55.drew | apply IsS55.set_1 | apply IsS55.set_2) | exact HI0.out)) (by (with_reducible repeat (first | apply Kd.R_alloc | apply Kd.R_drewN | apply Kd.R_drew)); exact HO252.out) (by decide)) hk (fun _ h => h.2)) (fun _ h => h.1)); have n1_ := Aside0.mk (Kd.R_mono (Kd.R_keep (IsS55.apart (show IsS55 w0 _ g s0_0 t254 t255 from by repeat (first | (with_reducible first | exact HI0.out | apply IsS55.alloc | apply IsS55.drewN | apply IsS55.drew | apply IsS55.set_1 | apply IsS55.set_2) | exact HI0.out)) (by (with_reducible repeat (first | apply Kd.R_alloc | apply Kd.R_drewN | apply Kd.R_drew)); exact HO266.out) (by decide)) hk (fun _ h => h.2)) (fun _ h => h.1)); have n2_ := Aside0.mk (KeepBut.trans (by repeat (first | (with_reducible first | exact HK.out | apply KeepBut.set_ | apply keep_drewN | apply keep_drew | apply keep_alloc) | exact HK.out)) hk (.inl rfl)); have n3_ := Aside0.mk (hb); have n4_ := Aside0.mk (hi); clear HO252; clear HO266; clear HK; clear HB; clear HI0; have HO252 := n0_; have HO266 := n1_; have HK := n2_; have HB := n3_; have HI0 := n4_; clear n0_ n1_ n2_ n3_ n4_; (try clear hb); (try clear hb2); (try clear hk); (try clear hi)))
      go_ret
      exact ⟨_, by first | rfl | (simp [errW_none, errW_some] <;> rfl) | (simp [*, errW_none, errW_some] <;> rfl), by (with_reducible repeat (first | apply Kd.R_alloc | apply Kd.R_drewN | apply Kd.R_drew)); exact Kd.R_mono HO266.out (fun _ hk => trivial), by repeat (first | (with_reducible first | exact HI0.out | apply IsS55.alloc | apply IsS55.drewN | apply IsS55.drew | apply IsS55.set_1 | apply IsS55.set_2) | exact HI0.out), by repeat (first | (with_reducible first | exact HB.out | apply below_alloc | apply pw_below_drewN | apply below_drew1 | refine below_set ?_ (IsS55.ge HI0.out)) | exact HB.out), by repeat (first | (with_reducible first | exact HK.out | apply KeepBut.set_ | apply keep_drewN | apply keep_drew | apply keep_alloc) | exact HK.out)⟩
    ·
     replace c18 := Bool.eq_false_iff.mpr c18
     subst c18
     have H1 : (spec_l1Cur_scheme5.j0 k a1 y250 s0_0 t254 t255) = some (r1, r2, r3) := by rw [if_neg (show ¬ (false = true) by decide)] at H; exact H
     clear H
     have H := H1
     clear H1
     have H' := Aside0.mk H
     clear H
     go_wp2_with (first | ((with_reducible refine gate_callee (f := 42) rfl ?_); refine goesL_ (some 29) rfl rfl Try.func42 (by kernel_rfl) rfl #[.int .i64 a1] rfl (by (try simp only [List.map_toArray, List.map_cons, List.map_nil]); first | done | rfl | (simp only [List.length_drop, List.length_take]; rfl)) ?_; (with_reducible refine (spec_BitScheme.calls k a1 t263 false _ A17.out).mono ?_); rintro e w29 ⟨v265, rfl, ho0, hb⟩; refine ⟨_, rfl, ?_⟩; have n0_ := Aside0.mk (Kd.R_elder' (by (with_reducible repeat (first | apply Kd.R_alloc | apply Kd.R_drewN | apply Kd.R_drew)); exact HO252.out) (Kd.R_base ho0) hb); have n1_ := Aside0.mk (Kd.R_lower (Kd.R_new' ho0 (Kd.R_lt (by (with_reducible repeat (first | apply Kd.R_alloc | apply Kd.R_drewN | apply Kd.R_drew)); exact HO252.out))) (keep_size (w := w) (g := g) (row := none) (by repeat (first | (with_reducible first | exact HK.out | apply KeepBut.set_ | apply keep_drewN | apply keep_drew | apply keep_alloc) | exact HK.out)))); have n2_ := Aside0.mk (IsS55.below (by repeat (first | (with_reducible first | exact HI0.out | apply IsS55.alloc | apply IsS55.drewN | apply IsS55.drew | apply IsS55.set_1 | apply IsS55.set_2) | exact HI0.out)) hb); have n3_ := Aside0.mk (KeepBut.trans (by repeat (first | (with_reducible first | exact HK.out | apply KeepBut.set_ | apply keep_drewN | apply keep_drew | apply keep_alloc) | exact HK.out)) (KeepBut.of_below hb g none) (.inl rfl)); have n4_ := Aside0.mk (below_step (by repeat (first | (with_reducible first | exact HB.out | apply below_alloc | apply pw_below_drewN | apply below_drew1 | refine below_set ?_ (IsS55.ge HI0.out)) | exact HB.out)) hb); clear HO252; clear HI0; clear HK; clear HB; have HO252 := n0_; have HO266 := n1_; have HI0 := n2_; have HK := n3_; have HB := n4_; clear n0_ n1_ n2_ n3_ n4_; (try clear hb); (try clear hb2); (try clear hk); (try clear hi); (try clear ho0)))
     go_meet
     case rel => exact ⟨_, (t254), (t255), H', ⟨by first | omega | exact Nat.le_refl _⟩, ⟨by (with_reducible repeat (first | apply Kd.R_alloc | apply Kd.R_drewN | apply Kd.R_drew)); exact Kd.R_mono HO252.out (fun _ hk => trivial)⟩, ⟨by repeat (first | (with_reducible first | exact HI0.out | apply IsS55.alloc | apply IsS55.drewN | apply IsS55.drew | apply IsS55.set_1 | apply IsS55.set_2) | exact HI0.out)⟩, ⟨by repeat (first | (with_reducible first | exact HK.out | apply KeepBut.set_ | apply keep_drewN | apply keep_drew | apply keep_alloc) | exact HK.out)⟩, ⟨by repeat (first | (with_reducible first | exact HB.out | apply below_alloc | apply pw_below_drewN | apply below_drew1 | refine below_set ?_ (IsS55.ge HI0.out)) | exact HB.out)⟩⟩
   ·
    rw [if_neg c16] at H
    have c16b0 : (t253 == 1) = false := beq_eq_false_iff_ne.mpr c16
    have c16b1 : (t253 != 1) = true := bne_iff_ne.mpr c16
    have H' := Aside0.mk H
    clear H
    go_wp2
    go_meet
    case rel => exact ⟨_, (t254), (t255), H', ⟨by first | omega | exact Nat.le_refl _⟩, ⟨by (with_reducible repeat (first | apply Kd.R_alloc | apply Kd.R_drewN | apply Kd.R_drew)); exact HO252.out⟩, ⟨by repeat (first | (with_reducible first | exact HI0.out | apply IsS55.alloc | apply IsS55.drewN | apply IsS55.drew | apply IsS55.set_1 | apply IsS55.set_2) | exact HI0.out)⟩, ⟨by repeat (first | (with_reducible first | exact HK.out | apply KeepBut.set_ | apply keep_drewN | apply keep_drew | apply keep_alloc) | exact HK.out)⟩, ⟨by repeat (first | (with_reducible first | exact HB.out | apply below_alloc | apply pw_below_drewN | apply below_drew1 | refine below_set ?_ (IsS55.ge HI0.out)) | exact HB.out)⟩⟩
 case rest =>
  clear HC4
  try clear c1
  try clear c2
  try clear p2
  try clear c4
  try clear c5
  try clear c8
  try clear c8b0
  try clear c8b1
  try clear c9
  try clear c11
  try clear c16
  try clear c16b0
  try clear c16b1
  try clear c18
  try clear c20
  try clear c22
  obtain ⟨kq, x1001_3, x1002_3, HA, HJ3, HO_5, HI0, HK, HB⟩ := hcut
  cases kq with
  | zero => exact absurd HA.out (by simp [spec_l1Cur_scheme5.j0])
  | succ kj3 =>
   have H := HA.out
   clear HA
   simp only [spec_l1Cur_scheme5.j0] at H
   obtain ⟨y276, hy276⟩ : ∃ y_ : List Int, y_ = (([3, 4, 2, 6, 1, 0, 9, 14] : List Int)) := ⟨_, rfl⟩
   replace H : ((spec_l1Cur_among.f s0_0 x1001_3 x1002_3 y276).bind fun bt279 => (spec_l1Cur_scheme5.l0 kj3 a1 y250 bt279.1 s0_0 bt279.2.1 bt279.2.2)) = some (r1, r2, r3) := by first | (rw [hy276]; with_reducible exact H) | (have H2_ := (Option.bind_some _ _).symm.trans H; rw [hy276]; with_reducible exact H2_) | (have H2_ := (Option.bind_some _ _).symm.trans H; with_reducible exact H2_) | with_reducible exact H | (rw [hy276]; exact H) | exact H
   have Ny276 := Aside0.mk hy276
   clear hy276
   replace H := Option.bind_eq_some_iff.mp H
   obtain ⟨⟨t279, t280, t281⟩, A300, H⟩ := H
   replace H : (spec_l1Cur_scheme5.l0 kj3 a1 y250 t279 s0_0 t280 t281) = some (r1, r2, r3) := H
   have A30 := Aside0.mk A300
   clear A300
   have H' := Aside0.mk H
   clear H
   go_wp2_with (first | ((with_reducible refine gate_dst (N := 43) rfl ?_); refine Kd.R_lit (Kd.int .i64) _ 3 ?hg (N := 43) ?hd (xs := ([3, 4, 2, 6, 1, 0, 9, 14] : List Int)) (inner := [.int .i64 3, .int .i64 4, .int .i64 2, .int .i64 6, .int .i64 1, .int .i64 0, .int .i64 9, .int .i64 14]) (ok := fun _ => True) (okp := fun _ => True) ?hr ?hp (fun _ hk => hk) trivial (Below.refl _ _) (Nat.le_refl _) (by simp) ?_; (case hd => rfl); (case hg => rfl); (case hr => first | (go_simp; done) | (go_simp; rfl)); (case hp => exact (Reps.one (show Kd.M (Kd.int .i64) _ _ _ 3 [.int .i64 3] from rfl) (Reps.one (show Kd.M (Kd.int .i64) _ _ _ 4 [.int .i64 4] from rfl) (Reps.one (show Kd.M (Kd.int .i64) _ _ _ 2 [.int .i64 2] from rfl) (Reps.one (show Kd.M (Kd.int .i64) _ _ _ 6 [.int .i64 6] from rfl) (Reps.one (show Kd.M (Kd.int .i64) _ _ _ 1 [.int .i64 1] from rfl) (Reps.one (show Kd.M (Kd.int .i64) _ _ _ 0 [.int .i64 0] from rfl) (Reps.one (show Kd.M (Kd.int .i64) _ _ _ 9 [.int .i64 9] from rfl) (Reps.one (show Kd.M (Kd.int .i64) _ _ _ 14 [.int .i64 14] from rfl) (Reps.none _ _)))))))))); intro v277 w31 ho32 hb hg_ hnew_; clear hg_ hnew_; (first | rw [← Ny276.out] at ho32 | (simp only [Int.reduceToNat] at ho32; rw [← Ny276.out] at ho32)); have n0_ := Aside0.mk (Kd.R_elder' (by (with_reducible repeat (first | apply Kd.R_alloc | apply Kd.R_drewN | apply Kd.R_drew)); exact HO_5.out) (Kd.R_base ho32) hb); have n1_ := Aside0.mk (Kd.R_lower (Kd.R_new' ho32 (Kd.R_lt (by (with_reducible repeat (first | apply Kd.R_alloc | apply Kd.R_drewN | apply Kd.R_drew)); exact HO_5.out))) (keep_size (w := w) (g := g) (row := none) (by repeat (first | (with_reducible first | exact HK.out | apply KeepBut.set_ | apply keep_drewN | apply keep_drew | apply keep_alloc) | exact HK.out)))); have n2_ := Aside0.mk (IsS55.below (by repeat (first | (with_reducible first | exact HI0.out | apply IsS55.alloc | apply IsS55.drewN | apply IsS55.drew | apply IsS55.set_1 | apply IsS55.set_2) | exact HI0.out)) hb); have n3_ := Aside0.mk (KeepBut.trans (by repeat (first | (with_reducible first | exact HK.out | apply KeepBut.set_ | apply keep_drewN | apply keep_drew | apply keep_alloc) | exact HK.out)) (KeepBut.of_below hb g none) (.inl rfl)); have n4_ := Aside0.mk (below_step (by repeat (first | (with_reducible first | exact HB.out | apply below_alloc | apply pw_below_drewN | apply below_drew1 | refine below_set ?_ (IsS55.ge HI0.out)) | exact HB.out)) hb); clear HO_5; clear HI0; clear HK; clear HB; have HO_5 := n0_; have HO278 := n1_; have HI0 := n2_; have HK := n3_; have HB := n4_; clear n0_ n1_ n2_ n3_ n4_; clear hb ho32; obtain ⟨Ao33, co33, eo33⟩ := Kd.R_slice HO278.out; subst eo33) | ((with_reducible refine gate_callee (f := 61) rfl ?_); refine goesL_ (some 44) rfl rfl Try.func61 (by kernel_rfl) rfl #[.pointer (some ⟨g, 0, none⟩), .slice Ao33 y276.length co33] rfl (by (try simp only [List.map_toArray, List.map_cons, List.map_nil]); first | done | rfl | (simp only [List.length_drop, List.length_take]; rfl)) ?_; (with_reducible refine (spec_l1Cur_among.calls g s0_0 x1001_3 x1002_3 _ _ y276 t279 t280 t281 w0 _ ?side1 ?side2 ?side3 ?side4 ?side5 A30.out).mono ?_); (case side1 => repeat (first | (with_reducible first | exact HI0.out | apply IsS55.alloc | apply IsS55.drewN | apply IsS55.drew | apply IsS55.set_1 | apply IsS55.set_2) | exact HI0.out)); (case side2 => repeat (first | (with_reducible first | exact HB.out | apply below_alloc | apply pw_below_drewN | apply below_drew1 | refine below_set ?_ (IsS55.ge HI0.out)) | exact HB.out)); (case side3 => repeat (first | exact (Kd.R_reads' HO278.out).2.2 | (with_reducible refine Kd.C_alloc ?_ _) | (with_reducible refine Kd.C_drewN ?_ _) | (with_reducible refine Kd.C_drew ?_))); (case side4 => exact (Kd.R_reads' HO278.out).2.1); (case side5 => exact far_slice (IsS55.own_ne HI0.out HO278.out (by decide))); rintro e w34 ⟨rfl, hi, hb, hk⟩; refine ⟨_, rfl, ?_⟩; have n0_ := Aside0.mk (Kd.R_mono (Kd.R_keep (IsS55.apart (show IsS55 w0 _ g s0_0 x1001_3 x1002_3 from by repeat (first | (with_reducible first | exact HI0.out | apply IsS55.alloc | apply IsS55.drewN | apply IsS55.drew | apply IsS55.set_1 | apply IsS55.set_2) | exact HI0.out)) (by (with_reducible repeat (first | apply Kd.R_alloc | apply Kd.R_drewN | apply Kd.R_drew)); exact HO_5.out) (by decide)) hk (fun _ h => h.2)) (fun _ h => h.1)); have n1_ := Aside0.mk (Kd.R_mono (Kd.R_keep (IsS55.apart (show IsS55 w0 _ g s0_0 x1001_3 x1002_3 from by repeat (first | (with_reducible first | exact HI0.out | apply IsS55.alloc | apply IsS55.drewN | apply IsS55.drew | apply IsS55.set_1 | apply IsS55.set_2) | exact HI0.out)) (by (with_reducible repeat (first | apply Kd.R_alloc | apply Kd.R_drewN | apply Kd.R_drew)); exact HO278.out) (by decide)) hk (fun _ h => h.2)) (fun _ h => h.1)); have n2_ := Aside0.mk (KeepBut.trans (by repeat (first | (with_reducible first | exact HK.out | apply KeepBut.set_ | apply keep_drewN | apply keep_drew | apply keep_alloc) | exact HK.out)) hk (.inl rfl)); have n3_ := Aside0.mk (hb); have n4_ := Aside0.mk (hi); clear HO_5; clear HO278; clear HK; clear HB; clear HI0; have HO_5 := n0_; have HO278 := n1_; have HK := n2_; have HB := n3_; have HI0 := n4_; clear n0_ n1_ n2_ n3_ n4_; (try clear hb); (try clear hb2); (try clear hk); (try clear hi)))
   go_loopg [5, 10] kj3 (fun kq v5 v10 w' => ∃ (x5_2 : List Int) (x10_2 : Int) (x1001_2 : Int) (x1002_2 : Int), v10 = .int .i64 x10_2 ∧ Aside0 (spec_l1Cur_scheme5.l0 kq a1 x5_2 x10_2 s0_0 x1001_2 x1002_2 = some (r1, r2, r3)) ∧ Aside0 (kq ≤ kj3) ∧ Aside0 (Kd.R (Kd.int .i64) 3 w' w.heap.size (fun _ => True) v5 x5_2) ∧ Aside0 (IsS55 w0 w' g s0_0 x1001_2 x1002_2) ∧ Aside0 (KeepBut w w' g none) ∧ Aside0 (Below w0.heap.size w0 w'))
   case atStart => exact ⟨(y250), (t279), (t280), (t281), (by first | rfl | (simp; done) | (simp [*]; done)), H', ⟨Nat.le_refl _⟩, ⟨by (with_reducible repeat (first | apply Kd.R_alloc | apply Kd.R_drewN | apply Kd.R_drew)); exact Kd.R_mono HO_5.out (fun _ hk => trivial)⟩, ⟨by repeat (first | (with_reducible first | exact HI0.out | apply IsS55.alloc | apply IsS55.drewN | apply IsS55.drew | apply IsS55.set_1 | apply IsS55.set_2) | exact HI0.out)⟩, ⟨by repeat (first | (with_reducible first | exact HK.out | apply KeepBut.set_ | apply keep_drewN | apply keep_drew | apply keep_alloc) | exact HK.out)⟩, ⟨by repeat (first | (with_reducible first | exact HB.out | apply below_alloc | apply pw_below_drewN | apply below_drew1 | refine below_set ?_ (IsS55.ge HI0.out)) | exact HB.out)⟩⟩
   case round =>
    clear H'
    try clear c1
    try clear c2
    try clear p2
    try clear c4
    try clear c5
    try clear c6
    try clear c8
    try clear c8b0
    try clear c8b1
    try clear c9
    try clear c11
    try clear c16
    try clear c16b0
    try clear c16b1
    try clear c18
    try clear c20
    try clear c22
    try clear p2
    obtain ⟨x5_2, x10_2, x1001_2, x1002_2, rfl, HA, HK2, HO_5, HI0, HK, HB⟩ := hrel
    cases gk with
    | zero => exact absurd HA.out (by simp [spec_l1Cur_scheme5.l0])
    | succ k2 =>
     have H := HA.out
     clear HA
     simp only [spec_l1Cur_scheme5.l0] at H
     by_cases c35 : x10_2 > 0
     ·
      rw [if_pos c35] at H
      have c35b0 : decide (0 < x10_2) = true := decide_eq_true c35
      clear c35
      replace H := Option.bind_eq_some_iff.mp H
      obtain ⟨⟨t282, t283, t284⟩, A360, H⟩ := H
      replace H : (if x5_2.length < 17592186044416 then (spec_l1Cur_scheme5.l0 k2 a1 (x5_2 ++ [t282]) (wrap64 (x10_2 - 1)) s0_0 t283 t284) else (none)) = some (r1, r2, r3) := H
      have A36 := Aside0.mk A360
      clear A360
      by_cases c37 : x5_2.length < 17592186044416
      ·
       rw [if_pos c37] at H
       have LMc37 := Aside0.mk c37
       clear c37
       obtain ⟨y285, hy285⟩ : ∃ y_ : List Int, y_ = (x5_2 ++ [t282]) := ⟨_, rfl⟩
       replace H : (spec_l1Cur_scheme5.l0 k2 a1 y285 (wrap64 (x10_2 - 1)) s0_0 t283 t284) = some (r1, r2, r3) := by first | (rw [hy285]; with_reducible exact H) | (have H2_ := (Option.bind_some _ _).symm.trans H; rw [hy285]; with_reducible exact H2_) | (have H2_ := (Option.bind_some _ _).symm.trans H; with_reducible exact H2_) | with_reducible exact H | (rw [hy285]; exact H) | exact H
       have Ny285 := Aside0.mk hy285
       clear hy285
       have H' := Aside0.mk H
       clear H
       go_wp2_with (first | ((with_reducible refine gate_callee (f := 90) rfl ?_); refine goesL_ (some 52) rfl rfl Try.func90 (by kernel_rfl) rfl #[.pointer (some ⟨g, 0, none⟩), .int .i64 a1] rfl (by (try simp only [List.map_toArray, List.map_cons, List.map_nil]); first | done | rfl | (simp only [List.length_drop, List.length_take]; rfl)) ?_; (with_reducible refine (spec_l1Cur_question.calls g s0_0 x1001_2 x1002_2 a1 t282 t283 t284 w0 _ ?side1 ?side2 A36.out).mono ?_); (case side1 => repeat (first | (with_reducible first | exact HI0.out | apply IsS55.alloc | apply IsS55.drewN | apply IsS55.drew | apply IsS55.set_1 | apply IsS55.set_2) | exact HI0.out)); (case side2 => repeat (first | (with_reducible first | exact HB.out | apply below_alloc | apply pw_below_drewN | apply below_drew1 | refine below_set ?_ (IsS55.ge HI0.out)) | exact HB.out)); rintro e w38 ⟨rfl, hi, hb, hk⟩; refine ⟨_, rfl, ?_⟩; have n0_ := Aside0.mk (Kd.R_mono (Kd.R_keep (IsS55.apart (show IsS55 w0 _ g s0_0 x1001_2 x1002_2 from by repeat (first | (with_reducible first | exact HI0.out | apply IsS55.alloc | apply IsS55.drewN | apply IsS55.drew | apply IsS55.set_1 | apply IsS55.set_2) | exact HI0.out)) (by (with_reducible repeat (first | apply Kd.R_alloc | apply Kd.R_drewN | apply Kd.R_drew)); exact HO_5.out) (by decide)) hk (fun _ h => h.2)) (fun _ h => h.1)); have n1_ := Aside0.mk (KeepBut.trans (by repeat (first | (with_reducible first | exact HK.out | apply KeepBut.set_ | apply keep_drewN | apply keep_drew | apply keep_alloc) | exact HK.out)) hk (.inl rfl)); have n2_ := Aside0.mk (hb); have n3_ := Aside0.mk (hi); clear HO_5; clear HK; clear HB; clear HI0; have HO_5 := n0_; have HK := n1_; have HB := n2_; have HI0 := n3_; clear n0_ n1_ n2_ n3_; (try clear hb); (try clear hb2); (try clear hk); (try clear hi)) | ((with_reducible refine gate_builtin (b := .append) (xs := #[.tmp 49, .tmp 53]) rfl ?_); at_builtin; refine Kd.R_append (Kd.int .i64) w.heap.size rfl (.tmp 49) (.tmp 53) 24 3 (.int .i64 0) 8 rfl Try.underlying24 info3 rfl (by decide) (by omega) u5 x5_2 t282 [.int .i64 t282] (fun _ => True) (fun _ => False) rfl rfl ?aP (fun _ hk => hk.elim) ?aF ?aO (Below.refl _ _) ?aS ?aL ?_; (case aP => exact rfl); (case aF => exact (fun _ _ => trivial)); (case aO => exact (by (with_reducible repeat (first | apply Kd.R_alloc | apply Kd.R_drewN | apply Kd.R_drew)); exact HO_5.out)); (case aS => exact (keep_size (w := w) (g := g) (row := none) (by repeat (first | (with_reducible first | exact HK.out | apply KeepBut.set_ | apply keep_drewN | apply keep_drew | apply keep_alloc) | exact HK.out)))); (case aL => have := LMc37.out; omega); intro v286 w39 ho hb hg hat; rw [← Ny285.out] at ho; have n0_ := Aside0.mk (IsS55.grown (by repeat (first | (with_reducible first | exact HI0.out | apply IsS55.alloc | apply IsS55.drewN | apply IsS55.drew | apply IsS55.set_1 | apply IsS55.set_2) | exact HI0.out)) hg (IsS55.own_ne HI0.out HO_5.out (by decide))); have n1_ := Aside0.mk (below_weaken (by repeat (first | (with_reducible first | exact HB.out | apply below_alloc | apply pw_below_drewN | apply below_drew1 | refine below_set ?_ (IsS55.ge HI0.out)) | exact HB.out)) HL.out hb); have n2_ := Aside0.mk (KeepBut.trans (by repeat (first | (with_reducible first | exact HK.out | apply KeepBut.set_ | apply keep_drewN | apply keep_drew | apply keep_alloc) | exact HK.out)) (KeepBut.of_grown hg g) (Kd.R_base2 HO_5.out)); have n3_ := Aside0.mk (ho); clear HI0; clear HB; clear HK; clear HO_5; have HI0 := n0_; have HB := n1_; have HK := n2_; have HO287 := n3_; clear n0_ n1_ n2_ n3_; clear ho hb hg hat))
       go_roundg k2
       case measure => have := HJ3.out; have := HK2.out; omega
       case rel => exact ⟨(y285), (wrap64 (x10_2 - 1)), (t283), (t284), (by first | rfl | (simp; done) | (simp [*]; done)), H', ⟨by have := HJ3.out; have := HK2.out; omega⟩, ⟨by (with_reducible repeat (first | apply Kd.R_alloc | apply Kd.R_drewN | apply Kd.R_drew)); exact HO287.out⟩, ⟨by repeat (first | (with_reducible first | exact HI0.out | apply IsS55.alloc | apply IsS55.drewN | apply IsS55.drew | apply IsS55.set_1 | apply IsS55.set_2) | exact HI0.out)⟩, ⟨by repeat (first | (with_reducible first | exact HK.out | apply KeepBut.set_ | apply keep_drewN | apply keep_drew | apply keep_alloc) | exact HK.out)⟩, ⟨by repeat (first | (with_reducible first | exact HB.out | apply below_alloc | apply pw_below_drewN | apply below_drew1 | refine below_set ?_ (IsS55.ge HI0.out)) | exact HB.out)⟩⟩
      ·
       rw [if_neg c37] at H
       exact absurd H (by simp)
     ·
      rw [if_neg c35] at H
      have c35b0 : decide (0 < x10_2) = false := decide_eq_false c35
      clear c35
      replace H := Option.bind_eq_some_iff.mp H
      obtain ⟨⟨t288, t289, t290⟩, A400, H⟩ := H
      replace H : (if t288 = true then (spec_l1Cur_scheme5.l1 k2 x5_2 s0_0 t289 t290) else (some (x5_2, t289, t290))) = some (r1, r2, r3) := H
      have A40 := Aside0.mk A400
      clear A400
      by_cases c41 : t288 = true
      ·
       subst c41
       have H1 : (spec_l1Cur_scheme5.l1 k2 x5_2 s0_0 t289 t290) = some (r1, r2, r3) := by rw [if_pos rfl] at H; exact H
       clear H
       have H := H1
       clear H1
       have H' := Aside0.mk H
       clear H
       go_wp2_with (first | ((with_reducible refine gate_callee (f := 85) rfl ?_); refine goesL_ (some 56) rfl rfl Try.func85 (by kernel_rfl) rfl #[.pointer (some ⟨g, 0, none⟩), .int .i64 40] rfl (by (try simp only [List.map_toArray, List.map_cons, List.map_nil]); first | done | rfl | (simp only [List.length_drop, List.length_take]; rfl)) ?_; (with_reducible refine (spec_l1Cur_one.calls g s0_0 x1001_2 x1002_2 40 true t289 t290 w0 _ ?side1 ?side2 A40.out).mono ?_); (case side1 => repeat (first | (with_reducible first | exact HI0.out | apply IsS55.alloc | apply IsS55.drewN | apply IsS55.drew | apply IsS55.set_1 | apply IsS55.set_2) | exact HI0.out)); (case side2 => repeat (first | (with_reducible first | exact HB.out | apply below_alloc | apply pw_below_drewN | apply below_drew1 | refine below_set ?_ (IsS55.ge HI0.out)) | exact HB.out)); rintro e w42 ⟨rfl, hi, hb, hk⟩; refine ⟨_, rfl, ?_⟩; have n0_ := Aside0.mk (Kd.R_mono (Kd.R_keep (IsS55.apart (show IsS55 w0 _ g s0_0 x1001_2 x1002_2 from by repeat (first | (with_reducible first | exact HI0.out | apply IsS55.alloc | apply IsS55.drewN | apply IsS55.drew | apply IsS55.set_1 | apply IsS55.set_2) | exact HI0.out)) (by (with_reducible repeat (first | apply Kd.R_alloc | apply Kd.R_drewN | apply Kd.R_drew)); exact HO_5.out) (by decide)) hk (fun _ h => h.2)) (fun _ h => h.1)); have n1_ := Aside0.mk (KeepBut.trans (by repeat (first | (with_reducible first | exact HK.out | apply KeepBut.set_ | apply keep_drewN | apply keep_drew | apply keep_alloc) | exact HK.out)) hk (.inl rfl)); have n2_ := Aside0.mk (hb); have n3_ := Aside0.mk (hi); clear HO_5; clear HK; clear HB; clear HI0; have HO_5 := n0_; have HK := n1_; have HB := n2_; have HI0 := n3_; clear n0_ n1_ n2_ n3_; (try clear hb); (try clear hb2); (try clear hk); (try clear hi)))
       (try simp only [Act.put, List.setIfInBounds_toArray, List.set_cons_zero, List.set_cons_succ])
       go_loopg [5] k2 (fun kq v5 w' => ∃ (x5_3 : List Int), Aside0 (spec_l1Cur_scheme5.l1 kq x5_3 s0_0 t289 t290 = some (r1, r2, r3)) ∧ Aside0 (kq ≤ k2) ∧ Aside0 (Kd.R (Kd.int .i64) 3 w' w.heap.size (fun _ => True) v5 x5_3) ∧ Aside0 (IsS55 w0 w' g s0_0 t289 t290) ∧ Aside0 (KeepBut w w' g none) ∧ Aside0 (Below w0.heap.size w0 w'))
       case atStart => exact ⟨(x5_2), H', ⟨Nat.le_refl _⟩, ⟨by (with_reducible repeat (first | apply Kd.R_alloc | apply Kd.R_drewN | apply Kd.R_drew)); exact HO_5.out⟩, ⟨by repeat (first | (with_reducible first | exact HI0.out | apply IsS55.alloc | apply IsS55.drewN | apply IsS55.drew | apply IsS55.set_1 | apply IsS55.set_2) | exact HI0.out)⟩, ⟨by repeat (first | (with_reducible first | exact HK.out | apply KeepBut.set_ | apply keep_drewN | apply keep_drew | apply keep_alloc) | exact HK.out)⟩, ⟨by repeat (first | (with_reducible first | exact HB.out | apply below_alloc | apply pw_below_drewN | apply below_drew1 | refine below_set ?_ (IsS55.ge HI0.out)) | exact HB.out)⟩⟩
       case round =>
        clear H'
        try clear c1
        try clear c2
        try clear p2
        try clear c3
        try clear c4
        try clear c5
        try clear c6
        try clear p6
        try clear c8
        try clear c8b0
        try clear c8b1
        try clear c9
        try clear c11
        try clear c16
        try clear c16b0
        try clear c16b1
        try clear c18
        try clear c20
        try clear c22
        try clear c35
        try clear c35b0
        try clear c37
        try clear c41
        try clear c42
        try clear p2
        obtain ⟨x5_3, HA, HK3, HO_5, HI0, HK, HB⟩ := hrel
        cases gk with
        | zero => exact absurd HA.out (by simp [spec_l1Cur_scheme5.l1])
        | succ k3 =>
         have H := HA.out
         clear HA
         simp only [spec_l1Cur_scheme5.l1] at H
         by_cases c43 : (x5_3.length : Int) < 15
         ·
          rw [if_pos c43] at H
          have c43b0 : decide ((x5_3.length : Int) < 15) = true := decide_eq_true c43
          have c43b1 : decide (x5_3.length < 15) = true := decide_eq_true (by omega)
          clear c43
          by_cases c44 : x5_3.length < 17592186044416
          ·
           rw [if_pos c44] at H
           have LMc44 := Aside0.mk c44
           clear c44
           obtain ⟨y291, hy291⟩ : ∃ y_ : List Int, y_ = (x5_3 ++ [1]) := ⟨_, rfl⟩
           replace H : (spec_l1Cur_scheme5.l1 k3 y291 s0_0 t289 t290) = some (r1, r2, r3) := by first | (rw [hy291]; with_reducible exact H) | (have H2_ := (Option.bind_some _ _).symm.trans H; rw [hy291]; with_reducible exact H2_) | (have H2_ := (Option.bind_some _ _).symm.trans H; with_reducible exact H2_) | with_reducible exact H | (rw [hy291]; exact H) | exact H
           have Ny291 := Aside0.mk hy291
           clear hy291
           have H' := Aside0.mk H
           clear H
           obtain ⟨Ao45, co45, eo45⟩ := Kd.R_slice HO_5.out
           subst eo45
           go_wp2_with (first | ((with_reducible refine gate_builtin (b := .append) (xs := #[.tmp 60, .tmp 61]) rfl ?_); at_builtin; refine Kd.R_append (Kd.int .i64) w.heap.size rfl (.tmp 60) (.tmp 61) 24 3 (.int .i64 0) 8 rfl Try.underlying24 info3 rfl (by decide) (by omega) (.slice Ao45 x5_3.length co45) x5_3 1 [.int .i64 1] (fun _ => True) (fun _ => False) rfl rfl ?aP (fun _ hk => hk.elim) ?aF ?aO (Below.refl _ _) ?aS ?aL ?_; (case aP => exact rfl); (case aF => exact (fun _ _ => trivial)); (case aO => exact (by (with_reducible repeat (first | apply Kd.R_alloc | apply Kd.R_drewN | apply Kd.R_drew)); exact HO_5.out)); (case aS => exact (keep_size (w := w) (g := g) (row := none) (by repeat (first | (with_reducible first | exact HK.out | apply KeepBut.set_ | apply keep_drewN | apply keep_drew | apply keep_alloc) | exact HK.out)))); (case aL => have := LMc44.out; omega); intro v292 w46 ho hb hg hat; rw [← Ny291.out] at ho; have n0_ := Aside0.mk (IsS55.grown (by repeat (first | (with_reducible first | exact HI0.out | apply IsS55.alloc | apply IsS55.drewN | apply IsS55.drew | apply IsS55.set_1 | apply IsS55.set_2) | exact HI0.out)) hg (IsS55.own_ne HI0.out HO_5.out (by decide))); have n1_ := Aside0.mk (below_weaken (by repeat (first | (with_reducible first | exact HB.out | apply below_alloc | apply pw_below_drewN | apply below_drew1 | refine below_set ?_ (IsS55.ge HI0.out)) | exact HB.out)) HL.out hb); have n2_ := Aside0.mk (KeepBut.trans (by repeat (first | (with_reducible first | exact HK.out | apply KeepBut.set_ | apply keep_drewN | apply keep_drew | apply keep_alloc) | exact HK.out)) (KeepBut.of_grown hg g) (Kd.R_base2 HO_5.out)); have n3_ := Aside0.mk (ho); clear HI0; clear HB; clear HK; clear HO_5; have HI0 := n0_; have HB := n1_; have HK := n2_; have HO293 := n3_; clear n0_ n1_ n2_ n3_; clear ho hb hg hat))
           go_roundg k3
           case measure => have := HJ3.out; have := HK2.out; have := HK3.out; omega
           case rel => exact ⟨(y291), H', ⟨by have := HJ3.out; have := HK2.out; have := HK3.out; omega⟩, ⟨by (with_reducible repeat (first | apply Kd.R_alloc | apply Kd.R_drewN | apply Kd.R_drew)); exact HO293.out⟩, ⟨by repeat (first | (with_reducible first | exact HI0.out | apply IsS55.alloc | apply IsS55.drewN | apply IsS55.drew | apply IsS55.set_1 | apply IsS55.set_2) | exact HI0.out)⟩, ⟨by repeat (first | (with_reducible first | exact HK.out | apply KeepBut.set_ | apply keep_drewN | apply keep_drew | apply keep_alloc) | exact HK.out)⟩, ⟨by repeat (first | (with_reducible first | exact HB.out | apply below_alloc | apply pw_below_drewN | apply below_drew1 | refine below_set ?_ (IsS55.ge HI0.out)) | exact HB.out)⟩⟩
          ·
           rw [if_neg c44] at H
           exact absurd H (by simp)
         ·
          rw [if_neg c43] at H
          have c43b0 : decide ((x5_3.length : Int) < 15) = false := decide_eq_false c43
          have c43b1 : decide (x5_3.length < 15) = false := decide_eq_false (by omega)
          clear c43
          simp only [Option.some.injEq, Prod.mk.injEq] at H
          obtain ⟨rfl, rfl, rfl⟩ := H
          obtain ⟨Ao47, co47, eo47⟩ := Kd.R_slice HO_5.out
          subst eo47
          go_wp2
          go_ret
          exact ⟨_, by first | rfl | (simp [errW_none, errW_some] <;> rfl) | (simp [*, errW_none, errW_some] <;> rfl), by (with_reducible repeat (first | apply Kd.R_alloc | apply Kd.R_drewN | apply Kd.R_drew)); exact HO_5.out, by repeat (first | (with_reducible first | exact HI0.out | apply IsS55.alloc | apply IsS55.drewN | apply IsS55.drew | apply IsS55.set_1 | apply IsS55.set_2) | exact HI0.out), by repeat (first | (with_reducible first | exact HB.out | apply below_alloc | apply pw_below_drewN | apply below_drew1 | refine below_set ?_ (IsS55.ge HI0.out)) | exact HB.out), by repeat (first | (with_reducible first | exact HK.out | apply KeepBut.set_ | apply keep_drewN | apply keep_drew | apply keep_alloc) | exact HK.out)⟩
      ·
       replace c41 := Bool.eq_false_iff.mpr c41
       subst c41
       have H1 : (some (x5_2, t289, t290)) = some (r1, r2, r3) := by rw [if_neg (show ¬ (false = true) by decide)] at H; exact H
       clear H
       have H := H1
       clear H1
       simp only [Option.some.injEq, Prod.mk.injEq] at H
       obtain ⟨rfl, rfl, rfl⟩ := H
       go_wp2_with (first | ((with_reducible refine gate_callee (f := 85) rfl ?_); refine goesL_ (some 56) rfl rfl Try.func85 (by kernel_rfl) rfl #[.pointer (some ⟨g, 0, none⟩), .int .i64 40] rfl (by (try simp only [List.map_toArray, List.map_cons, List.map_nil]); first | done | rfl | (simp only [List.length_drop, List.length_take]; rfl)) ?_; (with_reducible refine (spec_l1Cur_one.calls g s0_0 x1001_2 x1002_2 40 false t289 t290 w0 _ ?side1 ?side2 A40.out).mono ?_); (case side1 => repeat (first | (with_reducible first | exact HI0.out | apply IsS55.alloc | apply IsS55.drewN | apply IsS55.drew | apply IsS55.set_1 | apply IsS55.set_2) | exact HI0.out)); (case side2 => repeat (first | (with_reducible first | exact HB.out | apply below_alloc | apply pw_below_drewN | apply below_drew1 | refine below_set ?_ (IsS55.ge HI0.out)) | exact HB.out)); rintro e w48 ⟨rfl, hi, hb, hk⟩; refine ⟨_, rfl, ?_⟩; have n0_ := Aside0.mk (Kd.R_mono (Kd.R_keep (IsS55.apart (show IsS55 w0 _ g s0_0 x1001_2 x1002_2 from by repeat (first | (with_reducible first | exact HI0.out | apply IsS55.alloc | apply IsS55.drewN | apply IsS55.drew | apply IsS55.set_1 | apply IsS55.set_2) | exact HI0.out)) (by (with_reducible repeat (first | apply Kd.R_alloc | apply Kd.R_drewN | apply Kd.R_drew)); exact HO_5.out) (by decide)) hk (fun _ h => h.2)) (fun _ h => h.1)); have n1_ := Aside0.mk (KeepBut.trans (by repeat (first | (with_reducible first | exact HK.out | apply KeepBut.set_ | apply keep_drewN | apply keep_drew | apply keep_alloc) | exact HK.out)) hk (.inl rfl)); have n2_ := Aside0.mk (hb); have n3_ := Aside0.mk (hi); clear HO_5; clear HK; clear HB; clear HI0; have HO_5 := n0_; have HK := n1_; have HB := n2_; have HI0 := n3_; clear n0_ n1_ n2_ n3_; (try clear hb); (try clear hb2); (try clear hk); (try clear hi)))
       go_ret
       exact ⟨_, by first | rfl | (simp [errW_none, errW_some] <;> rfl) | (simp [*, errW_none, errW_some] <;> rfl), by (with_reducible repeat (first | apply Kd.R_alloc | apply Kd.R_drewN | apply Kd.R_drew)); exact HO_5.out, by repeat (first | (with_reducible first | exact HI0.out | apply IsS55.alloc | apply IsS55.drewN | apply IsS55.drew | apply IsS55.set_1 | apply IsS55.set_2) | exact HI0.out), by repeat (first | (with_reducible first | exact HB.out | apply below_alloc | apply pw_below_drewN | apply below_drew1 | refine below_set ?_ (IsS55.ge HI0.out)) | exact HB.out), by repeat (first | (with_reducible first | exact HK.out | apply KeepBut.set_ | apply keep_drewN | apply keep_drew | apply keep_alloc) | exact HK.out)⟩

/-! ### spec_DrawRepeatScheme: function 37 -/

theorem draw_cut {g e base n m c : Nat} {w : World} {ok : Nat → Prop} {A : Option Addr} {xs : List Int} (h : Kd.R (Kd.int .i64) e w base ok (.slice A m c) xs) (hn : n ≤ xs.length) (hf : Kd.R (Kd.int .i64) e w base ok (.slice A n c) (xs.take n) → ∀ ad, A = some ad → 0 < n → ad.block ≠ g) :
    (xs.take n).length ≤ c ∧ Kd.C (Kd.int .i64) w A (xs.take n).length (xs.take n) ∧ ∀ ad, A = some ad → 0 < (xs.take n).length → ad.block ≠ g := by
  have h2 := Kd.R_take h hn
  have h3 := Kd.R_reads' h2
  have hl : (xs.take n).length = n := by rw [List.length_take]; omega
  exact ⟨by omega, h3.2.2, fun ad hA h0 => hf h2 ad hA (by omega)⟩
def drawCut (l0 : List Int) (s : List Int × Int × Int) : Option (List Int × Int × Int) := if (s.1.length : Int) > 4 then (spec_l1Cur_one.f l0 s.2.1 s.2.2 2).bind fun b => some (if b.1 = true then s.1.take 4 else s.1, b.2.1, b.2.2) else some s
theorem draw_cut4 {i : TypeInfo} (hi : Try.prog.info? 3 = some i) (hsz : i.size = 1) (A : Option Addr) (c : Nat) (xs : List Int) (h : 4 ≤ xs.length) (hc : xs.length ≤ c) :
    ∀ W : World, (Instr.slice 24 (.slice A xs.length c) none (some (.int .i64 4)) none).run Try.prog W = .ok (.slice A 4 c) W := by
  have h1 := (print_take_of (P := Try.prog) (Value.int .i64) 0 24 3 .i64 Try.underlying24 hi hsz A c xs 4 (by decide) (by omega) hc).1
  rw [show (xs.take (4 : Int).toNat).length = 4 from (by rw [List.length_take]; exact Nat.min_eq_left h)] at h1
  exact h1
def spec_DrawRepeatScheme.f (k : Nat) (l0 : List Int) : Option (Int × List Int × Int) :=
  (spec_l1Cur_many.f l0 0 0).bind fun t => (spec_l1Cur_scheme5.f k l0 t.2.1 t.2.2 t.1).bind fun s => (drawCut l0 s).bind fun d => (spec_l1Cur_pick.f l0 d.2.1 d.2.2 24).bind fun p => if 0 ≤ (wrap64 (5 + wrap64 (Int.tdiv p.1 11))) ∧ (wrap64 (5 + wrap64 (Int.tdiv p.1 11))) ≤ 7 then (spec_l1Cur_among.f l0 p.2.1 p.2.2 (([2, 3, 1, 5, 14, 0, 15] : List Int).take (wrap64 (5 + wrap64 (Int.tdiv p.1 11))).toNat)).bind fun a => some (t.1, d.1, a.1) else none
theorem spec_DrawRepeatScheme.mono : ∀ a0 k, LeO (spec_DrawRepeatScheme.f k a0) (spec_DrawRepeatScheme.f (k + 1) a0) := by
  intro a0 k
  unfold spec_DrawRepeatScheme.f
  repeat' first
      | (with_reducible exact spec_l1Cur_scheme5.mono _ _ _ _ _)
      | (with_reducible exact LeO.refl _)
      | (with_reducible exact LeO.none _)
      | (with_reducible refine LeO.ite ?_ ?_)
      | (with_reducible refine LeO.bind ?_ (fun _ => ?_))
set_option maxHeartbeats 4000000 in
set_option maxRecDepth 100000 in
theorem spec_DrawRepeatScheme.calls (k : Nat) (A0 : Option Addr) (c0 : Nat) (l0 : List Int) (r1 : Int) (r2 : List Int) (r3 : Int) (w : World) (hr0 : Kd.C (Kd.int .u8) w A0 l0.length l0) (hc0 : l0.length ≤ c0) (h : spec_DrawRepeatScheme.f k l0 = some (r1, r2, r3)) :
    Calls Try.prog 37 #[.slice A0 l0.length c0] w fun e w' => ∃ v1_ : Value, e = .returned (.tuple #[.int .i64 r1, v1_, .int .i64 r3]) ∧ Kd.R (Kd.int .i64) 3 w' w.heap.size (fun _ => True) v1_ r2 ∧ Below w.heap.size w w' := by
  obtain ⟨⟨t1, t2, t3⟩, ht, h⟩ := Option.bind_eq_some_iff.mp h
  obtain ⟨⟨s1, s2, s3⟩, hs, h⟩ := Option.bind_eq_some_iff.mp h
  obtain ⟨⟨d1, d2, d3⟩, hd, h⟩ := Option.bind_eq_some_iff.mp h
  obtain ⟨⟨p1, p2, p3⟩, hp, h⟩ := Option.bind_eq_some_iff.mp h
  obtain ⟨n_, hn⟩ : ∃ n : Int, (wrap64 (5 + wrap64 (Int.tdiv p1 11))) = n := ⟨_, rfl⟩
  simp only [hn] at h
  split at h
  case isFalse => cases h
  rename_i hnb
  have HNT := Aside0.mk (Int.toNat_le.mpr hnb.2 : n_.toNat ≤ 7)
  obtain ⟨⟨a1, a2, a3⟩, ha, h⟩ := Option.bind_eq_some_iff.mp h
  simp only [Option.some.injEq, Prod.mk.injEq] at h
  obtain ⟨rfl, rfl, rfl⟩ := h
  have HT := Aside0.mk ht
  have HS := Aside0.mk hs
  have HP := Aside0.mk hp
  have HA := Aside0.mk ha
  have HN := Aside0.mk hn
  have HNB := Aside0.mk hnb
  clear ht hs hp ha hn hnb
  have hnw : IntKind.i64.wrap (5 + IntKind.i64.wrap (Int.tdiv p1 11)) = n_ := by rw [i64_w, i64_w]; exact HN.out
  have hnw2 := HN.out
  obtain ⟨i0_, hi0_, _, hsz_, _⟩ := info_parts info3
  by_cases c4 : (s1.length : Int) > 4
  · have c4b0 : decide (4 < (s1.length : Int)) = true := decide_eq_true c4
    have HC4 := Aside0.mk (show 4 ≤ s1.length by clear hnw hnw2; omega)
    simp only [drawCut, if_pos c4] at hd
    obtain ⟨⟨b1, b2, b3⟩, hb, hd⟩ := Option.bind_eq_some_iff.mp hd
    simp only [Option.some.injEq, Prod.mk.injEq] at hd
    clear c4
    cases b1
    · simp only [Bool.false_eq_true, if_false] at hd
      obtain ⟨rfl, rfl, rfl⟩ := hd
      have HD := Aside0.mk hb
      clear hb
      have HB := Aside0.mk (below_alloc (Below.refl w.heap.size w) (.cells #[.slice A0 l0.length c0, .int .i64 0, .int .u64 0] 55))
      have HI0 := Aside0.mk (IsS55.new w w A0 c0 l0 0 0 (Below.refl _ _) hr0)
      clear hr0
      go_enter Try.func37, Try.ntmps37
      go_wp2_with (first | (go_at_call 48; refine (spec_l1Cur_many.calls w.heap.size l0 0 0  t1 t2 t3 w _ ?side1 ?side2 HT.out).mono ?_; (case side1 => exact HI0.out); (case side2 => exact HB.out); rintro e w1_ ⟨rfl, hi, hb, hk⟩; have n0_ := Aside0.mk hb; have n1_ := Aside0.mk hi; clear HB; clear HI0; have HB := n0_; have HI0 := n1_; clear n0_ n1_; clear HT hi hb hk) | (go_at_call 49; refine (spec_l1Cur_scheme5.calls k w.heap.size l0 t2 t3 t1 s1 s2 s3 w _ ?side1 ?side2 HS.out).mono ?_; (case side1 => exact HI0.out); (case side2 => exact HB.out); rintro e w2_ ⟨v_, rfl, ho, hi, hb, hk⟩; obtain ⟨Aa, ca, rfl⟩ := Kd.R_slice ho; have n0_ := Aside0.mk (Kd.R_lower ho (below_size HB.out)); have n1_ := Aside0.mk hb; have n2_ := Aside0.mk hi; clear HB; clear HI0; have HO1 := n0_; have HB := n1_; have HI0 := n2_; clear n0_ n1_ n2_; clear HS hi hb hk ho) | (go_at_call 85; refine (spec_l1Cur_one.calls w.heap.size l0 s2 s3 2 false b2 b3 w _ ?side1 ?side2 HD.out).mono ?_; (case side1 => exact HI0.out); (case side2 => exact HB.out); rintro e w3_ ⟨rfl, hi, hb, hk⟩; have n0_ := Aside0.mk (Kd.R_mono (Kd.R_keep (IsS55.apart (show IsS55 w _ w.heap.size l0 s2 s3 from HI0.out) HO1.out (by decide)) hk (fun _ h => h.2)) (fun _ h => h.1)); have n1_ := Aside0.mk hb; have n2_ := Aside0.mk hi; clear HO1; clear HB; clear HI0; have HO1 := n0_; have HB := n1_; have HI0 := n2_; clear n0_ n1_ n2_; clear HD hi hb hk) | ((with_reducible refine gate_dst (N := 28) rfl ?_); refine Kd.R_lit (Kd.int .i64) _ 3 ?hg (N := 28) ?hd (xs := ([2, 3, 1, 5, 14, 0, 15] : List Int)) (inner := [.int .i64 (2), .int .i64 (3), .int .i64 (1), .int .i64 (5), .int .i64 (14), .int .i64 (0), .int .i64 (15)]) (ok := fun _ => True) (okp := fun _ => True) ?hr ?hp (fun _ hk => hk) trivial (Below.refl _ _) (Nat.le_refl _) (by simp) ?_; (case hd => rfl); (case hg => rfl); (case hr => first | (go_simp; done) | (go_simp; rfl)); (case hp => exact (Reps.one (show Kd.M (Kd.int .i64) _ _ _ (2) [.int .i64 (2)] from rfl) (Reps.one (show Kd.M (Kd.int .i64) _ _ _ (3) [.int .i64 (3)] from rfl) (Reps.one (show Kd.M (Kd.int .i64) _ _ _ (1) [.int .i64 (1)] from rfl) (Reps.one (show Kd.M (Kd.int .i64) _ _ _ (5) [.int .i64 (5)] from rfl) (Reps.one (show Kd.M (Kd.int .i64) _ _ _ (14) [.int .i64 (14)] from rfl) (Reps.one (show Kd.M (Kd.int .i64) _ _ _ (0) [.int .i64 (0)] from rfl) (Reps.one (show Kd.M (Kd.int .i64) _ _ _ (15) [.int .i64 (15)] from rfl) (Reps.none _ _))))))))); intro v_ w4_ ho hb hg_ hnew_; clear hg_ hnew_; obtain ⟨Ab, cb, rfl⟩ := Kd.R_slice ho; have hcut_ := (print_take_of (P := Try.prog) (Value.int .i64) 0 24 3 .i64 Try.underlying24 hi0_ hsz_ Ab cb ([2, 3, 1, 5, 14, 0, 15] : List Int) n_ HNB.out.1 HNB.out.2 (Kd.R_reads' ho).2.1).1; simp only [List.length_cons, List.length_nil, Nat.reduceAdd, Int.toNat_natCast] at hcut_; have n0_ := Aside0.mk (Kd.R_elder' HO1.out (Kd.R_base ho) hb); have n1_ := Aside0.mk (Kd.R_lower ho (below_size HB.out)); have n2_ := Aside0.mk (below_step HB.out hb); have n3_ := Aside0.mk (IsS55.below HI0.out hb); clear HO1; clear HB; clear HI0; have HO1 := n0_; have HO2 := n1_; have HB := n2_; have HI0 := n3_; clear n0_ n1_ n2_ n3_; clear ho hb) | (go_at_call 50; refine (spec_l1Cur_pick.calls w.heap.size l0 b2 b3 24 p1 p2 p3 w _ ?side1 ?side2 HP.out).mono ?_; (case side1 => exact HI0.out); (case side2 => exact HB.out); rintro e w5_ ⟨rfl, hi, hb, hk⟩; have n0_ := Aside0.mk (Kd.R_mono (Kd.R_keep (IsS55.apart (show IsS55 w _ w.heap.size l0 b2 b3 from HI0.out) HO1.out (by decide)) hk (fun _ h => h.2)) (fun _ h => h.1)); have n1_ := Aside0.mk (Kd.R_mono (Kd.R_keep (IsS55.apart (show IsS55 w _ w.heap.size l0 b2 b3 from HI0.out) HO2.out (by decide)) hk (fun _ h => h.2)) (fun _ h => h.1)); have n2_ := Aside0.mk hb; have n3_ := Aside0.mk hi; clear HO1; clear HO2; clear HB; clear HI0; have HO1 := n0_; have HO2 := n1_; have HB := n2_; have HI0 := n3_; clear n0_ n1_ n2_ n3_; clear HP hi hb hk) | (have ROWC_ := Aside0.mk (draw_cut (n := n_.toNat) (g := w.heap.size) HO2.out HNT.out (fun hR => far_slice (IsS55.own_ne HI0.out hR (by decide)))); go_at_call 61; rw [show min n_.toNat 7 = (([2, 3, 1, 5, 14, 0, 15] : List Int).take n_.toNat).length from (by rw [List.length_take]; rfl)]; refine (spec_l1Cur_among.calls w.heap.size l0 p2 p3 _ _ (([2, 3, 1, 5, 14, 0, 15] : List Int).take n_.toNat) a1 a2 a3 w _ ?side1 ?side2 ?side3 ?side4 ?side5 HA.out).mono ?_; (case side1 => exact HI0.out); (case side2 => exact HB.out); (case side3 => exact ROWC_.out.2.1); (case side4 => exact ROWC_.out.1); (case side5 => exact ROWC_.out.2.2); rintro e w6_ ⟨rfl, hi, hb, hk⟩; have n0_ := Aside0.mk (Kd.R_mono (Kd.R_keep (IsS55.apart (show IsS55 w _ w.heap.size l0 p2 p3 from HI0.out) HO1.out (by decide)) hk (fun _ h => h.2)) (fun _ h => h.1)); have n1_ := Aside0.mk hb; have n2_ := Aside0.mk hi; clear HO1; clear HB; clear HI0; have HO1 := n0_; have HB := n1_; have HI0 := n2_; clear n0_ n1_ n2_; clear HA HO2 hi hb hk))
      go_ret3
      exact ⟨_, rfl, (Kd.R_mono HO1.out (fun _ _ => trivial)), (by repeat (first | (with_reducible first | exact HB.out | apply below_alloc | apply pw_below_drewN | apply below_drew1) | exact HB.out))⟩
    · simp only [if_true] at hd
      obtain ⟨rfl, rfl, rfl⟩ := hd
      have HD := Aside0.mk hb
      clear hb
      have HB := Aside0.mk (below_alloc (Below.refl w.heap.size w) (.cells #[.slice A0 l0.length c0, .int .i64 0, .int .u64 0] 55))
      have HI0 := Aside0.mk (IsS55.new w w A0 c0 l0 0 0 (Below.refl _ _) hr0)
      clear hr0
      go_enter Try.func37, Try.ntmps37
      go_wp2_with (first | (go_at_call 48; refine (spec_l1Cur_many.calls w.heap.size l0 0 0  t1 t2 t3 w _ ?side1 ?side2 HT.out).mono ?_; (case side1 => exact HI0.out); (case side2 => exact HB.out); rintro e w1_ ⟨rfl, hi, hb, hk⟩; have n0_ := Aside0.mk hb; have n1_ := Aside0.mk hi; clear HB; clear HI0; have HB := n0_; have HI0 := n1_; clear n0_ n1_; clear HT hi hb hk) | (go_at_call 49; refine (spec_l1Cur_scheme5.calls k w.heap.size l0 t2 t3 t1 s1 s2 s3 w _ ?side1 ?side2 HS.out).mono ?_; (case side1 => exact HI0.out); (case side2 => exact HB.out); rintro e w2_ ⟨v_, rfl, ho, hi, hb, hk⟩; obtain ⟨Aa, ca, rfl⟩ := Kd.R_slice ho; have hcut4_ := draw_cut4 hi0_ hsz_ Aa ca s1 HC4.out (Kd.R_reads' ho).2.1; have n0_ := Aside0.mk (Kd.R_lower ho (below_size HB.out)); have n1_ := Aside0.mk hb; have n2_ := Aside0.mk hi; clear HB; clear HI0; have HO1 := n0_; have HB := n1_; have HI0 := n2_; clear n0_ n1_ n2_; clear HS hi hb hk ho) | (go_at_call 85; refine (spec_l1Cur_one.calls w.heap.size l0 s2 s3 2 true b2 b3 w _ ?side1 ?side2 HD.out).mono ?_; (case side1 => exact HI0.out); (case side2 => exact HB.out); rintro e w3_ ⟨rfl, hi, hb, hk⟩; have n0_ := Aside0.mk (Kd.R_mono (Kd.R_keep (IsS55.apart (show IsS55 w _ w.heap.size l0 s2 s3 from HI0.out) HO1.out (by decide)) hk (fun _ h => h.2)) (fun _ h => h.1)); have n1_ := Aside0.mk hb; have n2_ := Aside0.mk hi; clear HO1; clear HB; clear HI0; have HO1 := n0_; have HB := n1_; have HI0 := n2_; clear n0_ n1_ n2_; clear HD hi hb hk; have n0_ := Aside0.mk (Kd.R_take HO1.out (m := 4) HC4.out); clear HO1; have HO1 := n0_; clear n0_) | ((with_reducible refine gate_dst (N := 28) rfl ?_); refine Kd.R_lit (Kd.int .i64) _ 3 ?hg (N := 28) ?hd (xs := ([2, 3, 1, 5, 14, 0, 15] : List Int)) (inner := [.int .i64 (2), .int .i64 (3), .int .i64 (1), .int .i64 (5), .int .i64 (14), .int .i64 (0), .int .i64 (15)]) (ok := fun _ => True) (okp := fun _ => True) ?hr ?hp (fun _ hk => hk) trivial (Below.refl _ _) (Nat.le_refl _) (by simp) ?_; (case hd => rfl); (case hg => rfl); (case hr => first | (go_simp; done) | (go_simp; rfl)); (case hp => exact (Reps.one (show Kd.M (Kd.int .i64) _ _ _ (2) [.int .i64 (2)] from rfl) (Reps.one (show Kd.M (Kd.int .i64) _ _ _ (3) [.int .i64 (3)] from rfl) (Reps.one (show Kd.M (Kd.int .i64) _ _ _ (1) [.int .i64 (1)] from rfl) (Reps.one (show Kd.M (Kd.int .i64) _ _ _ (5) [.int .i64 (5)] from rfl) (Reps.one (show Kd.M (Kd.int .i64) _ _ _ (14) [.int .i64 (14)] from rfl) (Reps.one (show Kd.M (Kd.int .i64) _ _ _ (0) [.int .i64 (0)] from rfl) (Reps.one (show Kd.M (Kd.int .i64) _ _ _ (15) [.int .i64 (15)] from rfl) (Reps.none _ _))))))))); intro v_ w4_ ho hb hg_ hnew_; clear hg_ hnew_; obtain ⟨Ab, cb, rfl⟩ := Kd.R_slice ho; have hcut_ := (print_take_of (P := Try.prog) (Value.int .i64) 0 24 3 .i64 Try.underlying24 hi0_ hsz_ Ab cb ([2, 3, 1, 5, 14, 0, 15] : List Int) n_ HNB.out.1 HNB.out.2 (Kd.R_reads' ho).2.1).1; simp only [List.length_cons, List.length_nil, Nat.reduceAdd, Int.toNat_natCast] at hcut_; have n0_ := Aside0.mk (Kd.R_elder' HO1.out (Kd.R_base ho) hb); have n1_ := Aside0.mk (Kd.R_lower ho (below_size HB.out)); have n2_ := Aside0.mk (below_step HB.out hb); have n3_ := Aside0.mk (IsS55.below HI0.out hb); clear HO1; clear HB; clear HI0; have HO1 := n0_; have HO2 := n1_; have HB := n2_; have HI0 := n3_; clear n0_ n1_ n2_ n3_; clear ho hb) | (go_at_call 50; refine (spec_l1Cur_pick.calls w.heap.size l0 b2 b3 24 p1 p2 p3 w _ ?side1 ?side2 HP.out).mono ?_; (case side1 => exact HI0.out); (case side2 => exact HB.out); rintro e w5_ ⟨rfl, hi, hb, hk⟩; have n0_ := Aside0.mk (Kd.R_mono (Kd.R_keep (IsS55.apart (show IsS55 w _ w.heap.size l0 b2 b3 from HI0.out) HO1.out (by decide)) hk (fun _ h => h.2)) (fun _ h => h.1)); have n1_ := Aside0.mk (Kd.R_mono (Kd.R_keep (IsS55.apart (show IsS55 w _ w.heap.size l0 b2 b3 from HI0.out) HO2.out (by decide)) hk (fun _ h => h.2)) (fun _ h => h.1)); have n2_ := Aside0.mk hb; have n3_ := Aside0.mk hi; clear HO1; clear HO2; clear HB; clear HI0; have HO1 := n0_; have HO2 := n1_; have HB := n2_; have HI0 := n3_; clear n0_ n1_ n2_ n3_; clear HP hi hb hk) | (have ROWC_ := Aside0.mk (draw_cut (n := n_.toNat) (g := w.heap.size) HO2.out HNT.out (fun hR => far_slice (IsS55.own_ne HI0.out hR (by decide)))); go_at_call 61; rw [show min n_.toNat 7 = (([2, 3, 1, 5, 14, 0, 15] : List Int).take n_.toNat).length from (by rw [List.length_take]; rfl)]; refine (spec_l1Cur_among.calls w.heap.size l0 p2 p3 _ _ (([2, 3, 1, 5, 14, 0, 15] : List Int).take n_.toNat) a1 a2 a3 w _ ?side1 ?side2 ?side3 ?side4 ?side5 HA.out).mono ?_; (case side1 => exact HI0.out); (case side2 => exact HB.out); (case side3 => exact ROWC_.out.2.1); (case side4 => exact ROWC_.out.1); (case side5 => exact ROWC_.out.2.2); rintro e w6_ ⟨rfl, hi, hb, hk⟩; have n0_ := Aside0.mk (Kd.R_mono (Kd.R_keep (IsS55.apart (show IsS55 w _ w.heap.size l0 p2 p3 from HI0.out) HO1.out (by decide)) hk (fun _ h => h.2)) (fun _ h => h.1)); have n1_ := Aside0.mk hb; have n2_ := Aside0.mk hi; clear HO1; clear HB; clear HI0; have HO1 := n0_; have HB := n1_; have HI0 := n2_; clear n0_ n1_ n2_; clear HA HO2 hi hb hk))
      go_ret3
      exact ⟨_, rfl, (Kd.R_mono HO1.out (fun _ _ => trivial)), (by repeat (first | (with_reducible first | exact HB.out | apply below_alloc | apply pw_below_drewN | apply below_drew1) | exact HB.out))⟩
  · have c4b0 : decide (4 < (s1.length : Int)) = false := decide_eq_false c4
    simp only [drawCut, if_neg c4, Option.some.injEq, Prod.mk.injEq] at hd
    obtain ⟨rfl, rfl, rfl⟩ := hd
    clear c4
    have HB := Aside0.mk (below_alloc (Below.refl w.heap.size w) (.cells #[.slice A0 l0.length c0, .int .i64 0, .int .u64 0] 55))
    have HI0 := Aside0.mk (IsS55.new w w A0 c0 l0 0 0 (Below.refl _ _) hr0)
    clear hr0
    go_enter Try.func37, Try.ntmps37
    go_wp2_with (first | (go_at_call 48; refine (spec_l1Cur_many.calls w.heap.size l0 0 0  t1 t2 t3 w _ ?side1 ?side2 HT.out).mono ?_; (case side1 => exact HI0.out); (case side2 => exact HB.out); rintro e w1_ ⟨rfl, hi, hb, hk⟩; have n0_ := Aside0.mk hb; have n1_ := Aside0.mk hi; clear HB; clear HI0; have HB := n0_; have HI0 := n1_; clear n0_ n1_; clear HT hi hb hk) | (go_at_call 49; refine (spec_l1Cur_scheme5.calls k w.heap.size l0 t2 t3 t1 s1 s2 s3 w _ ?side1 ?side2 HS.out).mono ?_; (case side1 => exact HI0.out); (case side2 => exact HB.out); rintro e w2_ ⟨v_, rfl, ho, hi, hb, hk⟩; obtain ⟨Aa, ca, rfl⟩ := Kd.R_slice ho; have n0_ := Aside0.mk (Kd.R_lower ho (below_size HB.out)); have n1_ := Aside0.mk hb; have n2_ := Aside0.mk hi; clear HB; clear HI0; have HO1 := n0_; have HB := n1_; have HI0 := n2_; clear n0_ n1_ n2_; clear HS hi hb hk ho) | ((with_reducible refine gate_dst (N := 28) rfl ?_); refine Kd.R_lit (Kd.int .i64) _ 3 ?hg (N := 28) ?hd (xs := ([2, 3, 1, 5, 14, 0, 15] : List Int)) (inner := [.int .i64 (2), .int .i64 (3), .int .i64 (1), .int .i64 (5), .int .i64 (14), .int .i64 (0), .int .i64 (15)]) (ok := fun _ => True) (okp := fun _ => True) ?hr ?hp (fun _ hk => hk) trivial (Below.refl _ _) (Nat.le_refl _) (by simp) ?_; (case hd => rfl); (case hg => rfl); (case hr => first | (go_simp; done) | (go_simp; rfl)); (case hp => exact (Reps.one (show Kd.M (Kd.int .i64) _ _ _ (2) [.int .i64 (2)] from rfl) (Reps.one (show Kd.M (Kd.int .i64) _ _ _ (3) [.int .i64 (3)] from rfl) (Reps.one (show Kd.M (Kd.int .i64) _ _ _ (1) [.int .i64 (1)] from rfl) (Reps.one (show Kd.M (Kd.int .i64) _ _ _ (5) [.int .i64 (5)] from rfl) (Reps.one (show Kd.M (Kd.int .i64) _ _ _ (14) [.int .i64 (14)] from rfl) (Reps.one (show Kd.M (Kd.int .i64) _ _ _ (0) [.int .i64 (0)] from rfl) (Reps.one (show Kd.M (Kd.int .i64) _ _ _ (15) [.int .i64 (15)] from rfl) (Reps.none _ _))))))))); intro v_ w3_ ho hb hg_ hnew_; clear hg_ hnew_; obtain ⟨Ab, cb, rfl⟩ := Kd.R_slice ho; have hcut_ := (print_take_of (P := Try.prog) (Value.int .i64) 0 24 3 .i64 Try.underlying24 hi0_ hsz_ Ab cb ([2, 3, 1, 5, 14, 0, 15] : List Int) n_ HNB.out.1 HNB.out.2 (Kd.R_reads' ho).2.1).1; simp only [List.length_cons, List.length_nil, Nat.reduceAdd, Int.toNat_natCast] at hcut_; have n0_ := Aside0.mk (Kd.R_elder' HO1.out (Kd.R_base ho) hb); have n1_ := Aside0.mk (Kd.R_lower ho (below_size HB.out)); have n2_ := Aside0.mk (below_step HB.out hb); have n3_ := Aside0.mk (IsS55.below HI0.out hb); clear HO1; clear HB; clear HI0; have HO1 := n0_; have HO2 := n1_; have HB := n2_; have HI0 := n3_; clear n0_ n1_ n2_ n3_; clear ho hb) | (go_at_call 50; refine (spec_l1Cur_pick.calls w.heap.size l0 s2 s3 24 p1 p2 p3 w _ ?side1 ?side2 HP.out).mono ?_; (case side1 => exact HI0.out); (case side2 => exact HB.out); rintro e w4_ ⟨rfl, hi, hb, hk⟩; have n0_ := Aside0.mk (Kd.R_mono (Kd.R_keep (IsS55.apart (show IsS55 w _ w.heap.size l0 s2 s3 from HI0.out) HO1.out (by decide)) hk (fun _ h => h.2)) (fun _ h => h.1)); have n1_ := Aside0.mk (Kd.R_mono (Kd.R_keep (IsS55.apart (show IsS55 w _ w.heap.size l0 s2 s3 from HI0.out) HO2.out (by decide)) hk (fun _ h => h.2)) (fun _ h => h.1)); have n2_ := Aside0.mk hb; have n3_ := Aside0.mk hi; clear HO1; clear HO2; clear HB; clear HI0; have HO1 := n0_; have HO2 := n1_; have HB := n2_; have HI0 := n3_; clear n0_ n1_ n2_ n3_; clear HP hi hb hk) | (have ROWC_ := Aside0.mk (draw_cut (n := n_.toNat) (g := w.heap.size) HO2.out HNT.out (fun hR => far_slice (IsS55.own_ne HI0.out hR (by decide)))); go_at_call 61; rw [show min n_.toNat 7 = (([2, 3, 1, 5, 14, 0, 15] : List Int).take n_.toNat).length from (by rw [List.length_take]; rfl)]; refine (spec_l1Cur_among.calls w.heap.size l0 p2 p3 _ _ (([2, 3, 1, 5, 14, 0, 15] : List Int).take n_.toNat) a1 a2 a3 w _ ?side1 ?side2 ?side3 ?side4 ?side5 HA.out).mono ?_; (case side1 => exact HI0.out); (case side2 => exact HB.out); (case side3 => exact ROWC_.out.2.1); (case side4 => exact ROWC_.out.1); (case side5 => exact ROWC_.out.2.2); rintro e w5_ ⟨rfl, hi, hb, hk⟩; have n0_ := Aside0.mk (Kd.R_mono (Kd.R_keep (IsS55.apart (show IsS55 w _ w.heap.size l0 p2 p3 from HI0.out) HO1.out (by decide)) hk (fun _ h => h.2)) (fun _ h => h.1)); have n1_ := Aside0.mk hb; have n2_ := Aside0.mk hi; clear HO1; clear HB; clear HI0; have HO1 := n0_; have HB := n1_; have HI0 := n2_; clear n0_ n1_ n2_; clear HA HO2 hi hb hk))
    go_ret3
    exact ⟨_, rfl, (Kd.R_mono HO1.out (fun _ _ => trivial)), (by repeat (first | (with_reducible first | exact HB.out | apply below_alloc | apply pw_below_drewN | apply below_drew1) | exact HB.out))⟩


/-! ### bits_Mul32: function 109 -/
def bits_Mul32.f (a0 : Int) (a1 : Int) : Option (Int × Int) := some (((IntKind.u64.wrap ((IntKind.u64.wrap (a0)) * (IntKind.u64.wrap (a1)))) / 4294967296) % 4294967296, (IntKind.u64.wrap ((IntKind.u64.wrap (a0)) * (IntKind.u64.wrap (a1)))) % 4294967296)
set_option maxHeartbeats 8000000 in
set_option maxRecDepth 100000 in
theorem bits_Mul32.calls (a0 : Int) (a1 : Int) (r1 : Int) (r2 : Int) (w : World) (h : bits_Mul32.f a0 a1 = some (r1, r2)) :
  Calls Try.prog 109 #[.int .u32 a0, .int .u32 a1] w fun e w' => e = .returned (.tuple #[.int .u32 r1, .int .u32 r2]) ∧ Drawn0 w w' := by
 have H : (some (((IntKind.u64.wrap ((IntKind.u64.wrap (a0)) * (IntKind.u64.wrap (a1)))) / 4294967296) % 4294967296, (IntKind.u64.wrap ((IntKind.u64.wrap (a0)) * (IntKind.u64.wrap (a1)))) % 4294967296)) = some (r1, r2) := h
 clear h
 simp only [Option.some.injEq, Prod.mk.injEq] at H
 obtain ⟨rfl, rfl⟩ := H
 go_enter Try.func109, Try.ntmps109
 go_wp2
 go_ret2
 exact ⟨by first | rfl | (simp; done) | (simp [*]; done), by repeat (first | exact Drawn0.refl _ | apply Drawn0.step)⟩

/-! ### bits_Mul64: function 110 -/
def bits_Mul64.f (a0 : Int) (a1 : Int) : Option (Int × Int) := some (IntKind.u64.wrap ((IntKind.u64.wrap ((IntKind.u64.wrap ((a0 / 4294967296) * (a1 / 4294967296))) + ((IntKind.u64.wrap ((IntKind.u64.wrap ((a0 / 4294967296) * (Go.bits .and .u64 a1 4294967295))) + ((IntKind.u64.wrap ((Go.bits .and .u64 a0 4294967295) * (Go.bits .and .u64 a1 4294967295))) / 4294967296))) / 4294967296))) + ((IntKind.u64.wrap ((Go.bits .and .u64 (IntKind.u64.wrap ((IntKind.u64.wrap ((a0 / 4294967296) * (Go.bits .and .u64 a1 4294967295))) + ((IntKind.u64.wrap ((Go.bits .and .u64 a0 4294967295) * (Go.bits .and .u64 a1 4294967295))) / 4294967296))) 4294967295) + (IntKind.u64.wrap ((Go.bits .and .u64 a0 4294967295) * (a1 / 4294967296))))) / 4294967296)), IntKind.u64.wrap (a0 * a1))
set_option maxHeartbeats 8000000 in
set_option maxRecDepth 100000 in
theorem bits_Mul64.calls (a0 : Int) (a1 : Int) (r1 : Int) (r2 : Int) (w : World) (h : bits_Mul64.f a0 a1 = some (r1, r2)) :
  Calls Try.prog 110 #[.int .u64 a0, .int .u64 a1] w fun e w' => e = .returned (.tuple #[.int .u64 r1, .int .u64 r2]) ∧ Drawn0 w w' := by
 have H : (some (IntKind.u64.wrap ((IntKind.u64.wrap ((IntKind.u64.wrap ((a0 / 4294967296) * (a1 / 4294967296))) + ((IntKind.u64.wrap ((IntKind.u64.wrap ((a0 / 4294967296) * (Go.bits .and .u64 a1 4294967295))) + ((IntKind.u64.wrap ((Go.bits .and .u64 a0 4294967295) * (Go.bits .and .u64 a1 4294967295))) / 4294967296))) / 4294967296))) + ((IntKind.u64.wrap ((Go.bits .and .u64 (IntKind.u64.wrap ((IntKind.u64.wrap ((a0 / 4294967296) * (Go.bits .and .u64 a1 4294967295))) + ((IntKind.u64.wrap ((Go.bits .and .u64 a0 4294967295) * (Go.bits .and .u64 a1 4294967295))) / 4294967296))) 4294967295) + (IntKind.u64.wrap ((Go.bits .and .u64 a0 4294967295) * (a1 / 4294967296))))) / 4294967296)), IntKind.u64.wrap (a0 * a1))) = some (r1, r2) := h
 clear h
 simp only [Option.some.injEq, Prod.mk.injEq] at H
 obtain ⟨rfl, rfl⟩ := H
 go_enter Try.func110, Try.ntmps110
 go_wp2
 go_ret2
 exact ⟨by first | rfl | (simp; done) | (simp [*]; done), by repeat (first | exact Drawn0.refl _ | apply Drawn0.step)⟩

/-! ### bits_Mul: function 103 -/
def bits_Mul.f (a0 : Int) (a1 : Int) : Option (Int × Int) := (bits_Mul64.f a0 a1).bind fun bt294 => (some (bt294.1, bt294.2))
set_option maxHeartbeats 8000000 in
set_option maxRecDepth 100000 in
theorem bits_Mul.calls (a0 : Int) (a1 : Int) (r1 : Int) (r2 : Int) (w : World) (h : bits_Mul.f a0 a1 = some (r1, r2)) :
  Calls Try.prog 103 #[.int .u64 a0, .int .u64 a1] w fun e w' => e = .returned (.tuple #[.int .u64 r1, .int .u64 r2]) ∧ Drawn0 w w' := by
 have H : ((bits_Mul64.f a0 a1).bind fun bt294 => (some (bt294.1, bt294.2))) = some (r1, r2) := h
 clear h
 replace H := Option.bind_eq_some_iff.mp H
 obtain ⟨⟨t294, t295⟩, A30, H⟩ := H
 replace H : (some (t294, t295)) = some (r1, r2) := H
 have A3 := Aside0.mk A30
 clear A30
 simp only [Option.some.injEq, Prod.mk.injEq] at H
 obtain ⟨rfl, rfl⟩ := H
 go_enter Try.func103, Try.ntmps103
 go_wp2_with (first | ((with_reducible refine gate_callee (f := 110) rfl ?_); refine goesL_ (some 25) rfl rfl Try.func110 (by kernel_rfl) rfl #[.int .u64 a0, .int .u64 a1] rfl (by (try simp only [List.map_toArray, List.map_cons, List.map_nil]); first | done | rfl | (simp only [List.length_drop, List.length_take]; rfl)) ?_; (with_reducible refine (bits_Mul64.calls a0 a1 t294 t295 _ A3.out).mono ?_); rintro e w' ⟨rfl, ⟨nd, rfl⟩⟩; refine ⟨_, rfl, ?_⟩))
 go_ret2
 exact ⟨by first | rfl | (simp; done) | (simp [*]; done), by repeat (first | exact Drawn0.refl _ | apply Drawn0.step)⟩

/-! ### slices_Repeat_int_int: function 86 -/

theorem mul_one_small : ∀ t : Fin 15, bits_Mul.f 1 (t.val : Int) = some (0, (t.val : Int)) := by decide +kernel
theorem splice_same (cur : List Value) (x : Value) (j m : Nat) (h : ∀ i, i < j → cur[i]? = some x) (hm : j + m ≤ cur.length) : ∀ i, i < j + m → (splice cur j (List.replicate m x))[i]? = some x := by
  intro i hi
  unfold splice
  by_cases h1 : i < j
  · rw [List.getElem?_append_left (by rw [List.length_take]; omega), List.getElem?_take, if_pos h1]
    exact h i h1
  · rw [List.getElem?_append_right (by rw [List.length_take]; omega), List.length_take, Nat.min_eq_left (by omega), List.getElem?_append_left (by rw [List.length_replicate]; omega), List.getElem?_replicate, if_pos (by omega)]
theorem rep_pos (W : World) (g j m : Nat) (cl : List Value) (x : Value) (hh : W.heap[g]? = some (.cells cl.toArray 3 (0, 0))) (hx : ∀ i, i < j → cl[i]? = some x) (hm : m ≤ j) : ∀ (i : Nat) u, (List.replicate m x)[i]? = some u → W.cell? ((⟨g, 0, none⟩ : Addr).add i) = some u := by
  intro i u hu
  rw [List.getElem?_replicate] at hu
  split at hu
  · have hi := hx i (by omega)
    have e : ((⟨g, 0, none⟩ : Addr).add i) = ⟨g, i, none⟩ := by
      unfold Addr.add
      split
      · rename_i h0; rw [h0]
      · simp only [Nat.zero_add]
    rw [e, cell_of_row W g i cl.toArray 3 (0, 0) hh, ← hu]
    simpa using hi
  · cases hu
def slices_Repeat_int_int.f (l0 : List Int) (a1 : Int) : Option (List Int) := if l0.length = 1 ∧ 1 ≤ a1 ∧ a1 ≤ 14 then some (List.replicate a1.toNat (rd l0 0)) else none
set_option maxHeartbeats 1000000 in
set_option maxRecDepth 100000 in
theorem slices_Repeat_int_int.calls (A0 : Option Addr) (c0 : Nat) (l0 : List Int) (a1 : Int) (r : List Int) (w : World) (hr0 : Kd.C (Kd.int .i64) w A0 l0.length l0) (hc0 : l0.length ≤ c0) (h : slices_Repeat_int_int.f l0 a1 = some r) :
    Calls Try.prog 86 #[.slice A0 l0.length c0, .int .i64 a1] w fun e w' => ∃ v0_ : Value, e = .returned (v0_) ∧ Kd.R (Kd.int .i64) 3 w' w.heap.size (fun _ => True) v0_ r ∧ Below w.heap.size w w' := by
  unfold slices_Repeat_int_int.f at h
  split at h
  case isFalse => cases h
  rename_i hq
  obtain rfl := Option.some.inj h
  clear h
  obtain ⟨N, rfl⟩ := Int.eq_ofNat_of_zero_le (show 0 ≤ a1 by omega)
  obtain ⟨v, rfl⟩ : ∃ v, l0 = [v] := by
    match l0, hq.1 with
    | [v], _ => exact ⟨v, rfl⟩
  have hN1 : 1 ≤ N := by omega
  have hN2 : N ≤ 14 := by omega
  rw [Int.toNat_natCast]
  have e0 : rd [v] 0 = v := rfl
  rw [e0]
  clear e0 hq
  have HM := Aside0.mk fun W => bits_Mul.calls 1 (N : Int) 0 (N : Int) W (mul_one_small ⟨N, by omega⟩)
  have HR := Aside0.mk hr0
  clear hr0 hc0
  have hu1 : IntKind.u64.wrap (N : Int) = (N : Int) := by
    have : IntKind.u64.wrap (N : Int) = (N : Int) % 18446744073709551616 := rfl
    rw [this]; omega
  have hu2 : wrap64 (N : Int) = (N : Int) := by unfold wrap64; omega
  have hu3 : IntKind.i64.wrap (N : Int) = (N : Int) := (i64_w _).trans hu2
  have c1 : decide ((N : Int) < 0) = false := decide_eq_false (by omega)
  have c2 : decide ((N : Int) > 9223372036854775807) = false := decide_eq_false (by omega)
  have c3 : decide (9223372036854775807 < (N : Int)) = false := decide_eq_false (by omega)
  have HB := Aside0.mk (Below.refl w.heap.size w)
  have hsz : (Try.prog.info? 3).map (·.size) = some 1 := by kernel_rfl
  have hmin : min 1 (List.replicate N (0 : Int)).length = 1 := by rw [List.length_replicate]; omega
  have hlist : [v].take 1 ++ (List.replicate N (0 : Int)).drop 1 = v :: List.replicate (N - 1) 0 := by rw [List.drop_replicate]; rfl
  have HS := Aside0.mk hsz
  have HMI := Aside0.mk hmin
  have HLI := Aside0.mk hlist
  clear hsz hmin hlist
  have HN1 := Aside0.mk hN1
  have HN2 := Aside0.mk hN2
  clear hN1 hN2
  go_enter Try.func86, Try.ntmps86
  go_wp2_with (first
    | (go_at_call 103; (refine (HM.out _).mono ?_); rintro e w' ⟨rfl, ⟨nd, rfl⟩⟩)
    | ((with_reducible refine gate_dst (N := 30) rfl ?_); refine Kd.R_make (Kd.int .i64) (w0 := w) w.heap.size 3 rfl (N := 30) rfl 24 (.tmp 29) (.tmp 29) rfl (N : Int) ?hx ?hy Try.underlying24 (.int .i64 0) 8 info3 rfl (by decide) (by decide) (0 : Int) (ok := fun _ => True) (okp := fun _ => True) ?hz (fun _ _ => trivial) trivial (by omega) ?hl ?hB ?hs ?_; (case hx => go_simp); (case hy => go_simp); (case hz => exact rfl); (case hl => have := HN2.out; rw [Int.toNat_natCast]; omega); (case hB => exact (by repeat (first | (with_reducible first | exact HB.out | apply below_alloc | apply pw_below_drewN | apply below_drew1) | exact HB.out))); (case hs => exact (below_size (by repeat (first | (with_reducible first | exact HB.out | apply below_alloc | apply pw_below_drewN | apply below_drew1) | exact HB.out)))); intro v1 w1 ho hb hg_ hnew_; rw [Int.toNat_natCast] at ho; clear hg_ hnew_; have n0_ := Aside0.mk ho; have n1_ := Aside0.mk hb; clear HB; have HO := n0_; have HB := n1_; clear n0_ n1_ ho hb; obtain ⟨Ao, co, eo⟩ := Kd.R_slice HO.out; rw [List.length_replicate] at eo; subst eo)
    | ((with_reducible refine gate_builtin (b := .copy) (xs := #[.tmp 31, .tmp 32]) rfl ?_); refine Kd.R_copy (enc := Value.int .i64) (h1 := fun _ => rfl) (0 : Int) (w0 := w) w.heap.size rfl (.tmp 31) (.tmp 32) 24 24 3 rfl Try.underlying24 HS.out (.slice Ao N co) (List.replicate N (0 : Int)) [v] A0 1 c0 (fun _ => True) ?kd ?kx ?kO ?kR ?kB ?kb ?_; (case kd => go_simp); (case kx => go_simp); (case kO => exact (by (with_reducible repeat (first | apply Kd.R_alloc | apply Kd.R_drewN | apply Kd.R_drew)); exact HO.out)); (case kR => exact (Kd.C_below HR.out (by repeat (first | (with_reducible first | exact HB.out | apply below_alloc | apply pw_below_drewN | apply below_drew1) | exact HB.out)))); (case kB => exact (by repeat (first | (with_reducible first | exact HB.out | apply below_alloc | apply pw_below_drewN | apply below_drew1) | exact HB.out))); (case kb => exact (below_size (by repeat (first | (with_reducible first | exact HB.out | apply below_alloc | apply pw_below_drewN | apply below_drew1) | exact HB.out)))); rw [HMI.out, HLI.out]; intro w2 ho hb hg_; clear hg_; have n0_ := Aside0.mk ho; have n1_ := Aside0.mk hb; clear HB HO; have HO := n0_; have HB := n1_; clear n0_ n1_ ho hb))
  clear hu1 hu2 hu3 c1 c2 c3
  have hx : (v :: List.replicate (N - 1) (0 : Int)).length = N := by have := HN1.out; rw [List.length_cons, List.length_replicate]; omega
  obtain ⟨hl_, hcase⟩ := Kd.own_of_R (enc := Value.int .i64) (h1 := fun _ => rfl) HO.out
  rw [hx] at hcase
  rcases hcase with ⟨_, hx0⟩ | ⟨g, cap, cur, hv, hbg, hh, hnc, hcm, hcs, htk⟩
  · have := HN1.out; omega
  injection hv with hA _ hc
  subst hA; subst hc
  have hcur0 : ∀ i, i < 1 → cur.toList[i]? = some (Value.int .i64 v) := by
    intro i hi
    have h0 : (cur.toList.take (N * 1))[i]? = some (Value.int .i64 v) := by
      rw [htk]
      obtain rfl : i = 0 := by omega
      rfl
    rw [List.getElem?_take] at h0
    split at h0
    · exact h0
    · cases h0
  have HG := Aside0.mk hbg
  have HC0 := Aside0.mk hcur0
  have HH0 := Aside0.mk (show w2.heap[g]? = some (.cells cur.toList.toArray 3 (0, 0)) by rw [Array.toArray_toList]; exact hh)
  have hcs' : cur.toList.length = co := by rw [Array.length_toList]; omega
  have HCS := Aside0.mk hcs'
  have HCC := Aside0.mk hnc
  have HCM := Aside0.mk hcm
  generalize cur.toList = cl0 at *
  clear hl_ hh hcs htk hcur0 hbg hcs' hnc hcm hx HO HMI HLI HR
  go_loopg [8] N (fun gg v8 wr => ∃ (j : Nat) (cl : List Value), 1 ≤ j ∧ j ≤ N ∧ N - j ≤ gg ∧ v8 = .int .i64 (j : Int) ∧ Aside0 (cl.length = co) ∧ Aside0 (∀ i, i < j → cl[i]? = some (.int .i64 v)) ∧ Aside0 (wr.heap[g]? = some (.cells cl.toArray 3 (0, 0))) ∧ Aside0 (Below w.heap.size w wr))
  case atStart => exact ⟨1, cl0, Nat.le_refl _, HN1.out, by omega, rfl, HCS, HC0, HH0, ⟨by repeat (first | (with_reducible first | exact HB.out | apply below_alloc | apply pw_below_drewN | apply below_drew1) | exact HB.out)⟩⟩
  case round =>
    obtain ⟨j, cl, hj1, hj2, hgg, rfl, HCL, HC, HH, BW⟩ := hrel
    by_cases hlt : j < N
    · have d1 : decide ((j : Int) < (N : Int)) = true := decide_eq_true (by omega)
      obtain ⟨m, hm⟩ : ∃ m, m = min j (N - j) := ⟨_, rfl⟩
      have hm1 : 1 ≤ m := by omega
      have hm2 : j + m ≤ N := by omega
      have HSP := Aside0.mk (splice_same cl (.int .i64 v) j m HC.out (by have := HCL.out; have := HCC.out; omega))
      have HLN := Aside0.mk (length_splice cl j (List.replicate m (Value.int .i64 v)) (by have := HCL.out; have := HCC.out; rw [List.length_replicate]; omega))
      have HM1 := Aside0.mk hm1
      have HM2 := Aside0.mk hm2
      have HMM := Aside0.mk hm
      have HFT := Aside0.mk (show j + (List.replicate m (Value.int .i64 v)).length ≤ cl.length by have := HCL.out; have := HCC.out; rw [List.length_replicate]; omega)
      have hj3 : (j : Int) ≤ (N : Int) := by omega
      have hj4 : (j : Int) ≤ (co : Int) := by have := HCC.out; omega
      have hj5 : (0 : Int) ≤ (j : Int) := by omega
      have hj6 : (N : Int) ≤ (co : Int) := by have := HCC.out; omega
      have hcj : ¬ co = j := by have := HCC.out; omega
      have HX := Aside0.mk (And.intro hj1 (And.intro hj2 (And.intro hgg hlt)))
      have hadd : IntKind.i64.wrap ((j : Int) + (m : Int)) = ((j + m : Nat) : Int) := by have := HN2.out; rw [i64_w]; unfold wrap64; omega
      have hadd2 : wrap64 ((j : Int) + (m : Int)) = ((j + m : Nat) : Int) := by have := HN2.out; unfold wrap64; omega
      clear hm hm1 hm2 hj1 hj2 hgg hlt
      go_wp2
      rotate_left
      · exfalso; have := HX.out.2.2.2; omega
      go_region_law (refine step_copy_splice rfl (.tmp 41) (.tmp 44) 24 24 rfl 3 Try.underlying24 HS.out (some ⟨g, j, none⟩) (some ⟨g, 0, none⟩) (N - j) (co - j) j co (by go_simp) (by go_simp) g j cl 3 (by (with_reducible repeat (first | refine blk_drewN ?_ _ | refine blk_drew ?_ | refine blk_alloc ?_ _)); exact HH.out) (List.replicate m (.int .i64 v)) (by rw [List.length_replicate]; exact HMM.out) (fun _ => ⟨rfl, ⟨g, 0, none⟩, rfl, rep_pos _ g j m cl _ (by (with_reducible repeat (first | refine blk_drewN ?_ _ | refine blk_drew ?_ | refine blk_alloc ?_ _)); exact HH.out) HC.out (by have := HMM.out; omega)⟩) HFT.out (by intro u hu; rw [List.eq_of_mem_replicate hu]; rfl) w.heap.size w (by repeat (first | (with_reducible first | exact BW.out | apply below_alloc | apply pw_below_drewN | apply below_drew1) | exact BW.out)) HG.out ?_; intro w4 hg4 hb4)
      go_wp2
      clear hadd2
      go_roundg (N - (j + m))
      case measure => have := HX.out; have := HM1.out; clear hadd; omega
      case rel => exact ⟨j + m, splice cl j (List.replicate m (Value.int .i64 v)), by have := HX.out; have := HM1.out; clear hadd; omega, HM2.out, Nat.le_refl _, by first | rfl | (simp only [hadd]; done) | (rw [hadd]), ⟨HLN.out.trans HCL.out⟩, HSP, ⟨hg4.out⟩, ⟨hb4⟩⟩
    · obtain rfl : j = N := by omega
      have HE : (List.replicate j v).map (Value.int .i64) = cl.take j := by
        apply List.ext_getElem?
        intro i
        rw [List.getElem?_take, List.getElem?_map, List.getElem?_replicate]
        split
        · rename_i hi; rw [HC.out i hi]; rfl
        · rfl
      go_wp2
      go_ret
      have HO := HH.out
      refine ⟨_, rfl, Kd.R_of_own ⟨?_, Or.inr ⟨g, co, cl.toArray, ?_, HG.out, HO, ?_, HCM.out, ?_, ?_⟩⟩ (fun _ _ => trivial), (by repeat (first | (with_reducible first | exact BW.out | apply below_alloc | apply pw_below_drewN | apply below_drew1) | exact BW.out))⟩
      · rw [encs_length, Nat.mul_one]
      · rw [List.length_replicate]; rfl
      · rw [List.length_replicate]; exact HCC.out
      · have := HCL.out; simpa using this
      · rw [List.length_replicate, Nat.mul_one]; exact HE.symm


end Go.Proofs.Ytmckmagdiokhiaa.PFnMadeSchemes
