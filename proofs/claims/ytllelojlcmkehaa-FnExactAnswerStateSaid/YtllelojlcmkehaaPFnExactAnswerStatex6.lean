/- The Go functions' Lean forms, each with the proof that the function comes to what its form says: for one law, no condition. Written by a program for this work. -/
import Derived.Test.YtllelojlcmkehaaPFnExactAnswerStatex0
import Derived.Test.YtllelojlcmkehaaPFnExactAnswerStatex1
import Derived.Test.YtllelojlcmkehaaPFnExactAnswerStatex3
import Derived.Test.YtllelojlcmkehaaPFnExactAnswerStatex5
import Derived.Test.YtllelojlcmkehaaShr
namespace Go.Proofs.Ytllelojlcmkehaa.PFnExactAnswerState
open Go.RowKit Go.Proofs.YtllelojlcmkehaaW.PrintWords Go.Proofs.YtllelojlcmkehaaW.PrintLast Go.Proofs.YtllelojlcmkehaaW.PrintMore
open Go.Proofs.Ytllelojlcmkehaa.Lib Go.Proofs.Ytllelojlcmkehaa.Shr
attribute [local go_sem] max2_int min2_int max_two min_two max_three min_three max_four min_four   -- for this text's walks alone
set_option linter.unusedVariables false
set_option linter.unusedSimpArgs false

/-! ### laws_FnExactAnswerState: function 6 -/
mutual
def laws_FnExactAnswerState.j0 : Nat → Bool → Bool → Bool → List Int → Int → Int → Bool → List Int → Int → List Int → Int → List Int → Int → Option (Bool)
 | 0, _, _, _, _, _, _, _, _, _, _, _, _, _ => none
 | k + 1, x7, x10, x46, x201000, x201001, x202000, x202001, x215000, x215001, x220000, x220001, x228000, x228001 => if x46 = true then (some false) else ((laws_toState.f k x201000 x201001).bind fun bt229 => ((laws_eqState.f k x220000 x220001 bt229.1 bt229.2).bind fun t233 => (if t233 = true then ((laws_markState.f k x220000 x220001 1).bind fun bt234 => (if bt234.1 < 0 then (laws_FnExactAnswerState.j1 k x7 true x201000 x201001 x202000 x202001 x215000 x215001 x228000 x228001) else ((laws_eqState.f k x228000 x228001 x215000 x215001).bind fun t236 => (if t236 = true then (laws_FnExactAnswerState.j1 k x7 (x10 != x7) x201000 x201001 x202000 x202001 x215000 x215001 x228000 x228001) else (laws_FnExactAnswerState.j1 k x7 true x201000 x201001 x202000 x202001 x215000 x215001 x228000 x228001))))) else (some false))))
def laws_FnExactAnswerState.j1 : Nat → Bool → Bool → List Int → Int → Int → Bool → List Int → Int → List Int → Int → Option (Bool)
 | 0, _, _, _, _, _, _, _, _, _, _ => none
 | k + 1, x7, x67, x201000, x201001, x202000, x202001, x215000, x215001, x228000, x228001 => if x67 = true then (some false) else ((laws_markState.f k x228000 x228001 1).bind fun bt237 => ((laws_heldState.f k bt237.2 x228001 1).bind fun t239 => (if t239 < 0 then (some false) else (if t239 = bt237.1 then ((laws_toState.f k x201000 x201001).bind fun bt240 => ((laws_toAsked.f x202000 x202001).bind fun bt244 => ((impl_AnswerState.f k bt240.1 bt240.2 bt244.1 bt244.2).bind fun bt246 => ((laws_eqState.f k bt246.1 bt246.2.1 x215000 x215001).bind fun t252 => (if t252 = true then (laws_FnExactAnswerState.j2 k bt237.1 (bt246.2.2 != x7) bt237.2 x228001) else (laws_FnExactAnswerState.j2 k bt237.1 true bt237.2 x228001)))))) else (some false)))))
def laws_FnExactAnswerState.j2 : Nat → Int → Bool → List Int → Int → Option (Bool)
 | 0, _, _, _, _ => none
 | k + 1, x12, x95, x228000, x228001 => if x95 = true then (some false) else ((laws_heldState.f k x228000 x228001 1).bind fun t253 => (if t253 < 0 then (some false) else (if t253 = x12 then (some true) else (some false))))
end
def laws_FnExactAnswerState.f (k : Nat) (l0_0 : List Int) (a0_1 : Int) (a1_0 : Int) (a1_1 : Bool) : Option (Bool) := (laws_szState.f l0_0 a0_1 1048576).bind fun t202 => (if t202 < 0 then (some true) else ((laws_toState.f k l0_0 a0_1).bind fun bt203 => ((laws_toAsked.f a1_0 a1_1).bind fun bt207 => ((spec_AnswerState.f k bt203.1 bt203.2 bt207.1 bt207.2).bind fun bt209 => ((laws_toState.f k l0_0 a0_1).bind fun bt215 => ((laws_toAsked.f a1_0 a1_1).bind fun bt220 => ((impl_AnswerState.f k bt215.1 bt215.2 bt220.1 bt220.2).bind fun bt222 => ((laws_eqState.f k bt222.1 bt222.2.1 bt209.1 bt209.2.1).bind fun t228 => (if t228 = true then (laws_FnExactAnswerState.j0 k bt209.2.2 bt222.2.2 (bt222.2.2 != bt209.2.2) l0_0 a0_1 a1_0 a1_1 bt209.1 bt209.2.1 bt215.1 bt215.2 bt222.1 bt222.2.1) else (laws_FnExactAnswerState.j0 k bt209.2.2 bt222.2.2 true l0_0 a0_1 a1_0 a1_1 bt209.1 bt209.2.1 bt215.1 bt215.2 bt222.1 bt222.2.1))))))))))
theorem laws_FnExactAnswerState.mono_l : ∀ k, (∀ y0 y1 y2 y3 y4 y5 y6 y7 y8 y9 y10 y11 y12, LeO (laws_FnExactAnswerState.j0 k y0 y1 y2 y3 y4 y5 y6 y7 y8 y9 y10 y11 y12) (laws_FnExactAnswerState.j0 (k + 1) y0 y1 y2 y3 y4 y5 y6 y7 y8 y9 y10 y11 y12)) ∧ (∀ y0 y1 y2 y3 y4 y5 y6 y7 y8 y9, LeO (laws_FnExactAnswerState.j1 k y0 y1 y2 y3 y4 y5 y6 y7 y8 y9) (laws_FnExactAnswerState.j1 (k + 1) y0 y1 y2 y3 y4 y5 y6 y7 y8 y9)) ∧ (∀ y0 y1 y2 y3, LeO (laws_FnExactAnswerState.j2 k y0 y1 y2 y3) (laws_FnExactAnswerState.j2 (k + 1) y0 y1 y2 y3))
 | 0 => ⟨fun _ _ _ _ _ _ _ _ _ _ _ _ _ r h => by simp [laws_FnExactAnswerState.j0] at h, fun _ _ _ _ _ _ _ _ _ _ r h => by simp [laws_FnExactAnswerState.j1] at h, fun _ _ _ _ r h => by simp [laws_FnExactAnswerState.j2] at h⟩
 | k + 1 => by
  obtain ⟨ih0, ih1, ih2⟩ := laws_FnExactAnswerState.mono_l k
  refine ⟨?_, ?_, ?_⟩
  ·
   intro y0 y1 y2 y3 y4 y5 y6 y7 y8 y9 y10 y11 y12
   unfold laws_FnExactAnswerState.j0
   repeat' first
   | (with_reducible exact ih0 _ _ _ _ _ _ _ _ _ _ _ _ _)
   | (with_reducible exact ih1 _ _ _ _ _ _ _ _ _ _)
   | (with_reducible exact ih2 _ _ _ _)
   | (with_reducible exact impl_AnswerState.mono _ _ _ _ _)
   | (with_reducible exact laws_eqState.mono _ _ _ _ _)
   | (with_reducible exact laws_heldState.mono _ _ _ _)
   | (with_reducible exact laws_markState.mono _ _ _ _)
   | (with_reducible exact laws_toState.mono _ _ _)
   | (with_reducible exact spec_AnswerState.mono _ _ _ _ _)
   | (with_reducible exact LeO.refl _)
   | (with_reducible exact LeO.none _)
   | (with_reducible refine LeO.ite ?_ ?_)
   | (with_reducible refine LeO.bind ?_ (fun _ => ?_))
   | exact ih0 _ _ _ _ _ _ _ _ _ _ _ _ _
   | exact ih1 _ _ _ _ _ _ _ _ _ _
   | exact ih2 _ _ _ _
   | exact impl_AnswerState.mono _ _ _ _ _
   | exact laws_eqState.mono _ _ _ _ _
   | exact laws_heldState.mono _ _ _ _
   | exact laws_markState.mono _ _ _ _
   | exact laws_toState.mono _ _ _
   | exact spec_AnswerState.mono _ _ _ _ _
   | exact LeO.none _
   | refine LeO.ite ?_ ?_
   | refine LeO.bind ?_ (fun _ => ?_)
  ·
   intro y0 y1 y2 y3 y4 y5 y6 y7 y8 y9
   unfold laws_FnExactAnswerState.j1
   repeat' first
   | (with_reducible exact ih0 _ _ _ _ _ _ _ _ _ _ _ _ _)
   | (with_reducible exact ih1 _ _ _ _ _ _ _ _ _ _)
   | (with_reducible exact ih2 _ _ _ _)
   | (with_reducible exact impl_AnswerState.mono _ _ _ _ _)
   | (with_reducible exact laws_eqState.mono _ _ _ _ _)
   | (with_reducible exact laws_heldState.mono _ _ _ _)
   | (with_reducible exact laws_markState.mono _ _ _ _)
   | (with_reducible exact laws_toState.mono _ _ _)
   | (with_reducible exact spec_AnswerState.mono _ _ _ _ _)
   | (with_reducible exact LeO.refl _)
   | (with_reducible exact LeO.none _)
   | (with_reducible refine LeO.ite ?_ ?_)
   | (with_reducible refine LeO.bind ?_ (fun _ => ?_))
   | exact ih0 _ _ _ _ _ _ _ _ _ _ _ _ _
   | exact ih1 _ _ _ _ _ _ _ _ _ _
   | exact ih2 _ _ _ _
   | exact impl_AnswerState.mono _ _ _ _ _
   | exact laws_eqState.mono _ _ _ _ _
   | exact laws_heldState.mono _ _ _ _
   | exact laws_markState.mono _ _ _ _
   | exact laws_toState.mono _ _ _
   | exact spec_AnswerState.mono _ _ _ _ _
   | exact LeO.none _
   | refine LeO.ite ?_ ?_
   | refine LeO.bind ?_ (fun _ => ?_)
  ·
   intro y0 y1 y2 y3
   unfold laws_FnExactAnswerState.j2
   repeat' first
   | (with_reducible exact ih0 _ _ _ _ _ _ _ _ _ _ _ _ _)
   | (with_reducible exact ih1 _ _ _ _ _ _ _ _ _ _)
   | (with_reducible exact ih2 _ _ _ _)
   | (with_reducible exact impl_AnswerState.mono _ _ _ _ _)
   | (with_reducible exact laws_eqState.mono _ _ _ _ _)
   | (with_reducible exact laws_heldState.mono _ _ _ _)
   | (with_reducible exact laws_markState.mono _ _ _ _)
   | (with_reducible exact laws_toState.mono _ _ _)
   | (with_reducible exact spec_AnswerState.mono _ _ _ _ _)
   | (with_reducible exact LeO.refl _)
   | (with_reducible exact LeO.none _)
   | (with_reducible refine LeO.ite ?_ ?_)
   | (with_reducible refine LeO.bind ?_ (fun _ => ?_))
   | exact ih0 _ _ _ _ _ _ _ _ _ _ _ _ _
   | exact ih1 _ _ _ _ _ _ _ _ _ _
   | exact ih2 _ _ _ _
   | exact impl_AnswerState.mono _ _ _ _ _
   | exact laws_eqState.mono _ _ _ _ _
   | exact laws_heldState.mono _ _ _ _
   | exact laws_markState.mono _ _ _ _
   | exact laws_toState.mono _ _ _
   | exact spec_AnswerState.mono _ _ _ _ _
   | exact LeO.none _
   | refine LeO.ite ?_ ?_
   | refine LeO.bind ?_ (fun _ => ?_)
theorem laws_FnExactAnswerState.mono : ∀ a0 a1 a2 a3 k, LeO (laws_FnExactAnswerState.f k a0 a1 a2 a3) (laws_FnExactAnswerState.f (k + 1) a0 a1 a2 a3) := by
 intro a0 a1 a2 a3 k
 obtain ⟨ih0, ih1, ih2⟩ := laws_FnExactAnswerState.mono_l k
 unfold laws_FnExactAnswerState.f
 repeat' first
   | (with_reducible exact ih0 _ _ _ _ _ _ _ _ _ _ _ _ _)
   | (with_reducible exact ih1 _ _ _ _ _ _ _ _ _ _)
   | (with_reducible exact ih2 _ _ _ _)
   | (with_reducible exact impl_AnswerState.mono _ _ _ _ _)
   | (with_reducible exact laws_eqState.mono _ _ _ _ _)
   | (with_reducible exact laws_heldState.mono _ _ _ _)
   | (with_reducible exact laws_markState.mono _ _ _ _)
   | (with_reducible exact laws_toState.mono _ _ _)
   | (with_reducible exact spec_AnswerState.mono _ _ _ _ _)
   | (with_reducible exact LeO.refl _)
   | (with_reducible exact LeO.none _)
   | (with_reducible refine LeO.ite ?_ ?_)
   | (with_reducible refine LeO.bind ?_ (fun _ => ?_))
   | exact ih0 _ _ _ _ _ _ _ _ _ _ _ _ _
   | exact ih1 _ _ _ _ _ _ _ _ _ _
   | exact ih2 _ _ _ _
   | exact impl_AnswerState.mono _ _ _ _ _
   | exact laws_eqState.mono _ _ _ _ _
   | exact laws_heldState.mono _ _ _ _
   | exact laws_markState.mono _ _ _ _
   | exact laws_toState.mono _ _ _
   | exact spec_AnswerState.mono _ _ _ _ _
   | exact LeO.none _
   | refine LeO.ite ?_ ?_
   | refine LeO.bind ?_ (fun _ => ?_)
def laws_FnExactAnswerState.T5 : Bool × List (List Nat × List Nat) := (true, [([], []), ([0], [0]), ([], []), ([2, 1], [2]), ([1, 3, 3], [1, 3]), ([4], [4]), ([5], [5]), ([5], [5]), ([], []), ([8, 6, 4, 0, 1, 2, 3, 4, 5, 6, 8], [6, 8]), ([7, 9, 0, 1, 2, 3, 4, 5, 6, 7, 8, 9], [7])])
def laws_FnExactAnswerState.B5 : List Nat := [0, 1, 0, 7, 15, 31, 63, 63, 0, 383, 1023]
theorem laws_FnExactAnswerState.tab5 : rtab .any (opsOf Try.f6 5) = laws_FnExactAnswerState.T5 := by kernel_rfl
theorem laws_FnExactAnswerState.bits5 : waitsOk laws_FnExactAnswerState.T5.2 laws_FnExactAnswerState.B5 = true := by kernel_rfl
def laws_FnExactAnswerState.T7 : Bool × List (List Nat × List Nat) := (true, [([], []), ([], []), ([1], [1]), ([0, 2, 2], [0, 2]), ([3], [3]), ([4], [4]), ([4], [4]), ([], []), ([7, 5, 3, 0, 1, 2, 3, 4, 5, 7], [5, 7]), ([6, 8, 0, 1, 2, 3, 4, 5, 6, 7, 8], [6])])
def laws_FnExactAnswerState.B7 : List Nat := [0, 0, 2, 7, 15, 31, 31, 0, 191, 511]
theorem laws_FnExactAnswerState.tab7 : rtab .any (opsOf Try.f6 7) = laws_FnExactAnswerState.T7 := by kernel_rfl
theorem laws_FnExactAnswerState.bits7 : waitsOk laws_FnExactAnswerState.T7.2 laws_FnExactAnswerState.B7 = true := by kernel_rfl
def laws_FnExactAnswerState.T24 : Bool × List (List Nat × List Nat) := (true, [([], []), ([0], [0]), ([], []), ([2, 1], [2]), ([1, 3, 3], [1, 3]), ([4], [4]), ([5], [5]), ([5], [5]), ([], []), ([8, 6, 4, 0, 1, 2, 3, 4, 5, 6, 8], [6, 8]), ([7, 9, 0, 1, 2, 3, 4, 5, 6, 7, 8, 9], [7])])
def laws_FnExactAnswerState.B24 : List Nat := [0, 1, 0, 7, 15, 31, 63, 63, 0, 383, 1023]
theorem laws_FnExactAnswerState.tab24 : rtab .any (opsOf Try.f6 24) = laws_FnExactAnswerState.T24 := by kernel_rfl
theorem laws_FnExactAnswerState.bits24 : waitsOk laws_FnExactAnswerState.T24.2 laws_FnExactAnswerState.B24 = true := by kernel_rfl
set_option maxHeartbeats 8000000 in
set_option maxRecDepth 100000 in
theorem laws_FnExactAnswerState.calls (k : Nat) (A0_0 : Option Addr) (c0_0 : Nat) (l0_0 : List Int) (a0_1 : Int) (a1_0 : Int) (a1_1 : Bool) (r : Bool) (w : World) (hr0_0 : Kd.C (Kd.int .i64) w A0_0 l0_0.length l0_0) (hc0_0 : l0_0.length ≤ c0_0) (h : laws_FnExactAnswerState.f k l0_0 a0_1 a1_0 a1_1 = some r) :
  Calls Try.prog 6 #[.agg #[.slice A0_0 l0_0.length c0_0, .int .i64 a0_1], .agg #[.int .i64 a1_0, .bool a1_1]] w fun e w' => e = .returned (.bool r) ∧ Below w.heap.size w w' := by
 have hu39 := Try.underlying39
 have hu41 := Try.underlying41
 have hu43 := Try.underlying43
 have HR0_0 := A_ hr0_0
 have HC0_0 := A_ hc0_0
 clear hr0_0 hc0_0
 have HB := A_ (Below.refl w.heap.size w)
 have H : ((laws_szState.f l0_0 a0_1 1048576).bind fun t202 => (if t202 < 0 then (some true) else ((laws_toState.f k l0_0 a0_1).bind fun bt203 => ((laws_toAsked.f a1_0 a1_1).bind fun bt207 => ((spec_AnswerState.f k bt203.1 bt203.2 bt207.1 bt207.2).bind fun bt209 => ((laws_toState.f k l0_0 a0_1).bind fun bt215 => ((laws_toAsked.f a1_0 a1_1).bind fun bt220 => ((impl_AnswerState.f k bt215.1 bt215.2 bt220.1 bt220.2).bind fun bt222 => ((laws_eqState.f k bt222.1 bt222.2.1 bt209.1 bt209.2.1).bind fun t228 => (if t228 = true then (laws_FnExactAnswerState.j0 k bt209.2.2 bt222.2.2 (bt222.2.2 != bt209.2.2) l0_0 a0_1 a1_0 a1_1 bt209.1 bt209.2.1 bt215.1 bt215.2 bt222.1 bt222.2.1) else (laws_FnExactAnswerState.j0 k bt209.2.2 bt222.2.2 true l0_0 a0_1 a1_0 a1_1 bt209.1 bt209.2.1 bt215.1 bt215.2 bt222.1 bt222.2.1))))))))))) = some r := h
 clear h
 replace H := Option.bind_eq_some_iff.mp H
 obtain ⟨t202, A30, H⟩ := H
 replace H : (if t202 < 0 then (some true) else ((laws_toState.f k l0_0 a0_1).bind fun bt203 => ((laws_toAsked.f a1_0 a1_1).bind fun bt207 => ((spec_AnswerState.f k bt203.1 bt203.2 bt207.1 bt207.2).bind fun bt209 => ((laws_toState.f k l0_0 a0_1).bind fun bt215 => ((laws_toAsked.f a1_0 a1_1).bind fun bt220 => ((impl_AnswerState.f k bt215.1 bt215.2 bt220.1 bt220.2).bind fun bt222 => ((laws_eqState.f k bt222.1 bt222.2.1 bt209.1 bt209.2.1).bind fun t228 => (if t228 = true then (laws_FnExactAnswerState.j0 k bt209.2.2 bt222.2.2 (bt222.2.2 != bt209.2.2) l0_0 a0_1 a1_0 a1_1 bt209.1 bt209.2.1 bt215.1 bt215.2 bt222.1 bt222.2.1) else (laws_FnExactAnswerState.j0 k bt209.2.2 bt222.2.2 true l0_0 a0_1 a1_0 a1_1 bt209.1 bt209.2.1 bt215.1 bt215.2 bt222.1 bt222.2.1)))))))))) = some r := H
 have A3 := A_ A30
 clear A30
 by_cases c4 : t202 < 0
 ·
  rw [if_pos c4] at H
  have c4b0 : decide (t202 < 0) = true := decide_eq_true c4
  clear c4
  obtain rfl := Option.some.inj H
  go_enter Try.func6, Try.ntmps6
  go_wp2_with (first | ((with_reducible refine gate_dst (N := 2) rfl ?_); refine box_event ?hg (N := 2) ?hd (cs := #[.slice A0_0 l0_0.length c0_0, .int .i64 a0_1]) (t := 39) ?hr ?_; (case hd => rfl); (case hg => rfl); (case hr => first | (go_simp; done) | (go_simp; rfl)); intro gb200 hg w5 hbox hb; have n0_ := A_ (below_step (hb0 HB.out) hb); have n1_ := A_ (hbox); have n2_ := A_ ((by rw [hg]; exact (below_size (hb0 HB.out)) : w.heap.size ≤ gb200)); have n3_ := A_ ((by rw [hg]; exact (below_size (hb0 HB.out)) : w.heap.size ≤ gb200)); clear HB; have HB := n0_; have BK200 := n1_; have GW200 := n2_; have GE200 := n3_; clear n0_ n1_ n2_ n3_; clear hb hbox hg) | ((with_reducible refine gate_dst (N := 3) rfl ?_); refine box_event ?hg (N := 3) ?hd (cs := #[.int .i64 a1_0, .bool a1_1]) (t := 41) ?hr ?_; (case hd => rfl); (case hg => rfl); (case hr => first | (go_simp; done) | (go_simp; rfl)); intro gb201 hg w6 hbox hb; have n0_ := A_ (blk_below (bd BK200.out) hb); have n1_ := A_ (below_step (hb1 HB.out GE200.out) hb); have n2_ := A_ (hbox); have n3_ := A_ ((by rw [hg]; exact (below_size (hb1 HB.out GE200.out)) : w.heap.size ≤ gb201)); have n4_ := A_ ((by rw [hg]; exact (below_size (hb1 HB.out GE200.out)) : w.heap.size ≤ gb201)); have n5_ := A_ ((by rw [hg]; exact Nat.ne_of_lt (blk_lt (bd BK200.out)) : gb200 ≠ gb201)); have n6_ := A_ ((by rw [hg]; exact Nat.ne_of_gt (blk_lt (bd BK200.out)) : gb201 ≠ gb200)); clear BK200; clear HB; have BK200 := n0_; have HB := n1_; have BK201 := n2_; have GW201 := n3_; have GE201 := n4_; have NB200_201 := n5_; have NB201_200 := n6_; clear n0_ n1_ n2_ n3_ n4_ n5_ n6_; clear hb hbox hg; have hnb7 := NB200_201.out; have hnc7 := NB201_200.out; have hcz8_0 : w6.cell? ⟨gb200, 0, none⟩ = some (.slice A0_0 l0_0.length c0_0) := (blk_cell BK200.out 0).trans rfl; have hcz8_1 : w6.cell? ⟨gb200, 1, none⟩ = some (.int .i64 a0_1) := (blk_cell BK200.out 1).trans rfl; have hfz8_0 := blk_frozen BK200.out 0; have hfz8_1 := blk_frozen BK200.out 1) | ((with_reducible refine gate_callee (f := 21) rfl ?_); refine goesL_ (some 18) rfl rfl Try.func21 (by kernel_rfl) rfl #[.agg #[.slice A0_0 l0_0.length c0_0, .int .i64 a0_1], .int .i64 1048576] rfl (by (try simp only [List.map_toArray, List.map_cons, List.map_nil]); first | done | rfl | (simp only [List.length_drop, List.length_take]; rfl)) ?_; (with_reducible refine (laws_szState.calls _ _ l0_0 a0_1 1048576 t202 _ ?side1 ?side2 A3.out).mono ?_); (case side1 => repeat (first | exact (Kd.C_below HR0_0.out HB.out) | (with_reducible refine Kd.C_alloc ?_ _) | (with_reducible refine Kd.C_drewN ?_ _) | (with_reducible refine Kd.C_drew ?_))); (case side2 => exact HC0_0.out); rintro e w9 ⟨rfl, hb⟩; refine ⟨_, rfl, ?_⟩; have n0_ := A_ (blk_below (bd BK200.out) hb); have n1_ := A_ (blk_below (bd BK201.out) hb); have n2_ := A_ (below_step (hb2 HB.out GE200.out GE201.out) hb); clear BK200; clear BK201; clear HB; have BK200 := n0_; have BK201 := n1_; have HB := n2_; clear n0_ n1_ n2_; (try clear hb); (try clear hb2); (try clear hk); (try clear hi)))
  go_ret
  exact ⟨by first | rfl | (simp [errW_none, errW_some] <;> rfl) | (simp [*, errW_none, errW_some] <;> rfl), by repeat (first | (with_reducible first | exact HB.out | apply below_alloc | apply pw_below_drewN | apply below_drew1 | refine below_set ?_ GE200.out | refine below_set ?_ GE201.out) | exact HB.out)⟩
 ·
  rw [if_neg c4] at H
  have c4b0 : decide (t202 < 0) = false := decide_eq_false c4
  clear c4
  replace H := Option.bind_eq_some_iff.mp H
  obtain ⟨⟨t203, t206⟩, A100, H⟩ := H
  replace H : ((laws_toAsked.f a1_0 a1_1).bind fun bt207 => ((spec_AnswerState.f k t203 t206 bt207.1 bt207.2).bind fun bt209 => ((laws_toState.f k l0_0 a0_1).bind fun bt215 => ((laws_toAsked.f a1_0 a1_1).bind fun bt220 => ((impl_AnswerState.f k bt215.1 bt215.2 bt220.1 bt220.2).bind fun bt222 => ((laws_eqState.f k bt222.1 bt222.2.1 bt209.1 bt209.2.1).bind fun t228 => (if t228 = true then (laws_FnExactAnswerState.j0 k bt209.2.2 bt222.2.2 (bt222.2.2 != bt209.2.2) l0_0 a0_1 a1_0 a1_1 bt209.1 bt209.2.1 bt215.1 bt215.2 bt222.1 bt222.2.1) else (laws_FnExactAnswerState.j0 k bt209.2.2 bt222.2.2 true l0_0 a0_1 a1_0 a1_1 bt209.1 bt209.2.1 bt215.1 bt215.2 bt222.1 bt222.2.1)))))))) = some r := H
  have A10 := A_ A100
  clear A100
  replace H := Option.bind_eq_some_iff.mp H
  obtain ⟨⟨t207, t208⟩, A110, H⟩ := H
  replace H : ((spec_AnswerState.f k t203 t206 t207 t208).bind fun bt209 => ((laws_toState.f k l0_0 a0_1).bind fun bt215 => ((laws_toAsked.f a1_0 a1_1).bind fun bt220 => ((impl_AnswerState.f k bt215.1 bt215.2 bt220.1 bt220.2).bind fun bt222 => ((laws_eqState.f k bt222.1 bt222.2.1 bt209.1 bt209.2.1).bind fun t228 => (if t228 = true then (laws_FnExactAnswerState.j0 k bt209.2.2 bt222.2.2 (bt222.2.2 != bt209.2.2) l0_0 a0_1 a1_0 a1_1 bt209.1 bt209.2.1 bt215.1 bt215.2 bt222.1 bt222.2.1) else (laws_FnExactAnswerState.j0 k bt209.2.2 bt222.2.2 true l0_0 a0_1 a1_0 a1_1 bt209.1 bt209.2.1 bt215.1 bt215.2 bt222.1 bt222.2.1))))))) = some r := H
  have A11 := A_ A110
  clear A110
  replace H := Option.bind_eq_some_iff.mp H
  obtain ⟨⟨t209, t212, t213⟩, A120, H⟩ := H
  replace H : ((laws_toState.f k l0_0 a0_1).bind fun bt215 => ((laws_toAsked.f a1_0 a1_1).bind fun bt220 => ((impl_AnswerState.f k bt215.1 bt215.2 bt220.1 bt220.2).bind fun bt222 => ((laws_eqState.f k bt222.1 bt222.2.1 t209 t212).bind fun t228 => (if t228 = true then (laws_FnExactAnswerState.j0 k t213 bt222.2.2 (bt222.2.2 != t213) l0_0 a0_1 a1_0 a1_1 t209 t212 bt215.1 bt215.2 bt222.1 bt222.2.1) else (laws_FnExactAnswerState.j0 k t213 bt222.2.2 true l0_0 a0_1 a1_0 a1_1 t209 t212 bt215.1 bt215.2 bt222.1 bt222.2.1)))))) = some r := H
  have A12 := A_ A120
  clear A120
  replace H := Option.bind_eq_some_iff.mp H
  obtain ⟨⟨t215, t218⟩, A130, H⟩ := H
  replace H : ((laws_toAsked.f a1_0 a1_1).bind fun bt220 => ((impl_AnswerState.f k t215 t218 bt220.1 bt220.2).bind fun bt222 => ((laws_eqState.f k bt222.1 bt222.2.1 t209 t212).bind fun t228 => (if t228 = true then (laws_FnExactAnswerState.j0 k t213 bt222.2.2 (bt222.2.2 != t213) l0_0 a0_1 a1_0 a1_1 t209 t212 t215 t218 bt222.1 bt222.2.1) else (laws_FnExactAnswerState.j0 k t213 bt222.2.2 true l0_0 a0_1 a1_0 a1_1 t209 t212 t215 t218 bt222.1 bt222.2.1))))) = some r := H
  have A13 := A_ A130
  clear A130
  replace H := Option.bind_eq_some_iff.mp H
  obtain ⟨⟨t220, t221⟩, A140, H⟩ := H
  replace H : ((impl_AnswerState.f k t215 t218 t220 t221).bind fun bt222 => ((laws_eqState.f k bt222.1 bt222.2.1 t209 t212).bind fun t228 => (if t228 = true then (laws_FnExactAnswerState.j0 k t213 bt222.2.2 (bt222.2.2 != t213) l0_0 a0_1 a1_0 a1_1 t209 t212 t215 t218 bt222.1 bt222.2.1) else (laws_FnExactAnswerState.j0 k t213 bt222.2.2 true l0_0 a0_1 a1_0 a1_1 t209 t212 t215 t218 bt222.1 bt222.2.1)))) = some r := H
  have A14 := A_ A140
  clear A140
  replace H := Option.bind_eq_some_iff.mp H
  obtain ⟨⟨t222, t225, t226⟩, A150, H⟩ := H
  replace H : ((laws_eqState.f k t222 t225 t209 t212).bind fun t228 => (if t228 = true then (laws_FnExactAnswerState.j0 k t213 t226 (t226 != t213) l0_0 a0_1 a1_0 a1_1 t209 t212 t215 t218 t222 t225) else (laws_FnExactAnswerState.j0 k t213 t226 true l0_0 a0_1 a1_0 a1_1 t209 t212 t215 t218 t222 t225))) = some r := H
  have A15 := A_ A150
  clear A150
  have HC16 := A_ H
  clear H
  go_enter Try.func6, Try.ntmps6
  try go_wp2_with (first | ((with_reducible refine gate_dst (N := 2) rfl ?_); refine box_event ?hg (N := 2) ?hd (cs := #[.slice A0_0 l0_0.length c0_0, .int .i64 a0_1]) (t := 39) ?hr ?_; (case hd => rfl); (case hg => rfl); (case hr => first | (go_simp; done) | (go_simp; rfl)); intro gb200 hg w17 hbox hb; have n0_ := A_ (below_step (hb0 HB.out) hb); have n1_ := A_ (hbox); have n2_ := A_ ((by rw [hg]; exact (below_size (hb0 HB.out)) : w.heap.size ≤ gb200)); have n3_ := A_ ((by rw [hg]; exact (below_size (hb0 HB.out)) : w.heap.size ≤ gb200)); clear HB; have HB := n0_; have BK200 := n1_; have GW200 := n2_; have GE200 := n3_; clear n0_ n1_ n2_ n3_; clear hb hbox hg) | ((with_reducible refine gate_dst (N := 3) rfl ?_); refine box_event ?hg (N := 3) ?hd (cs := #[.int .i64 a1_0, .bool a1_1]) (t := 41) ?hr ?_; (case hd => rfl); (case hg => rfl); (case hr => first | (go_simp; done) | (go_simp; rfl)); intro gb201 hg w18 hbox hb; have n0_ := A_ (blk_below (bd BK200.out) hb); have n1_ := A_ (below_step (hb1 HB.out GE200.out) hb); have n2_ := A_ (hbox); have n3_ := A_ ((by rw [hg]; exact (below_size (hb1 HB.out GE200.out)) : w.heap.size ≤ gb201)); have n4_ := A_ ((by rw [hg]; exact (below_size (hb1 HB.out GE200.out)) : w.heap.size ≤ gb201)); have n5_ := A_ ((by rw [hg]; exact Nat.ne_of_lt (blk_lt (bd BK200.out)) : gb200 ≠ gb201)); have n6_ := A_ ((by rw [hg]; exact Nat.ne_of_gt (blk_lt (bd BK200.out)) : gb201 ≠ gb200)); clear BK200; clear HB; have BK200 := n0_; have HB := n1_; have BK201 := n2_; have GW201 := n3_; have GE201 := n4_; have NB200_201 := n5_; have NB201_200 := n6_; clear n0_ n1_ n2_ n3_ n4_ n5_ n6_; clear hb hbox hg; have hnb19 := NB200_201.out; have hnc19 := NB201_200.out; have hcz20_0 : w18.cell? ⟨gb200, 0, none⟩ = some (.slice A0_0 l0_0.length c0_0) := (blk_cell BK200.out 0).trans rfl; have hcz20_1 : w18.cell? ⟨gb200, 1, none⟩ = some (.int .i64 a0_1) := (blk_cell BK200.out 1).trans rfl; have hfz20_0 := blk_frozen BK200.out 0; have hfz20_1 := blk_frozen BK200.out 1) | ((with_reducible refine gate_callee (f := 21) rfl ?_); refine goesL_ (some 18) rfl rfl Try.func21 (by kernel_rfl) rfl #[.agg #[.slice A0_0 l0_0.length c0_0, .int .i64 a0_1], .int .i64 1048576] rfl (by (try simp only [List.map_toArray, List.map_cons, List.map_nil]); first | done | rfl | (simp only [List.length_drop, List.length_take]; rfl)) ?_; (with_reducible refine (laws_szState.calls _ _ l0_0 a0_1 1048576 t202 _ ?side1 ?side2 A3.out).mono ?_); (case side1 => repeat (first | exact (Kd.C_below HR0_0.out HB.out) | (with_reducible refine Kd.C_alloc ?_ _) | (with_reducible refine Kd.C_drewN ?_ _) | (with_reducible refine Kd.C_drew ?_))); (case side2 => exact HC0_0.out); rintro e w21 ⟨rfl, hb⟩; refine ⟨_, rfl, ?_⟩; have n0_ := A_ (blk_below (bd BK200.out) hb); have n1_ := A_ (blk_below (bd BK201.out) hb); have n2_ := A_ (below_step (hb2 HB.out GE200.out GE201.out) hb); clear BK200; clear BK201; clear HB; have BK200 := n0_; have BK201 := n1_; have HB := n2_; clear n0_ n1_ n2_; (try clear hb); (try clear hb2); (try clear hk); (try clear hi)))
  have n0_ := A_ (blk_drew BK200.out)
  have n1_ := A_ (blk_drew BK201.out)
  have n2_ := A_ (below_drew1 HB.out)
  clear BK200
  clear BK201
  clear HB
  have BK200 := n0_
  have BK201 := n1_
  have HB := n2_
  clear n0_ n1_ n2_
  refine start_ (n := 11) (S := fun w' => w'.cell? ⟨gb200, 0, none⟩ = some (.slice A0_0 l0_0.length c0_0) ∧ w'.cell? ⟨gb200, 1, none⟩ = some (.int .i64 a0_1) ∧ w'.cell? ⟨gb201, 0, none⟩ = some (.int .i64 a1_0) ∧ w'.cell? ⟨gb201, 1, none⟩ = some (.bool a1_1)) (ds := []) #[false, false, false, false, false, false, false, false, false, false, false] (by kernel_rfl) rfl rfl ⟨(blk_cell BK200.out 0).trans rfl, (blk_cell BK200.out 1).trans rfl, (blk_cell BK201.out 0).trans rfl, (blk_cell BK201.out 1).trans rfl⟩ (fun hHeld => ?_); refine with_tabW laws_FnExactAnswerState.tab5 laws_FnExactAnswerState.bits5 (fun HT_ HW_ => ?_)
  generalize w21.drew = w22 at BK200 BK201 HB hHeld ⊢
  refine take_ (i := 0) (N := some 22) (v := ?_) (a' := ?_) #[true, false, false, false, false, false, false, false, false, false, false] rfl rfl (take_ofW HT_.out HW_.out (by kernel_rfl)) (fun _ _ _ h => h) (Or.inl ⟨by rfl, ?_⟩) hHeld ?_ ?_
  rotate_left
  ·
   rintro w' ⟨s0, s1, s2, s3⟩
   go_simp
   with_reducible rfl
  rotate_left
  ·
   simp only [Act.put, List.setIfInBounds_toArray, List.set_cons_zero, List.set_cons_succ, i64_w, i32_w]
   rfl
  refine take_ (i := 2) (N := some 24) (v := ?_) (a' := ?_) #[true, false, true, false, false, false, false, false, false, false, false] rfl rfl (take_ofW HT_.out HW_.out (by kernel_rfl)) (fun _ _ _ h => h) (Or.inl ⟨by rfl, ?_⟩) hHeld ?_ ?_
  rotate_left
  ·
   rintro w' ⟨s0, s1, s2, s3⟩
   go_simp
   with_reducible rfl
  rotate_left
  ·
   simp only [Act.put, List.setIfInBounds_toArray, List.set_cons_zero, List.set_cons_succ, i64_w, i32_w]
   rfl
  refine join_ (σ := Value × Value × Nat) 2 #[true, true, true, true, true, true, true, true, true, false, false] (fun s_ => [(23, .agg #[s_.1, .int .i64 t206]), (25, .agg #[.int .i64 t207, .bool t208]), (26, .tuple #[.agg #[s_.2.1, .int .i64 t212], .bool t213]), (6, .pointer (some ⟨s_.2.2, 0, none⟩)), (21, .tuple #[.agg #[s_.2.1, .int .i64 t212], .bool t213]), (27, .agg #[s_.2.1, .int .i64 t212]), (28, .bool t213)]) (fun s_ w' => (w'.cell? ⟨gb200, 0, none⟩ = some (.slice A0_0 l0_0.length c0_0) ∧ w'.cell? ⟨gb200, 1, none⟩ = some (.int .i64 a0_1) ∧ w'.cell? ⟨gb201, 0, none⟩ = some (.int .i64 a1_0) ∧ w'.cell? ⟨gb201, 1, none⟩ = some (.bool a1_1)) ∧ (Kd.R (Kd.int .i64) 3 w' w.heap.size (fun k_ => some k_ ≠ (s_.2.1 : Value).ownBlock) s_.1 t203) ∧ (Kd.R (Kd.int .i64) 3 w' w.heap.size (fun k_ => some k_ ≠ (s_.1 : Value).ownBlock) s_.2.1 t209) ∧ (w'.heap[gb200]? = some (.cells #[.slice A0_0 l0_0.length c0_0, .int .i64 a0_1] 39 (0, 0))) ∧ (w'.heap[gb201]? = some (.cells #[.int .i64 a1_0, .bool a1_1] 41 (0, 0))) ∧ (w'.heap[s_.2.2]? = some (.cells #[.slice none 0 0, .int .i64 0] 43 (0, 0))) ∧ (w.heap.size ≤ s_.2.2) ∧ (w.heap.size ≤ s_.2.2) ∧ (gb200 ≠ s_.2.2) ∧ (s_.2.2 ≠ gb200) ∧ (gb201 ≠ s_.2.2) ∧ (s_.2.2 ≠ gb201) ∧ (Below w.heap.size w w')) ?_ ?_
  rotate_left
  ·
   intro hCont
   refine two_ (i := 1) (j := 8) (Ni := some 23) (Nj := some 6) #[true, true, true, false, false, false, false, false, false, false, false] #[true, false, true, false, false, false, false, false, true, false, false] rfl rfl rfl rfl (two_of HT_.out (by kernel_rfl)) (by decide) (by decide) (fun K hK => ?_) (fun K hK => ?_)
   ·
    skip
    refine goes_ Try.func23 (by kernel_rfl) rfl #[.agg #[.slice A0_0 l0_0.length c0_0, .int .i64 a0_1]] (by rfl) rfl rfl (by (try simp only [List.map_toArray, List.map_cons, List.map_nil]); first | done | rfl | (simp only [List.length_drop, List.length_take]; rfl)) ?_
    with_reducible refine (laws_toState.calls k _ _ l0_0 a0_1 t203 t206 _ ?side1 ?side2 A10.out).mono ?_
    (case side1 => repeat (first | exact (Kd.C_below HR0_0.out HB.out) | (with_reducible refine Kd.C_alloc ?_ _) | (with_reducible refine Kd.C_drewN ?_ _) | (with_reducible refine Kd.C_drew ?_)))
    (case side2 => exact HC0_0.out)
    rintro e w23 ⟨v204, rfl, ho0, hb⟩
    refine ⟨_, rfl, ?_⟩
    have n0_ := A_ (Kd.R_lower ho0 (below_size (hb2 HB.out GE200.out GE201.out)))
    have n1_ := A_ (blk_below (bd BK200.out) hb)
    have n2_ := A_ (blk_below (bd BK201.out) hb)
    have n3_ := A_ (below_step (hb2 HB.out GE200.out GE201.out) hb)
    clear BK200
    clear BK201
    clear HB
    have HO205 := n0_
    have BK200 := n1_
    have BK201 := n2_
    have HB := n3_
    clear n0_ n1_ n2_ n3_
    (try clear hb)
    (try clear hb2)
    (try clear hk)
    (try clear hi)
    (try clear ho0)
    refine hK.out _ _ ⟨(blk_cell BK200.out 0).trans rfl, (blk_cell BK200.out 1).trans rfl, (blk_cell BK201.out 0).trans rfl, (blk_cell BK201.out 1).trans rfl⟩ (fun hHeld => ?_)
    clear hK K
    refine norm_ (a' := ?_) ?_ ?_
    rotate_left
    ·
     show Act.put _ (some 23) _ = _
     simp only [Act.put, List.setIfInBounds_toArray, List.set_cons_zero, List.set_cons_succ, i64_w, i32_w]
     rfl
    refine two_ (i := 3) (j := 8) (Ni := some 25) (Nj := some 6) #[true, true, true, true, false, false, false, false, false, false, false] #[true, true, true, false, false, false, false, false, true, false, false] rfl rfl rfl rfl (two_of HT_.out (by kernel_rfl)) (by decide) (by decide) (fun K hK => ?_) (fun K hK => ?_)
    ·
     skip
     refine goes_ Try.func24 (by kernel_rfl) rfl #[.agg #[.int .i64 a1_0, .bool a1_1]] (by rfl) rfl rfl (by (try simp only [List.map_toArray, List.map_cons, List.map_nil]); first | done | rfl | (simp only [List.length_drop, List.length_take]; rfl)) ?_
     with_reducible refine (laws_toAsked.calls a1_0 a1_1 t207 t208 _ A11.out).mono ?_
     rintro e w24 ⟨rfl, hb⟩
     refine ⟨_, rfl, ?_⟩
     have n0_ := A_ (Kd.R_below (rdd HO205.out) hb)
     have n1_ := A_ (blk_below (bd BK200.out) hb)
     have n2_ := A_ (blk_below (bd BK201.out) hb)
     have n3_ := A_ (below_step (hb2 HB.out GE200.out GE201.out) hb)
     clear HO205
     clear BK200
     clear BK201
     clear HB
     have HO205 := n0_
     have BK200 := n1_
     have BK201 := n2_
     have HB := n3_
     clear n0_ n1_ n2_ n3_
     (try clear hb)
     (try clear hb2)
     (try clear hk)
     (try clear hi)
     obtain ⟨Ao25, co25, eo25⟩ := Kd.R_slice HO205.out
     (first | subst eo25 | (injection eo25 with f1_ f2_ f3_; have f4_ := f1_.symm; have f5_ := f3_.symm; clear f1_ f2_ f3_; subst f4_; subst f5_))
     refine hK.out _ _ ⟨(blk_cell BK200.out 0).trans rfl, (blk_cell BK200.out 1).trans rfl, (blk_cell BK201.out 0).trans rfl, (blk_cell BK201.out 1).trans rfl⟩ (fun hHeld => ?_)
     clear hK K
     refine norm_ (a' := ?_) ?_ ?_
     rotate_left
     ·
      show Act.put _ (some 25) _ = _
      simp only [Act.put, List.setIfInBounds_toArray, List.set_cons_zero, List.set_cons_succ, i64_w, i32_w]
      rfl
     refine two_ (i := 4) (j := 8) (Ni := some 26) (Nj := some 6) #[true, true, true, true, true, false, false, false, false, false, false] #[true, true, true, true, false, false, false, false, true, false, false] rfl rfl rfl rfl (two_of HT_.out (by kernel_rfl)) (by decide) (by decide) (fun K hK => ?_) (fun K hK => ?_)
     ·
      skip
      refine goes_ Try.func22 (by kernel_rfl) rfl #[.agg #[.slice Ao25 t203.length co25, .int .i64 t206], .agg #[.int .i64 t207, .bool t208]] (by rfl) rfl rfl (by (try simp only [List.map_toArray, List.map_cons, List.map_nil]); first | done | rfl | (simp only [List.length_drop, List.length_take]; rfl)) ?_
      with_reducible refine (spec_AnswerState.calls k _ _ t203 t206 t207 t208 t209 t212 t213 _ ?side1 ?side2 A12.out).mono ?_
      (case side1 => repeat (first | exact (Kd.R_reads' HO205.out).2.2 | (with_reducible refine Kd.C_alloc ?_ _) | (with_reducible refine Kd.C_drewN ?_ _) | (with_reducible refine Kd.C_drew ?_)))
      (case side2 => exact (Kd.R_reads' HO205.out).2.1)
      rintro e w26 ⟨v210, rfl, ho0, hb⟩
      refine ⟨_, rfl, ?_⟩
      have n0_ := A_ (Kd.R_elder' (rdd HO205.out) (Kd.R_base ho0) hb)
      have n1_ := A_ (Kd.R_lower (Kd.R_new' ho0 (Kd.R_lt (rdd HO205.out))) (below_size (hb2 HB.out GE200.out GE201.out)))
      have n2_ := A_ (blk_below (bd BK200.out) hb)
      have n3_ := A_ (blk_below (bd BK201.out) hb)
      have n4_ := A_ (below_step (hb2 HB.out GE200.out GE201.out) hb)
      clear HO205
      clear BK200
      clear BK201
      clear HB
      have HO205 := n0_
      have HO211 := n1_
      have BK200 := n2_
      have BK201 := n3_
      have HB := n4_
      clear n0_ n1_ n2_ n3_ n4_
      (try clear hb)
      (try clear hb2)
      (try clear hk)
      (try clear hi)
      (try clear ho0)
      refine hK.out _ _ ⟨(blk_cell BK200.out 0).trans rfl, (blk_cell BK200.out 1).trans rfl, (blk_cell BK201.out 0).trans rfl, (blk_cell BK201.out 1).trans rfl⟩ (fun hHeld => ?_)
      clear hK K
      refine norm_ (a' := ?_) ?_ ?_
      rotate_left
      ·
       show Act.put _ (some 26) _ = _
       simp only [Act.put, List.setIfInBounds_toArray, List.set_cons_zero, List.set_cons_succ, i64_w, i32_w]
       rfl
      refine pure_ (i := 5) (N := some 21) (v := ?_) (a' := ?_) #[true, true, true, true, true, true, false, false, false, false, false] rfl rfl (any_of HT_.out (by kernel_rfl)) (fun _ _ _ h => h) (Or.inl ⟨by rfl, ?_⟩) ?_ ?_
      rotate_left
      ·
       intro w'
       go_simp
       with_reducible rfl
      rotate_left
      ·
       simp only [Act.put, List.setIfInBounds_toArray, List.set_cons_zero, List.set_cons_succ, i64_w, i32_w]
       rfl
      refine pure_ (i := 6) (N := some 27) (v := ?_) (a' := ?_) #[true, true, true, true, true, true, true, false, false, false, false] rfl rfl (any_of HT_.out (by kernel_rfl)) (fun _ _ _ h => h) (Or.inl ⟨by rfl, ?_⟩) ?_ ?_
      rotate_left
      ·
       intro w'
       go_simp
       with_reducible rfl
      rotate_left
      ·
       simp only [Act.put, List.setIfInBounds_toArray, List.set_cons_zero, List.set_cons_succ, i64_w, i32_w]
       rfl
      refine pure_ (i := 7) (N := some 28) (v := ?_) (a' := ?_) #[true, true, true, true, true, true, true, true, false, false, false] rfl rfl (any_of HT_.out (by kernel_rfl)) (fun _ _ _ h => h) (Or.inl ⟨by rfl, ?_⟩) ?_ ?_
      rotate_left
      ·
       intro w'
       go_simp
       with_reducible rfl
      rotate_left
      ·
       simp only [Act.put, List.setIfInBounds_toArray, List.set_cons_zero, List.set_cons_succ, i64_w, i32_w]
       rfl
      refine one_ (i := 8) (N := some 6) #[true, true, true, true, true, true, true, true, true, false, false] rfl rfl (one_of HT_.out (by kernel_rfl)) (by decide) (fun K hK => ?_)
      refine box_step ?hg (N := 6) ?hd (cs := #[.slice none 0 0, .int .i64 0]) (t := 43) ?hr ?_; (case hd => rfl); (case hg => rfl); (case hr => first | (go_simp; done) | (go_simp; rfl))
      intro gb214 hg w27 hbox hb
      have n0_ := A_ (Kd.R_below (rdd HO205.out) hb)
      have n1_ := A_ (Kd.R_below (rdd HO211.out) hb)
      have n2_ := A_ (blk_below (bd BK200.out) hb)
      have n3_ := A_ (blk_below (bd BK201.out) hb)
      have n4_ := A_ (below_step (hb2 HB.out GE200.out GE201.out) hb)
      have n5_ := A_ (hbox)
      have n6_ := A_ ((by rw [hg]; exact (below_size (hb2 HB.out GE200.out GE201.out)) : w.heap.size ≤ gb214))
      have n7_ := A_ ((by rw [hg]; exact (below_size (hb2 HB.out GE200.out GE201.out)) : w.heap.size ≤ gb214))
      have n8_ := A_ ((by rw [hg]; exact Nat.ne_of_lt (blk_lt (bd BK200.out)) : gb200 ≠ gb214))
      have n9_ := A_ ((by rw [hg]; exact Nat.ne_of_gt (blk_lt (bd BK200.out)) : gb214 ≠ gb200))
      have n10_ := A_ ((by rw [hg]; exact Nat.ne_of_lt (blk_lt (bd BK201.out)) : gb201 ≠ gb214))
      have n11_ := A_ ((by rw [hg]; exact Nat.ne_of_gt (blk_lt (bd BK201.out)) : gb214 ≠ gb201))
      clear HO205
      clear HO211
      clear BK200
      clear BK201
      clear HB
      have HO205 := n0_
      have HO211 := n1_
      have BK200 := n2_
      have BK201 := n3_
      have HB := n4_
      have BK214 := n5_
      have GW214 := n6_
      have GE214 := n7_
      have NB200_214 := n8_
      have NB214_200 := n9_
      have NB201_214 := n10_
      have NB214_201 := n11_
      clear n0_ n1_ n2_ n3_ n4_ n5_ n6_ n7_ n8_ n9_ n10_ n11_
      clear hb hbox hg
      refine hK.out _ _ ⟨(blk_cell BK200.out 0).trans rfl, (blk_cell BK200.out 1).trans rfl, (blk_cell BK201.out 0).trans rfl, (blk_cell BK201.out 1).trans rfl⟩ (fun hHeld => ?_)
      clear hK K
      refine norm_ (a' := ?_) ?_ ?_
      rotate_left
      ·
       show Act.put _ (some 6) _ = _
       simp only [Act.put, List.setIfInBounds_toArray, List.set_cons_zero, List.set_cons_succ, i64_w, i32_w]
       rfl
      exact norm_ (by simp only [putAll, Act.put, List.setIfInBounds_toArray, List.set_cons_zero, List.set_cons_succ]) (hCont (.slice Ao25 t203.length co25, v210, gb214) _ ⟨hHeld, (by refine rdd ?_; exact Kd.R_mono HO205.out (fun _ hk => hk.2)), (by refine rdd ?_; exact Kd.R_mono HO211.out (fun _ hk => hk.2)), (bd BK200.out), (bd BK201.out), (bd BK214.out), GW214.out, GE214.out, NB200_214.out, NB214_200.out, NB201_214.out, NB214_201.out, (hb3 HB.out GE200.out GE201.out GE214.out)⟩)
     ·
      skip
      refine box_step ?hg (N := 6) ?hd (cs := #[.slice none 0 0, .int .i64 0]) (t := 43) ?hr ?_; (case hd => rfl); (case hg => rfl); (case hr => first | (go_simp; done) | (go_simp; rfl))
      intro gb214 hg w25 hbox hb
      have n0_ := A_ (Kd.R_below (rdd HO205.out) hb)
      have n1_ := A_ (blk_below (bd BK200.out) hb)
      have n2_ := A_ (blk_below (bd BK201.out) hb)
      have n3_ := A_ (below_step (hb2 HB.out GE200.out GE201.out) hb)
      have n4_ := A_ (hbox)
      have n5_ := A_ ((by rw [hg]; exact (below_size (hb2 HB.out GE200.out GE201.out)) : w.heap.size ≤ gb214))
      have n6_ := A_ ((by rw [hg]; exact (below_size (hb2 HB.out GE200.out GE201.out)) : w.heap.size ≤ gb214))
      have n7_ := A_ ((by rw [hg]; exact Nat.ne_of_lt (blk_lt (bd BK200.out)) : gb200 ≠ gb214))
      have n8_ := A_ ((by rw [hg]; exact Nat.ne_of_gt (blk_lt (bd BK200.out)) : gb214 ≠ gb200))
      have n9_ := A_ ((by rw [hg]; exact Nat.ne_of_lt (blk_lt (bd BK201.out)) : gb201 ≠ gb214))
      have n10_ := A_ ((by rw [hg]; exact Nat.ne_of_gt (blk_lt (bd BK201.out)) : gb214 ≠ gb201))
      clear HO205
      clear BK200
      clear BK201
      clear HB
      have HO205 := n0_
      have BK200 := n1_
      have BK201 := n2_
      have HB := n3_
      have BK214 := n4_
      have GW214 := n5_
      have GE214 := n6_
      have NB200_214 := n7_
      have NB214_200 := n8_
      have NB201_214 := n9_
      have NB214_201 := n10_
      clear n0_ n1_ n2_ n3_ n4_ n5_ n6_ n7_ n8_ n9_ n10_
      clear hb hbox hg
      obtain ⟨Ao26, co26, eo26⟩ := Kd.R_slice HO205.out
      (first | subst eo26 | (injection eo26 with f1_ f2_ f3_; have f4_ := f1_.symm; have f5_ := f3_.symm; clear f1_ f2_ f3_; subst f4_; subst f5_))
      refine hK.out _ _ ⟨(blk_cell BK200.out 0).trans rfl, (blk_cell BK200.out 1).trans rfl, (blk_cell BK201.out 0).trans rfl, (blk_cell BK201.out 1).trans rfl⟩ (fun hHeld => ?_)
      clear hK K
      refine norm_ (a' := ?_) ?_ ?_
      rotate_left
      ·
       show Act.put _ (some 6) _ = _
       simp only [Act.put, List.setIfInBounds_toArray, List.set_cons_zero, List.set_cons_succ, i64_w, i32_w]
       rfl
      refine one_ (i := 4) (N := some 26) #[true, true, true, true, true, false, false, false, true, false, false] rfl rfl (one_of HT_.out (by kernel_rfl)) (by decide) (fun K hK => ?_)
      refine goes_ Try.func22 (by kernel_rfl) rfl #[.agg #[.slice Ao26 t203.length co26, .int .i64 t206], .agg #[.int .i64 t207, .bool t208]] (by rfl) rfl rfl (by (try simp only [List.map_toArray, List.map_cons, List.map_nil]); first | done | rfl | (simp only [List.length_drop, List.length_take]; rfl)) ?_
      with_reducible refine (spec_AnswerState.calls k _ _ t203 t206 t207 t208 t209 t212 t213 _ ?side1 ?side2 A12.out).mono ?_
      (case side1 => repeat (first | exact (Kd.R_reads' HO205.out).2.2 | (with_reducible refine Kd.C_alloc ?_ _) | (with_reducible refine Kd.C_drewN ?_ _) | (with_reducible refine Kd.C_drew ?_)))
      (case side2 => exact (Kd.R_reads' HO205.out).2.1)
      rintro e w27 ⟨v210, rfl, ho0, hb⟩
      refine ⟨_, rfl, ?_⟩
      have n0_ := A_ (Kd.R_elder' (rdd HO205.out) (Kd.R_base ho0) hb)
      have n1_ := A_ (Kd.R_lower (Kd.R_new' ho0 (Kd.R_lt (rdd HO205.out))) (below_size (hb3 HB.out GE200.out GE201.out GE214.out)))
      have n2_ := A_ (blk_below (bd BK200.out) hb)
      have n3_ := A_ (blk_below (bd BK201.out) hb)
      have n4_ := A_ (blk_below (bd BK214.out) hb)
      have n5_ := A_ (below_step (hb3 HB.out GE200.out GE201.out GE214.out) hb)
      clear HO205
      clear BK200
      clear BK201
      clear BK214
      clear HB
      have HO205 := n0_
      have HO211 := n1_
      have BK200 := n2_
      have BK201 := n3_
      have BK214 := n4_
      have HB := n5_
      clear n0_ n1_ n2_ n3_ n4_ n5_
      (try clear hb)
      (try clear hb2)
      (try clear hk)
      (try clear hi)
      (try clear ho0)
      refine hK.out _ _ ⟨(blk_cell BK200.out 0).trans rfl, (blk_cell BK200.out 1).trans rfl, (blk_cell BK201.out 0).trans rfl, (blk_cell BK201.out 1).trans rfl⟩ (fun hHeld => ?_)
      clear hK K
      refine norm_ (a' := ?_) ?_ ?_
      rotate_left
      ·
       show Act.put _ (some 26) _ = _
       simp only [Act.put, List.setIfInBounds_toArray, List.set_cons_zero, List.set_cons_succ, i64_w, i32_w]
       rfl
      refine pure_ (i := 5) (N := some 21) (v := ?_) (a' := ?_) #[true, true, true, true, true, true, false, false, true, false, false] rfl rfl (any_of HT_.out (by kernel_rfl)) (fun _ _ _ h => h) (Or.inl ⟨by rfl, ?_⟩) ?_ ?_
      rotate_left
      ·
       intro w'
       go_simp
       with_reducible rfl
      rotate_left
      ·
       simp only [Act.put, List.setIfInBounds_toArray, List.set_cons_zero, List.set_cons_succ, i64_w, i32_w]
       rfl
      refine pure_ (i := 6) (N := some 27) (v := ?_) (a' := ?_) #[true, true, true, true, true, true, true, false, true, false, false] rfl rfl (any_of HT_.out (by kernel_rfl)) (fun _ _ _ h => h) (Or.inl ⟨by rfl, ?_⟩) ?_ ?_
      rotate_left
      ·
       intro w'
       go_simp
       with_reducible rfl
      rotate_left
      ·
       simp only [Act.put, List.setIfInBounds_toArray, List.set_cons_zero, List.set_cons_succ, i64_w, i32_w]
       rfl
      refine pure_ (i := 7) (N := some 28) (v := ?_) (a' := ?_) #[true, true, true, true, true, true, true, true, true, false, false] rfl rfl (any_of HT_.out (by kernel_rfl)) (fun _ _ _ h => h) (Or.inl ⟨by rfl, ?_⟩) ?_ ?_
      rotate_left
      ·
       intro w'
       go_simp
       with_reducible rfl
      rotate_left
      ·
       simp only [Act.put, List.setIfInBounds_toArray, List.set_cons_zero, List.set_cons_succ, i64_w, i32_w]
       rfl
      exact norm_ (by simp only [putAll, Act.put, List.setIfInBounds_toArray, List.set_cons_zero, List.set_cons_succ]) (hCont (.slice Ao26 t203.length co26, v210, gb214) _ ⟨hHeld, (by refine rdd ?_; exact Kd.R_mono HO205.out (fun _ hk => hk.2)), (by refine rdd ?_; exact Kd.R_mono HO211.out (fun _ hk => hk.2)), (bd BK200.out), (bd BK201.out), (bd BK214.out), GW214.out, GE214.out, NB200_214.out, NB214_200.out, NB201_214.out, NB214_201.out, (hb3 HB.out GE200.out GE201.out GE214.out)⟩)
    ·
     skip
     refine box_step ?hg (N := 6) ?hd (cs := #[.slice none 0 0, .int .i64 0]) (t := 43) ?hr ?_; (case hd => rfl); (case hg => rfl); (case hr => first | (go_simp; done) | (go_simp; rfl))
     intro gb214 hg w24 hbox hb
     have n0_ := A_ (Kd.R_below (rdd HO205.out) hb)
     have n1_ := A_ (blk_below (bd BK200.out) hb)
     have n2_ := A_ (blk_below (bd BK201.out) hb)
     have n3_ := A_ (below_step (hb2 HB.out GE200.out GE201.out) hb)
     have n4_ := A_ (hbox)
     have n5_ := A_ ((by rw [hg]; exact (below_size (hb2 HB.out GE200.out GE201.out)) : w.heap.size ≤ gb214))
     have n6_ := A_ ((by rw [hg]; exact (below_size (hb2 HB.out GE200.out GE201.out)) : w.heap.size ≤ gb214))
     have n7_ := A_ ((by rw [hg]; exact Nat.ne_of_lt (blk_lt (bd BK200.out)) : gb200 ≠ gb214))
     have n8_ := A_ ((by rw [hg]; exact Nat.ne_of_gt (blk_lt (bd BK200.out)) : gb214 ≠ gb200))
     have n9_ := A_ ((by rw [hg]; exact Nat.ne_of_lt (blk_lt (bd BK201.out)) : gb201 ≠ gb214))
     have n10_ := A_ ((by rw [hg]; exact Nat.ne_of_gt (blk_lt (bd BK201.out)) : gb214 ≠ gb201))
     clear HO205
     clear BK200
     clear BK201
     clear HB
     have HO205 := n0_
     have BK200 := n1_
     have BK201 := n2_
     have HB := n3_
     have BK214 := n4_
     have GW214 := n5_
     have GE214 := n6_
     have NB200_214 := n7_
     have NB214_200 := n8_
     have NB201_214 := n9_
     have NB214_201 := n10_
     clear n0_ n1_ n2_ n3_ n4_ n5_ n6_ n7_ n8_ n9_ n10_
     clear hb hbox hg
     refine hK.out _ _ ⟨(blk_cell BK200.out 0).trans rfl, (blk_cell BK200.out 1).trans rfl, (blk_cell BK201.out 0).trans rfl, (blk_cell BK201.out 1).trans rfl⟩ (fun hHeld => ?_)
     clear hK K
     refine norm_ (a' := ?_) ?_ ?_
     rotate_left
     ·
      show Act.put _ (some 6) _ = _
      simp only [Act.put, List.setIfInBounds_toArray, List.set_cons_zero, List.set_cons_succ, i64_w, i32_w]
      rfl
     refine one_ (i := 3) (N := some 25) #[true, true, true, true, false, false, false, false, true, false, false] rfl rfl (one_of HT_.out (by kernel_rfl)) (by decide) (fun K hK => ?_)
     refine goes_ Try.func24 (by kernel_rfl) rfl #[.agg #[.int .i64 a1_0, .bool a1_1]] (by rfl) rfl rfl (by (try simp only [List.map_toArray, List.map_cons, List.map_nil]); first | done | rfl | (simp only [List.length_drop, List.length_take]; rfl)) ?_
     with_reducible refine (laws_toAsked.calls a1_0 a1_1 t207 t208 _ A11.out).mono ?_
     rintro e w25 ⟨rfl, hb⟩
     refine ⟨_, rfl, ?_⟩
     have n0_ := A_ (Kd.R_below (rdd HO205.out) hb)
     have n1_ := A_ (blk_below (bd BK200.out) hb)
     have n2_ := A_ (blk_below (bd BK201.out) hb)
     have n3_ := A_ (blk_below (bd BK214.out) hb)
     have n4_ := A_ (below_step (hb3 HB.out GE200.out GE201.out GE214.out) hb)
     clear HO205
     clear BK200
     clear BK201
     clear BK214
     clear HB
     have HO205 := n0_
     have BK200 := n1_
     have BK201 := n2_
     have BK214 := n3_
     have HB := n4_
     clear n0_ n1_ n2_ n3_ n4_
     (try clear hb)
     (try clear hb2)
     (try clear hk)
     (try clear hi)
     obtain ⟨Ao26, co26, eo26⟩ := Kd.R_slice HO205.out
     (first | subst eo26 | (injection eo26 with f1_ f2_ f3_; have f4_ := f1_.symm; have f5_ := f3_.symm; clear f1_ f2_ f3_; subst f4_; subst f5_))
     refine hK.out _ _ ⟨(blk_cell BK200.out 0).trans rfl, (blk_cell BK200.out 1).trans rfl, (blk_cell BK201.out 0).trans rfl, (blk_cell BK201.out 1).trans rfl⟩ (fun hHeld => ?_)
     clear hK K
     refine norm_ (a' := ?_) ?_ ?_
     rotate_left
     ·
      show Act.put _ (some 25) _ = _
      simp only [Act.put, List.setIfInBounds_toArray, List.set_cons_zero, List.set_cons_succ, i64_w, i32_w]
      rfl
     refine one_ (i := 4) (N := some 26) #[true, true, true, true, true, false, false, false, true, false, false] rfl rfl (one_of HT_.out (by kernel_rfl)) (by decide) (fun K hK => ?_)
     refine goes_ Try.func22 (by kernel_rfl) rfl #[.agg #[.slice Ao26 t203.length co26, .int .i64 t206], .agg #[.int .i64 t207, .bool t208]] (by rfl) rfl rfl (by (try simp only [List.map_toArray, List.map_cons, List.map_nil]); first | done | rfl | (simp only [List.length_drop, List.length_take]; rfl)) ?_
     with_reducible refine (spec_AnswerState.calls k _ _ t203 t206 t207 t208 t209 t212 t213 _ ?side1 ?side2 A12.out).mono ?_
     (case side1 => repeat (first | exact (Kd.R_reads' HO205.out).2.2 | (with_reducible refine Kd.C_alloc ?_ _) | (with_reducible refine Kd.C_drewN ?_ _) | (with_reducible refine Kd.C_drew ?_)))
     (case side2 => exact (Kd.R_reads' HO205.out).2.1)
     rintro e w27 ⟨v210, rfl, ho0, hb⟩
     refine ⟨_, rfl, ?_⟩
     have n0_ := A_ (Kd.R_elder' (rdd HO205.out) (Kd.R_base ho0) hb)
     have n1_ := A_ (Kd.R_lower (Kd.R_new' ho0 (Kd.R_lt (rdd HO205.out))) (below_size (hb3 HB.out GE200.out GE201.out GE214.out)))
     have n2_ := A_ (blk_below (bd BK200.out) hb)
     have n3_ := A_ (blk_below (bd BK201.out) hb)
     have n4_ := A_ (blk_below (bd BK214.out) hb)
     have n5_ := A_ (below_step (hb3 HB.out GE200.out GE201.out GE214.out) hb)
     clear HO205
     clear BK200
     clear BK201
     clear BK214
     clear HB
     have HO205 := n0_
     have HO211 := n1_
     have BK200 := n2_
     have BK201 := n3_
     have BK214 := n4_
     have HB := n5_
     clear n0_ n1_ n2_ n3_ n4_ n5_
     (try clear hb)
     (try clear hb2)
     (try clear hk)
     (try clear hi)
     (try clear ho0)
     refine hK.out _ _ ⟨(blk_cell BK200.out 0).trans rfl, (blk_cell BK200.out 1).trans rfl, (blk_cell BK201.out 0).trans rfl, (blk_cell BK201.out 1).trans rfl⟩ (fun hHeld => ?_)
     clear hK K
     refine norm_ (a' := ?_) ?_ ?_
     rotate_left
     ·
      show Act.put _ (some 26) _ = _
      simp only [Act.put, List.setIfInBounds_toArray, List.set_cons_zero, List.set_cons_succ, i64_w, i32_w]
      rfl
     refine pure_ (i := 5) (N := some 21) (v := ?_) (a' := ?_) #[true, true, true, true, true, true, false, false, true, false, false] rfl rfl (any_of HT_.out (by kernel_rfl)) (fun _ _ _ h => h) (Or.inl ⟨by rfl, ?_⟩) ?_ ?_
     rotate_left
     ·
      intro w'
      go_simp
      with_reducible rfl
     rotate_left
     ·
      simp only [Act.put, List.setIfInBounds_toArray, List.set_cons_zero, List.set_cons_succ, i64_w, i32_w]
      rfl
     refine pure_ (i := 6) (N := some 27) (v := ?_) (a' := ?_) #[true, true, true, true, true, true, true, false, true, false, false] rfl rfl (any_of HT_.out (by kernel_rfl)) (fun _ _ _ h => h) (Or.inl ⟨by rfl, ?_⟩) ?_ ?_
     rotate_left
     ·
      intro w'
      go_simp
      with_reducible rfl
     rotate_left
     ·
      simp only [Act.put, List.setIfInBounds_toArray, List.set_cons_zero, List.set_cons_succ, i64_w, i32_w]
      rfl
     refine pure_ (i := 7) (N := some 28) (v := ?_) (a' := ?_) #[true, true, true, true, true, true, true, true, true, false, false] rfl rfl (any_of HT_.out (by kernel_rfl)) (fun _ _ _ h => h) (Or.inl ⟨by rfl, ?_⟩) ?_ ?_
     rotate_left
     ·
      intro w'
      go_simp
      with_reducible rfl
     rotate_left
     ·
      simp only [Act.put, List.setIfInBounds_toArray, List.set_cons_zero, List.set_cons_succ, i64_w, i32_w]
      rfl
     exact norm_ (by simp only [putAll, Act.put, List.setIfInBounds_toArray, List.set_cons_zero, List.set_cons_succ]) (hCont (.slice Ao26 t203.length co26, v210, gb214) _ ⟨hHeld, (by refine rdd ?_; exact Kd.R_mono HO205.out (fun _ hk => hk.2)), (by refine rdd ?_; exact Kd.R_mono HO211.out (fun _ hk => hk.2)), (bd BK200.out), (bd BK201.out), (bd BK214.out), GW214.out, GE214.out, NB200_214.out, NB214_200.out, NB201_214.out, NB214_201.out, (hb3 HB.out GE200.out GE201.out GE214.out)⟩)
   ·
    skip
    refine box_step ?hg (N := 6) ?hd (cs := #[.slice none 0 0, .int .i64 0]) (t := 43) ?hr ?_; (case hd => rfl); (case hg => rfl); (case hr => first | (go_simp; done) | (go_simp; rfl))
    intro gb214 hg w23 hbox hb
    have n0_ := A_ (blk_below (bd BK200.out) hb)
    have n1_ := A_ (blk_below (bd BK201.out) hb)
    have n2_ := A_ (below_step (hb2 HB.out GE200.out GE201.out) hb)
    have n3_ := A_ (hbox)
    have n4_ := A_ ((by rw [hg]; exact (below_size (hb2 HB.out GE200.out GE201.out)) : w.heap.size ≤ gb214))
    have n5_ := A_ ((by rw [hg]; exact (below_size (hb2 HB.out GE200.out GE201.out)) : w.heap.size ≤ gb214))
    have n6_ := A_ ((by rw [hg]; exact Nat.ne_of_lt (blk_lt (bd BK200.out)) : gb200 ≠ gb214))
    have n7_ := A_ ((by rw [hg]; exact Nat.ne_of_gt (blk_lt (bd BK200.out)) : gb214 ≠ gb200))
    have n8_ := A_ ((by rw [hg]; exact Nat.ne_of_lt (blk_lt (bd BK201.out)) : gb201 ≠ gb214))
    have n9_ := A_ ((by rw [hg]; exact Nat.ne_of_gt (blk_lt (bd BK201.out)) : gb214 ≠ gb201))
    clear BK200
    clear BK201
    clear HB
    have BK200 := n0_
    have BK201 := n1_
    have HB := n2_
    have BK214 := n3_
    have GW214 := n4_
    have GE214 := n5_
    have NB200_214 := n6_
    have NB214_200 := n7_
    have NB201_214 := n8_
    have NB214_201 := n9_
    clear n0_ n1_ n2_ n3_ n4_ n5_ n6_ n7_ n8_ n9_
    clear hb hbox hg
    refine hK.out _ _ ⟨(blk_cell BK200.out 0).trans rfl, (blk_cell BK200.out 1).trans rfl, (blk_cell BK201.out 0).trans rfl, (blk_cell BK201.out 1).trans rfl⟩ (fun hHeld => ?_)
    clear hK K
    refine norm_ (a' := ?_) ?_ ?_
    rotate_left
    ·
     show Act.put _ (some 6) _ = _
     simp only [Act.put, List.setIfInBounds_toArray, List.set_cons_zero, List.set_cons_succ, i64_w, i32_w]
     rfl
    refine one_ (i := 1) (N := some 23) #[true, true, true, false, false, false, false, false, true, false, false] rfl rfl (one_of HT_.out (by kernel_rfl)) (by decide) (fun K hK => ?_)
    refine goes_ Try.func23 (by kernel_rfl) rfl #[.agg #[.slice A0_0 l0_0.length c0_0, .int .i64 a0_1]] (by rfl) rfl rfl (by (try simp only [List.map_toArray, List.map_cons, List.map_nil]); first | done | rfl | (simp only [List.length_drop, List.length_take]; rfl)) ?_
    with_reducible refine (laws_toState.calls k _ _ l0_0 a0_1 t203 t206 _ ?side1 ?side2 A10.out).mono ?_
    (case side1 => repeat (first | exact (Kd.C_below HR0_0.out HB.out) | (with_reducible refine Kd.C_alloc ?_ _) | (with_reducible refine Kd.C_drewN ?_ _) | (with_reducible refine Kd.C_drew ?_)))
    (case side2 => exact HC0_0.out)
    rintro e w24 ⟨v204, rfl, ho0, hb⟩
    refine ⟨_, rfl, ?_⟩
    have n0_ := A_ (Kd.R_lower ho0 (below_size (hb3 HB.out GE200.out GE201.out GE214.out)))
    have n1_ := A_ (blk_below (bd BK200.out) hb)
    have n2_ := A_ (blk_below (bd BK201.out) hb)
    have n3_ := A_ (blk_below (bd BK214.out) hb)
    have n4_ := A_ (below_step (hb3 HB.out GE200.out GE201.out GE214.out) hb)
    clear BK200
    clear BK201
    clear BK214
    clear HB
    have HO205 := n0_
    have BK200 := n1_
    have BK201 := n2_
    have BK214 := n3_
    have HB := n4_
    clear n0_ n1_ n2_ n3_ n4_
    (try clear hb)
    (try clear hb2)
    (try clear hk)
    (try clear hi)
    (try clear ho0)
    refine hK.out _ _ ⟨(blk_cell BK200.out 0).trans rfl, (blk_cell BK200.out 1).trans rfl, (blk_cell BK201.out 0).trans rfl, (blk_cell BK201.out 1).trans rfl⟩ (fun hHeld => ?_)
    clear hK K
    refine norm_ (a' := ?_) ?_ ?_
    rotate_left
    ·
     show Act.put _ (some 23) _ = _
     simp only [Act.put, List.setIfInBounds_toArray, List.set_cons_zero, List.set_cons_succ, i64_w, i32_w]
     rfl
    refine one_ (i := 3) (N := some 25) #[true, true, true, true, false, false, false, false, true, false, false] rfl rfl (one_of HT_.out (by kernel_rfl)) (by decide) (fun K hK => ?_)
    refine goes_ Try.func24 (by kernel_rfl) rfl #[.agg #[.int .i64 a1_0, .bool a1_1]] (by rfl) rfl rfl (by (try simp only [List.map_toArray, List.map_cons, List.map_nil]); first | done | rfl | (simp only [List.length_drop, List.length_take]; rfl)) ?_
    with_reducible refine (laws_toAsked.calls a1_0 a1_1 t207 t208 _ A11.out).mono ?_
    rintro e w25 ⟨rfl, hb⟩
    refine ⟨_, rfl, ?_⟩
    have n0_ := A_ (Kd.R_below (rdd HO205.out) hb)
    have n1_ := A_ (blk_below (bd BK200.out) hb)
    have n2_ := A_ (blk_below (bd BK201.out) hb)
    have n3_ := A_ (blk_below (bd BK214.out) hb)
    have n4_ := A_ (below_step (hb3 HB.out GE200.out GE201.out GE214.out) hb)
    clear HO205
    clear BK200
    clear BK201
    clear BK214
    clear HB
    have HO205 := n0_
    have BK200 := n1_
    have BK201 := n2_
    have BK214 := n3_
    have HB := n4_
    clear n0_ n1_ n2_ n3_ n4_
    (try clear hb)
    (try clear hb2)
    (try clear hk)
    (try clear hi)
    obtain ⟨Ao26, co26, eo26⟩ := Kd.R_slice HO205.out
    (first | subst eo26 | (injection eo26 with f1_ f2_ f3_; have f4_ := f1_.symm; have f5_ := f3_.symm; clear f1_ f2_ f3_; subst f4_; subst f5_))
    refine hK.out _ _ ⟨(blk_cell BK200.out 0).trans rfl, (blk_cell BK200.out 1).trans rfl, (blk_cell BK201.out 0).trans rfl, (blk_cell BK201.out 1).trans rfl⟩ (fun hHeld => ?_)
    clear hK K
    refine norm_ (a' := ?_) ?_ ?_
    rotate_left
    ·
     show Act.put _ (some 25) _ = _
     simp only [Act.put, List.setIfInBounds_toArray, List.set_cons_zero, List.set_cons_succ, i64_w, i32_w]
     rfl
    refine one_ (i := 4) (N := some 26) #[true, true, true, true, true, false, false, false, true, false, false] rfl rfl (one_of HT_.out (by kernel_rfl)) (by decide) (fun K hK => ?_)
    refine goes_ Try.func22 (by kernel_rfl) rfl #[.agg #[.slice Ao26 t203.length co26, .int .i64 t206], .agg #[.int .i64 t207, .bool t208]] (by rfl) rfl rfl (by (try simp only [List.map_toArray, List.map_cons, List.map_nil]); first | done | rfl | (simp only [List.length_drop, List.length_take]; rfl)) ?_
    with_reducible refine (spec_AnswerState.calls k _ _ t203 t206 t207 t208 t209 t212 t213 _ ?side1 ?side2 A12.out).mono ?_
    (case side1 => repeat (first | exact (Kd.R_reads' HO205.out).2.2 | (with_reducible refine Kd.C_alloc ?_ _) | (with_reducible refine Kd.C_drewN ?_ _) | (with_reducible refine Kd.C_drew ?_)))
    (case side2 => exact (Kd.R_reads' HO205.out).2.1)
    rintro e w27 ⟨v210, rfl, ho0, hb⟩
    refine ⟨_, rfl, ?_⟩
    have n0_ := A_ (Kd.R_elder' (rdd HO205.out) (Kd.R_base ho0) hb)
    have n1_ := A_ (Kd.R_lower (Kd.R_new' ho0 (Kd.R_lt (rdd HO205.out))) (below_size (hb3 HB.out GE200.out GE201.out GE214.out)))
    have n2_ := A_ (blk_below (bd BK200.out) hb)
    have n3_ := A_ (blk_below (bd BK201.out) hb)
    have n4_ := A_ (blk_below (bd BK214.out) hb)
    have n5_ := A_ (below_step (hb3 HB.out GE200.out GE201.out GE214.out) hb)
    clear HO205
    clear BK200
    clear BK201
    clear BK214
    clear HB
    have HO205 := n0_
    have HO211 := n1_
    have BK200 := n2_
    have BK201 := n3_
    have BK214 := n4_
    have HB := n5_
    clear n0_ n1_ n2_ n3_ n4_ n5_
    (try clear hb)
    (try clear hb2)
    (try clear hk)
    (try clear hi)
    (try clear ho0)
    refine hK.out _ _ ⟨(blk_cell BK200.out 0).trans rfl, (blk_cell BK200.out 1).trans rfl, (blk_cell BK201.out 0).trans rfl, (blk_cell BK201.out 1).trans rfl⟩ (fun hHeld => ?_)
    clear hK K
    refine norm_ (a' := ?_) ?_ ?_
    rotate_left
    ·
     show Act.put _ (some 26) _ = _
     simp only [Act.put, List.setIfInBounds_toArray, List.set_cons_zero, List.set_cons_succ, i64_w, i32_w]
     rfl
    refine pure_ (i := 5) (N := some 21) (v := ?_) (a' := ?_) #[true, true, true, true, true, true, false, false, true, false, false] rfl rfl (any_of HT_.out (by kernel_rfl)) (fun _ _ _ h => h) (Or.inl ⟨by rfl, ?_⟩) ?_ ?_
    rotate_left
    ·
     intro w'
     go_simp
     with_reducible rfl
    rotate_left
    ·
     simp only [Act.put, List.setIfInBounds_toArray, List.set_cons_zero, List.set_cons_succ, i64_w, i32_w]
     rfl
    refine pure_ (i := 6) (N := some 27) (v := ?_) (a' := ?_) #[true, true, true, true, true, true, true, false, true, false, false] rfl rfl (any_of HT_.out (by kernel_rfl)) (fun _ _ _ h => h) (Or.inl ⟨by rfl, ?_⟩) ?_ ?_
    rotate_left
    ·
     intro w'
     go_simp
     with_reducible rfl
    rotate_left
    ·
     simp only [Act.put, List.setIfInBounds_toArray, List.set_cons_zero, List.set_cons_succ, i64_w, i32_w]
     rfl
    refine pure_ (i := 7) (N := some 28) (v := ?_) (a' := ?_) #[true, true, true, true, true, true, true, true, true, false, false] rfl rfl (any_of HT_.out (by kernel_rfl)) (fun _ _ _ h => h) (Or.inl ⟨by rfl, ?_⟩) ?_ ?_
    rotate_left
    ·
     intro w'
     go_simp
     with_reducible rfl
    rotate_left
    ·
     simp only [Act.put, List.setIfInBounds_toArray, List.set_cons_zero, List.set_cons_succ, i64_w, i32_w]
     rfl
    exact norm_ (by simp only [putAll, Act.put, List.setIfInBounds_toArray, List.set_cons_zero, List.set_cons_succ]) (hCont (.slice Ao26 t203.length co26, v210, gb214) _ ⟨hHeld, (by refine rdd ?_; exact Kd.R_mono HO205.out (fun _ hk => hk.2)), (by refine rdd ?_; exact Kd.R_mono HO211.out (fun _ hk => hk.2)), (bd BK200.out), (bd BK201.out), (bd BK214.out), GW214.out, GE214.out, NB200_214.out, NB214_200.out, NB201_214.out, NB214_201.out, (hb3 HB.out GE200.out GE201.out GE214.out)⟩)
  rintro ⟨v204, v210, gb214⟩ w28 ⟨hS_, h0_, h1_, h2_, h3_, h4_, h5_, h6_, h7_, h8_, h9_, h10_, h11_⟩
  have n0_ : Aside0 (Kd.R (Kd.int .i64) 3 w28 w.heap.size (fun k_ => some k_ ≠ (v210 : Value).ownBlock) v204 t203) := ⟨h0_⟩
  have n1_ : Aside0 (Kd.R (Kd.int .i64) 3 w28 w.heap.size (fun k_ => some k_ ≠ (v204 : Value).ownBlock) v210 t209) := ⟨h1_⟩
  have n2_ : Aside0 (w28.heap[gb200]? = some (.cells #[.slice A0_0 l0_0.length c0_0, .int .i64 a0_1] 39 (0, 0))) := ⟨h2_⟩
  have n3_ : Aside0 (w28.heap[gb201]? = some (.cells #[.int .i64 a1_0, .bool a1_1] 41 (0, 0))) := ⟨h3_⟩
  have n4_ : Aside0 (w28.heap[gb214]? = some (.cells #[.slice none 0 0, .int .i64 0] 43 (0, 0))) := ⟨h4_⟩
  have n5_ : Aside0 (w.heap.size ≤ gb214) := ⟨h5_⟩
  have n6_ : Aside0 (w.heap.size ≤ gb214) := ⟨h6_⟩
  have n7_ : Aside0 (gb200 ≠ gb214) := ⟨h7_⟩
  have n8_ : Aside0 (gb214 ≠ gb200) := ⟨h8_⟩
  have n9_ : Aside0 (gb201 ≠ gb214) := ⟨h9_⟩
  have n10_ : Aside0 (gb214 ≠ gb201) := ⟨h10_⟩
  have n11_ : Aside0 (Below w.heap.size w w28) := ⟨h11_⟩
  clear BK200
  clear BK201
  clear HB
  clear h0_ h1_ h2_ h3_ h4_ h5_ h6_ h7_ h8_ h9_ h10_ h11_
  have HO205 := n0_
  have HO211 := n1_
  have BK200 := n2_
  have BK201 := n3_
  have BK214 := n4_
  have GW214 := n5_
  have GE214 := n6_
  have NB200_214 := n7_
  have NB214_200 := n8_
  have NB201_214 := n9_
  have NB214_201 := n10_
  have HB := n11_
  clear n0_ n1_ n2_ n3_ n4_ n5_ n6_ n7_ n8_ n9_ n10_ n11_
  have hHeld : w28.cell? ⟨gb200, 0, none⟩ = some (.slice A0_0 l0_0.length c0_0) ∧ w28.cell? ⟨gb200, 1, none⟩ = some (.int .i64 a0_1) ∧ w28.cell? ⟨gb201, 0, none⟩ = some (.int .i64 a1_0) ∧ w28.cell? ⟨gb201, 1, none⟩ = some (.bool a1_1) := hS_
  obtain ⟨Ao29, co29, eo29⟩ := Kd.R_slice HO211.out
  (first | subst eo29 | (injection eo29 with f1_ f2_ f3_; have f4_ := f1_.symm; have f5_ := f3_.symm; clear f1_ f2_ f3_; subst f4_; subst f5_))
  refine norm_ (a' := ?_) ?_ ?_
  rotate_left
  ·
   simp only [putAll, Act.put, List.setIfInBounds_toArray, List.set_cons_zero, List.set_cons_succ]
   rfl
  refine one_ (i := 9) (N := none) #[true, true, true, true, true, true, true, true, true, true, false] rfl rfl (one_of HT_.out (by kernel_rfl)) (by decide) (fun K hK => ?_)
  have hs30 : w28.cell? ⟨gb214, 0, none⟩ = some (.slice none 0 0) := (blk_cell BK214.out 0).trans rfl
  have hfs30 := blk_frozen BK214.out 0
  have hns30_0 := NB200_214.out
  have hns30_1 := NB201_214.out
  have hms30_0 := NB214_200.out
  have hms30_1 := NB214_201.out
  have hs31 : w28.cell? ⟨gb214, 1, none⟩ = some (.int .i64 0) := (blk_cell BK214.out 1).trans rfl
  have hfs31 := blk_frozen BK214.out 1
  have hns31_0 := NB200_214.out
  have hns31_1 := NB201_214.out
  have hms31_0 := NB214_200.out
  have hms31_1 := NB214_201.out
  refine skip_ (w1 := ?_) (by rfl) rfl ?_ ?_
  rotate_left
  ·
   go_simp
   rfl
  refine hK.out _ _ ⟨((cell_far (p := ⟨gb214, _, none⟩) NB200_214.out _).trans (((cell_far (p := ⟨gb214, _, none⟩) NB200_214.out _).trans (hHeld.1)))), ((cell_far (p := ⟨gb214, _, none⟩) NB200_214.out _).trans (((cell_far (p := ⟨gb214, _, none⟩) NB200_214.out _).trans (hHeld.2.1)))), ((cell_far (p := ⟨gb214, _, none⟩) NB201_214.out _).trans (((cell_far (p := ⟨gb214, _, none⟩) NB201_214.out _).trans (hHeld.2.2.1)))), ((cell_far (p := ⟨gb214, _, none⟩) NB201_214.out _).trans (((cell_far (p := ⟨gb214, _, none⟩) NB201_214.out _).trans (hHeld.2.2.2))))⟩ (fun hHeld => ?_)
  clear hK K
  refine pure_ (i := 10) (N := some 7) (v := ?_) (a' := ?_) #[true, true, true, true, true, true, true, true, true, true, true] rfl rfl (any_of HT_.out (by kernel_rfl)) (fun _ _ _ h => h) (Or.inl ⟨by rfl, ?_⟩) ?_ ?_
  rotate_left
  ·
   intro w'
   go_simp
   with_reducible rfl
  rotate_left
  ·
   simp only [Act.put, List.setIfInBounds_toArray, List.set_cons_zero, List.set_cons_succ, i64_w, i32_w]
   rfl
  refine done_ (done_of HT_.out (by kernel_rfl)) ?_
  have hnb32 := NB200_214.out
  have hnc32 := NB214_200.out
  have hcz33_0 : w28.cell? ⟨gb200, 0, none⟩ = some (.slice A0_0 l0_0.length c0_0) := (blk_cell BK200.out 0).trans rfl
  have hcz33_1 : w28.cell? ⟨gb200, 1, none⟩ = some (.int .i64 a0_1) := (blk_cell BK200.out 1).trans rfl
  have hfz33_0 := blk_frozen BK200.out 0
  have hfz33_1 := blk_frozen BK200.out 1
  try go_wp2_with (first | ((with_reducible refine gate_callee (f := 23) rfl ?_); refine goesL_ (some 30) rfl rfl Try.func23 (by kernel_rfl) rfl #[.agg #[.slice A0_0 l0_0.length c0_0, .int .i64 a0_1]] rfl (by (try simp only [List.map_toArray, List.map_cons, List.map_nil]); first | done | rfl | (simp only [List.length_drop, List.length_take]; rfl)) ?_; (with_reducible refine (laws_toState.calls k _ _ l0_0 a0_1 t215 t218 _ ?side1 ?side2 A13.out).mono ?_); (case side1 => exact Kd.C_below HR0_0.out (hb3 HB.out GE200.out GE201.out GE214.out)); (case side2 => exact HC0_0.out); rintro e w34 ⟨v216, rfl, ho0, hb⟩; refine ⟨_, rfl, ?_⟩; have n0_ := A_ (Kd.R_elder' (rdd (Kd.R_mono (Kd.R_far (p := ⟨gb214, 1, none⟩) (Kd.R_far (p := ⟨gb214, 0, none⟩) (Kd.R_types HO205.out BK214.out (by decide)) (fun _ hk => hk.2) (.slice Ao29 t209.length co29)) (fun _ hk => hk.2) (.int .i64 t212)) (fun _ h_ => h_.1))) (Kd.R_base ho0) hb); have n1_ := A_ (Kd.R_elder' (rdd (Kd.R_mono (Kd.R_far (p := ⟨gb214, 1, none⟩) (Kd.R_far (p := ⟨gb214, 0, none⟩) (Kd.R_types HO211.out BK214.out (by decide)) (fun _ hk => hk.2) (.slice Ao29 t209.length co29)) (fun _ hk => hk.2) (.int .i64 t212)) (fun _ h_ => h_.1))) (Kd.R_base ho0) hb); have n2_ := A_ (Kd.R_lower (Kd.R_new' (Kd.R_new' ho0 (Kd.R_lt (rdd (Kd.R_mono (Kd.R_far (p := ⟨gb214, 1, none⟩) (Kd.R_far (p := ⟨gb214, 0, none⟩) (Kd.R_types HO205.out BK214.out (by decide)) (fun _ hk => hk.2) (.slice Ao29 t209.length co29)) (fun _ hk => hk.2) (.int .i64 t212)) (fun _ h_ => h_.1))))) (Kd.R_lt (rdd (Kd.R_mono (Kd.R_far (p := ⟨gb214, 1, none⟩) (Kd.R_far (p := ⟨gb214, 0, none⟩) (Kd.R_types HO211.out BK214.out (by decide)) (fun _ hk => hk.2) (.slice Ao29 t209.length co29)) (fun _ hk => hk.2) (.int .i64 t212)) (fun _ h_ => h_.1))))) (below_size (hb3 HB.out GE200.out GE201.out GE214.out))); have n3_ := A_ (blk_below (g := gb200) (o := .cells #[.slice A0_0 l0_0.length c0_0, .int .i64 a0_1] 39 (0, 0)) (by refine bd ?_; refine blk_far ?_ NB200_214.out _; refine bd ?_; refine blk_far ?_ NB200_214.out _; refine bd ?_; exact BK200.out) hb); have n4_ := A_ (blk_below (g := gb201) (o := .cells #[.int .i64 a1_0, .bool a1_1] 41 (0, 0)) (by refine bd ?_; refine blk_far ?_ NB201_214.out _; refine bd ?_; refine blk_far ?_ NB201_214.out _; refine bd ?_; exact BK201.out) hb); have n5_ := A_ (blk_below (g := gb214) (o := .cells #[.slice Ao29 t209.length co29, .int .i64 t212] 43 (0, 0)) (by refine bd ?_; refine blk_put (cs := #[.slice Ao29 t209.length co29, .int .i64 0]) ?_ 1 _ rfl; refine bd ?_; refine blk_put (cs := #[.slice none 0 0, .int .i64 0]) ?_ 0 _ rfl; refine bd ?_; exact BK214.out) hb); have n6_ := A_ (below_step (hb3 HB.out GE200.out GE201.out GE214.out) hb); clear HO205; clear HO211; clear BK200; clear BK201; clear BK214; clear HB; have HO205 := n0_; have HO211 := n1_; have HO217 := n2_; have BK200 := n3_; have BK201 := n4_; have BK214 := n5_; have HB := n6_; clear n0_ n1_ n2_ n3_ n4_ n5_ n6_; (try clear hb); (try clear ho0)) | ((with_reducible refine gate_dst (N := 8) rfl ?_); refine box_event ?hg (N := 8) ?hd (cs := #[.slice none 0 0, .int .i64 0]) (t := 43) ?hr ?_; (case hd => rfl); (case hg => rfl); (case hr => first | (go_simp; done) | (go_simp; rfl)); intro gb219 hg w35 hbox hb; have n0_ := A_ (Kd.R_below (rdd HO205.out) hb); have n1_ := A_ (Kd.R_below (rdd HO211.out) hb); have n2_ := A_ (Kd.R_below (rdd HO217.out) hb); have n3_ := A_ (blk_below (bd BK200.out) hb); have n4_ := A_ (blk_below (bd BK201.out) hb); have n5_ := A_ (blk_below (bd BK214.out) hb); have n6_ := A_ (below_step (hb3 HB.out GE200.out GE201.out GE214.out) hb); have n7_ := A_ (hbox); have n8_ := A_ ((by rw [hg]; exact (below_size (hb3 HB.out GE200.out GE201.out GE214.out)) : w.heap.size ≤ gb219)); have n9_ := A_ ((by rw [hg]; exact (below_size (hb3 HB.out GE200.out GE201.out GE214.out)) : w.heap.size ≤ gb219)); have n10_ := A_ ((by rw [hg]; exact Nat.ne_of_lt (blk_lt (bd BK200.out)) : gb200 ≠ gb219)); have n11_ := A_ ((by rw [hg]; exact Nat.ne_of_gt (blk_lt (bd BK200.out)) : gb219 ≠ gb200)); have n12_ := A_ ((by rw [hg]; exact Nat.ne_of_lt (blk_lt (bd BK201.out)) : gb201 ≠ gb219)); have n13_ := A_ ((by rw [hg]; exact Nat.ne_of_gt (blk_lt (bd BK201.out)) : gb219 ≠ gb201)); have n14_ := A_ ((by rw [hg]; exact Nat.ne_of_lt (blk_lt (bd BK214.out)) : gb214 ≠ gb219)); have n15_ := A_ ((by rw [hg]; exact Nat.ne_of_gt (blk_lt (bd BK214.out)) : gb219 ≠ gb214)); clear HO205; clear HO211; clear HO217; clear BK200; clear BK201; clear BK214; clear HB; have HO205 := n0_; have HO211 := n1_; have HO217 := n2_; have BK200 := n3_; have BK201 := n4_; have BK214 := n5_; have HB := n6_; have BK219 := n7_; have GW219 := n8_; have GE219 := n9_; have NB200_219 := n10_; have NB219_200 := n11_; have NB201_219 := n12_; have NB219_201 := n13_; have NB214_219 := n14_; have NB219_214 := n15_; clear n0_ n1_ n2_ n3_ n4_ n5_ n6_ n7_ n8_ n9_ n10_ n11_ n12_ n13_ n14_ n15_; clear hb hbox hg; obtain ⟨Ao36, co36, eo36⟩ := Kd.R_slice HO217.out; subst eo36; have hnb37 := NB219_200.out; have hnc37 := NB200_219.out; have hnb38 := NB219_201.out; have hnc38 := NB201_219.out; have hnb39 := NB219_214.out; have hnc39 := NB214_219.out; have hcz40_0 : w35.cell? ⟨gb219, 0, none⟩ = some (.slice none 0 0) := (blk_cell BK219.out 0).trans rfl; have hcz40_1 : w35.cell? ⟨gb219, 1, none⟩ = some (.int .i64 0) := (blk_cell BK219.out 1).trans rfl; have hfz40_0 := blk_frozen BK219.out 0; have hfz40_1 := blk_frozen BK219.out 1))
  have n0_ : Aside0 (Kd.R (Kd.int .i64) 3 ((w35.setCell ⟨gb219, 0, none⟩ (.slice Ao36 t215.length co36)).setCell ⟨gb219, 1, none⟩ (.int .i64 t218)) w.heap.size (fun k_ => some k_ ≠ (.slice Ao29 t209.length co29 : Value).ownBlock ∧ some k_ ≠ (.slice Ao36 t215.length co36 : Value).ownBlock) v204 t203) := ⟨by refine rdd ?_; exact Kd.R_mono (Kd.R_far (p := ⟨gb219, 1, none⟩) (Kd.R_far (p := ⟨gb219, 0, none⟩) (Kd.R_types HO205.out BK219.out (by decide)) (fun _ hk => hk.2) (.slice Ao36 t215.length co36)) (fun _ hk => hk.2) (.int .i64 t218)) (fun _ hk => ⟨hk.1.1, hk.1.2⟩)⟩
  have n1_ : Aside0 (Kd.R (Kd.int .i64) 3 ((w35.setCell ⟨gb219, 0, none⟩ (.slice Ao36 t215.length co36)).setCell ⟨gb219, 1, none⟩ (.int .i64 t218)) w.heap.size (fun k_ => some k_ ≠ (v204 : Value).ownBlock ∧ some k_ ≠ (.slice Ao36 t215.length co36 : Value).ownBlock) (.slice Ao29 t209.length co29) t209) := ⟨by refine rdd ?_; exact Kd.R_mono (Kd.R_far (p := ⟨gb219, 1, none⟩) (Kd.R_far (p := ⟨gb219, 0, none⟩) (Kd.R_types HO211.out BK219.out (by decide)) (fun _ hk => hk.2) (.slice Ao36 t215.length co36)) (fun _ hk => hk.2) (.int .i64 t218)) (fun _ hk => ⟨hk.1.1, hk.1.2⟩)⟩
  have n2_ : Aside0 (Kd.R (Kd.int .i64) 3 ((w35.setCell ⟨gb219, 0, none⟩ (.slice Ao36 t215.length co36)).setCell ⟨gb219, 1, none⟩ (.int .i64 t218)) w.heap.size (fun k_ => some k_ ≠ (v204 : Value).ownBlock ∧ some k_ ≠ (.slice Ao29 t209.length co29 : Value).ownBlock) (.slice Ao36 t215.length co36) t215) := ⟨by refine rdd ?_; exact Kd.R_mono (Kd.R_far (p := ⟨gb219, 1, none⟩) (Kd.R_far (p := ⟨gb219, 0, none⟩) (Kd.R_types HO217.out BK219.out (by decide)) (fun _ hk => hk.2) (.slice Ao36 t215.length co36)) (fun _ hk => hk.2) (.int .i64 t218)) (fun _ hk => ⟨hk.1.1.2, hk.1.2⟩)⟩
  have n3_ : Aside0 (((w35.setCell ⟨gb219, 0, none⟩ (.slice Ao36 t215.length co36)).setCell ⟨gb219, 1, none⟩ (.int .i64 t218)).heap[gb200]? = some (.cells #[.slice A0_0 l0_0.length c0_0, .int .i64 a0_1] 39 (0, 0))) := ⟨by refine bd ?_; refine blk_far ?_ NB200_219.out _; refine bd ?_; refine blk_far ?_ NB200_219.out _; refine bd ?_; exact BK200.out⟩
  have n4_ : Aside0 (((w35.setCell ⟨gb219, 0, none⟩ (.slice Ao36 t215.length co36)).setCell ⟨gb219, 1, none⟩ (.int .i64 t218)).heap[gb201]? = some (.cells #[.int .i64 a1_0, .bool a1_1] 41 (0, 0))) := ⟨by refine bd ?_; refine blk_far ?_ NB201_219.out _; refine bd ?_; refine blk_far ?_ NB201_219.out _; refine bd ?_; exact BK201.out⟩
  have n5_ : Aside0 (((w35.setCell ⟨gb219, 0, none⟩ (.slice Ao36 t215.length co36)).setCell ⟨gb219, 1, none⟩ (.int .i64 t218)).heap[gb214]? = some (.cells #[.slice Ao29 t209.length co29, .int .i64 t212] 43 (0, 0))) := ⟨by refine bd ?_; refine blk_far ?_ NB214_219.out _; refine bd ?_; refine blk_far ?_ NB214_219.out _; refine bd ?_; exact BK214.out⟩
  have n6_ : Aside0 (((w35.setCell ⟨gb219, 0, none⟩ (.slice Ao36 t215.length co36)).setCell ⟨gb219, 1, none⟩ (.int .i64 t218)).heap[gb219]? = some (.cells #[.slice Ao36 t215.length co36, .int .i64 t218] 43 (0, 0))) := ⟨by refine bd ?_; refine blk_put (cs := #[.slice Ao36 t215.length co36, .int .i64 0]) ?_ 1 _ rfl; refine bd ?_; refine blk_put (cs := #[.slice none 0 0, .int .i64 0]) ?_ 0 _ rfl; refine bd ?_; exact BK219.out⟩
  have n7_ : Aside0 (Below w.heap.size w ((w35.setCell ⟨gb219, 0, none⟩ (.slice Ao36 t215.length co36)).setCell ⟨gb219, 1, none⟩ (.int .i64 t218))) := ⟨hb4 HB.out GE200.out GE201.out GE214.out GE219.out⟩
  (try clear HO205)
  (try clear HO211)
  (try clear HO217)
  (try clear BK200)
  (try clear BK201)
  (try clear BK214)
  (try clear BK219)
  (try clear HB)
  generalize ((w35.setCell ⟨gb219, 0, none⟩ (.slice Ao36 t215.length co36)).setCell ⟨gb219, 1, none⟩ (.int .i64 t218)) = w41 at n0_ n1_ n2_ n3_ n4_ n5_ n6_ n7_ ⊢
  have HO205 := n0_
  have HO211 := n1_
  have HO217 := n2_
  have BK200 := n3_
  have BK201 := n4_
  have BK214 := n5_
  have BK219 := n6_
  have HB := n7_
  clear n0_ n1_ n2_ n3_ n4_ n5_ n6_ n7_
  have n0_ := A_ (Kd.R_drew HO205.out)
  have n1_ := A_ (Kd.R_drew HO211.out)
  have n2_ := A_ (Kd.R_drew HO217.out)
  have n3_ := A_ (blk_drew BK200.out)
  have n4_ := A_ (blk_drew BK201.out)
  have n5_ := A_ (blk_drew BK214.out)
  have n6_ := A_ (blk_drew BK219.out)
  have n7_ := A_ (below_drew1 HB.out)
  clear HO205
  clear HO211
  clear HO217
  clear BK200
  clear BK201
  clear BK214
  clear BK219
  clear HB
  have HO205 := n0_
  have HO211 := n1_
  have HO217 := n2_
  have BK200 := n3_
  have BK201 := n4_
  have BK214 := n5_
  have BK219 := n6_
  have HB := n7_
  clear n0_ n1_ n2_ n3_ n4_ n5_ n6_ n7_
  refine start_ (n := 10) (S := fun w' => w'.cell? ⟨gb219, 0, none⟩ = some (.slice Ao36 t215.length co36) ∧ w'.cell? ⟨gb219, 1, none⟩ = some (.int .i64 t218) ∧ w'.cell? ⟨gb201, 0, none⟩ = some (.int .i64 a1_0) ∧ w'.cell? ⟨gb201, 1, none⟩ = some (.bool a1_1)) (ds := []) #[false, false, false, false, false, false, false, false, false, false] (by kernel_rfl) rfl rfl ⟨(blk_cell BK219.out 0).trans rfl, (blk_cell BK219.out 1).trans rfl, (blk_cell BK201.out 0).trans rfl, (blk_cell BK201.out 1).trans rfl⟩ (fun hHeld => ?_); refine with_tabW laws_FnExactAnswerState.tab7 laws_FnExactAnswerState.bits7 (fun HT_ HW_ => ?_)
  generalize w41.drew = w42 at HO205 HO211 HO217 BK200 BK201 BK214 BK219 HB hHeld ⊢
  refine take_ (i := 0) (N := some 32) (v := ?_) (a' := ?_) #[true, false, false, false, false, false, false, false, false, false] rfl rfl (take_ofW HT_.out HW_.out (by kernel_rfl)) (fun _ _ _ h => h) (Or.inl ⟨by rfl, ?_⟩) hHeld ?_ ?_
  rotate_left
  ·
   rintro w' ⟨s0, s1, s2, s3⟩
   go_simp
   with_reducible rfl
  rotate_left
  ·
   simp only [Act.put, List.setIfInBounds_toArray, List.set_cons_zero, List.set_cons_succ, i64_w, i32_w]
   rfl
  refine take_ (i := 1) (N := some 33) (v := ?_) (a' := ?_) #[true, true, false, false, false, false, false, false, false, false] rfl rfl (take_ofW HT_.out HW_.out (by kernel_rfl)) (fun _ _ _ h => h) (Or.inl ⟨by rfl, ?_⟩) hHeld ?_ ?_
  rotate_left
  ·
   rintro w' ⟨s0, s1, s2, s3⟩
   go_simp
   with_reducible rfl
  rotate_left
  ·
   simp only [Act.put, List.setIfInBounds_toArray, List.set_cons_zero, List.set_cons_succ, i64_w, i32_w]
   rfl
  refine join_ (σ := Value × Nat) 2 #[true, true, true, true, true, true, true, true, false, false] (fun s_ => [(34, .agg #[.int .i64 t220, .bool t221]), (35, .tuple #[.agg #[s_.1, .int .i64 t225], .bool t226]), (9, .pointer (some ⟨s_.2, 0, none⟩)), (31, .tuple #[.agg #[s_.1, .int .i64 t225], .bool t226]), (36, .agg #[s_.1, .int .i64 t225]), (37, .bool t226)]) (fun s_ w' => (w'.cell? ⟨gb219, 0, none⟩ = some (.slice Ao36 t215.length co36) ∧ w'.cell? ⟨gb219, 1, none⟩ = some (.int .i64 t218) ∧ w'.cell? ⟨gb201, 0, none⟩ = some (.int .i64 a1_0) ∧ w'.cell? ⟨gb201, 1, none⟩ = some (.bool a1_1)) ∧ (Kd.R (Kd.int .i64) 3 w' w.heap.size (fun k_ => some k_ ≠ (.slice Ao29 t209.length co29 : Value).ownBlock ∧ some k_ ≠ (.slice Ao36 t215.length co36 : Value).ownBlock ∧ some k_ ≠ (s_.1 : Value).ownBlock) v204 t203) ∧ (Kd.R (Kd.int .i64) 3 w' w.heap.size (fun k_ => some k_ ≠ (v204 : Value).ownBlock ∧ some k_ ≠ (.slice Ao36 t215.length co36 : Value).ownBlock ∧ some k_ ≠ (s_.1 : Value).ownBlock) (.slice Ao29 t209.length co29) t209) ∧ (Kd.R (Kd.int .i64) 3 w' w.heap.size (fun k_ => some k_ ≠ (v204 : Value).ownBlock ∧ some k_ ≠ (.slice Ao29 t209.length co29 : Value).ownBlock ∧ some k_ ≠ (s_.1 : Value).ownBlock) (.slice Ao36 t215.length co36) t215) ∧ (Kd.R (Kd.int .i64) 3 w' w.heap.size (fun k_ => some k_ ≠ (v204 : Value).ownBlock ∧ some k_ ≠ (.slice Ao29 t209.length co29 : Value).ownBlock ∧ some k_ ≠ (.slice Ao36 t215.length co36 : Value).ownBlock) s_.1 t222) ∧ (w'.heap[gb200]? = some (.cells #[.slice A0_0 l0_0.length c0_0, .int .i64 a0_1] 39 (0, 0))) ∧ (w'.heap[gb201]? = some (.cells #[.int .i64 a1_0, .bool a1_1] 41 (0, 0))) ∧ (w'.heap[gb214]? = some (.cells #[.slice Ao29 t209.length co29, .int .i64 t212] 43 (0, 0))) ∧ (w'.heap[gb219]? = some (.cells #[.slice Ao36 t215.length co36, .int .i64 t218] 43 (0, 0))) ∧ (w'.heap[s_.2]? = some (.cells #[.slice none 0 0, .int .i64 0] 43 (0, 0))) ∧ (w.heap.size ≤ s_.2) ∧ (w.heap.size ≤ s_.2) ∧ (gb200 ≠ s_.2) ∧ (s_.2 ≠ gb200) ∧ (gb201 ≠ s_.2) ∧ (s_.2 ≠ gb201) ∧ (gb214 ≠ s_.2) ∧ (s_.2 ≠ gb214) ∧ (gb219 ≠ s_.2) ∧ (s_.2 ≠ gb219) ∧ (Below w.heap.size w w')) ?_ ?_
  rotate_left
  ·
   intro hCont
   refine two_ (i := 2) (j := 7) (Ni := some 34) (Nj := some 9) #[true, true, true, false, false, false, false, false, false, false] #[true, true, false, false, false, false, false, true, false, false] rfl rfl rfl rfl (two_of HT_.out (by kernel_rfl)) (by decide) (by decide) (fun K hK => ?_) (fun K hK => ?_)
   ·
    skip
    refine goes_ Try.func24 (by kernel_rfl) rfl #[.agg #[.int .i64 a1_0, .bool a1_1]] (by rfl) rfl rfl (by (try simp only [List.map_toArray, List.map_cons, List.map_nil]); first | done | rfl | (simp only [List.length_drop, List.length_take]; rfl)) ?_
    with_reducible refine (laws_toAsked.calls a1_0 a1_1 t220 t221 _ A14.out).mono ?_
    rintro e w43 ⟨rfl, hb⟩
    refine ⟨_, rfl, ?_⟩
    have n0_ := A_ (Kd.R_below (rdd HO205.out) hb)
    have n1_ := A_ (Kd.R_below (rdd HO211.out) hb)
    have n2_ := A_ (Kd.R_below (rdd HO217.out) hb)
    have n3_ := A_ (blk_below (bd BK200.out) hb)
    have n4_ := A_ (blk_below (bd BK201.out) hb)
    have n5_ := A_ (blk_below (bd BK214.out) hb)
    have n6_ := A_ (blk_below (bd BK219.out) hb)
    have n7_ := A_ (below_step (hb4 HB.out GE200.out GE201.out GE214.out GE219.out) hb)
    clear HO205
    clear HO211
    clear HO217
    clear BK200
    clear BK201
    clear BK214
    clear BK219
    clear HB
    have HO205 := n0_
    have HO211 := n1_
    have HO217 := n2_
    have BK200 := n3_
    have BK201 := n4_
    have BK214 := n5_
    have BK219 := n6_
    have HB := n7_
    clear n0_ n1_ n2_ n3_ n4_ n5_ n6_ n7_
    (try clear hb)
    (try clear hb2)
    (try clear hk)
    (try clear hi)
    refine hK.out _ _ ⟨(blk_cell BK219.out 0).trans rfl, (blk_cell BK219.out 1).trans rfl, (blk_cell BK201.out 0).trans rfl, (blk_cell BK201.out 1).trans rfl⟩ (fun hHeld => ?_)
    clear hK K
    refine norm_ (a' := ?_) ?_ ?_
    rotate_left
    ·
     show Act.put _ (some 34) _ = _
     simp only [Act.put, List.setIfInBounds_toArray, List.set_cons_zero, List.set_cons_succ, i64_w, i32_w]
     rfl
    refine two_ (i := 3) (j := 7) (Ni := some 35) (Nj := some 9) #[true, true, true, true, false, false, false, false, false, false] #[true, true, true, false, false, false, false, true, false, false] rfl rfl rfl rfl (two_of HT_.out (by kernel_rfl)) (by decide) (by decide) (fun K hK => ?_) (fun K hK => ?_)
    ·
     skip
     refine goes_ Try.func25 (by kernel_rfl) rfl #[.agg #[.slice Ao36 t215.length co36, .int .i64 t218], .agg #[.int .i64 t220, .bool t221]] (by rfl) rfl rfl (by (try simp only [List.map_toArray, List.map_cons, List.map_nil]); first | done | rfl | (simp only [List.length_drop, List.length_take]; rfl)) ?_
     with_reducible refine (impl_AnswerState.calls k _ _ t215 t218 t220 t221 t222 t225 t226 _ ?side1 ?side2 A15.out).mono ?_
     (case side1 => repeat (first | exact (Kd.R_reads' HO217.out).2.2 | (with_reducible refine Kd.C_alloc ?_ _) | (with_reducible refine Kd.C_drewN ?_ _) | (with_reducible refine Kd.C_drew ?_)))
     (case side2 => exact (Kd.R_reads' HO217.out).2.1)
     rintro e w44 ⟨v223, rfl, ho0, hb⟩
     refine ⟨_, rfl, ?_⟩
     have n0_ := A_ (Kd.R_elder' (rdd HO205.out) (Kd.R_base ho0) hb)
     have n1_ := A_ (Kd.R_elder' (rdd HO211.out) (Kd.R_base ho0) hb)
     have n2_ := A_ (Kd.R_elder' (rdd HO217.out) (Kd.R_base ho0) hb)
     have n3_ := A_ (Kd.R_lower (Kd.R_new' (Kd.R_new' (Kd.R_new' ho0 (Kd.R_lt (rdd HO205.out))) (Kd.R_lt (rdd HO211.out))) (Kd.R_lt (rdd HO217.out))) (below_size (hb4 HB.out GE200.out GE201.out GE214.out GE219.out)))
     have n4_ := A_ (blk_below (bd BK200.out) hb)
     have n5_ := A_ (blk_below (bd BK201.out) hb)
     have n6_ := A_ (blk_below (bd BK214.out) hb)
     have n7_ := A_ (blk_below (bd BK219.out) hb)
     have n8_ := A_ (below_step (hb4 HB.out GE200.out GE201.out GE214.out GE219.out) hb)
     clear HO205
     clear HO211
     clear HO217
     clear BK200
     clear BK201
     clear BK214
     clear BK219
     clear HB
     have HO205 := n0_
     have HO211 := n1_
     have HO217 := n2_
     have HO224 := n3_
     have BK200 := n4_
     have BK201 := n5_
     have BK214 := n6_
     have BK219 := n7_
     have HB := n8_
     clear n0_ n1_ n2_ n3_ n4_ n5_ n6_ n7_ n8_
     (try clear hb)
     (try clear hb2)
     (try clear hk)
     (try clear hi)
     (try clear ho0)
     refine hK.out _ _ ⟨(blk_cell BK219.out 0).trans rfl, (blk_cell BK219.out 1).trans rfl, (blk_cell BK201.out 0).trans rfl, (blk_cell BK201.out 1).trans rfl⟩ (fun hHeld => ?_)
     clear hK K
     refine norm_ (a' := ?_) ?_ ?_
     rotate_left
     ·
      show Act.put _ (some 35) _ = _
      simp only [Act.put, List.setIfInBounds_toArray, List.set_cons_zero, List.set_cons_succ, i64_w, i32_w]
      rfl
     refine pure_ (i := 4) (N := some 31) (v := ?_) (a' := ?_) #[true, true, true, true, true, false, false, false, false, false] rfl rfl (any_of HT_.out (by kernel_rfl)) (fun _ _ _ h => h) (Or.inl ⟨by rfl, ?_⟩) ?_ ?_
     rotate_left
     ·
      intro w'
      go_simp
      with_reducible rfl
     rotate_left
     ·
      simp only [Act.put, List.setIfInBounds_toArray, List.set_cons_zero, List.set_cons_succ, i64_w, i32_w]
      rfl
     refine pure_ (i := 5) (N := some 36) (v := ?_) (a' := ?_) #[true, true, true, true, true, true, false, false, false, false] rfl rfl (any_of HT_.out (by kernel_rfl)) (fun _ _ _ h => h) (Or.inl ⟨by rfl, ?_⟩) ?_ ?_
     rotate_left
     ·
      intro w'
      go_simp
      with_reducible rfl
     rotate_left
     ·
      simp only [Act.put, List.setIfInBounds_toArray, List.set_cons_zero, List.set_cons_succ, i64_w, i32_w]
      rfl
     refine pure_ (i := 6) (N := some 37) (v := ?_) (a' := ?_) #[true, true, true, true, true, true, true, false, false, false] rfl rfl (any_of HT_.out (by kernel_rfl)) (fun _ _ _ h => h) (Or.inl ⟨by rfl, ?_⟩) ?_ ?_
     rotate_left
     ·
      intro w'
      go_simp
      with_reducible rfl
     rotate_left
     ·
      simp only [Act.put, List.setIfInBounds_toArray, List.set_cons_zero, List.set_cons_succ, i64_w, i32_w]
      rfl
     refine one_ (i := 7) (N := some 9) #[true, true, true, true, true, true, true, true, false, false] rfl rfl (one_of HT_.out (by kernel_rfl)) (by decide) (fun K hK => ?_)
     refine box_step ?hg (N := 9) ?hd (cs := #[.slice none 0 0, .int .i64 0]) (t := 43) ?hr ?_; (case hd => rfl); (case hg => rfl); (case hr => first | (go_simp; done) | (go_simp; rfl))
     intro gb227 hg w45 hbox hb
     have n0_ := A_ (Kd.R_below (rdd HO205.out) hb)
     have n1_ := A_ (Kd.R_below (rdd HO211.out) hb)
     have n2_ := A_ (Kd.R_below (rdd HO217.out) hb)
     have n3_ := A_ (Kd.R_below (rdd HO224.out) hb)
     have n4_ := A_ (blk_below (bd BK200.out) hb)
     have n5_ := A_ (blk_below (bd BK201.out) hb)
     have n6_ := A_ (blk_below (bd BK214.out) hb)
     have n7_ := A_ (blk_below (bd BK219.out) hb)
     have n8_ := A_ (below_step (hb4 HB.out GE200.out GE201.out GE214.out GE219.out) hb)
     have n9_ := A_ (hbox)
     have n10_ := A_ ((by rw [hg]; exact (below_size (hb4 HB.out GE200.out GE201.out GE214.out GE219.out)) : w.heap.size ≤ gb227))
     have n11_ := A_ ((by rw [hg]; exact (below_size (hb4 HB.out GE200.out GE201.out GE214.out GE219.out)) : w.heap.size ≤ gb227))
     have n12_ := A_ ((by rw [hg]; exact Nat.ne_of_lt (blk_lt (bd BK200.out)) : gb200 ≠ gb227))
     have n13_ := A_ ((by rw [hg]; exact Nat.ne_of_gt (blk_lt (bd BK200.out)) : gb227 ≠ gb200))
     have n14_ := A_ ((by rw [hg]; exact Nat.ne_of_lt (blk_lt (bd BK201.out)) : gb201 ≠ gb227))
     have n15_ := A_ ((by rw [hg]; exact Nat.ne_of_gt (blk_lt (bd BK201.out)) : gb227 ≠ gb201))
     have n16_ := A_ ((by rw [hg]; exact Nat.ne_of_lt (blk_lt (bd BK214.out)) : gb214 ≠ gb227))
     have n17_ := A_ ((by rw [hg]; exact Nat.ne_of_gt (blk_lt (bd BK214.out)) : gb227 ≠ gb214))
     have n18_ := A_ ((by rw [hg]; exact Nat.ne_of_lt (blk_lt (bd BK219.out)) : gb219 ≠ gb227))
     have n19_ := A_ ((by rw [hg]; exact Nat.ne_of_gt (blk_lt (bd BK219.out)) : gb227 ≠ gb219))
     clear HO205
     clear HO211
     clear HO217
     clear HO224
     clear BK200
     clear BK201
     clear BK214
     clear BK219
     clear HB
     have HO205 := n0_
     have HO211 := n1_
     have HO217 := n2_
     have HO224 := n3_
     have BK200 := n4_
     have BK201 := n5_
     have BK214 := n6_
     have BK219 := n7_
     have HB := n8_
     have BK227 := n9_
     have GW227 := n10_
     have GE227 := n11_
     have NB200_227 := n12_
     have NB227_200 := n13_
     have NB201_227 := n14_
     have NB227_201 := n15_
     have NB214_227 := n16_
     have NB227_214 := n17_
     have NB219_227 := n18_
     have NB227_219 := n19_
     clear n0_ n1_ n2_ n3_ n4_ n5_ n6_ n7_ n8_ n9_ n10_ n11_ n12_ n13_ n14_ n15_ n16_ n17_ n18_ n19_
     clear hb hbox hg
     refine hK.out _ _ ⟨(blk_cell BK219.out 0).trans rfl, (blk_cell BK219.out 1).trans rfl, (blk_cell BK201.out 0).trans rfl, (blk_cell BK201.out 1).trans rfl⟩ (fun hHeld => ?_)
     clear hK K
     refine norm_ (a' := ?_) ?_ ?_
     rotate_left
     ·
      show Act.put _ (some 9) _ = _
      simp only [Act.put, List.setIfInBounds_toArray, List.set_cons_zero, List.set_cons_succ, i64_w, i32_w]
      rfl
     exact norm_ (by simp only [putAll, Act.put, List.setIfInBounds_toArray, List.set_cons_zero, List.set_cons_succ]) (hCont (v223, gb227) _ ⟨hHeld, (by refine rdd ?_; exact Kd.R_mono HO205.out (fun _ hk => ⟨hk.1.1, ⟨hk.1.2, hk.2⟩⟩)), (by refine rdd ?_; exact Kd.R_mono HO211.out (fun _ hk => ⟨hk.1.1, ⟨hk.1.2, hk.2⟩⟩)), (by refine rdd ?_; exact Kd.R_mono HO217.out (fun _ hk => ⟨hk.1.1, ⟨hk.1.2, hk.2⟩⟩)), (by refine rdd ?_; exact Kd.R_mono HO224.out (fun _ hk => ⟨hk.1.1.2, ⟨hk.1.2, hk.2⟩⟩)), (bd BK200.out), (bd BK201.out), (bd BK214.out), (bd BK219.out), (bd BK227.out), GW227.out, GE227.out, NB200_227.out, NB227_200.out, NB201_227.out, NB227_201.out, NB214_227.out, NB227_214.out, NB219_227.out, NB227_219.out, (hb5 HB.out GE200.out GE201.out GE214.out GE219.out GE227.out)⟩)
    ·
     skip
     refine box_step ?hg (N := 9) ?hd (cs := #[.slice none 0 0, .int .i64 0]) (t := 43) ?hr ?_; (case hd => rfl); (case hg => rfl); (case hr => first | (go_simp; done) | (go_simp; rfl))
     intro gb227 hg w44 hbox hb
     have n0_ := A_ (Kd.R_below (rdd HO205.out) hb)
     have n1_ := A_ (Kd.R_below (rdd HO211.out) hb)
     have n2_ := A_ (Kd.R_below (rdd HO217.out) hb)
     have n3_ := A_ (blk_below (bd BK200.out) hb)
     have n4_ := A_ (blk_below (bd BK201.out) hb)
     have n5_ := A_ (blk_below (bd BK214.out) hb)
     have n6_ := A_ (blk_below (bd BK219.out) hb)
     have n7_ := A_ (below_step (hb4 HB.out GE200.out GE201.out GE214.out GE219.out) hb)
     have n8_ := A_ (hbox)
     have n9_ := A_ ((by rw [hg]; exact (below_size (hb4 HB.out GE200.out GE201.out GE214.out GE219.out)) : w.heap.size ≤ gb227))
     have n10_ := A_ ((by rw [hg]; exact (below_size (hb4 HB.out GE200.out GE201.out GE214.out GE219.out)) : w.heap.size ≤ gb227))
     have n11_ := A_ ((by rw [hg]; exact Nat.ne_of_lt (blk_lt (bd BK200.out)) : gb200 ≠ gb227))
     have n12_ := A_ ((by rw [hg]; exact Nat.ne_of_gt (blk_lt (bd BK200.out)) : gb227 ≠ gb200))
     have n13_ := A_ ((by rw [hg]; exact Nat.ne_of_lt (blk_lt (bd BK201.out)) : gb201 ≠ gb227))
     have n14_ := A_ ((by rw [hg]; exact Nat.ne_of_gt (blk_lt (bd BK201.out)) : gb227 ≠ gb201))
     have n15_ := A_ ((by rw [hg]; exact Nat.ne_of_lt (blk_lt (bd BK214.out)) : gb214 ≠ gb227))
     have n16_ := A_ ((by rw [hg]; exact Nat.ne_of_gt (blk_lt (bd BK214.out)) : gb227 ≠ gb214))
     have n17_ := A_ ((by rw [hg]; exact Nat.ne_of_lt (blk_lt (bd BK219.out)) : gb219 ≠ gb227))
     have n18_ := A_ ((by rw [hg]; exact Nat.ne_of_gt (blk_lt (bd BK219.out)) : gb227 ≠ gb219))
     clear HO205
     clear HO211
     clear HO217
     clear BK200
     clear BK201
     clear BK214
     clear BK219
     clear HB
     have HO205 := n0_
     have HO211 := n1_
     have HO217 := n2_
     have BK200 := n3_
     have BK201 := n4_
     have BK214 := n5_
     have BK219 := n6_
     have HB := n7_
     have BK227 := n8_
     have GW227 := n9_
     have GE227 := n10_
     have NB200_227 := n11_
     have NB227_200 := n12_
     have NB201_227 := n13_
     have NB227_201 := n14_
     have NB214_227 := n15_
     have NB227_214 := n16_
     have NB219_227 := n17_
     have NB227_219 := n18_
     clear n0_ n1_ n2_ n3_ n4_ n5_ n6_ n7_ n8_ n9_ n10_ n11_ n12_ n13_ n14_ n15_ n16_ n17_ n18_
     clear hb hbox hg
     refine hK.out _ _ ⟨(blk_cell BK219.out 0).trans rfl, (blk_cell BK219.out 1).trans rfl, (blk_cell BK201.out 0).trans rfl, (blk_cell BK201.out 1).trans rfl⟩ (fun hHeld => ?_)
     clear hK K
     refine norm_ (a' := ?_) ?_ ?_
     rotate_left
     ·
      show Act.put _ (some 9) _ = _
      simp only [Act.put, List.setIfInBounds_toArray, List.set_cons_zero, List.set_cons_succ, i64_w, i32_w]
      rfl
     refine one_ (i := 3) (N := some 35) #[true, true, true, true, false, false, false, true, false, false] rfl rfl (one_of HT_.out (by kernel_rfl)) (by decide) (fun K hK => ?_)
     refine goes_ Try.func25 (by kernel_rfl) rfl #[.agg #[.slice Ao36 t215.length co36, .int .i64 t218], .agg #[.int .i64 t220, .bool t221]] (by rfl) rfl rfl (by (try simp only [List.map_toArray, List.map_cons, List.map_nil]); first | done | rfl | (simp only [List.length_drop, List.length_take]; rfl)) ?_
     with_reducible refine (impl_AnswerState.calls k _ _ t215 t218 t220 t221 t222 t225 t226 _ ?side1 ?side2 A15.out).mono ?_
     (case side1 => repeat (first | exact (Kd.R_reads' HO217.out).2.2 | (with_reducible refine Kd.C_alloc ?_ _) | (with_reducible refine Kd.C_drewN ?_ _) | (with_reducible refine Kd.C_drew ?_)))
     (case side2 => exact (Kd.R_reads' HO217.out).2.1)
     rintro e w45 ⟨v223, rfl, ho0, hb⟩
     refine ⟨_, rfl, ?_⟩
     have n0_ := A_ (Kd.R_elder' (rdd HO205.out) (Kd.R_base ho0) hb)
     have n1_ := A_ (Kd.R_elder' (rdd HO211.out) (Kd.R_base ho0) hb)
     have n2_ := A_ (Kd.R_elder' (rdd HO217.out) (Kd.R_base ho0) hb)
     have n3_ := A_ (Kd.R_lower (Kd.R_new' (Kd.R_new' (Kd.R_new' ho0 (Kd.R_lt (rdd HO205.out))) (Kd.R_lt (rdd HO211.out))) (Kd.R_lt (rdd HO217.out))) (below_size (hb5 HB.out GE200.out GE201.out GE214.out GE219.out GE227.out)))
     have n4_ := A_ (blk_below (bd BK200.out) hb)
     have n5_ := A_ (blk_below (bd BK201.out) hb)
     have n6_ := A_ (blk_below (bd BK214.out) hb)
     have n7_ := A_ (blk_below (bd BK219.out) hb)
     have n8_ := A_ (blk_below (bd BK227.out) hb)
     have n9_ := A_ (below_step (hb5 HB.out GE200.out GE201.out GE214.out GE219.out GE227.out) hb)
     clear HO205
     clear HO211
     clear HO217
     clear BK200
     clear BK201
     clear BK214
     clear BK219
     clear BK227
     clear HB
     have HO205 := n0_
     have HO211 := n1_
     have HO217 := n2_
     have HO224 := n3_
     have BK200 := n4_
     have BK201 := n5_
     have BK214 := n6_
     have BK219 := n7_
     have BK227 := n8_
     have HB := n9_
     clear n0_ n1_ n2_ n3_ n4_ n5_ n6_ n7_ n8_ n9_
     (try clear hb)
     (try clear hb2)
     (try clear hk)
     (try clear hi)
     (try clear ho0)
     refine hK.out _ _ ⟨(blk_cell BK219.out 0).trans rfl, (blk_cell BK219.out 1).trans rfl, (blk_cell BK201.out 0).trans rfl, (blk_cell BK201.out 1).trans rfl⟩ (fun hHeld => ?_)
     clear hK K
     refine norm_ (a' := ?_) ?_ ?_
     rotate_left
     ·
      show Act.put _ (some 35) _ = _
      simp only [Act.put, List.setIfInBounds_toArray, List.set_cons_zero, List.set_cons_succ, i64_w, i32_w]
      rfl
     refine pure_ (i := 4) (N := some 31) (v := ?_) (a' := ?_) #[true, true, true, true, true, false, false, true, false, false] rfl rfl (any_of HT_.out (by kernel_rfl)) (fun _ _ _ h => h) (Or.inl ⟨by rfl, ?_⟩) ?_ ?_
     rotate_left
     ·
      intro w'
      go_simp
      with_reducible rfl
     rotate_left
     ·
      simp only [Act.put, List.setIfInBounds_toArray, List.set_cons_zero, List.set_cons_succ, i64_w, i32_w]
      rfl
     refine pure_ (i := 5) (N := some 36) (v := ?_) (a' := ?_) #[true, true, true, true, true, true, false, true, false, false] rfl rfl (any_of HT_.out (by kernel_rfl)) (fun _ _ _ h => h) (Or.inl ⟨by rfl, ?_⟩) ?_ ?_
     rotate_left
     ·
      intro w'
      go_simp
      with_reducible rfl
     rotate_left
     ·
      simp only [Act.put, List.setIfInBounds_toArray, List.set_cons_zero, List.set_cons_succ, i64_w, i32_w]
      rfl
     refine pure_ (i := 6) (N := some 37) (v := ?_) (a' := ?_) #[true, true, true, true, true, true, true, true, false, false] rfl rfl (any_of HT_.out (by kernel_rfl)) (fun _ _ _ h => h) (Or.inl ⟨by rfl, ?_⟩) ?_ ?_
     rotate_left
     ·
      intro w'
      go_simp
      with_reducible rfl
     rotate_left
     ·
      simp only [Act.put, List.setIfInBounds_toArray, List.set_cons_zero, List.set_cons_succ, i64_w, i32_w]
      rfl
     exact norm_ (by simp only [putAll, Act.put, List.setIfInBounds_toArray, List.set_cons_zero, List.set_cons_succ]) (hCont (v223, gb227) _ ⟨hHeld, (by refine rdd ?_; exact Kd.R_mono HO205.out (fun _ hk => ⟨hk.1.1, ⟨hk.1.2, hk.2⟩⟩)), (by refine rdd ?_; exact Kd.R_mono HO211.out (fun _ hk => ⟨hk.1.1, ⟨hk.1.2, hk.2⟩⟩)), (by refine rdd ?_; exact Kd.R_mono HO217.out (fun _ hk => ⟨hk.1.1, ⟨hk.1.2, hk.2⟩⟩)), (by refine rdd ?_; exact Kd.R_mono HO224.out (fun _ hk => ⟨hk.1.1.2, ⟨hk.1.2, hk.2⟩⟩)), (bd BK200.out), (bd BK201.out), (bd BK214.out), (bd BK219.out), (bd BK227.out), GW227.out, GE227.out, NB200_227.out, NB227_200.out, NB201_227.out, NB227_201.out, NB214_227.out, NB227_214.out, NB219_227.out, NB227_219.out, (hb5 HB.out GE200.out GE201.out GE214.out GE219.out GE227.out)⟩)
   ·
    skip
    refine box_step ?hg (N := 9) ?hd (cs := #[.slice none 0 0, .int .i64 0]) (t := 43) ?hr ?_; (case hd => rfl); (case hg => rfl); (case hr => first | (go_simp; done) | (go_simp; rfl))
    intro gb227 hg w43 hbox hb
    have n0_ := A_ (Kd.R_below (rdd HO205.out) hb)
    have n1_ := A_ (Kd.R_below (rdd HO211.out) hb)
    have n2_ := A_ (Kd.R_below (rdd HO217.out) hb)
    have n3_ := A_ (blk_below (bd BK200.out) hb)
    have n4_ := A_ (blk_below (bd BK201.out) hb)
    have n5_ := A_ (blk_below (bd BK214.out) hb)
    have n6_ := A_ (blk_below (bd BK219.out) hb)
    have n7_ := A_ (below_step (hb4 HB.out GE200.out GE201.out GE214.out GE219.out) hb)
    have n8_ := A_ (hbox)
    have n9_ := A_ ((by rw [hg]; exact (below_size (hb4 HB.out GE200.out GE201.out GE214.out GE219.out)) : w.heap.size ≤ gb227))
    have n10_ := A_ ((by rw [hg]; exact (below_size (hb4 HB.out GE200.out GE201.out GE214.out GE219.out)) : w.heap.size ≤ gb227))
    have n11_ := A_ ((by rw [hg]; exact Nat.ne_of_lt (blk_lt (bd BK200.out)) : gb200 ≠ gb227))
    have n12_ := A_ ((by rw [hg]; exact Nat.ne_of_gt (blk_lt (bd BK200.out)) : gb227 ≠ gb200))
    have n13_ := A_ ((by rw [hg]; exact Nat.ne_of_lt (blk_lt (bd BK201.out)) : gb201 ≠ gb227))
    have n14_ := A_ ((by rw [hg]; exact Nat.ne_of_gt (blk_lt (bd BK201.out)) : gb227 ≠ gb201))
    have n15_ := A_ ((by rw [hg]; exact Nat.ne_of_lt (blk_lt (bd BK214.out)) : gb214 ≠ gb227))
    have n16_ := A_ ((by rw [hg]; exact Nat.ne_of_gt (blk_lt (bd BK214.out)) : gb227 ≠ gb214))
    have n17_ := A_ ((by rw [hg]; exact Nat.ne_of_lt (blk_lt (bd BK219.out)) : gb219 ≠ gb227))
    have n18_ := A_ ((by rw [hg]; exact Nat.ne_of_gt (blk_lt (bd BK219.out)) : gb227 ≠ gb219))
    clear HO205
    clear HO211
    clear HO217
    clear BK200
    clear BK201
    clear BK214
    clear BK219
    clear HB
    have HO205 := n0_
    have HO211 := n1_
    have HO217 := n2_
    have BK200 := n3_
    have BK201 := n4_
    have BK214 := n5_
    have BK219 := n6_
    have HB := n7_
    have BK227 := n8_
    have GW227 := n9_
    have GE227 := n10_
    have NB200_227 := n11_
    have NB227_200 := n12_
    have NB201_227 := n13_
    have NB227_201 := n14_
    have NB214_227 := n15_
    have NB227_214 := n16_
    have NB219_227 := n17_
    have NB227_219 := n18_
    clear n0_ n1_ n2_ n3_ n4_ n5_ n6_ n7_ n8_ n9_ n10_ n11_ n12_ n13_ n14_ n15_ n16_ n17_ n18_
    clear hb hbox hg
    refine hK.out _ _ ⟨(blk_cell BK219.out 0).trans rfl, (blk_cell BK219.out 1).trans rfl, (blk_cell BK201.out 0).trans rfl, (blk_cell BK201.out 1).trans rfl⟩ (fun hHeld => ?_)
    clear hK K
    refine norm_ (a' := ?_) ?_ ?_
    rotate_left
    ·
     show Act.put _ (some 9) _ = _
     simp only [Act.put, List.setIfInBounds_toArray, List.set_cons_zero, List.set_cons_succ, i64_w, i32_w]
     rfl
    refine one_ (i := 2) (N := some 34) #[true, true, true, false, false, false, false, true, false, false] rfl rfl (one_of HT_.out (by kernel_rfl)) (by decide) (fun K hK => ?_)
    refine goes_ Try.func24 (by kernel_rfl) rfl #[.agg #[.int .i64 a1_0, .bool a1_1]] (by rfl) rfl rfl (by (try simp only [List.map_toArray, List.map_cons, List.map_nil]); first | done | rfl | (simp only [List.length_drop, List.length_take]; rfl)) ?_
    with_reducible refine (laws_toAsked.calls a1_0 a1_1 t220 t221 _ A14.out).mono ?_
    rintro e w44 ⟨rfl, hb⟩
    refine ⟨_, rfl, ?_⟩
    have n0_ := A_ (Kd.R_below (rdd HO205.out) hb)
    have n1_ := A_ (Kd.R_below (rdd HO211.out) hb)
    have n2_ := A_ (Kd.R_below (rdd HO217.out) hb)
    have n3_ := A_ (blk_below (bd BK200.out) hb)
    have n4_ := A_ (blk_below (bd BK201.out) hb)
    have n5_ := A_ (blk_below (bd BK214.out) hb)
    have n6_ := A_ (blk_below (bd BK219.out) hb)
    have n7_ := A_ (blk_below (bd BK227.out) hb)
    have n8_ := A_ (below_step (hb5 HB.out GE200.out GE201.out GE214.out GE219.out GE227.out) hb)
    clear HO205
    clear HO211
    clear HO217
    clear BK200
    clear BK201
    clear BK214
    clear BK219
    clear BK227
    clear HB
    have HO205 := n0_
    have HO211 := n1_
    have HO217 := n2_
    have BK200 := n3_
    have BK201 := n4_
    have BK214 := n5_
    have BK219 := n6_
    have BK227 := n7_
    have HB := n8_
    clear n0_ n1_ n2_ n3_ n4_ n5_ n6_ n7_ n8_
    (try clear hb)
    (try clear hb2)
    (try clear hk)
    (try clear hi)
    refine hK.out _ _ ⟨(blk_cell BK219.out 0).trans rfl, (blk_cell BK219.out 1).trans rfl, (blk_cell BK201.out 0).trans rfl, (blk_cell BK201.out 1).trans rfl⟩ (fun hHeld => ?_)
    clear hK K
    refine norm_ (a' := ?_) ?_ ?_
    rotate_left
    ·
     show Act.put _ (some 34) _ = _
     simp only [Act.put, List.setIfInBounds_toArray, List.set_cons_zero, List.set_cons_succ, i64_w, i32_w]
     rfl
    refine one_ (i := 3) (N := some 35) #[true, true, true, true, false, false, false, true, false, false] rfl rfl (one_of HT_.out (by kernel_rfl)) (by decide) (fun K hK => ?_)
    refine goes_ Try.func25 (by kernel_rfl) rfl #[.agg #[.slice Ao36 t215.length co36, .int .i64 t218], .agg #[.int .i64 t220, .bool t221]] (by rfl) rfl rfl (by (try simp only [List.map_toArray, List.map_cons, List.map_nil]); first | done | rfl | (simp only [List.length_drop, List.length_take]; rfl)) ?_
    with_reducible refine (impl_AnswerState.calls k _ _ t215 t218 t220 t221 t222 t225 t226 _ ?side1 ?side2 A15.out).mono ?_
    (case side1 => repeat (first | exact (Kd.R_reads' HO217.out).2.2 | (with_reducible refine Kd.C_alloc ?_ _) | (with_reducible refine Kd.C_drewN ?_ _) | (with_reducible refine Kd.C_drew ?_)))
    (case side2 => exact (Kd.R_reads' HO217.out).2.1)
    rintro e w45 ⟨v223, rfl, ho0, hb⟩
    refine ⟨_, rfl, ?_⟩
    have n0_ := A_ (Kd.R_elder' (rdd HO205.out) (Kd.R_base ho0) hb)
    have n1_ := A_ (Kd.R_elder' (rdd HO211.out) (Kd.R_base ho0) hb)
    have n2_ := A_ (Kd.R_elder' (rdd HO217.out) (Kd.R_base ho0) hb)
    have n3_ := A_ (Kd.R_lower (Kd.R_new' (Kd.R_new' (Kd.R_new' ho0 (Kd.R_lt (rdd HO205.out))) (Kd.R_lt (rdd HO211.out))) (Kd.R_lt (rdd HO217.out))) (below_size (hb5 HB.out GE200.out GE201.out GE214.out GE219.out GE227.out)))
    have n4_ := A_ (blk_below (bd BK200.out) hb)
    have n5_ := A_ (blk_below (bd BK201.out) hb)
    have n6_ := A_ (blk_below (bd BK214.out) hb)
    have n7_ := A_ (blk_below (bd BK219.out) hb)
    have n8_ := A_ (blk_below (bd BK227.out) hb)
    have n9_ := A_ (below_step (hb5 HB.out GE200.out GE201.out GE214.out GE219.out GE227.out) hb)
    clear HO205
    clear HO211
    clear HO217
    clear BK200
    clear BK201
    clear BK214
    clear BK219
    clear BK227
    clear HB
    have HO205 := n0_
    have HO211 := n1_
    have HO217 := n2_
    have HO224 := n3_
    have BK200 := n4_
    have BK201 := n5_
    have BK214 := n6_
    have BK219 := n7_
    have BK227 := n8_
    have HB := n9_
    clear n0_ n1_ n2_ n3_ n4_ n5_ n6_ n7_ n8_ n9_
    (try clear hb)
    (try clear hb2)
    (try clear hk)
    (try clear hi)
    (try clear ho0)
    refine hK.out _ _ ⟨(blk_cell BK219.out 0).trans rfl, (blk_cell BK219.out 1).trans rfl, (blk_cell BK201.out 0).trans rfl, (blk_cell BK201.out 1).trans rfl⟩ (fun hHeld => ?_)
    clear hK K
    refine norm_ (a' := ?_) ?_ ?_
    rotate_left
    ·
     show Act.put _ (some 35) _ = _
     simp only [Act.put, List.setIfInBounds_toArray, List.set_cons_zero, List.set_cons_succ, i64_w, i32_w]
     rfl
    refine pure_ (i := 4) (N := some 31) (v := ?_) (a' := ?_) #[true, true, true, true, true, false, false, true, false, false] rfl rfl (any_of HT_.out (by kernel_rfl)) (fun _ _ _ h => h) (Or.inl ⟨by rfl, ?_⟩) ?_ ?_
    rotate_left
    ·
     intro w'
     go_simp
     with_reducible rfl
    rotate_left
    ·
     simp only [Act.put, List.setIfInBounds_toArray, List.set_cons_zero, List.set_cons_succ, i64_w, i32_w]
     rfl
    refine pure_ (i := 5) (N := some 36) (v := ?_) (a' := ?_) #[true, true, true, true, true, true, false, true, false, false] rfl rfl (any_of HT_.out (by kernel_rfl)) (fun _ _ _ h => h) (Or.inl ⟨by rfl, ?_⟩) ?_ ?_
    rotate_left
    ·
     intro w'
     go_simp
     with_reducible rfl
    rotate_left
    ·
     simp only [Act.put, List.setIfInBounds_toArray, List.set_cons_zero, List.set_cons_succ, i64_w, i32_w]
     rfl
    refine pure_ (i := 6) (N := some 37) (v := ?_) (a' := ?_) #[true, true, true, true, true, true, true, true, false, false] rfl rfl (any_of HT_.out (by kernel_rfl)) (fun _ _ _ h => h) (Or.inl ⟨by rfl, ?_⟩) ?_ ?_
    rotate_left
    ·
     intro w'
     go_simp
     with_reducible rfl
    rotate_left
    ·
     simp only [Act.put, List.setIfInBounds_toArray, List.set_cons_zero, List.set_cons_succ, i64_w, i32_w]
     rfl
    exact norm_ (by simp only [putAll, Act.put, List.setIfInBounds_toArray, List.set_cons_zero, List.set_cons_succ]) (hCont (v223, gb227) _ ⟨hHeld, (by refine rdd ?_; exact Kd.R_mono HO205.out (fun _ hk => ⟨hk.1.1, ⟨hk.1.2, hk.2⟩⟩)), (by refine rdd ?_; exact Kd.R_mono HO211.out (fun _ hk => ⟨hk.1.1, ⟨hk.1.2, hk.2⟩⟩)), (by refine rdd ?_; exact Kd.R_mono HO217.out (fun _ hk => ⟨hk.1.1, ⟨hk.1.2, hk.2⟩⟩)), (by refine rdd ?_; exact Kd.R_mono HO224.out (fun _ hk => ⟨hk.1.1.2, ⟨hk.1.2, hk.2⟩⟩)), (bd BK200.out), (bd BK201.out), (bd BK214.out), (bd BK219.out), (bd BK227.out), GW227.out, GE227.out, NB200_227.out, NB227_200.out, NB201_227.out, NB227_201.out, NB214_227.out, NB227_214.out, NB219_227.out, NB227_219.out, (hb5 HB.out GE200.out GE201.out GE214.out GE219.out GE227.out)⟩)
  rintro ⟨v223, gb227⟩ w46 ⟨hS_, h0_, h1_, h2_, h3_, h4_, h5_, h6_, h7_, h8_, h9_, h10_, h11_, h12_, h13_, h14_, h15_, h16_, h17_, h18_, h19_⟩
  have n0_ : Aside0 (Kd.R (Kd.int .i64) 3 w46 w.heap.size (fun k_ => some k_ ≠ (.slice Ao29 t209.length co29 : Value).ownBlock ∧ some k_ ≠ (.slice Ao36 t215.length co36 : Value).ownBlock ∧ some k_ ≠ (v223 : Value).ownBlock) v204 t203) := ⟨h0_⟩
  have n1_ : Aside0 (Kd.R (Kd.int .i64) 3 w46 w.heap.size (fun k_ => some k_ ≠ (v204 : Value).ownBlock ∧ some k_ ≠ (.slice Ao36 t215.length co36 : Value).ownBlock ∧ some k_ ≠ (v223 : Value).ownBlock) (.slice Ao29 t209.length co29) t209) := ⟨h1_⟩
  have n2_ : Aside0 (Kd.R (Kd.int .i64) 3 w46 w.heap.size (fun k_ => some k_ ≠ (v204 : Value).ownBlock ∧ some k_ ≠ (.slice Ao29 t209.length co29 : Value).ownBlock ∧ some k_ ≠ (v223 : Value).ownBlock) (.slice Ao36 t215.length co36) t215) := ⟨h2_⟩
  have n3_ : Aside0 (Kd.R (Kd.int .i64) 3 w46 w.heap.size (fun k_ => some k_ ≠ (v204 : Value).ownBlock ∧ some k_ ≠ (.slice Ao29 t209.length co29 : Value).ownBlock ∧ some k_ ≠ (.slice Ao36 t215.length co36 : Value).ownBlock) v223 t222) := ⟨h3_⟩
  have n4_ : Aside0 (w46.heap[gb200]? = some (.cells #[.slice A0_0 l0_0.length c0_0, .int .i64 a0_1] 39 (0, 0))) := ⟨h4_⟩
  have n5_ : Aside0 (w46.heap[gb201]? = some (.cells #[.int .i64 a1_0, .bool a1_1] 41 (0, 0))) := ⟨h5_⟩
  have n6_ : Aside0 (w46.heap[gb214]? = some (.cells #[.slice Ao29 t209.length co29, .int .i64 t212] 43 (0, 0))) := ⟨h6_⟩
  have n7_ : Aside0 (w46.heap[gb219]? = some (.cells #[.slice Ao36 t215.length co36, .int .i64 t218] 43 (0, 0))) := ⟨h7_⟩
  have n8_ : Aside0 (w46.heap[gb227]? = some (.cells #[.slice none 0 0, .int .i64 0] 43 (0, 0))) := ⟨h8_⟩
  have n9_ : Aside0 (w.heap.size ≤ gb227) := ⟨h9_⟩
  have n10_ : Aside0 (w.heap.size ≤ gb227) := ⟨h10_⟩
  have n11_ : Aside0 (gb200 ≠ gb227) := ⟨h11_⟩
  have n12_ : Aside0 (gb227 ≠ gb200) := ⟨h12_⟩
  have n13_ : Aside0 (gb201 ≠ gb227) := ⟨h13_⟩
  have n14_ : Aside0 (gb227 ≠ gb201) := ⟨h14_⟩
  have n15_ : Aside0 (gb214 ≠ gb227) := ⟨h15_⟩
  have n16_ : Aside0 (gb227 ≠ gb214) := ⟨h16_⟩
  have n17_ : Aside0 (gb219 ≠ gb227) := ⟨h17_⟩
  have n18_ : Aside0 (gb227 ≠ gb219) := ⟨h18_⟩
  have n19_ : Aside0 (Below w.heap.size w w46) := ⟨h19_⟩
  clear HO205
  clear HO211
  clear HO217
  clear BK200
  clear BK201
  clear BK214
  clear BK219
  clear HB
  clear h0_ h1_ h2_ h3_ h4_ h5_ h6_ h7_ h8_ h9_ h10_ h11_ h12_ h13_ h14_ h15_ h16_ h17_ h18_ h19_
  have HO205 := n0_
  have HO211 := n1_
  have HO217 := n2_
  have HO224 := n3_
  have BK200 := n4_
  have BK201 := n5_
  have BK214 := n6_
  have BK219 := n7_
  have BK227 := n8_
  have GW227 := n9_
  have GE227 := n10_
  have NB200_227 := n11_
  have NB227_200 := n12_
  have NB201_227 := n13_
  have NB227_201 := n14_
  have NB214_227 := n15_
  have NB227_214 := n16_
  have NB219_227 := n17_
  have NB227_219 := n18_
  have HB := n19_
  clear n0_ n1_ n2_ n3_ n4_ n5_ n6_ n7_ n8_ n9_ n10_ n11_ n12_ n13_ n14_ n15_ n16_ n17_ n18_ n19_
  have hHeld : w46.cell? ⟨gb219, 0, none⟩ = some (.slice Ao36 t215.length co36) ∧ w46.cell? ⟨gb219, 1, none⟩ = some (.int .i64 t218) ∧ w46.cell? ⟨gb201, 0, none⟩ = some (.int .i64 a1_0) ∧ w46.cell? ⟨gb201, 1, none⟩ = some (.bool a1_1) := hS_
  obtain ⟨Ao47, co47, eo47⟩ := Kd.R_slice HO224.out
  (first | subst eo47 | (injection eo47 with f1_ f2_ f3_; have f4_ := f1_.symm; have f5_ := f3_.symm; clear f1_ f2_ f3_; subst f4_; subst f5_))
  refine norm_ (a' := ?_) ?_ ?_
  rotate_left
  ·
   simp only [putAll, Act.put, List.setIfInBounds_toArray, List.set_cons_zero, List.set_cons_succ]
   rfl
  refine one_ (i := 8) (N := none) #[true, true, true, true, true, true, true, true, true, false] rfl rfl (one_of HT_.out (by kernel_rfl)) (by decide) (fun K hK => ?_)
  have hs48 : w46.cell? ⟨gb227, 0, none⟩ = some (.slice none 0 0) := (blk_cell BK227.out 0).trans rfl
  have hfs48 := blk_frozen BK227.out 0
  have hns48_0 := NB200_227.out
  have hns48_1 := NB201_227.out
  have hns48_2 := NB214_227.out
  have hns48_3 := NB219_227.out
  have hms48_0 := NB227_200.out
  have hms48_1 := NB227_201.out
  have hms48_2 := NB227_214.out
  have hms48_3 := NB227_219.out
  have hs49 : w46.cell? ⟨gb227, 1, none⟩ = some (.int .i64 0) := (blk_cell BK227.out 1).trans rfl
  have hfs49 := blk_frozen BK227.out 1
  have hns49_0 := NB200_227.out
  have hns49_1 := NB201_227.out
  have hns49_2 := NB214_227.out
  have hns49_3 := NB219_227.out
  have hms49_0 := NB227_200.out
  have hms49_1 := NB227_201.out
  have hms49_2 := NB227_214.out
  have hms49_3 := NB227_219.out
  refine skip_ (w1 := ?_) (by rfl) rfl ?_ ?_
  rotate_left
  ·
   go_simp
   rfl
  refine hK.out _ _ ⟨((cell_far (p := ⟨gb227, _, none⟩) NB219_227.out _).trans (((cell_far (p := ⟨gb227, _, none⟩) NB219_227.out _).trans (hHeld.1)))), ((cell_far (p := ⟨gb227, _, none⟩) NB219_227.out _).trans (((cell_far (p := ⟨gb227, _, none⟩) NB219_227.out _).trans (hHeld.2.1)))), ((cell_far (p := ⟨gb227, _, none⟩) NB201_227.out _).trans (((cell_far (p := ⟨gb227, _, none⟩) NB201_227.out _).trans (hHeld.2.2.1)))), ((cell_far (p := ⟨gb227, _, none⟩) NB201_227.out _).trans (((cell_far (p := ⟨gb227, _, none⟩) NB201_227.out _).trans (hHeld.2.2.2))))⟩ (fun hHeld => ?_)
  clear hK K
  refine pure_ (i := 9) (N := some 10) (v := ?_) (a' := ?_) #[true, true, true, true, true, true, true, true, true, true] rfl rfl (any_of HT_.out (by kernel_rfl)) (fun _ _ _ h => h) (Or.inl ⟨by rfl, ?_⟩) ?_ ?_
  rotate_left
  ·
   intro w'
   go_simp
   with_reducible rfl
  rotate_left
  ·
   simp only [Act.put, List.setIfInBounds_toArray, List.set_cons_zero, List.set_cons_succ, i64_w, i32_w]
   rfl
  refine done_ (done_of HT_.out (by kernel_rfl)) ?_
  go_upto_region 8 with (fail)
  go_cut [46] (fun v46 wc => ∃ (kq : Nat) (x46_15 : Bool), v46 = .bool x46_15 ∧ Aside0 (laws_FnExactAnswerState.j0 kq t213 t226 x46_15 l0_0 a0_1 a1_0 a1_1 t209 t212 t215 t218 t222 t225 = some r) ∧ Aside0 (kq ≤ k) ∧ Aside0 (Kd.R (Kd.int .i64) 3 wc w.heap.size (fun k_ => some k_ ≠ ((.slice Ao36 t215.length co36) : Value).ownBlock ∧ some k_ ≠ ((.slice Ao47 t222.length co47) : Value).ownBlock) (.slice Ao29 t209.length co29) t209) ∧ Aside0 (Kd.R (Kd.int .i64) 3 wc w.heap.size (fun k_ => some k_ ≠ ((.slice Ao29 t209.length co29) : Value).ownBlock ∧ some k_ ≠ ((.slice Ao47 t222.length co47) : Value).ownBlock) (.slice Ao36 t215.length co36) t215) ∧ Aside0 (Kd.R (Kd.int .i64) 3 wc w.heap.size (fun k_ => some k_ ≠ ((.slice Ao29 t209.length co29) : Value).ownBlock ∧ some k_ ≠ ((.slice Ao36 t215.length co36) : Value).ownBlock) (.slice Ao47 t222.length co47) t222) ∧ Aside0 (wc.heap[gb200]? = some (.cells #[(.slice A0_0 l0_0.length c0_0), .int .i64 a0_1] 39 (0, 0))) ∧ Aside0 (wc.heap[gb201]? = some (.cells #[.int .i64 a1_0, .bool a1_1] 41 (0, 0))) ∧ Aside0 (wc.heap[gb214]? = some (.cells #[(.slice Ao29 t209.length co29), .int .i64 t212] 43 (0, 0))) ∧ Aside0 (wc.heap[gb219]? = some (.cells #[(.slice Ao36 t215.length co36), .int .i64 t218] 43 (0, 0))) ∧ Aside0 (wc.heap[gb227]? = some (.cells #[(.slice Ao47 t222.length co47), .int .i64 t225] 43 (0, 0))) ∧ Aside0 (Below w.heap.size w wc))
  case first =>
   have H := HC16.out
   clear HC16
   replace H := Option.bind_eq_some_iff.mp H
   obtain ⟨t228, A500, H⟩ := H
   replace H : (if t228 = true then (laws_FnExactAnswerState.j0 k t213 t226 (t226 != t213) l0_0 a0_1 a1_0 a1_1 t209 t212 t215 t218 t222 t225) else (laws_FnExactAnswerState.j0 k t213 t226 true l0_0 a0_1 a1_0 a1_1 t209 t212 t215 t218 t222 t225)) = some r := H
   have A50 := A_ A500
   clear A500
   by_cases c51 : t228 = true
   ·
    subst c51
    have H1 : (laws_FnExactAnswerState.j0 k t213 t226 (t226 != t213) l0_0 a0_1 a1_0 a1_1 t209 t212 t215 t218 t222 t225) = some r := by rw [if_pos rfl] at H; exact H
    clear H
    have H := H1
    clear H1
    have H' := A_ H
    clear H
    have hnb52 := NB227_200.out
    have hnc52 := NB200_227.out
    have hnb53 := NB227_201.out
    have hnc53 := NB201_227.out
    have hnb54 := NB227_214.out
    have hnc54 := NB214_227.out
    have hnb55 := NB227_219.out
    have hnc55 := NB219_227.out
    have hcz56_0 : w46.cell? ⟨gb227, 0, none⟩ = some (.slice none 0 0) := (blk_cell BK227.out 0).trans rfl
    have hcz56_1 : w46.cell? ⟨gb227, 1, none⟩ = some (.int .i64 0) := (blk_cell BK227.out 1).trans rfl
    have hfz56_0 := blk_frozen BK227.out 0
    have hfz56_1 := blk_frozen BK227.out 1
    have hnb57 := NB214_200.out
    have hnc57 := NB200_214.out
    have hnb58 := NB214_201.out
    have hnc58 := NB201_214.out
    have hnb59 := NB214_219.out
    have hnc59 := NB219_214.out
    have hcz60_0 : w46.cell? ⟨gb214, 0, none⟩ = some (.slice Ao29 t209.length co29) := (blk_cell BK214.out 0).trans rfl
    have hcz60_1 : w46.cell? ⟨gb214, 1, none⟩ = some (.int .i64 t212) := (blk_cell BK214.out 1).trans rfl
    have hfz60_0 := blk_frozen BK214.out 0
    have hfz60_1 := blk_frozen BK214.out 1
    go_wp2_with (first | ((with_reducible refine gate_callee (f := 26) rfl ?_); refine goesL_ (some 40) rfl rfl Try.func26 (by kernel_rfl) rfl #[.agg #[.slice Ao47 t222.length co47, .int .i64 t225], .agg #[.slice Ao29 t209.length co29, .int .i64 t212]] rfl (by (try simp only [List.map_toArray, List.map_cons, List.map_nil]); first | done | rfl | (simp only [List.length_drop, List.length_take]; rfl)) ?_; (with_reducible refine (laws_eqState.calls k _ _ t222 t225 _ _ t209 t212 true _ ?side1 ?side2 ?side3 ?side4 A50.out).mono ?_); (case side1 => refine (Kd.R_reads' (e := 3) (base := w.heap.size) (ok := fun k_ => (some k_ ≠ (v204 : Value).ownBlock ∧ (some k_ ≠ (.slice Ao29 t209.length co29 : Value).ownBlock ∧ some k_ ≠ (.slice Ao36 t215.length co36 : Value).ownBlock))) (n := t222.length) (c := co47) ?_).2.2; exact (rdd (Kd.R_mono (Kd.R_far (p := ⟨gb227, 1, none⟩) (Kd.R_far (p := ⟨gb227, 0, none⟩) (Kd.R_types HO224.out BK227.out (by decide)) (fun _ hk => hk.2) (.slice Ao47 t222.length co47)) (fun _ hk => hk.2) (.int .i64 t225)) (fun _ h_ => h_.1)))); (case side2 => exact (Kd.R_reads' HO224.out).2.1); (case side3 => refine (Kd.R_reads' (e := 3) (base := w.heap.size) (ok := fun k_ => (some k_ ≠ (v204 : Value).ownBlock ∧ (some k_ ≠ (.slice Ao36 t215.length co36 : Value).ownBlock ∧ some k_ ≠ (.slice Ao47 t222.length co47 : Value).ownBlock))) (n := t209.length) (c := co29) ?_).2.2; exact (rdd (Kd.R_mono (Kd.R_far (p := ⟨gb227, 1, none⟩) (Kd.R_far (p := ⟨gb227, 0, none⟩) (Kd.R_types HO211.out BK227.out (by decide)) (fun _ hk => hk.2) (.slice Ao47 t222.length co47)) (fun _ hk => hk.2) (.int .i64 t225)) (fun _ h_ => h_.1)))); (case side4 => exact (Kd.R_reads' HO211.out).2.1); rintro e w61 ⟨rfl, hb⟩; refine ⟨_, rfl, ?_⟩; have n0_ := A_ (Kd.R_below (rdd (Kd.R_mono (Kd.R_far (p := ⟨gb227, 1, none⟩) (Kd.R_far (p := ⟨gb227, 0, none⟩) (Kd.R_types HO205.out BK227.out (by decide)) (fun _ hk => hk.2) (.slice Ao47 t222.length co47)) (fun _ hk => hk.2) (.int .i64 t225)) (fun _ h_ => h_.1))) hb); have n1_ := A_ (Kd.R_below (rdd (Kd.R_mono (Kd.R_far (p := ⟨gb227, 1, none⟩) (Kd.R_far (p := ⟨gb227, 0, none⟩) (Kd.R_types HO211.out BK227.out (by decide)) (fun _ hk => hk.2) (.slice Ao47 t222.length co47)) (fun _ hk => hk.2) (.int .i64 t225)) (fun _ h_ => h_.1))) hb); have n2_ := A_ (Kd.R_below (rdd (Kd.R_mono (Kd.R_far (p := ⟨gb227, 1, none⟩) (Kd.R_far (p := ⟨gb227, 0, none⟩) (Kd.R_types HO217.out BK227.out (by decide)) (fun _ hk => hk.2) (.slice Ao47 t222.length co47)) (fun _ hk => hk.2) (.int .i64 t225)) (fun _ h_ => h_.1))) hb); have n3_ := A_ (Kd.R_below (rdd (Kd.R_mono (Kd.R_far (p := ⟨gb227, 1, none⟩) (Kd.R_far (p := ⟨gb227, 0, none⟩) (Kd.R_types HO224.out BK227.out (by decide)) (fun _ hk => hk.2) (.slice Ao47 t222.length co47)) (fun _ hk => hk.2) (.int .i64 t225)) (fun _ h_ => h_.1))) hb); have n4_ := A_ (blk_below (g := gb200) (o := .cells #[.slice A0_0 l0_0.length c0_0, .int .i64 a0_1] 39 (0, 0)) (by refine bd ?_; refine blk_far ?_ NB200_227.out _; refine bd ?_; refine blk_far ?_ NB200_227.out _; refine bd ?_; exact BK200.out) hb); have n5_ := A_ (blk_below (g := gb201) (o := .cells #[.int .i64 a1_0, .bool a1_1] 41 (0, 0)) (by refine bd ?_; refine blk_far ?_ NB201_227.out _; refine bd ?_; refine blk_far ?_ NB201_227.out _; refine bd ?_; exact BK201.out) hb); have n6_ := A_ (blk_below (g := gb214) (o := .cells #[.slice Ao29 t209.length co29, .int .i64 t212] 43 (0, 0)) (by refine bd ?_; refine blk_far ?_ NB214_227.out _; refine bd ?_; refine blk_far ?_ NB214_227.out _; refine bd ?_; exact BK214.out) hb); have n7_ := A_ (blk_below (g := gb219) (o := .cells #[.slice Ao36 t215.length co36, .int .i64 t218] 43 (0, 0)) (by refine bd ?_; refine blk_far ?_ NB219_227.out _; refine bd ?_; refine blk_far ?_ NB219_227.out _; refine bd ?_; exact BK219.out) hb); have n8_ := A_ (blk_below (g := gb227) (o := .cells #[.slice Ao47 t222.length co47, .int .i64 t225] 43 (0, 0)) (by refine bd ?_; refine blk_put (cs := #[.slice Ao47 t222.length co47, .int .i64 0]) ?_ 1 _ rfl; refine bd ?_; refine blk_put (cs := #[.slice none 0 0, .int .i64 0]) ?_ 0 _ rfl; refine bd ?_; exact BK227.out) hb); have n9_ := A_ (below_step (hb5 HB.out GE200.out GE201.out GE214.out GE219.out GE227.out) hb); clear HO205; clear HO211; clear HO217; clear HO224; clear BK200; clear BK201; clear BK214; clear BK219; clear BK227; clear HB; have HO205 := n0_; have HO211 := n1_; have HO217 := n2_; have HO224 := n3_; have BK200 := n4_; have BK201 := n5_; have BK214 := n6_; have BK219 := n7_; have BK227 := n8_; have HB := n9_; clear n0_ n1_ n2_ n3_ n4_ n5_ n6_ n7_ n8_ n9_; (try clear hb); (try clear hb2); (try clear hk); (try clear hi)))
    go_meet
    case rel => exact ⟨_, ((t226 != t213)), (by first | rfl | (simp; done) | (simp [*]; done)), H', ⟨by first | omega | exact Nat.le_refl _⟩, ⟨by refine rdd ?_; exact Kd.R_mono HO211.out (fun _ hk => ⟨hk.2.1, hk.2.2⟩)⟩, ⟨by refine rdd ?_; exact Kd.R_mono HO217.out (fun _ hk => ⟨hk.2.1, hk.2.2⟩)⟩, ⟨by refine rdd ?_; exact Kd.R_mono HO224.out (fun _ hk => ⟨hk.2.1, hk.2.2⟩)⟩, ⟨bd BK200.out⟩, ⟨bd BK201.out⟩, ⟨bd BK214.out⟩, ⟨bd BK219.out⟩, ⟨bd BK227.out⟩, ⟨hb5 HB.out GE200.out GE201.out GE214.out GE219.out GE227.out⟩⟩
   ·
    replace c51 := Bool.eq_false_iff.mpr c51
    subst c51
    have H1 : (laws_FnExactAnswerState.j0 k t213 t226 true l0_0 a0_1 a1_0 a1_1 t209 t212 t215 t218 t222 t225) = some r := by rw [if_neg (show ¬ (false = true) by decide)] at H; exact H
    clear H
    have H := H1
    clear H1
    have H' := A_ H
    clear H
    have hnb62 := NB227_200.out
    have hnc62 := NB200_227.out
    have hnb63 := NB227_201.out
    have hnc63 := NB201_227.out
    have hnb64 := NB227_214.out
    have hnc64 := NB214_227.out
    have hnb65 := NB227_219.out
    have hnc65 := NB219_227.out
    have hcz66_0 : w46.cell? ⟨gb227, 0, none⟩ = some (.slice none 0 0) := (blk_cell BK227.out 0).trans rfl
    have hcz66_1 : w46.cell? ⟨gb227, 1, none⟩ = some (.int .i64 0) := (blk_cell BK227.out 1).trans rfl
    have hfz66_0 := blk_frozen BK227.out 0
    have hfz66_1 := blk_frozen BK227.out 1
    have hnb67 := NB214_200.out
    have hnc67 := NB200_214.out
    have hnb68 := NB214_201.out
    have hnc68 := NB201_214.out
    have hnb69 := NB214_219.out
    have hnc69 := NB219_214.out
    have hcz70_0 : w46.cell? ⟨gb214, 0, none⟩ = some (.slice Ao29 t209.length co29) := (blk_cell BK214.out 0).trans rfl
    have hcz70_1 : w46.cell? ⟨gb214, 1, none⟩ = some (.int .i64 t212) := (blk_cell BK214.out 1).trans rfl
    have hfz70_0 := blk_frozen BK214.out 0
    have hfz70_1 := blk_frozen BK214.out 1
    go_wp2_with (first | ((with_reducible refine gate_callee (f := 26) rfl ?_); refine goesL_ (some 40) rfl rfl Try.func26 (by kernel_rfl) rfl #[.agg #[.slice Ao47 t222.length co47, .int .i64 t225], .agg #[.slice Ao29 t209.length co29, .int .i64 t212]] rfl (by (try simp only [List.map_toArray, List.map_cons, List.map_nil]); first | done | rfl | (simp only [List.length_drop, List.length_take]; rfl)) ?_; (with_reducible refine (laws_eqState.calls k _ _ t222 t225 _ _ t209 t212 false _ ?side1 ?side2 ?side3 ?side4 A50.out).mono ?_); (case side1 => refine (Kd.R_reads' (e := 3) (base := w.heap.size) (ok := fun k_ => (some k_ ≠ (v204 : Value).ownBlock ∧ (some k_ ≠ (.slice Ao29 t209.length co29 : Value).ownBlock ∧ some k_ ≠ (.slice Ao36 t215.length co36 : Value).ownBlock))) (n := t222.length) (c := co47) ?_).2.2; exact (rdd (Kd.R_mono (Kd.R_far (p := ⟨gb227, 1, none⟩) (Kd.R_far (p := ⟨gb227, 0, none⟩) (Kd.R_types HO224.out BK227.out (by decide)) (fun _ hk => hk.2) (.slice Ao47 t222.length co47)) (fun _ hk => hk.2) (.int .i64 t225)) (fun _ h_ => h_.1)))); (case side2 => exact (Kd.R_reads' HO224.out).2.1); (case side3 => refine (Kd.R_reads' (e := 3) (base := w.heap.size) (ok := fun k_ => (some k_ ≠ (v204 : Value).ownBlock ∧ (some k_ ≠ (.slice Ao36 t215.length co36 : Value).ownBlock ∧ some k_ ≠ (.slice Ao47 t222.length co47 : Value).ownBlock))) (n := t209.length) (c := co29) ?_).2.2; exact (rdd (Kd.R_mono (Kd.R_far (p := ⟨gb227, 1, none⟩) (Kd.R_far (p := ⟨gb227, 0, none⟩) (Kd.R_types HO211.out BK227.out (by decide)) (fun _ hk => hk.2) (.slice Ao47 t222.length co47)) (fun _ hk => hk.2) (.int .i64 t225)) (fun _ h_ => h_.1)))); (case side4 => exact (Kd.R_reads' HO211.out).2.1); rintro e w71 ⟨rfl, hb⟩; refine ⟨_, rfl, ?_⟩; have n0_ := A_ (Kd.R_below (rdd (Kd.R_mono (Kd.R_far (p := ⟨gb227, 1, none⟩) (Kd.R_far (p := ⟨gb227, 0, none⟩) (Kd.R_types HO205.out BK227.out (by decide)) (fun _ hk => hk.2) (.slice Ao47 t222.length co47)) (fun _ hk => hk.2) (.int .i64 t225)) (fun _ h_ => h_.1))) hb); have n1_ := A_ (Kd.R_below (rdd (Kd.R_mono (Kd.R_far (p := ⟨gb227, 1, none⟩) (Kd.R_far (p := ⟨gb227, 0, none⟩) (Kd.R_types HO211.out BK227.out (by decide)) (fun _ hk => hk.2) (.slice Ao47 t222.length co47)) (fun _ hk => hk.2) (.int .i64 t225)) (fun _ h_ => h_.1))) hb); have n2_ := A_ (Kd.R_below (rdd (Kd.R_mono (Kd.R_far (p := ⟨gb227, 1, none⟩) (Kd.R_far (p := ⟨gb227, 0, none⟩) (Kd.R_types HO217.out BK227.out (by decide)) (fun _ hk => hk.2) (.slice Ao47 t222.length co47)) (fun _ hk => hk.2) (.int .i64 t225)) (fun _ h_ => h_.1))) hb); have n3_ := A_ (Kd.R_below (rdd (Kd.R_mono (Kd.R_far (p := ⟨gb227, 1, none⟩) (Kd.R_far (p := ⟨gb227, 0, none⟩) (Kd.R_types HO224.out BK227.out (by decide)) (fun _ hk => hk.2) (.slice Ao47 t222.length co47)) (fun _ hk => hk.2) (.int .i64 t225)) (fun _ h_ => h_.1))) hb); have n4_ := A_ (blk_below (g := gb200) (o := .cells #[.slice A0_0 l0_0.length c0_0, .int .i64 a0_1] 39 (0, 0)) (by refine bd ?_; refine blk_far ?_ NB200_227.out _; refine bd ?_; refine blk_far ?_ NB200_227.out _; refine bd ?_; exact BK200.out) hb); have n5_ := A_ (blk_below (g := gb201) (o := .cells #[.int .i64 a1_0, .bool a1_1] 41 (0, 0)) (by refine bd ?_; refine blk_far ?_ NB201_227.out _; refine bd ?_; refine blk_far ?_ NB201_227.out _; refine bd ?_; exact BK201.out) hb); have n6_ := A_ (blk_below (g := gb214) (o := .cells #[.slice Ao29 t209.length co29, .int .i64 t212] 43 (0, 0)) (by refine bd ?_; refine blk_far ?_ NB214_227.out _; refine bd ?_; refine blk_far ?_ NB214_227.out _; refine bd ?_; exact BK214.out) hb); have n7_ := A_ (blk_below (g := gb219) (o := .cells #[.slice Ao36 t215.length co36, .int .i64 t218] 43 (0, 0)) (by refine bd ?_; refine blk_far ?_ NB219_227.out _; refine bd ?_; refine blk_far ?_ NB219_227.out _; refine bd ?_; exact BK219.out) hb); have n8_ := A_ (blk_below (g := gb227) (o := .cells #[.slice Ao47 t222.length co47, .int .i64 t225] 43 (0, 0)) (by refine bd ?_; refine blk_put (cs := #[.slice Ao47 t222.length co47, .int .i64 0]) ?_ 1 _ rfl; refine bd ?_; refine blk_put (cs := #[.slice none 0 0, .int .i64 0]) ?_ 0 _ rfl; refine bd ?_; exact BK227.out) hb); have n9_ := A_ (below_step (hb5 HB.out GE200.out GE201.out GE214.out GE219.out GE227.out) hb); clear HO205; clear HO211; clear HO217; clear HO224; clear BK200; clear BK201; clear BK214; clear BK219; clear BK227; clear HB; have HO205 := n0_; have HO211 := n1_; have HO217 := n2_; have HO224 := n3_; have BK200 := n4_; have BK201 := n5_; have BK214 := n6_; have BK219 := n7_; have BK227 := n8_; have HB := n9_; clear n0_ n1_ n2_ n3_ n4_ n5_ n6_ n7_ n8_ n9_; (try clear hb); (try clear hb2); (try clear hk); (try clear hi)))
    go_meet
    case rel => exact ⟨_, (true), (by first | rfl | (simp; done) | (simp [*]; done)), H', ⟨by first | omega | exact Nat.le_refl _⟩, ⟨by refine rdd ?_; exact Kd.R_mono HO211.out (fun _ hk => ⟨hk.2.1, hk.2.2⟩)⟩, ⟨by refine rdd ?_; exact Kd.R_mono HO217.out (fun _ hk => ⟨hk.2.1, hk.2.2⟩)⟩, ⟨by refine rdd ?_; exact Kd.R_mono HO224.out (fun _ hk => ⟨hk.2.1, hk.2.2⟩)⟩, ⟨bd BK200.out⟩, ⟨bd BK201.out⟩, ⟨bd BK214.out⟩, ⟨bd BK219.out⟩, ⟨bd BK227.out⟩, ⟨hb5 HB.out GE200.out GE201.out GE214.out GE219.out GE227.out⟩⟩
  case rest =>
   clear HC16
   try clear c2
   try clear p2
   try clear c5
   try clear c6
   try clear c24
   try clear c25
   try clear c26
   try clear c51
   try clear c52
   try clear c53
   try clear c54
   try clear c55
   try clear c57
   try clear c58
   try clear c59
   try clear c62
   try clear c63
   try clear c64
   try clear c65
   try clear c67
   try clear c68
   try clear c69
   try clear hcz56_0
   try clear hcz56_1
   try clear hcz60_0
   try clear hcz60_1
   try clear hcz66_0
   try clear hcz66_1
   try clear hcz70_0
   try clear hcz70_1
   try clear hfz56_0
   try clear hfz56_1
   try clear hfz60_0
   try clear hfz60_1
   try clear hfz66_0
   try clear hfz66_1
   try clear hfz70_0
   try clear hfz70_1
   obtain ⟨kq, x46_15, rfl, HA, HJ15, HO_215000, HO_220000, HO_228000, BK200, BK201, BK214, BK219, BK227, HB⟩ := hcut
   cases kq with
   | zero => exact absurd HA.out (by simp [laws_FnExactAnswerState.j0])
   | succ kj15 =>
    have H := HA.out
    clear HA
    simp only [laws_FnExactAnswerState.j0] at H
    by_cases c72 : x46_15 = true
    ·
     subst c72
     have H1 : (some false) = some r := by rw [if_pos rfl] at H; exact H
     clear H
     have H := H1
     clear H1
     obtain rfl := Option.some.inj H
     go_wp2
     go_ret
     exact ⟨by first | rfl | (simp [errW_none, errW_some] <;> rfl) | (simp [*, errW_none, errW_some] <;> rfl), by repeat (first | (with_reducible first | exact HB.out | apply below_alloc | apply pw_below_drewN | apply below_drew1 | refine below_set ?_ GE200.out | refine below_set ?_ GE201.out | refine below_set ?_ GE214.out | refine below_set ?_ GE219.out | refine below_set ?_ GE227.out) | exact HB.out)⟩
    ·
     replace c72 := Bool.eq_false_iff.mpr c72
     subst c72
     have H1 : ((laws_toState.f kj15 l0_0 a0_1).bind fun bt229 => ((laws_eqState.f kj15 t215 t218 bt229.1 bt229.2).bind fun t233 => (if t233 = true then ((laws_markState.f kj15 t215 t218 1).bind fun bt234 => (if bt234.1 < 0 then (laws_FnExactAnswerState.j1 kj15 t213 true l0_0 a0_1 a1_0 a1_1 t209 t212 t222 t225) else ((laws_eqState.f kj15 t222 t225 t209 t212).bind fun t236 => (if t236 = true then (laws_FnExactAnswerState.j1 kj15 t213 (t226 != t213) l0_0 a0_1 a1_0 a1_1 t209 t212 t222 t225) else (laws_FnExactAnswerState.j1 kj15 t213 true l0_0 a0_1 a1_0 a1_1 t209 t212 t222 t225))))) else (some false)))) = some r := by rw [if_neg (show ¬ (false = true) by decide)] at H; exact H
     clear H
     have H := H1
     clear H1
     replace H := Option.bind_eq_some_iff.mp H
     obtain ⟨⟨t229, t232⟩, A730, H⟩ := H
     replace H : ((laws_eqState.f kj15 t215 t218 t229 t232).bind fun t233 => (if t233 = true then ((laws_markState.f kj15 t215 t218 1).bind fun bt234 => (if bt234.1 < 0 then (laws_FnExactAnswerState.j1 kj15 t213 true l0_0 a0_1 a1_0 a1_1 t209 t212 t222 t225) else ((laws_eqState.f kj15 t222 t225 t209 t212).bind fun t236 => (if t236 = true then (laws_FnExactAnswerState.j1 kj15 t213 (t226 != t213) l0_0 a0_1 a1_0 a1_1 t209 t212 t222 t225) else (laws_FnExactAnswerState.j1 kj15 t213 true l0_0 a0_1 a1_0 a1_1 t209 t212 t222 t225))))) else (some false))) = some r := H
     have A73 := A_ A730
     clear A730
     replace H := Option.bind_eq_some_iff.mp H
     obtain ⟨t233, A740, H⟩ := H
     replace H : (if t233 = true then ((laws_markState.f kj15 t215 t218 1).bind fun bt234 => (if bt234.1 < 0 then (laws_FnExactAnswerState.j1 kj15 t213 true l0_0 a0_1 a1_0 a1_1 t209 t212 t222 t225) else ((laws_eqState.f kj15 t222 t225 t209 t212).bind fun t236 => (if t236 = true then (laws_FnExactAnswerState.j1 kj15 t213 (t226 != t213) l0_0 a0_1 a1_0 a1_1 t209 t212 t222 t225) else (laws_FnExactAnswerState.j1 kj15 t213 true l0_0 a0_1 a1_0 a1_1 t209 t212 t222 t225))))) else (some false)) = some r := H
     have A74 := A_ A740
     clear A740
     by_cases c75 : t233 = true
     ·
      subst c75
      have H1 : ((laws_markState.f kj15 t215 t218 1).bind fun bt234 => (if bt234.1 < 0 then (laws_FnExactAnswerState.j1 kj15 t213 true l0_0 a0_1 a1_0 a1_1 t209 t212 t222 t225) else ((laws_eqState.f kj15 t222 t225 t209 t212).bind fun t236 => (if t236 = true then (laws_FnExactAnswerState.j1 kj15 t213 (t226 != t213) l0_0 a0_1 a1_0 a1_1 t209 t212 t222 t225) else (laws_FnExactAnswerState.j1 kj15 t213 true l0_0 a0_1 a1_0 a1_1 t209 t212 t222 t225))))) = some r := by rw [if_pos rfl] at H; exact H
      clear H
      have H := H1
      clear H1
      replace H := Option.bind_eq_some_iff.mp H
      obtain ⟨⟨t234, t235⟩, A760, H⟩ := H
      replace H : (if t234 < 0 then (laws_FnExactAnswerState.j1 kj15 t213 true l0_0 a0_1 a1_0 a1_1 t209 t212 t222 t225) else ((laws_eqState.f kj15 t222 t225 t209 t212).bind fun t236 => (if t236 = true then (laws_FnExactAnswerState.j1 kj15 t213 (t226 != t213) l0_0 a0_1 a1_0 a1_1 t209 t212 t222 t225) else (laws_FnExactAnswerState.j1 kj15 t213 true l0_0 a0_1 a1_0 a1_1 t209 t212 t222 t225)))) = some r := H
      have A76 := A_ A760
      clear A760
      have HC77 := A_ H
      clear H
      try go_wp2
      have n0_ := A_ (Kd.R_drew HO_215000.out)
      have n1_ := A_ (Kd.R_drew HO_220000.out)
      have n2_ := A_ (Kd.R_drew HO_228000.out)
      have n3_ := A_ (blk_drew BK200.out)
      have n4_ := A_ (blk_drew BK201.out)
      have n5_ := A_ (blk_drew BK214.out)
      have n6_ := A_ (blk_drew BK219.out)
      have n7_ := A_ (blk_drew BK227.out)
      have n8_ := A_ (below_drew1 HB.out)
      clear HO_215000
      clear HO_220000
      clear HO_228000
      clear BK200
      clear BK201
      clear BK214
      clear BK219
      clear BK227
      clear HB
      have HO_215000 := n0_
      have HO_220000 := n1_
      have HO_228000 := n2_
      have BK200 := n3_
      have BK201 := n4_
      have BK214 := n5_
      have BK219 := n6_
      have BK227 := n7_
      have HB := n8_
      clear n0_ n1_ n2_ n3_ n4_ n5_ n6_ n7_ n8_
      refine start_ (n := 5) (S := fun w' => w'.cell? ⟨gb219, 0, none⟩ = some (.slice Ao36 t215.length co36) ∧ w'.cell? ⟨gb219, 1, none⟩ = some (.int .i64 t218) ∧ w'.cell? ⟨gb200, 0, none⟩ = some (.slice A0_0 l0_0.length c0_0) ∧ w'.cell? ⟨gb200, 1, none⟩ = some (.int .i64 a0_1)) (ds := []) #[false, false, false, false, false] (by kernel_rfl) rfl rfl ⟨(blk_cell BK219.out 0).trans rfl, (blk_cell BK219.out 1).trans rfl, (blk_cell BK200.out 0).trans rfl, (blk_cell BK200.out 1).trans rfl⟩ (fun hHeld => ?_)
      generalize wc.drew = w78 at HO_215000 HO_220000 HO_228000 BK200 BK201 BK214 BK219 BK227 HB hHeld ⊢
      refine take_ (i := 0) (N := some 47) (v := ?_) (a' := ?_) #[true, false, false, false, false] rfl rfl (by kernel_rfl) (fun _ _ _ h => h) (Or.inl ⟨by rfl, ?_⟩) hHeld ?_ ?_
      rotate_left
      ·
       rintro w' ⟨s0, s1, s2, s3⟩
       go_simp
       with_reducible rfl
      rotate_left
      ·
       simp only [Act.put, List.setIfInBounds_toArray, List.set_cons_zero, List.set_cons_succ, i64_w, i32_w]
       rfl
      refine take_ (i := 1) (N := some 48) (v := ?_) (a' := ?_) #[true, true, false, false, false] rfl rfl (by kernel_rfl) (fun _ _ _ h => h) (Or.inl ⟨by rfl, ?_⟩) hHeld ?_ ?_
      rotate_left
      ·
       rintro w' ⟨s0, s1, s2, s3⟩
       go_simp
       with_reducible rfl
      rotate_left
      ·
       simp only [Act.put, List.setIfInBounds_toArray, List.set_cons_zero, List.set_cons_succ, i64_w, i32_w]
       rfl
      refine one_ (i := 2) (N := some 49) #[true, true, true, false, false] rfl rfl (by kernel_rfl) (by decide) (fun K hK => ?_)
      refine goes_ Try.func23 (by kernel_rfl) rfl #[.agg #[.slice A0_0 l0_0.length c0_0, .int .i64 a0_1]] (by rfl) rfl rfl (by (try simp only [List.map_toArray, List.map_cons, List.map_nil]); first | done | rfl | (simp only [List.length_drop, List.length_take]; rfl)) ?_
      with_reducible refine (laws_toState.calls kj15 _ _ l0_0 a0_1 t229 t232 _ ?side1 ?side2 A73.out).mono ?_
      (case side1 => repeat (first | exact (Kd.C_below HR0_0.out HB.out) | (with_reducible refine Kd.C_alloc ?_ _) | (with_reducible refine Kd.C_drewN ?_ _) | (with_reducible refine Kd.C_drew ?_)))
      (case side2 => exact HC0_0.out)
      rintro e w79 ⟨v230, rfl, ho0, hb⟩
      refine ⟨_, rfl, ?_⟩
      have n0_ := A_ (Kd.R_elder' (rdd HO_215000.out) (Kd.R_base ho0) hb)
      have n1_ := A_ (Kd.R_elder' (rdd HO_220000.out) (Kd.R_base ho0) hb)
      have n2_ := A_ (Kd.R_elder' (rdd HO_228000.out) (Kd.R_base ho0) hb)
      have n3_ := A_ (Kd.R_lower (Kd.R_new' (Kd.R_new' (Kd.R_new' ho0 (Kd.R_lt (rdd HO_215000.out))) (Kd.R_lt (rdd HO_220000.out))) (Kd.R_lt (rdd HO_228000.out))) (below_size (hb5 HB.out GE200.out GE201.out GE214.out GE219.out GE227.out)))
      have n4_ := A_ (blk_below (bd BK200.out) hb)
      have n5_ := A_ (blk_below (bd BK201.out) hb)
      have n6_ := A_ (blk_below (bd BK214.out) hb)
      have n7_ := A_ (blk_below (bd BK219.out) hb)
      have n8_ := A_ (blk_below (bd BK227.out) hb)
      have n9_ := A_ (below_step (hb5 HB.out GE200.out GE201.out GE214.out GE219.out GE227.out) hb)
      clear HO_215000
      clear HO_220000
      clear HO_228000
      clear BK200
      clear BK201
      clear BK214
      clear BK219
      clear BK227
      clear HB
      have HO_215000 := n0_
      have HO_220000 := n1_
      have HO_228000 := n2_
      have HO231 := n3_
      have BK200 := n4_
      have BK201 := n5_
      have BK214 := n6_
      have BK219 := n7_
      have BK227 := n8_
      have HB := n9_
      clear n0_ n1_ n2_ n3_ n4_ n5_ n6_ n7_ n8_ n9_
      (try clear hb)
      (try clear hb2)
      (try clear hk)
      (try clear hi)
      (try clear ho0)
      obtain ⟨Ao80, co80, eo80⟩ := Kd.R_slice HO231.out
      (first | subst eo80 | (injection eo80 with f1_ f2_ f3_; have f4_ := f1_.symm; have f5_ := f3_.symm; clear f1_ f2_ f3_; subst f4_; subst f5_))
      refine hK.out _ _ ⟨(blk_cell BK219.out 0).trans rfl, (blk_cell BK219.out 1).trans rfl, (blk_cell BK200.out 0).trans rfl, (blk_cell BK200.out 1).trans rfl⟩ (fun hHeld => ?_)
      clear hK K
      refine norm_ (a' := ?_) ?_ ?_
      rotate_left
      ·
       show Act.put _ (some 49) _ = _
       simp only [Act.put, List.setIfInBounds_toArray, List.set_cons_zero, List.set_cons_succ, i64_w, i32_w]
       rfl
      refine one_ (i := 3) (N := some 50) #[true, true, true, true, false] rfl rfl (by kernel_rfl) (by decide) (fun K hK => ?_)
      refine goes_ Try.func26 (by kernel_rfl) rfl #[.agg #[.slice Ao36 t215.length co36, .int .i64 t218], .agg #[.slice Ao80 t229.length co80, .int .i64 t232]] (by rfl) rfl rfl (by (try simp only [List.map_toArray, List.map_cons, List.map_nil]); first | done | rfl | (simp only [List.length_drop, List.length_take]; rfl)) ?_
      with_reducible refine (laws_eqState.calls kj15 _ _ t215 t218 _ _ t229 t232 true _ ?side1 ?side2 ?side3 ?side4 A74.out).mono ?_
      (case side1 => repeat (first | exact (Kd.R_reads' HO_220000.out).2.2 | (with_reducible refine Kd.C_alloc ?_ _) | (with_reducible refine Kd.C_drewN ?_ _) | (with_reducible refine Kd.C_drew ?_)))
      (case side2 => exact (Kd.R_reads' HO_220000.out).2.1)
      (case side3 => repeat (first | exact (Kd.R_reads' HO231.out).2.2 | (with_reducible refine Kd.C_alloc ?_ _) | (with_reducible refine Kd.C_drewN ?_ _) | (with_reducible refine Kd.C_drew ?_)))
      (case side4 => exact (Kd.R_reads' HO231.out).2.1)
      rintro e w81 ⟨rfl, hb⟩
      refine ⟨_, rfl, ?_⟩
      have n0_ := A_ (Kd.R_below (rdd HO_215000.out) hb)
      have n1_ := A_ (Kd.R_below (rdd HO_220000.out) hb)
      have n2_ := A_ (Kd.R_below (rdd HO_228000.out) hb)
      have n3_ := A_ (Kd.R_below (rdd HO231.out) hb)
      have n4_ := A_ (blk_below (bd BK200.out) hb)
      have n5_ := A_ (blk_below (bd BK201.out) hb)
      have n6_ := A_ (blk_below (bd BK214.out) hb)
      have n7_ := A_ (blk_below (bd BK219.out) hb)
      have n8_ := A_ (blk_below (bd BK227.out) hb)
      have n9_ := A_ (below_step (hb5 HB.out GE200.out GE201.out GE214.out GE219.out GE227.out) hb)
      clear HO_215000
      clear HO_220000
      clear HO_228000
      clear HO231
      clear BK200
      clear BK201
      clear BK214
      clear BK219
      clear BK227
      clear HB
      have HO_215000 := n0_
      have HO_220000 := n1_
      have HO_228000 := n2_
      have HO231 := n3_
      have BK200 := n4_
      have BK201 := n5_
      have BK214 := n6_
      have BK219 := n7_
      have BK227 := n8_
      have HB := n9_
      clear n0_ n1_ n2_ n3_ n4_ n5_ n6_ n7_ n8_ n9_
      (try clear hb)
      (try clear hb2)
      (try clear hk)
      (try clear hi)
      refine hK.out _ _ ⟨(blk_cell BK219.out 0).trans rfl, (blk_cell BK219.out 1).trans rfl, (blk_cell BK200.out 0).trans rfl, (blk_cell BK200.out 1).trans rfl⟩ (fun hHeld => ?_)
      clear hK K
      refine norm_ (a' := ?_) ?_ ?_
      rotate_left
      ·
       show Act.put _ (some 50) _ = _
       simp only [Act.put, List.setIfInBounds_toArray, List.set_cons_zero, List.set_cons_succ, i64_w, i32_w]
       rfl
      refine pure_ (i := 4) (N := some 51) (v := ?_) (a' := ?_) #[true, true, true, true, true] rfl rfl (by kernel_rfl) (fun _ _ _ h => h) (Or.inl ⟨by rfl, ?_⟩) ?_ ?_
      rotate_left
      ·
       intro w'
       go_simp
       with_reducible rfl
      rotate_left
      ·
       simp only [Act.put, List.setIfInBounds_toArray, List.set_cons_zero, List.set_cons_succ, i64_w, i32_w]
       rfl
      refine done_ (by kernel_rfl) ?_
      have hnb82 := NB219_200.out
      have hnc82 := NB200_219.out
      have hnb83 := NB219_201.out
      have hnc83 := NB201_219.out
      have hnb84 := NB219_214.out
      have hnc84 := NB214_219.out
      have hnb85 := NB219_227.out
      have hnc85 := NB227_219.out
      have hcz86_0 : w81.cell? ⟨gb219, 0, none⟩ = some (.slice Ao36 t215.length co36) := (blk_cell BK219.out 0).trans rfl
      have hcz86_1 : w81.cell? ⟨gb219, 1, none⟩ = some (.int .i64 t218) := (blk_cell BK219.out 1).trans rfl
      have hfz86_0 := blk_frozen BK219.out 0
      have hfz86_1 := blk_frozen BK219.out 1
      go_upto_region 14 with (first | ((with_reducible refine gate_callee (f := 27) rfl ?_); refine goesL_ (some 54) rfl rfl Try.func27 (by kernel_rfl) rfl #[.agg #[.slice Ao36 t215.length co36, .int .i64 t218], .int .i64 1] rfl (by (try simp only [List.map_toArray, List.map_cons, List.map_nil]); first | done | rfl | (simp only [List.length_drop, List.length_take]; rfl)) ?_; (with_reducible refine (laws_markState.calls kj15 (fun k_ => some k_ = (.slice Ao36 t215.length co36 : Value).ownBlock) (.slice Ao36 t215.length co36) t215 t218 1 t234 t235 w _ ?side1 ?side2 A76.out).mono ?_); (case side1 => repeat (first | (with_reducible first | exact HB.out | apply below_alloc | apply pw_below_drewN | apply below_drew1 | refine below_set ?_ GE200.out | refine below_set ?_ GE201.out | refine below_set ?_ GE214.out | refine below_set ?_ GE219.out | refine below_set ?_ GE227.out) | exact HB.out)); (case side2 => exact Kd.R_tight rfl HO_220000.out); rintro e w87 ⟨rfl, hy0, hb, hkp⟩; refine ⟨_, rfl, ?_⟩; have n0_ := A_ (Kd.R_mono (ok' := fun k_ => some k_ ≠ (.slice Ao36 t215.length co36 : Value).ownBlock ∧ some k_ ≠ (.slice Ao47 t222.length co47 : Value).ownBlock ∧ some k_ ≠ (.slice Ao80 t229.length co80 : Value).ownBlock) (Kd.R_keptB (HO_215000.out) hkp (fun k_ hk_ hs_ => (hk_.1.1) hs_)) (fun k_ hk_ => ⟨hk_.1.1.1, hk_.1.1.2, hk_.1.2⟩)); have n1_ := A_ (Kd.R_reok rfl hy0 (fun k_ e_ => HO_220000.out.1 k_ e_)); have n2_ := A_ (Kd.R_mono (ok' := fun k_ => some k_ ≠ (.slice Ao29 t209.length co29 : Value).ownBlock ∧ some k_ ≠ (.slice Ao36 t215.length co36 : Value).ownBlock ∧ some k_ ≠ (.slice Ao80 t229.length co80 : Value).ownBlock) (Kd.R_keptB (HO_228000.out) hkp (fun k_ hk_ hs_ => (hk_.1.2) hs_)) (fun k_ hk_ => ⟨hk_.1.1.1, hk_.1.1.2, hk_.1.2⟩)); have n3_ := A_ (blk_kept (bd BK200.out) hkp (fun hs_ => (fun e_ => (Kd.R_ne HO_220000.out BK200.out (by decide)) e_) hs_)); have n4_ := A_ (blk_kept (bd BK201.out) hkp (fun hs_ => (fun e_ => (Kd.R_ne HO_220000.out BK201.out (by decide)) e_) hs_)); have n5_ := A_ (blk_kept (bd BK214.out) hkp (fun hs_ => (fun e_ => (Kd.R_ne HO_220000.out BK214.out (by decide)) e_) hs_)); have n6_ := A_ (blk_kept (bd BK219.out) hkp (fun hs_ => (fun e_ => (Kd.R_ne HO_220000.out BK219.out (by decide)) e_) hs_)); have n7_ := A_ (blk_kept (bd BK227.out) hkp (fun hs_ => (fun e_ => (Kd.R_ne HO_220000.out BK227.out (by decide)) e_) hs_)); have n8_ := A_ (Kd.R_mono (ok' := fun k_ => some k_ ≠ (.slice Ao29 t209.length co29 : Value).ownBlock ∧ some k_ ≠ (.slice Ao36 t215.length co36 : Value).ownBlock ∧ some k_ ≠ (.slice Ao47 t222.length co47 : Value).ownBlock) (Kd.R_keptB (HO231.out) hkp (fun k_ hk_ hs_ => (hk_.1.2) hs_)) (fun k_ hk_ => ⟨hk_.1.1.1.2, hk_.1.1.2, hk_.1.2⟩)); have n9_ := A_ (hb); clear HO_215000; clear HO_220000; clear HO_228000; clear BK200; clear BK201; clear BK214; clear BK219; clear BK227; clear HO231; clear HB; have HO_215000 := n0_; have HO_220000 := n1_; have HO_228000 := n2_; have BK200 := n3_; have BK201 := n4_; have BK214 := n5_; have BK219 := n6_; have BK227 := n7_; have HO231 := n8_; have HB := n9_; clear n0_ n1_ n2_ n3_ n4_ n5_ n6_ n7_ n8_ n9_; (try clear hb); (try clear hkp); (try clear hy0)))
      (try simp only [Act.put, List.setIfInBounds_toArray, List.set_cons_zero, List.set_cons_succ])
      go_cut [67] (fun v67 wc => ∃ (kq : Nat) (x67_76 : Bool), v67 = .bool x67_76 ∧ Aside0 (laws_FnExactAnswerState.j1 kq t213 x67_76 l0_0 a0_1 a1_0 a1_1 t209 t212 t222 t225 = some r) ∧ Aside0 (kq ≤ kj15) ∧ Aside0 (Kd.R (Kd.int .i64) 3 wc w.heap.size (fun k_ => some k_ ≠ ((.slice Ao36 t215.length co36) : Value).ownBlock ∧ some k_ ≠ ((.slice Ao47 t222.length co47) : Value).ownBlock) (.slice Ao29 t209.length co29) t209) ∧ Aside0 (Kd.R (Kd.int .i64) 3 wc w.heap.size (fun k_ => some k_ ≠ ((.slice Ao29 t209.length co29) : Value).ownBlock ∧ some k_ ≠ ((.slice Ao47 t222.length co47) : Value).ownBlock) (.slice Ao36 t215.length co36) t235) ∧ Aside0 (Kd.R (Kd.int .i64) 3 wc w.heap.size (fun k_ => some k_ ≠ ((.slice Ao29 t209.length co29) : Value).ownBlock ∧ some k_ ≠ ((.slice Ao36 t215.length co36) : Value).ownBlock) (.slice Ao47 t222.length co47) t222) ∧ Aside0 (wc.heap[gb200]? = some (.cells #[(.slice A0_0 l0_0.length c0_0), .int .i64 a0_1] 39 (0, 0))) ∧ Aside0 (wc.heap[gb201]? = some (.cells #[.int .i64 a1_0, .bool a1_1] 41 (0, 0))) ∧ Aside0 (wc.heap[gb214]? = some (.cells #[(.slice Ao29 t209.length co29), .int .i64 t212] 43 (0, 0))) ∧ Aside0 (wc.heap[gb219]? = some (.cells #[(.slice Ao36 t215.length co36), .int .i64 t218] 43 (0, 0))) ∧ Aside0 (wc.heap[gb227]? = some (.cells #[(.slice Ao47 t222.length co47), .int .i64 t225] 43 (0, 0))) ∧ Aside0 (Below w.heap.size w wc))
      case first =>
       have H := HC77.out
       clear HC77
       by_cases c88 : t234 < 0
       ·
        rw [if_pos c88] at H
        have c88b0 : decide (t234 < 0) = true := decide_eq_true c88
        clear c88
        (first | rw [c88b0] | (simp only [i64_w, i32_w]; rw [c88b0]) | skip)
        have H' := A_ H
        clear H
        go_wp2
        go_meet
        case rel => exact ⟨_, (true), (by first | rfl | (simp; done) | (simp [*]; done)), H', ⟨by have := HJ15.out; first | omega | exact Nat.le_refl _⟩, ⟨by refine rdd ?_; exact Kd.R_mono HO_215000.out (fun _ hk => ⟨hk.1, hk.2.1⟩)⟩, ⟨by refine rdd ?_; exact Kd.R_mono HO_220000.out (fun _ hk => ⟨hk.1.1, hk.1.2⟩)⟩, ⟨by refine rdd ?_; exact Kd.R_mono HO_228000.out (fun _ hk => ⟨hk.1, hk.2.1⟩)⟩, ⟨bd BK200.out⟩, ⟨bd BK201.out⟩, ⟨bd BK214.out⟩, ⟨bd BK219.out⟩, ⟨bd BK227.out⟩, ⟨hb5 HB.out GE200.out GE201.out GE214.out GE219.out GE227.out⟩⟩
       ·
        rw [if_neg c88] at H
        have c88b0 : decide (t234 < 0) = false := decide_eq_false c88
        clear c88
        (first | rw [c88b0] | (simp only [i64_w, i32_w]; rw [c88b0]) | skip)
        replace H := Option.bind_eq_some_iff.mp H
        obtain ⟨t236, A890, H⟩ := H
        replace H : (if t236 = true then (laws_FnExactAnswerState.j1 kj15 t213 (t226 != t213) l0_0 a0_1 a1_0 a1_1 t209 t212 t222 t225) else (laws_FnExactAnswerState.j1 kj15 t213 true l0_0 a0_1 a1_0 a1_1 t209 t212 t222 t225)) = some r := H
        have A89 := A_ A890
        clear A890
        by_cases c90 : t236 = true
        ·
         subst c90
         have H1 : (laws_FnExactAnswerState.j1 kj15 t213 (t226 != t213) l0_0 a0_1 a1_0 a1_1 t209 t212 t222 t225) = some r := by rw [if_pos rfl] at H; exact H
         clear H
         have H := H1
         clear H1
         have H' := A_ H
         clear H
         have hnb91 := NB227_200.out
         have hnc91 := NB200_227.out
         have hnb92 := NB227_201.out
         have hnc92 := NB201_227.out
         have hnb93 := NB227_214.out
         have hnc93 := NB214_227.out
         have hnb94 := NB227_219.out
         have hnc94 := NB219_227.out
         have hcz95_0 : w87.cell? ⟨gb227, 0, none⟩ = some (.slice Ao47 t222.length co47) := (blk_cell BK227.out 0).trans rfl
         have hcz95_1 : w87.cell? ⟨gb227, 1, none⟩ = some (.int .i64 t225) := (blk_cell BK227.out 1).trans rfl
         have hfz95_0 := blk_frozen BK227.out 0
         have hfz95_1 := blk_frozen BK227.out 1
         have hnb96 := NB214_200.out
         have hnc96 := NB200_214.out
         have hnb97 := NB214_201.out
         have hnc97 := NB201_214.out
         have hnb98 := NB214_219.out
         have hnc98 := NB219_214.out
         have hcz99_0 : w87.cell? ⟨gb214, 0, none⟩ = some (.slice Ao29 t209.length co29) := (blk_cell BK214.out 0).trans rfl
         have hcz99_1 : w87.cell? ⟨gb214, 1, none⟩ = some (.int .i64 t212) := (blk_cell BK214.out 1).trans rfl
         have hfz99_0 := blk_frozen BK214.out 0
         have hfz99_1 := blk_frozen BK214.out 1
         go_wp2_with (first | (go_at_call 26; (with_reducible refine (laws_eqState.calls kj15 _ _ t222 t225 _ _ t209 t212 true _ ?side1 ?side2 ?side3 ?side4 A89.out).mono ?_); (case side1 => repeat (first | exact (Kd.R_reads' HO_228000.out).2.2 | (with_reducible refine Kd.C_alloc ?_ _) | (with_reducible refine Kd.C_drewN ?_ _) | (with_reducible refine Kd.C_drew ?_))); (case side2 => exact (Kd.R_reads' HO_228000.out).2.1); (case side3 => repeat (first | exact (Kd.R_reads' HO_215000.out).2.2 | (with_reducible refine Kd.C_alloc ?_ _) | (with_reducible refine Kd.C_drewN ?_ _) | (with_reducible refine Kd.C_drew ?_))); (case side4 => exact (Kd.R_reads' HO_215000.out).2.1); rintro e w100 ⟨rfl, hb⟩; have n0_ := A_ (Kd.R_below (rdd HO_215000.out) hb); have n1_ := A_ (Kd.R_below (rdd HO_220000.out) hb); have n2_ := A_ (Kd.R_below (rdd HO_228000.out) hb); have n3_ := A_ (Kd.R_below (rdd HO231.out) hb); have n4_ := A_ (blk_below (bd BK200.out) hb); have n5_ := A_ (blk_below (bd BK201.out) hb); have n6_ := A_ (blk_below (bd BK214.out) hb); have n7_ := A_ (blk_below (bd BK219.out) hb); have n8_ := A_ (blk_below (bd BK227.out) hb); have n9_ := A_ (below_step (hb5 HB.out GE200.out GE201.out GE214.out GE219.out GE227.out) hb); clear HO_215000; clear HO_220000; clear HO_228000; clear HO231; clear BK200; clear BK201; clear BK214; clear BK219; clear BK227; clear HB; have HO_215000 := n0_; have HO_220000 := n1_; have HO_228000 := n2_; have HO231 := n3_; have BK200 := n4_; have BK201 := n5_; have BK214 := n6_; have BK219 := n7_; have BK227 := n8_; have HB := n9_; clear n0_ n1_ n2_ n3_ n4_ n5_ n6_ n7_ n8_ n9_; (try clear hb); (try clear hb2); (try clear hk); (try clear hi)))
         go_meet
         case rel => exact ⟨_, ((t226 != t213)), (by first | rfl | (simp; done) | (simp [*]; done)), H', ⟨by have := HJ15.out; first | omega | exact Nat.le_refl _⟩, ⟨by refine rdd ?_; exact Kd.R_mono HO_215000.out (fun _ hk => ⟨hk.1, hk.2.1⟩)⟩, ⟨by refine rdd ?_; exact Kd.R_mono HO_220000.out (fun _ hk => ⟨hk.1.1, hk.1.2⟩)⟩, ⟨by refine rdd ?_; exact Kd.R_mono HO_228000.out (fun _ hk => ⟨hk.1, hk.2.1⟩)⟩, ⟨bd BK200.out⟩, ⟨bd BK201.out⟩, ⟨bd BK214.out⟩, ⟨bd BK219.out⟩, ⟨bd BK227.out⟩, ⟨hb5 HB.out GE200.out GE201.out GE214.out GE219.out GE227.out⟩⟩
        ·
         replace c90 := Bool.eq_false_iff.mpr c90
         subst c90
         have H1 : (laws_FnExactAnswerState.j1 kj15 t213 true l0_0 a0_1 a1_0 a1_1 t209 t212 t222 t225) = some r := by rw [if_neg (show ¬ (false = true) by decide)] at H; exact H
         clear H
         have H := H1
         clear H1
         have H' := A_ H
         clear H
         have hnb101 := NB227_200.out
         have hnc101 := NB200_227.out
         have hnb102 := NB227_201.out
         have hnc102 := NB201_227.out
         have hnb103 := NB227_214.out
         have hnc103 := NB214_227.out
         have hnb104 := NB227_219.out
         have hnc104 := NB219_227.out
         have hcz105_0 : w87.cell? ⟨gb227, 0, none⟩ = some (.slice Ao47 t222.length co47) := (blk_cell BK227.out 0).trans rfl
         have hcz105_1 : w87.cell? ⟨gb227, 1, none⟩ = some (.int .i64 t225) := (blk_cell BK227.out 1).trans rfl
         have hfz105_0 := blk_frozen BK227.out 0
         have hfz105_1 := blk_frozen BK227.out 1
         have hnb106 := NB214_200.out
         have hnc106 := NB200_214.out
         have hnb107 := NB214_201.out
         have hnc107 := NB201_214.out
         have hnb108 := NB214_219.out
         have hnc108 := NB219_214.out
         have hcz109_0 : w87.cell? ⟨gb214, 0, none⟩ = some (.slice Ao29 t209.length co29) := (blk_cell BK214.out 0).trans rfl
         have hcz109_1 : w87.cell? ⟨gb214, 1, none⟩ = some (.int .i64 t212) := (blk_cell BK214.out 1).trans rfl
         have hfz109_0 := blk_frozen BK214.out 0
         have hfz109_1 := blk_frozen BK214.out 1
         go_wp2_with (first | (go_at_call 26; (with_reducible refine (laws_eqState.calls kj15 _ _ t222 t225 _ _ t209 t212 false _ ?side1 ?side2 ?side3 ?side4 A89.out).mono ?_); (case side1 => repeat (first | exact (Kd.R_reads' HO_228000.out).2.2 | (with_reducible refine Kd.C_alloc ?_ _) | (with_reducible refine Kd.C_drewN ?_ _) | (with_reducible refine Kd.C_drew ?_))); (case side2 => exact (Kd.R_reads' HO_228000.out).2.1); (case side3 => repeat (first | exact (Kd.R_reads' HO_215000.out).2.2 | (with_reducible refine Kd.C_alloc ?_ _) | (with_reducible refine Kd.C_drewN ?_ _) | (with_reducible refine Kd.C_drew ?_))); (case side4 => exact (Kd.R_reads' HO_215000.out).2.1); rintro e w110 ⟨rfl, hb⟩; have n0_ := A_ (Kd.R_below (rdd HO_215000.out) hb); have n1_ := A_ (Kd.R_below (rdd HO_220000.out) hb); have n2_ := A_ (Kd.R_below (rdd HO_228000.out) hb); have n3_ := A_ (Kd.R_below (rdd HO231.out) hb); have n4_ := A_ (blk_below (bd BK200.out) hb); have n5_ := A_ (blk_below (bd BK201.out) hb); have n6_ := A_ (blk_below (bd BK214.out) hb); have n7_ := A_ (blk_below (bd BK219.out) hb); have n8_ := A_ (blk_below (bd BK227.out) hb); have n9_ := A_ (below_step (hb5 HB.out GE200.out GE201.out GE214.out GE219.out GE227.out) hb); clear HO_215000; clear HO_220000; clear HO_228000; clear HO231; clear BK200; clear BK201; clear BK214; clear BK219; clear BK227; clear HB; have HO_215000 := n0_; have HO_220000 := n1_; have HO_228000 := n2_; have HO231 := n3_; have BK200 := n4_; have BK201 := n5_; have BK214 := n6_; have BK219 := n7_; have BK227 := n8_; have HB := n9_; clear n0_ n1_ n2_ n3_ n4_ n5_ n6_ n7_ n8_ n9_; (try clear hb); (try clear hb2); (try clear hk); (try clear hi)))
         go_meet
         case rel => exact ⟨_, (true), (by first | rfl | (simp; done) | (simp [*]; done)), H', ⟨by have := HJ15.out; first | omega | exact Nat.le_refl _⟩, ⟨by refine rdd ?_; exact Kd.R_mono HO_215000.out (fun _ hk => ⟨hk.1, hk.2.1⟩)⟩, ⟨by refine rdd ?_; exact Kd.R_mono HO_220000.out (fun _ hk => ⟨hk.1.1, hk.1.2⟩)⟩, ⟨by refine rdd ?_; exact Kd.R_mono HO_228000.out (fun _ hk => ⟨hk.1, hk.2.1⟩)⟩, ⟨bd BK200.out⟩, ⟨bd BK201.out⟩, ⟨bd BK214.out⟩, ⟨bd BK219.out⟩, ⟨bd BK227.out⟩, ⟨hb5 HB.out GE200.out GE201.out GE214.out GE219.out GE227.out⟩⟩
      case rest =>
       clear HC77
       try clear c1
       try clear c2
       try clear p2
       try clear c5
       try clear c6
       try clear c7
       try clear c8
       try clear c9
       try clear c10
       try clear c23
       try clear c24
       try clear c25
       try clear c26
       try clear c27
       try clear c51
       try clear c52
       try clear c53
       try clear c54
       try clear c55
       try clear c57
       try clear c58
       try clear c59
       try clear c62
       try clear c63
       try clear c64
       try clear c65
       try clear c67
       try clear c68
       try clear c69
       try clear c72
       try clear c75
       try clear c82
       try clear c83
       try clear c84
       try clear c85
       try clear c88
       try clear c88b0
       try clear c90
       try clear c91
       try clear c92
       try clear c93
       try clear c94
       try clear c96
       try clear c97
       try clear c98
       try clear c101
       try clear c102
       try clear c103
       try clear c104
       try clear c106
       try clear c107
       try clear c108
       try clear hcz105_0
       try clear hcz105_1
       try clear hcz109_0
       try clear hcz109_1
       try clear hcz56_0
       try clear hcz56_1
       try clear hcz60_0
       try clear hcz60_1
       try clear hcz66_0
       try clear hcz66_1
       try clear hcz70_0
       try clear hcz70_1
       try clear hcz86_0
       try clear hcz86_1
       try clear hcz95_0
       try clear hcz95_1
       try clear hcz99_0
       try clear hcz99_1
       try clear hfz105_0
       try clear hfz105_1
       try clear hfz109_0
       try clear hfz109_1
       try clear hfz56_0
       try clear hfz56_1
       try clear hfz60_0
       try clear hfz60_1
       try clear hfz66_0
       try clear hfz66_1
       try clear hfz70_0
       try clear hfz70_1
       try clear hfz86_0
       try clear hfz86_1
       try clear hfz95_0
       try clear hfz95_1
       try clear hfz99_0
       try clear hfz99_1
       try clear p2
       obtain ⟨kq, x67_76, rfl, HA, HJ76, HO_215000, HO_220000, HO_228000, BK200, BK201, BK214, BK219, BK227, HB⟩ := hcut
       have hl220000_76 := (Kd.R_reads' HO_220000.out).1
       rw [hl220000_76] at HO_220000
       (try simp only [hl220000_76])
       (try simp only [hl220000_76] at BK200)
       (try simp only [hl220000_76] at BK201)
       (try simp only [hl220000_76] at BK214)
       (try simp only [hl220000_76] at BK219)
       (try simp only [hl220000_76] at BK227)
       (try simp only [hl220000_76] at HO_215000)
       (try simp only [hl220000_76] at HO_228000)
       cases kq with
       | zero => exact absurd HA.out (by simp [laws_FnExactAnswerState.j1])
       | succ kj76 =>
        have H := HA.out
        clear HA
        simp only [laws_FnExactAnswerState.j1] at H
        by_cases c111 : x67_76 = true
        ·
         subst c111
         have H1 : (some false) = some r := by rw [if_pos rfl] at H; exact H
         clear H
         have H := H1
         clear H1
         obtain rfl := Option.some.inj H
         go_wp2
         go_ret
         exact ⟨by first | rfl | (simp [errW_none, errW_some] <;> rfl) | (simp [*, errW_none, errW_some] <;> rfl), by repeat (first | (with_reducible first | exact HB.out | apply below_alloc | apply pw_below_drewN | apply below_drew1 | refine below_set ?_ GE200.out | refine below_set ?_ GE201.out | refine below_set ?_ GE214.out | refine below_set ?_ GE219.out | refine below_set ?_ GE227.out) | exact HB.out)⟩
        ·
         replace c111 := Bool.eq_false_iff.mpr c111
         subst c111
         have H1 : ((laws_markState.f kj76 t222 t225 1).bind fun bt237 => ((laws_heldState.f kj76 bt237.2 t225 1).bind fun t239 => (if t239 < 0 then (some false) else (if t239 = bt237.1 then ((laws_toState.f kj76 l0_0 a0_1).bind fun bt240 => ((laws_toAsked.f a1_0 a1_1).bind fun bt244 => ((impl_AnswerState.f kj76 bt240.1 bt240.2 bt244.1 bt244.2).bind fun bt246 => ((laws_eqState.f kj76 bt246.1 bt246.2.1 t209 t212).bind fun t252 => (if t252 = true then (laws_FnExactAnswerState.j2 kj76 bt237.1 (bt246.2.2 != t213) bt237.2 t225) else (laws_FnExactAnswerState.j2 kj76 bt237.1 true bt237.2 t225)))))) else (some false))))) = some r := by rw [if_neg (show ¬ (false = true) by decide)] at H; exact H
         clear H
         have H := H1
         clear H1
         replace H := Option.bind_eq_some_iff.mp H
         obtain ⟨⟨t237, t238⟩, A1120, H⟩ := H
         replace H : ((laws_heldState.f kj76 t238 t225 1).bind fun t239 => (if t239 < 0 then (some false) else (if t239 = t237 then ((laws_toState.f kj76 l0_0 a0_1).bind fun bt240 => ((laws_toAsked.f a1_0 a1_1).bind fun bt244 => ((impl_AnswerState.f kj76 bt240.1 bt240.2 bt244.1 bt244.2).bind fun bt246 => ((laws_eqState.f kj76 bt246.1 bt246.2.1 t209 t212).bind fun t252 => (if t252 = true then (laws_FnExactAnswerState.j2 kj76 t237 (bt246.2.2 != t213) t238 t225) else (laws_FnExactAnswerState.j2 kj76 t237 true t238 t225)))))) else (some false)))) = some r := H
         have A112 := A_ A1120
         clear A1120
         replace H := Option.bind_eq_some_iff.mp H
         obtain ⟨t239, A1130, H⟩ := H
         replace H : (if t239 < 0 then (some false) else (if t239 = t237 then ((laws_toState.f kj76 l0_0 a0_1).bind fun bt240 => ((laws_toAsked.f a1_0 a1_1).bind fun bt244 => ((impl_AnswerState.f kj76 bt240.1 bt240.2 bt244.1 bt244.2).bind fun bt246 => ((laws_eqState.f kj76 bt246.1 bt246.2.1 t209 t212).bind fun t252 => (if t252 = true then (laws_FnExactAnswerState.j2 kj76 t237 (bt246.2.2 != t213) t238 t225) else (laws_FnExactAnswerState.j2 kj76 t237 true t238 t225)))))) else (some false))) = some r := H
         have A113 := A_ A1130
         clear A1130
         by_cases c114 : t239 < 0
         ·
          rw [if_pos c114] at H
          have c114b0 : decide (t239 < 0) = true := decide_eq_true c114
          clear c114
          obtain rfl := Option.some.inj H
          have hnb115 := NB227_200.out
          have hnc115 := NB200_227.out
          have hnb116 := NB227_201.out
          have hnc116 := NB201_227.out
          have hnb117 := NB227_214.out
          have hnc117 := NB214_227.out
          have hnb118 := NB227_219.out
          have hnc118 := NB219_227.out
          have hcz119_0 : wc.cell? ⟨gb227, 0, none⟩ = some (.slice Ao47 t222.length co47) := (blk_cell BK227.out 0).trans rfl
          have hcz119_1 : wc.cell? ⟨gb227, 1, none⟩ = some (.int .i64 t225) := (blk_cell BK227.out 1).trans rfl
          have hfz119_0 := blk_frozen BK227.out 0
          have hfz119_1 := blk_frozen BK227.out 1
          go_wp2_with (first | ((with_reducible refine gate_callee (f := 27) rfl ?_); refine goesL_ (some 70) rfl rfl Try.func27 (by kernel_rfl) rfl #[.agg #[.slice Ao47 t222.length co47, .int .i64 t225], .int .i64 1] rfl (by (try simp only [List.map_toArray, List.map_cons, List.map_nil]); first | done | rfl | (simp only [List.length_drop, List.length_take]; rfl)) ?_; (with_reducible refine (laws_markState.calls kj76 (fun k_ => some k_ = (.slice Ao47 t222.length co47 : Value).ownBlock) (.slice Ao47 t222.length co47) t222 t225 1 t237 t238 w _ ?side1 ?side2 A112.out).mono ?_); (case side1 => repeat (first | (with_reducible first | exact HB.out | apply below_alloc | apply pw_below_drewN | apply below_drew1 | refine below_set ?_ GE200.out | refine below_set ?_ GE201.out | refine below_set ?_ GE214.out | refine below_set ?_ GE219.out | refine below_set ?_ GE227.out) | exact HB.out)); (case side2 => exact Kd.R_tight rfl HO_228000.out); rintro e w120 ⟨rfl, hy0, hb, hkp⟩; refine ⟨_, rfl, ?_⟩; have n0_ := A_ (Kd.R_mono (ok' := fun k_ => some k_ ≠ (.slice Ao36 t235.length co36 : Value).ownBlock ∧ some k_ ≠ (.slice Ao47 t222.length co47 : Value).ownBlock) (Kd.R_keptB (HO_215000.out) hkp (fun k_ hk_ hs_ => (hk_.2) hs_)) (fun k_ hk_ => ⟨hk_.1.1, hk_.1.2⟩)); have n1_ := A_ (Kd.R_mono (ok' := fun k_ => some k_ ≠ (.slice Ao29 t209.length co29 : Value).ownBlock ∧ some k_ ≠ (.slice Ao47 t222.length co47 : Value).ownBlock) (Kd.R_keptB (HO_220000.out) hkp (fun k_ hk_ hs_ => (hk_.2) hs_)) (fun k_ hk_ => ⟨hk_.1.1, hk_.1.2⟩)); have n2_ := A_ (Kd.R_reok rfl hy0 (fun k_ e_ => HO_228000.out.1 k_ e_)); have n3_ := A_ (blk_kept (bd BK200.out) hkp (fun hs_ => (fun e_ => (Kd.R_ne HO_228000.out BK200.out (by decide)) e_) hs_)); have n4_ := A_ (blk_kept (bd BK201.out) hkp (fun hs_ => (fun e_ => (Kd.R_ne HO_228000.out BK201.out (by decide)) e_) hs_)); have n5_ := A_ (blk_kept (bd BK214.out) hkp (fun hs_ => (fun e_ => (Kd.R_ne HO_228000.out BK214.out (by decide)) e_) hs_)); have n6_ := A_ (blk_kept (bd BK219.out) hkp (fun hs_ => (fun e_ => (Kd.R_ne HO_228000.out BK219.out (by decide)) e_) hs_)); have n7_ := A_ (blk_kept (bd BK227.out) hkp (fun hs_ => (fun e_ => (Kd.R_ne HO_228000.out BK227.out (by decide)) e_) hs_)); have n8_ := A_ (hb); clear HO_215000; clear HO_220000; clear HO_228000; clear BK200; clear BK201; clear BK214; clear BK219; clear BK227; clear HB; have HO_215000 := n0_; have HO_220000 := n1_; have HO_228000 := n2_; have BK200 := n3_; have BK201 := n4_; have BK214 := n5_; have BK219 := n6_; have BK227 := n7_; have HB := n8_; clear n0_ n1_ n2_ n3_ n4_ n5_ n6_ n7_ n8_; (try clear hb); (try clear hkp); (try clear hy0); have hcz121_0 : w120.cell? ⟨gb227, 0, none⟩ = some (.slice Ao47 t222.length co47) := (blk_cell BK227.out 0).trans rfl; have hcz121_1 : w120.cell? ⟨gb227, 1, none⟩ = some (.int .i64 t225) := (blk_cell BK227.out 1).trans rfl; have hfz121_0 := blk_frozen BK227.out 0; have hfz121_1 := blk_frozen BK227.out 1) | ((with_reducible refine gate_callee (f := 28) rfl ?_); refine goesL_ (some 73) rfl rfl Try.func28 (by kernel_rfl) rfl #[.agg #[.slice Ao47 t238.length co47, .int .i64 t225], .int .i64 1] rfl (by (try simp only [List.map_toArray, List.map_cons, List.map_nil]); first | done | (rw [show t238.length = t222.length from (Kd.R_reads' HO_228000.out).1.symm] <;> rfl) | rfl | (simp only [List.length_drop, List.length_take]; rfl)) ?_; (with_reducible refine (laws_heldState.calls kj76 _ _ t238 t225 1 t239 _ ?side1 ?side2 A113.out).mono ?_); (case side1 => repeat (first | exact (Kd.R_reads' HO_228000.out).2.2 | (with_reducible refine Kd.C_alloc ?_ _) | (with_reducible refine Kd.C_drewN ?_ _) | (with_reducible refine Kd.C_drew ?_))); (case side2 => rw [show t238.length = t222.length from (Kd.R_reads' HO_228000.out).1.symm]; exact (Kd.R_reads' HO_228000.out).2.1); rintro e w122 ⟨rfl, hb⟩; refine ⟨_, rfl, ?_⟩; have n0_ := A_ (Kd.R_below (rdd HO_215000.out) hb); have n1_ := A_ (Kd.R_below (rdd HO_220000.out) hb); have n2_ := A_ (Kd.R_below (rdd HO_228000.out) hb); have n3_ := A_ (blk_below (bd BK200.out) hb); have n4_ := A_ (blk_below (bd BK201.out) hb); have n5_ := A_ (blk_below (bd BK214.out) hb); have n6_ := A_ (blk_below (bd BK219.out) hb); have n7_ := A_ (blk_below (bd BK227.out) hb); have n8_ := A_ (below_step (hb5 HB.out GE200.out GE201.out GE214.out GE219.out GE227.out) hb); clear HO_215000; clear HO_220000; clear HO_228000; clear BK200; clear BK201; clear BK214; clear BK219; clear BK227; clear HB; have HO_215000 := n0_; have HO_220000 := n1_; have HO_228000 := n2_; have BK200 := n3_; have BK201 := n4_; have BK214 := n5_; have BK219 := n6_; have BK227 := n7_; have HB := n8_; clear n0_ n1_ n2_ n3_ n4_ n5_ n6_ n7_ n8_; (try clear hb); (try clear hb2); (try clear hk); (try clear hi)))
          go_ret
          exact ⟨by first | rfl | (simp [errW_none, errW_some] <;> rfl) | (simp [*, errW_none, errW_some] <;> rfl), by repeat (first | (with_reducible first | exact HB.out | apply below_alloc | apply pw_below_drewN | apply below_drew1 | refine below_set ?_ GE200.out | refine below_set ?_ GE201.out | refine below_set ?_ GE214.out | refine below_set ?_ GE219.out | refine below_set ?_ GE227.out) | exact HB.out)⟩
         ·
          rw [if_neg c114] at H
          have c114b0 : decide (t239 < 0) = false := decide_eq_false c114
          clear c114
          by_cases c123 : t239 = t237
          ·
           rw [if_pos c123] at H
           have c123b0 : (t239 == t237) = true := beq_iff_eq.mpr c123
           have c123b1 : (t239 != t237) = false := bne_eq_false_iff_eq.mpr c123
           clear c123
           replace H := Option.bind_eq_some_iff.mp H
           obtain ⟨⟨t240, t243⟩, A1240, H⟩ := H
           replace H : ((laws_toAsked.f a1_0 a1_1).bind fun bt244 => ((impl_AnswerState.f kj76 t240 t243 bt244.1 bt244.2).bind fun bt246 => ((laws_eqState.f kj76 bt246.1 bt246.2.1 t209 t212).bind fun t252 => (if t252 = true then (laws_FnExactAnswerState.j2 kj76 t237 (bt246.2.2 != t213) t238 t225) else (laws_FnExactAnswerState.j2 kj76 t237 true t238 t225))))) = some r := H
           have A124 := A_ A1240
           clear A1240
           replace H := Option.bind_eq_some_iff.mp H
           obtain ⟨⟨t244, t245⟩, A1250, H⟩ := H
           replace H : ((impl_AnswerState.f kj76 t240 t243 t244 t245).bind fun bt246 => ((laws_eqState.f kj76 bt246.1 bt246.2.1 t209 t212).bind fun t252 => (if t252 = true then (laws_FnExactAnswerState.j2 kj76 t237 (bt246.2.2 != t213) t238 t225) else (laws_FnExactAnswerState.j2 kj76 t237 true t238 t225)))) = some r := H
           have A125 := A_ A1250
           clear A1250
           replace H := Option.bind_eq_some_iff.mp H
           obtain ⟨⟨t246, t249, t250⟩, A1260, H⟩ := H
           replace H : ((laws_eqState.f kj76 t246 t249 t209 t212).bind fun t252 => (if t252 = true then (laws_FnExactAnswerState.j2 kj76 t237 (t250 != t213) t238 t225) else (laws_FnExactAnswerState.j2 kj76 t237 true t238 t225))) = some r := H
           have A126 := A_ A1260
           clear A1260
           have HC127 := A_ H
           clear H
           have hnb128 := NB227_200.out
           have hnc128 := NB200_227.out
           have hnb129 := NB227_201.out
           have hnc129 := NB201_227.out
           have hnb130 := NB227_214.out
           have hnc130 := NB214_227.out
           have hnb131 := NB227_219.out
           have hnc131 := NB219_227.out
           have hcz132_0 : wc.cell? ⟨gb227, 0, none⟩ = some (.slice Ao47 t222.length co47) := (blk_cell BK227.out 0).trans rfl
           have hcz132_1 : wc.cell? ⟨gb227, 1, none⟩ = some (.int .i64 t225) := (blk_cell BK227.out 1).trans rfl
           have hfz132_0 := blk_frozen BK227.out 0
           have hfz132_1 := blk_frozen BK227.out 1
           try go_wp2_with (first | ((with_reducible refine gate_callee (f := 27) rfl ?_); refine goesL_ (some 70) rfl rfl Try.func27 (by kernel_rfl) rfl #[.agg #[.slice Ao47 t222.length co47, .int .i64 t225], .int .i64 1] rfl (by (try simp only [List.map_toArray, List.map_cons, List.map_nil]); first | done | rfl | (simp only [List.length_drop, List.length_take]; rfl)) ?_; (with_reducible refine (laws_markState.calls kj76 (fun k_ => some k_ = (.slice Ao47 t222.length co47 : Value).ownBlock) (.slice Ao47 t222.length co47) t222 t225 1 t237 t238 w _ ?side1 ?side2 A112.out).mono ?_); (case side1 => repeat (first | (with_reducible first | exact HB.out | apply below_alloc | apply pw_below_drewN | apply below_drew1 | refine below_set ?_ GE200.out | refine below_set ?_ GE201.out | refine below_set ?_ GE214.out | refine below_set ?_ GE219.out | refine below_set ?_ GE227.out) | exact HB.out)); (case side2 => exact Kd.R_tight rfl HO_228000.out); rintro e w133 ⟨rfl, hy0, hb, hkp⟩; refine ⟨_, rfl, ?_⟩; have n0_ := A_ (Kd.R_mono (ok' := fun k_ => some k_ ≠ (.slice Ao36 t235.length co36 : Value).ownBlock ∧ some k_ ≠ (.slice Ao47 t222.length co47 : Value).ownBlock) (Kd.R_keptB (HO_215000.out) hkp (fun k_ hk_ hs_ => (hk_.2) hs_)) (fun k_ hk_ => ⟨hk_.1.1, hk_.1.2⟩)); have n1_ := A_ (Kd.R_mono (ok' := fun k_ => some k_ ≠ (.slice Ao29 t209.length co29 : Value).ownBlock ∧ some k_ ≠ (.slice Ao47 t222.length co47 : Value).ownBlock) (Kd.R_keptB (HO_220000.out) hkp (fun k_ hk_ hs_ => (hk_.2) hs_)) (fun k_ hk_ => ⟨hk_.1.1, hk_.1.2⟩)); have n2_ := A_ (Kd.R_reok rfl hy0 (fun k_ e_ => HO_228000.out.1 k_ e_)); have n3_ := A_ (blk_kept (bd BK200.out) hkp (fun hs_ => (fun e_ => (Kd.R_ne HO_228000.out BK200.out (by decide)) e_) hs_)); have n4_ := A_ (blk_kept (bd BK201.out) hkp (fun hs_ => (fun e_ => (Kd.R_ne HO_228000.out BK201.out (by decide)) e_) hs_)); have n5_ := A_ (blk_kept (bd BK214.out) hkp (fun hs_ => (fun e_ => (Kd.R_ne HO_228000.out BK214.out (by decide)) e_) hs_)); have n6_ := A_ (blk_kept (bd BK219.out) hkp (fun hs_ => (fun e_ => (Kd.R_ne HO_228000.out BK219.out (by decide)) e_) hs_)); have n7_ := A_ (blk_kept (bd BK227.out) hkp (fun hs_ => (fun e_ => (Kd.R_ne HO_228000.out BK227.out (by decide)) e_) hs_)); have n8_ := A_ (hb); clear HO_215000; clear HO_220000; clear HO_228000; clear BK200; clear BK201; clear BK214; clear BK219; clear BK227; clear HB; have HO_215000 := n0_; have HO_220000 := n1_; have HO_228000 := n2_; have BK200 := n3_; have BK201 := n4_; have BK214 := n5_; have BK219 := n6_; have BK227 := n7_; have HB := n8_; clear n0_ n1_ n2_ n3_ n4_ n5_ n6_ n7_ n8_; (try clear hb); (try clear hkp); (try clear hy0); have hcz134_0 : w133.cell? ⟨gb227, 0, none⟩ = some (.slice Ao47 t222.length co47) := (blk_cell BK227.out 0).trans rfl; have hcz134_1 : w133.cell? ⟨gb227, 1, none⟩ = some (.int .i64 t225) := (blk_cell BK227.out 1).trans rfl; have hfz134_0 := blk_frozen BK227.out 0; have hfz134_1 := blk_frozen BK227.out 1) | ((with_reducible refine gate_callee (f := 28) rfl ?_); refine goesL_ (some 73) rfl rfl Try.func28 (by kernel_rfl) rfl #[.agg #[.slice Ao47 t238.length co47, .int .i64 t225], .int .i64 1] rfl (by (try simp only [List.map_toArray, List.map_cons, List.map_nil]); first | done | (rw [show t238.length = t222.length from (Kd.R_reads' HO_228000.out).1.symm] <;> rfl) | rfl | (simp only [List.length_drop, List.length_take]; rfl)) ?_; (with_reducible refine (laws_heldState.calls kj76 _ _ t238 t225 1 t239 _ ?side1 ?side2 A113.out).mono ?_); (case side1 => repeat (first | exact (Kd.R_reads' HO_228000.out).2.2 | (with_reducible refine Kd.C_alloc ?_ _) | (with_reducible refine Kd.C_drewN ?_ _) | (with_reducible refine Kd.C_drew ?_))); (case side2 => rw [show t238.length = t222.length from (Kd.R_reads' HO_228000.out).1.symm]; exact (Kd.R_reads' HO_228000.out).2.1); rintro e w135 ⟨rfl, hb⟩; refine ⟨_, rfl, ?_⟩; have n0_ := A_ (Kd.R_below (rdd HO_215000.out) hb); have n1_ := A_ (Kd.R_below (rdd HO_220000.out) hb); have n2_ := A_ (Kd.R_below (rdd HO_228000.out) hb); have n3_ := A_ (blk_below (bd BK200.out) hb); have n4_ := A_ (blk_below (bd BK201.out) hb); have n5_ := A_ (blk_below (bd BK214.out) hb); have n6_ := A_ (blk_below (bd BK219.out) hb); have n7_ := A_ (blk_below (bd BK227.out) hb); have n8_ := A_ (below_step (hb5 HB.out GE200.out GE201.out GE214.out GE219.out GE227.out) hb); clear HO_215000; clear HO_220000; clear HO_228000; clear BK200; clear BK201; clear BK214; clear BK219; clear BK227; clear HB; have HO_215000 := n0_; have HO_220000 := n1_; have HO_228000 := n2_; have BK200 := n3_; have BK201 := n4_; have BK214 := n5_; have BK219 := n6_; have BK227 := n7_; have HB := n8_; clear n0_ n1_ n2_ n3_ n4_ n5_ n6_ n7_ n8_; (try clear hb); (try clear hb2); (try clear hk); (try clear hi)))
           have n0_ := A_ (Kd.R_drew HO_215000.out)
           have n1_ := A_ (Kd.R_drew HO_220000.out)
           have n2_ := A_ (Kd.R_drew HO_228000.out)
           have n3_ := A_ (blk_drew BK200.out)
           have n4_ := A_ (blk_drew BK201.out)
           have n5_ := A_ (blk_drew BK214.out)
           have n6_ := A_ (blk_drew BK219.out)
           have n7_ := A_ (blk_drew BK227.out)
           have n8_ := A_ (below_drew1 HB.out)
           clear HO_215000
           clear HO_220000
           clear HO_228000
           clear BK200
           clear BK201
           clear BK214
           clear BK219
           clear BK227
           clear HB
           have HO_215000 := n0_
           have HO_220000 := n1_
           have HO_228000 := n2_
           have BK200 := n3_
           have BK201 := n4_
           have BK214 := n5_
           have BK219 := n6_
           have BK227 := n7_
           have HB := n8_
           clear n0_ n1_ n2_ n3_ n4_ n5_ n6_ n7_ n8_
           refine start_ (n := 11) (S := fun w' => w'.cell? ⟨gb200, 0, none⟩ = some (.slice A0_0 l0_0.length c0_0) ∧ w'.cell? ⟨gb200, 1, none⟩ = some (.int .i64 a0_1) ∧ w'.cell? ⟨gb201, 0, none⟩ = some (.int .i64 a1_0) ∧ w'.cell? ⟨gb201, 1, none⟩ = some (.bool a1_1)) (ds := []) #[false, false, false, false, false, false, false, false, false, false, false] (by kernel_rfl) rfl rfl ⟨(blk_cell BK200.out 0).trans rfl, (blk_cell BK200.out 1).trans rfl, (blk_cell BK201.out 0).trans rfl, (blk_cell BK201.out 1).trans rfl⟩ (fun hHeld => ?_); refine with_tabW laws_FnExactAnswerState.tab24 laws_FnExactAnswerState.bits24 (fun HT_ HW_ => ?_)
           generalize w135.drew = w136 at HO_215000 HO_220000 HO_228000 BK200 BK201 BK214 BK219 BK227 HB hHeld ⊢
           refine take_ (i := 0) (N := some 80) (v := ?_) (a' := ?_) #[true, false, false, false, false, false, false, false, false, false, false] rfl rfl (take_ofW HT_.out HW_.out (by kernel_rfl)) (fun _ _ _ h => h) (Or.inl ⟨by rfl, ?_⟩) hHeld ?_ ?_
           rotate_left
           ·
            rintro w' ⟨s0, s1, s2, s3⟩
            go_simp
            with_reducible rfl
           rotate_left
           ·
            simp only [Act.put, List.setIfInBounds_toArray, List.set_cons_zero, List.set_cons_succ, i64_w, i32_w]
            rfl
           refine take_ (i := 2) (N := some 82) (v := ?_) (a' := ?_) #[true, false, true, false, false, false, false, false, false, false, false] rfl rfl (take_ofW HT_.out HW_.out (by kernel_rfl)) (fun _ _ _ h => h) (Or.inl ⟨by rfl, ?_⟩) hHeld ?_ ?_
           rotate_left
           ·
            rintro w' ⟨s0, s1, s2, s3⟩
            go_simp
            with_reducible rfl
           rotate_left
           ·
            simp only [Act.put, List.setIfInBounds_toArray, List.set_cons_zero, List.set_cons_succ, i64_w, i32_w]
            rfl
           refine join_ (σ := Value × Value × Nat) 2 #[true, true, true, true, true, true, true, true, true, false, false] (fun s_ => [(81, .agg #[s_.1, .int .i64 t243]), (83, .agg #[.int .i64 t244, .bool t245]), (84, .tuple #[.agg #[s_.2.1, .int .i64 t249], .bool t250]), (14, .pointer (some ⟨s_.2.2, 0, none⟩)), (79, .tuple #[.agg #[s_.2.1, .int .i64 t249], .bool t250]), (85, .agg #[s_.2.1, .int .i64 t249]), (86, .bool t250)]) (fun s_ w' => (w'.cell? ⟨gb200, 0, none⟩ = some (.slice A0_0 l0_0.length c0_0) ∧ w'.cell? ⟨gb200, 1, none⟩ = some (.int .i64 a0_1) ∧ w'.cell? ⟨gb201, 0, none⟩ = some (.int .i64 a1_0) ∧ w'.cell? ⟨gb201, 1, none⟩ = some (.bool a1_1)) ∧ (Kd.R (Kd.int .i64) 3 w' w.heap.size (fun k_ => some k_ ≠ (s_.2.1 : Value).ownBlock ∧ some k_ ≠ (.slice Ao29 t209.length co29 : Value).ownBlock ∧ some k_ ≠ (.slice Ao36 t235.length co36 : Value).ownBlock ∧ some k_ ≠ (.slice Ao47 t222.length co47 : Value).ownBlock) s_.1 t240) ∧ (Kd.R (Kd.int .i64) 3 w' w.heap.size (fun k_ => some k_ ≠ (s_.1 : Value).ownBlock ∧ some k_ ≠ (.slice Ao29 t209.length co29 : Value).ownBlock ∧ some k_ ≠ (.slice Ao36 t235.length co36 : Value).ownBlock ∧ some k_ ≠ (.slice Ao47 t222.length co47 : Value).ownBlock) s_.2.1 t246) ∧ (Kd.R (Kd.int .i64) 3 w' w.heap.size (fun k_ => some k_ ≠ (s_.1 : Value).ownBlock ∧ some k_ ≠ (s_.2.1 : Value).ownBlock ∧ some k_ ≠ (.slice Ao36 t235.length co36 : Value).ownBlock ∧ some k_ ≠ (.slice Ao47 t222.length co47 : Value).ownBlock) (.slice Ao29 t209.length co29) t209) ∧ (Kd.R (Kd.int .i64) 3 w' w.heap.size (fun k_ => some k_ ≠ (s_.1 : Value).ownBlock ∧ some k_ ≠ (s_.2.1 : Value).ownBlock ∧ some k_ ≠ (.slice Ao29 t209.length co29 : Value).ownBlock ∧ some k_ ≠ (.slice Ao47 t222.length co47 : Value).ownBlock) (.slice Ao36 t235.length co36) t235) ∧ (Kd.R (Kd.int .i64) 3 w' w.heap.size (fun k_ => some k_ ≠ (s_.1 : Value).ownBlock ∧ some k_ ≠ (s_.2.1 : Value).ownBlock ∧ some k_ ≠ (.slice Ao29 t209.length co29 : Value).ownBlock ∧ some k_ ≠ (.slice Ao36 t235.length co36 : Value).ownBlock) (.slice Ao47 t222.length co47) t238) ∧ (w'.heap[gb200]? = some (.cells #[.slice A0_0 l0_0.length c0_0, .int .i64 a0_1] 39 (0, 0))) ∧ (w'.heap[gb201]? = some (.cells #[.int .i64 a1_0, .bool a1_1] 41 (0, 0))) ∧ (w'.heap[gb214]? = some (.cells #[.slice Ao29 t209.length co29, .int .i64 t212] 43 (0, 0))) ∧ (w'.heap[gb219]? = some (.cells #[.slice Ao36 t235.length co36, .int .i64 t218] 43 (0, 0))) ∧ (w'.heap[gb227]? = some (.cells #[.slice Ao47 t222.length co47, .int .i64 t225] 43 (0, 0))) ∧ (w'.heap[s_.2.2]? = some (.cells #[.slice none 0 0, .int .i64 0] 43 (0, 0))) ∧ (w.heap.size ≤ s_.2.2) ∧ (w.heap.size ≤ s_.2.2) ∧ (gb200 ≠ s_.2.2) ∧ (s_.2.2 ≠ gb200) ∧ (gb201 ≠ s_.2.2) ∧ (s_.2.2 ≠ gb201) ∧ (gb214 ≠ s_.2.2) ∧ (s_.2.2 ≠ gb214) ∧ (gb219 ≠ s_.2.2) ∧ (s_.2.2 ≠ gb219) ∧ (gb227 ≠ s_.2.2) ∧ (s_.2.2 ≠ gb227) ∧ (Below w.heap.size w w')) ?_ ?_
           rotate_left
           ·
            intro hCont
            refine two_ (i := 1) (j := 8) (Ni := some 81) (Nj := some 14) #[true, true, true, false, false, false, false, false, false, false, false] #[true, false, true, false, false, false, false, false, true, false, false] rfl rfl rfl rfl (two_of HT_.out (by kernel_rfl)) (by decide) (by decide) (fun K hK => ?_) (fun K hK => ?_)
            ·
             skip
             refine goes_ Try.func23 (by kernel_rfl) rfl #[.agg #[.slice A0_0 l0_0.length c0_0, .int .i64 a0_1]] (by rfl) rfl rfl (by (try simp only [List.map_toArray, List.map_cons, List.map_nil]); first | done | rfl | (simp only [List.length_drop, List.length_take]; rfl)) ?_
             with_reducible refine (laws_toState.calls kj76 _ _ l0_0 a0_1 t240 t243 _ ?side1 ?side2 A124.out).mono ?_
             (case side1 => repeat (first | exact (Kd.C_below HR0_0.out HB.out) | (with_reducible refine Kd.C_alloc ?_ _) | (with_reducible refine Kd.C_drewN ?_ _) | (with_reducible refine Kd.C_drew ?_)))
             (case side2 => exact HC0_0.out)
             rintro e w137 ⟨v241, rfl, ho0, hb⟩
             refine ⟨_, rfl, ?_⟩
             have n0_ := A_ (Kd.R_elder' (rdd HO_215000.out) (Kd.R_base ho0) hb)
             have n1_ := A_ (Kd.R_elder' (rdd HO_220000.out) (Kd.R_base ho0) hb)
             have n2_ := A_ (Kd.R_elder' (rdd HO_228000.out) (Kd.R_base ho0) hb)
             have n3_ := A_ (Kd.R_lower (Kd.R_new' (Kd.R_new' (Kd.R_new' ho0 (Kd.R_lt (rdd HO_215000.out))) (Kd.R_lt (rdd HO_220000.out))) (Kd.R_lt (rdd HO_228000.out))) (below_size (hb5 HB.out GE200.out GE201.out GE214.out GE219.out GE227.out)))
             have n4_ := A_ (blk_below (bd BK200.out) hb)
             have n5_ := A_ (blk_below (bd BK201.out) hb)
             have n6_ := A_ (blk_below (bd BK214.out) hb)
             have n7_ := A_ (blk_below (bd BK219.out) hb)
             have n8_ := A_ (blk_below (bd BK227.out) hb)
             have n9_ := A_ (below_step (hb5 HB.out GE200.out GE201.out GE214.out GE219.out GE227.out) hb)
             clear HO_215000
             clear HO_220000
             clear HO_228000
             clear BK200
             clear BK201
             clear BK214
             clear BK219
             clear BK227
             clear HB
             have HO_215000 := n0_
             have HO_220000 := n1_
             have HO_228000 := n2_
             have HO242 := n3_
             have BK200 := n4_
             have BK201 := n5_
             have BK214 := n6_
             have BK219 := n7_
             have BK227 := n8_
             have HB := n9_
             clear n0_ n1_ n2_ n3_ n4_ n5_ n6_ n7_ n8_ n9_
             (try clear hb)
             (try clear hb2)
             (try clear hk)
             (try clear hi)
             (try clear ho0)
             refine hK.out _ _ ⟨(blk_cell BK200.out 0).trans rfl, (blk_cell BK200.out 1).trans rfl, (blk_cell BK201.out 0).trans rfl, (blk_cell BK201.out 1).trans rfl⟩ (fun hHeld => ?_)
             clear hK K
             refine norm_ (a' := ?_) ?_ ?_
             rotate_left
             ·
              show Act.put _ (some 81) _ = _
              simp only [Act.put, List.setIfInBounds_toArray, List.set_cons_zero, List.set_cons_succ, i64_w, i32_w]
              rfl
             refine two_ (i := 3) (j := 8) (Ni := some 83) (Nj := some 14) #[true, true, true, true, false, false, false, false, false, false, false] #[true, true, true, false, false, false, false, false, true, false, false] rfl rfl rfl rfl (two_of HT_.out (by kernel_rfl)) (by decide) (by decide) (fun K hK => ?_) (fun K hK => ?_)
             ·
              skip
              refine goes_ Try.func24 (by kernel_rfl) rfl #[.agg #[.int .i64 a1_0, .bool a1_1]] (by rfl) rfl rfl (by (try simp only [List.map_toArray, List.map_cons, List.map_nil]); first | done | rfl | (simp only [List.length_drop, List.length_take]; rfl)) ?_
              with_reducible refine (laws_toAsked.calls a1_0 a1_1 t244 t245 _ A125.out).mono ?_
              rintro e w138 ⟨rfl, hb⟩
              refine ⟨_, rfl, ?_⟩
              have n0_ := A_ (Kd.R_below (rdd HO_215000.out) hb)
              have n1_ := A_ (Kd.R_below (rdd HO_220000.out) hb)
              have n2_ := A_ (Kd.R_below (rdd HO_228000.out) hb)
              have n3_ := A_ (Kd.R_below (rdd HO242.out) hb)
              have n4_ := A_ (blk_below (bd BK200.out) hb)
              have n5_ := A_ (blk_below (bd BK201.out) hb)
              have n6_ := A_ (blk_below (bd BK214.out) hb)
              have n7_ := A_ (blk_below (bd BK219.out) hb)
              have n8_ := A_ (blk_below (bd BK227.out) hb)
              have n9_ := A_ (below_step (hb5 HB.out GE200.out GE201.out GE214.out GE219.out GE227.out) hb)
              clear HO_215000
              clear HO_220000
              clear HO_228000
              clear HO242
              clear BK200
              clear BK201
              clear BK214
              clear BK219
              clear BK227
              clear HB
              have HO_215000 := n0_
              have HO_220000 := n1_
              have HO_228000 := n2_
              have HO242 := n3_
              have BK200 := n4_
              have BK201 := n5_
              have BK214 := n6_
              have BK219 := n7_
              have BK227 := n8_
              have HB := n9_
              clear n0_ n1_ n2_ n3_ n4_ n5_ n6_ n7_ n8_ n9_
              (try clear hb)
              (try clear hb2)
              (try clear hk)
              (try clear hi)
              obtain ⟨Ao139, co139, eo139⟩ := Kd.R_slice HO242.out
              (first | subst eo139 | (injection eo139 with f1_ f2_ f3_; have f4_ := f1_.symm; have f5_ := f3_.symm; clear f1_ f2_ f3_; subst f4_; subst f5_))
              refine hK.out _ _ ⟨(blk_cell BK200.out 0).trans rfl, (blk_cell BK200.out 1).trans rfl, (blk_cell BK201.out 0).trans rfl, (blk_cell BK201.out 1).trans rfl⟩ (fun hHeld => ?_)
              clear hK K
              refine norm_ (a' := ?_) ?_ ?_
              rotate_left
              ·
               show Act.put _ (some 83) _ = _
               simp only [Act.put, List.setIfInBounds_toArray, List.set_cons_zero, List.set_cons_succ, i64_w, i32_w]
               rfl
              refine two_ (i := 4) (j := 8) (Ni := some 84) (Nj := some 14) #[true, true, true, true, true, false, false, false, false, false, false] #[true, true, true, true, false, false, false, false, true, false, false] rfl rfl rfl rfl (two_of HT_.out (by kernel_rfl)) (by decide) (by decide) (fun K hK => ?_) (fun K hK => ?_)
              ·
               skip
               refine goes_ Try.func25 (by kernel_rfl) rfl #[.agg #[.slice Ao139 t240.length co139, .int .i64 t243], .agg #[.int .i64 t244, .bool t245]] (by rfl) rfl rfl (by (try simp only [List.map_toArray, List.map_cons, List.map_nil]); first | done | rfl | (simp only [List.length_drop, List.length_take]; rfl)) ?_
               with_reducible refine (impl_AnswerState.calls kj76 _ _ t240 t243 t244 t245 t246 t249 t250 _ ?side1 ?side2 A126.out).mono ?_
               (case side1 => repeat (first | exact (Kd.R_reads' HO242.out).2.2 | (with_reducible refine Kd.C_alloc ?_ _) | (with_reducible refine Kd.C_drewN ?_ _) | (with_reducible refine Kd.C_drew ?_)))
               (case side2 => exact (Kd.R_reads' HO242.out).2.1)
               rintro e w140 ⟨v247, rfl, ho0, hb⟩
               refine ⟨_, rfl, ?_⟩
               have n0_ := A_ (Kd.R_elder' (rdd HO_215000.out) (Kd.R_base ho0) hb)
               have n1_ := A_ (Kd.R_elder' (rdd HO_220000.out) (Kd.R_base ho0) hb)
               have n2_ := A_ (Kd.R_elder' (rdd HO_228000.out) (Kd.R_base ho0) hb)
               have n3_ := A_ (Kd.R_elder' (rdd HO242.out) (Kd.R_base ho0) hb)
               have n4_ := A_ (Kd.R_lower (Kd.R_new' (Kd.R_new' (Kd.R_new' (Kd.R_new' ho0 (Kd.R_lt (rdd HO_215000.out))) (Kd.R_lt (rdd HO_220000.out))) (Kd.R_lt (rdd HO_228000.out))) (Kd.R_lt (rdd HO242.out))) (below_size (hb5 HB.out GE200.out GE201.out GE214.out GE219.out GE227.out)))
               have n5_ := A_ (blk_below (bd BK200.out) hb)
               have n6_ := A_ (blk_below (bd BK201.out) hb)
               have n7_ := A_ (blk_below (bd BK214.out) hb)
               have n8_ := A_ (blk_below (bd BK219.out) hb)
               have n9_ := A_ (blk_below (bd BK227.out) hb)
               have n10_ := A_ (below_step (hb5 HB.out GE200.out GE201.out GE214.out GE219.out GE227.out) hb)
               clear HO_215000
               clear HO_220000
               clear HO_228000
               clear HO242
               clear BK200
               clear BK201
               clear BK214
               clear BK219
               clear BK227
               clear HB
               have HO_215000 := n0_
               have HO_220000 := n1_
               have HO_228000 := n2_
               have HO242 := n3_
               have HO248 := n4_
               have BK200 := n5_
               have BK201 := n6_
               have BK214 := n7_
               have BK219 := n8_
               have BK227 := n9_
               have HB := n10_
               clear n0_ n1_ n2_ n3_ n4_ n5_ n6_ n7_ n8_ n9_ n10_
               (try clear hb)
               (try clear hb2)
               (try clear hk)
               (try clear hi)
               (try clear ho0)
               refine hK.out _ _ ⟨(blk_cell BK200.out 0).trans rfl, (blk_cell BK200.out 1).trans rfl, (blk_cell BK201.out 0).trans rfl, (blk_cell BK201.out 1).trans rfl⟩ (fun hHeld => ?_)
               clear hK K
               refine norm_ (a' := ?_) ?_ ?_
               rotate_left
               ·
                show Act.put _ (some 84) _ = _
                simp only [Act.put, List.setIfInBounds_toArray, List.set_cons_zero, List.set_cons_succ, i64_w, i32_w]
                rfl
               refine pure_ (i := 5) (N := some 79) (v := ?_) (a' := ?_) #[true, true, true, true, true, true, false, false, false, false, false] rfl rfl (any_of HT_.out (by kernel_rfl)) (fun _ _ _ h => h) (Or.inl ⟨by rfl, ?_⟩) ?_ ?_
               rotate_left
               ·
                intro w'
                go_simp
                with_reducible rfl
               rotate_left
               ·
                simp only [Act.put, List.setIfInBounds_toArray, List.set_cons_zero, List.set_cons_succ, i64_w, i32_w]
                rfl
               refine pure_ (i := 6) (N := some 85) (v := ?_) (a' := ?_) #[true, true, true, true, true, true, true, false, false, false, false] rfl rfl (any_of HT_.out (by kernel_rfl)) (fun _ _ _ h => h) (Or.inl ⟨by rfl, ?_⟩) ?_ ?_
               rotate_left
               ·
                intro w'
                go_simp
                with_reducible rfl
               rotate_left
               ·
                simp only [Act.put, List.setIfInBounds_toArray, List.set_cons_zero, List.set_cons_succ, i64_w, i32_w]
                rfl
               refine pure_ (i := 7) (N := some 86) (v := ?_) (a' := ?_) #[true, true, true, true, true, true, true, true, false, false, false] rfl rfl (any_of HT_.out (by kernel_rfl)) (fun _ _ _ h => h) (Or.inl ⟨by rfl, ?_⟩) ?_ ?_
               rotate_left
               ·
                intro w'
                go_simp
                with_reducible rfl
               rotate_left
               ·
                simp only [Act.put, List.setIfInBounds_toArray, List.set_cons_zero, List.set_cons_succ, i64_w, i32_w]
                rfl
               refine one_ (i := 8) (N := some 14) #[true, true, true, true, true, true, true, true, true, false, false] rfl rfl (one_of HT_.out (by kernel_rfl)) (by decide) (fun K hK => ?_)
               refine box_step ?hg (N := 14) ?hd (cs := #[.slice none 0 0, .int .i64 0]) (t := 43) ?hr ?_; (case hd => rfl); (case hg => rfl); (case hr => first | (go_simp; done) | (go_simp; rfl))
               intro gb251 hg w141 hbox hb
               have n0_ := A_ (Kd.R_below (rdd HO_215000.out) hb)
               have n1_ := A_ (Kd.R_below (rdd HO_220000.out) hb)
               have n2_ := A_ (Kd.R_below (rdd HO_228000.out) hb)
               have n3_ := A_ (Kd.R_below (rdd HO242.out) hb)
               have n4_ := A_ (Kd.R_below (rdd HO248.out) hb)
               have n5_ := A_ (blk_below (bd BK200.out) hb)
               have n6_ := A_ (blk_below (bd BK201.out) hb)
               have n7_ := A_ (blk_below (bd BK214.out) hb)
               have n8_ := A_ (blk_below (bd BK219.out) hb)
               have n9_ := A_ (blk_below (bd BK227.out) hb)
               have n10_ := A_ (below_step (hb5 HB.out GE200.out GE201.out GE214.out GE219.out GE227.out) hb)
               have n11_ := A_ (hbox)
               have n12_ := A_ ((by rw [hg]; exact (below_size (hb5 HB.out GE200.out GE201.out GE214.out GE219.out GE227.out)) : w.heap.size ≤ gb251))
               have n13_ := A_ ((by rw [hg]; exact (below_size (hb5 HB.out GE200.out GE201.out GE214.out GE219.out GE227.out)) : w.heap.size ≤ gb251))
               have n14_ := A_ ((by rw [hg]; exact Nat.ne_of_lt (blk_lt (bd BK200.out)) : gb200 ≠ gb251))
               have n15_ := A_ ((by rw [hg]; exact Nat.ne_of_gt (blk_lt (bd BK200.out)) : gb251 ≠ gb200))
               have n16_ := A_ ((by rw [hg]; exact Nat.ne_of_lt (blk_lt (bd BK201.out)) : gb201 ≠ gb251))
               have n17_ := A_ ((by rw [hg]; exact Nat.ne_of_gt (blk_lt (bd BK201.out)) : gb251 ≠ gb201))
               have n18_ := A_ ((by rw [hg]; exact Nat.ne_of_lt (blk_lt (bd BK214.out)) : gb214 ≠ gb251))
               have n19_ := A_ ((by rw [hg]; exact Nat.ne_of_gt (blk_lt (bd BK214.out)) : gb251 ≠ gb214))
               have n20_ := A_ ((by rw [hg]; exact Nat.ne_of_lt (blk_lt (bd BK219.out)) : gb219 ≠ gb251))
               have n21_ := A_ ((by rw [hg]; exact Nat.ne_of_gt (blk_lt (bd BK219.out)) : gb251 ≠ gb219))
               have n22_ := A_ ((by rw [hg]; exact Nat.ne_of_lt (blk_lt (bd BK227.out)) : gb227 ≠ gb251))
               have n23_ := A_ ((by rw [hg]; exact Nat.ne_of_gt (blk_lt (bd BK227.out)) : gb251 ≠ gb227))
               clear HO_215000
               clear HO_220000
               clear HO_228000
               clear HO242
               clear HO248
               clear BK200
               clear BK201
               clear BK214
               clear BK219
               clear BK227
               clear HB
               have HO_215000 := n0_
               have HO_220000 := n1_
               have HO_228000 := n2_
               have HO242 := n3_
               have HO248 := n4_
               have BK200 := n5_
               have BK201 := n6_
               have BK214 := n7_
               have BK219 := n8_
               have BK227 := n9_
               have HB := n10_
               have BK251 := n11_
               have GW251 := n12_
               have GE251 := n13_
               have NB200_251 := n14_
               have NB251_200 := n15_
               have NB201_251 := n16_
               have NB251_201 := n17_
               have NB214_251 := n18_
               have NB251_214 := n19_
               have NB219_251 := n20_
               have NB251_219 := n21_
               have NB227_251 := n22_
               have NB251_227 := n23_
               clear n0_ n1_ n2_ n3_ n4_ n5_ n6_ n7_ n8_ n9_ n10_ n11_ n12_ n13_ n14_ n15_ n16_ n17_ n18_ n19_ n20_ n21_ n22_ n23_
               clear hb hbox hg
               refine hK.out _ _ ⟨(blk_cell BK200.out 0).trans rfl, (blk_cell BK200.out 1).trans rfl, (blk_cell BK201.out 0).trans rfl, (blk_cell BK201.out 1).trans rfl⟩ (fun hHeld => ?_)
               clear hK K
               refine norm_ (a' := ?_) ?_ ?_
               rotate_left
               ·
                show Act.put _ (some 14) _ = _
                simp only [Act.put, List.setIfInBounds_toArray, List.set_cons_zero, List.set_cons_succ, i64_w, i32_w]
                rfl
               exact norm_ (by simp only [putAll, Act.put, List.setIfInBounds_toArray, List.set_cons_zero, List.set_cons_succ]) (hCont (.slice Ao139 t240.length co139, v247, gb251) _ ⟨hHeld, (by refine rdd ?_; exact Kd.R_mono HO242.out (fun _ hk => ⟨hk.2, ⟨hk.1.1.1.2, ⟨hk.1.1.2, hk.1.2⟩⟩⟩)), (by refine rdd ?_; exact Kd.R_mono HO248.out (fun _ hk => ⟨hk.2, ⟨hk.1.1.1.2, ⟨hk.1.1.2, hk.1.2⟩⟩⟩)), (by refine rdd ?_; exact Kd.R_mono HO_215000.out (fun _ hk => ⟨hk.1.2, ⟨hk.2, ⟨hk.1.1.1, hk.1.1.2⟩⟩⟩)), (by refine rdd ?_; exact Kd.R_mono HO_220000.out (fun _ hk => ⟨hk.1.2, ⟨hk.2, ⟨hk.1.1.1, hk.1.1.2⟩⟩⟩)), (by refine rdd ?_; exact Kd.R_mono HO_228000.out (fun _ hk => ⟨hk.1.2, ⟨hk.2, ⟨hk.1.1.1, hk.1.1.2⟩⟩⟩)), (bd BK200.out), (bd BK201.out), (bd BK214.out), (bd BK219.out), (bd BK227.out), (bd BK251.out), GW251.out, GE251.out, NB200_251.out, NB251_200.out, NB201_251.out, NB251_201.out, NB214_251.out, NB251_214.out, NB219_251.out, NB251_219.out, NB227_251.out, NB251_227.out, (hb6 HB.out GE200.out GE201.out GE214.out GE219.out GE227.out GE251.out)⟩)
              ·
               skip
               refine box_step ?hg (N := 14) ?hd (cs := #[.slice none 0 0, .int .i64 0]) (t := 43) ?hr ?_; (case hd => rfl); (case hg => rfl); (case hr => first | (go_simp; done) | (go_simp; rfl))
               intro gb251 hg w139 hbox hb
               have n0_ := A_ (Kd.R_below (rdd HO_215000.out) hb)
               have n1_ := A_ (Kd.R_below (rdd HO_220000.out) hb)
               have n2_ := A_ (Kd.R_below (rdd HO_228000.out) hb)
               have n3_ := A_ (Kd.R_below (rdd HO242.out) hb)
               have n4_ := A_ (blk_below (bd BK200.out) hb)
               have n5_ := A_ (blk_below (bd BK201.out) hb)
               have n6_ := A_ (blk_below (bd BK214.out) hb)
               have n7_ := A_ (blk_below (bd BK219.out) hb)
               have n8_ := A_ (blk_below (bd BK227.out) hb)
               have n9_ := A_ (below_step (hb5 HB.out GE200.out GE201.out GE214.out GE219.out GE227.out) hb)
               have n10_ := A_ (hbox)
               have n11_ := A_ ((by rw [hg]; exact (below_size (hb5 HB.out GE200.out GE201.out GE214.out GE219.out GE227.out)) : w.heap.size ≤ gb251))
               have n12_ := A_ ((by rw [hg]; exact (below_size (hb5 HB.out GE200.out GE201.out GE214.out GE219.out GE227.out)) : w.heap.size ≤ gb251))
               have n13_ := A_ ((by rw [hg]; exact Nat.ne_of_lt (blk_lt (bd BK200.out)) : gb200 ≠ gb251))
               have n14_ := A_ ((by rw [hg]; exact Nat.ne_of_gt (blk_lt (bd BK200.out)) : gb251 ≠ gb200))
               have n15_ := A_ ((by rw [hg]; exact Nat.ne_of_lt (blk_lt (bd BK201.out)) : gb201 ≠ gb251))
               have n16_ := A_ ((by rw [hg]; exact Nat.ne_of_gt (blk_lt (bd BK201.out)) : gb251 ≠ gb201))
               have n17_ := A_ ((by rw [hg]; exact Nat.ne_of_lt (blk_lt (bd BK214.out)) : gb214 ≠ gb251))
               have n18_ := A_ ((by rw [hg]; exact Nat.ne_of_gt (blk_lt (bd BK214.out)) : gb251 ≠ gb214))
               have n19_ := A_ ((by rw [hg]; exact Nat.ne_of_lt (blk_lt (bd BK219.out)) : gb219 ≠ gb251))
               have n20_ := A_ ((by rw [hg]; exact Nat.ne_of_gt (blk_lt (bd BK219.out)) : gb251 ≠ gb219))
               have n21_ := A_ ((by rw [hg]; exact Nat.ne_of_lt (blk_lt (bd BK227.out)) : gb227 ≠ gb251))
               have n22_ := A_ ((by rw [hg]; exact Nat.ne_of_gt (blk_lt (bd BK227.out)) : gb251 ≠ gb227))
               clear HO_215000
               clear HO_220000
               clear HO_228000
               clear HO242
               clear BK200
               clear BK201
               clear BK214
               clear BK219
               clear BK227
               clear HB
               have HO_215000 := n0_
               have HO_220000 := n1_
               have HO_228000 := n2_
               have HO242 := n3_
               have BK200 := n4_
               have BK201 := n5_
               have BK214 := n6_
               have BK219 := n7_
               have BK227 := n8_
               have HB := n9_
               have BK251 := n10_
               have GW251 := n11_
               have GE251 := n12_
               have NB200_251 := n13_
               have NB251_200 := n14_
               have NB201_251 := n15_
               have NB251_201 := n16_
               have NB214_251 := n17_
               have NB251_214 := n18_
               have NB219_251 := n19_
               have NB251_219 := n20_
               have NB227_251 := n21_
               have NB251_227 := n22_
               clear n0_ n1_ n2_ n3_ n4_ n5_ n6_ n7_ n8_ n9_ n10_ n11_ n12_ n13_ n14_ n15_ n16_ n17_ n18_ n19_ n20_ n21_ n22_
               clear hb hbox hg
               obtain ⟨Ao140, co140, eo140⟩ := Kd.R_slice HO242.out
               (first | subst eo140 | (injection eo140 with f1_ f2_ f3_; have f4_ := f1_.symm; have f5_ := f3_.symm; clear f1_ f2_ f3_; subst f4_; subst f5_))
               refine hK.out _ _ ⟨(blk_cell BK200.out 0).trans rfl, (blk_cell BK200.out 1).trans rfl, (blk_cell BK201.out 0).trans rfl, (blk_cell BK201.out 1).trans rfl⟩ (fun hHeld => ?_)
               clear hK K
               refine norm_ (a' := ?_) ?_ ?_
               rotate_left
               ·
                show Act.put _ (some 14) _ = _
                simp only [Act.put, List.setIfInBounds_toArray, List.set_cons_zero, List.set_cons_succ, i64_w, i32_w]
                rfl
               refine one_ (i := 4) (N := some 84) #[true, true, true, true, true, false, false, false, true, false, false] rfl rfl (one_of HT_.out (by kernel_rfl)) (by decide) (fun K hK => ?_)
               refine goes_ Try.func25 (by kernel_rfl) rfl #[.agg #[.slice Ao140 t240.length co140, .int .i64 t243], .agg #[.int .i64 t244, .bool t245]] (by rfl) rfl rfl (by (try simp only [List.map_toArray, List.map_cons, List.map_nil]); first | done | rfl | (simp only [List.length_drop, List.length_take]; rfl)) ?_
               with_reducible refine (impl_AnswerState.calls kj76 _ _ t240 t243 t244 t245 t246 t249 t250 _ ?side1 ?side2 A126.out).mono ?_
               (case side1 => repeat (first | exact (Kd.R_reads' HO242.out).2.2 | (with_reducible refine Kd.C_alloc ?_ _) | (with_reducible refine Kd.C_drewN ?_ _) | (with_reducible refine Kd.C_drew ?_)))
               (case side2 => exact (Kd.R_reads' HO242.out).2.1)
               rintro e w141 ⟨v247, rfl, ho0, hb⟩
               refine ⟨_, rfl, ?_⟩
               have n0_ := A_ (Kd.R_elder' (rdd HO_215000.out) (Kd.R_base ho0) hb)
               have n1_ := A_ (Kd.R_elder' (rdd HO_220000.out) (Kd.R_base ho0) hb)
               have n2_ := A_ (Kd.R_elder' (rdd HO_228000.out) (Kd.R_base ho0) hb)
               have n3_ := A_ (Kd.R_elder' (rdd HO242.out) (Kd.R_base ho0) hb)
               have n4_ := A_ (Kd.R_lower (Kd.R_new' (Kd.R_new' (Kd.R_new' (Kd.R_new' ho0 (Kd.R_lt (rdd HO_215000.out))) (Kd.R_lt (rdd HO_220000.out))) (Kd.R_lt (rdd HO_228000.out))) (Kd.R_lt (rdd HO242.out))) (below_size (hb6 HB.out GE200.out GE201.out GE214.out GE219.out GE227.out GE251.out)))
               have n5_ := A_ (blk_below (bd BK200.out) hb)
               have n6_ := A_ (blk_below (bd BK201.out) hb)
               have n7_ := A_ (blk_below (bd BK214.out) hb)
               have n8_ := A_ (blk_below (bd BK219.out) hb)
               have n9_ := A_ (blk_below (bd BK227.out) hb)
               have n10_ := A_ (blk_below (bd BK251.out) hb)
               have n11_ := A_ (below_step (hb6 HB.out GE200.out GE201.out GE214.out GE219.out GE227.out GE251.out) hb)
               clear HO_215000
               clear HO_220000
               clear HO_228000
               clear HO242
               clear BK200
               clear BK201
               clear BK214
               clear BK219
               clear BK227
               clear BK251
               clear HB
               have HO_215000 := n0_
               have HO_220000 := n1_
               have HO_228000 := n2_
               have HO242 := n3_
               have HO248 := n4_
               have BK200 := n5_
               have BK201 := n6_
               have BK214 := n7_
               have BK219 := n8_
               have BK227 := n9_
               have BK251 := n10_
               have HB := n11_
               clear n0_ n1_ n2_ n3_ n4_ n5_ n6_ n7_ n8_ n9_ n10_ n11_
               (try clear hb)
               (try clear hb2)
               (try clear hk)
               (try clear hi)
               (try clear ho0)
               refine hK.out _ _ ⟨(blk_cell BK200.out 0).trans rfl, (blk_cell BK200.out 1).trans rfl, (blk_cell BK201.out 0).trans rfl, (blk_cell BK201.out 1).trans rfl⟩ (fun hHeld => ?_)
               clear hK K
               refine norm_ (a' := ?_) ?_ ?_
               rotate_left
               ·
                show Act.put _ (some 84) _ = _
                simp only [Act.put, List.setIfInBounds_toArray, List.set_cons_zero, List.set_cons_succ, i64_w, i32_w]
                rfl
               refine pure_ (i := 5) (N := some 79) (v := ?_) (a' := ?_) #[true, true, true, true, true, true, false, false, true, false, false] rfl rfl (any_of HT_.out (by kernel_rfl)) (fun _ _ _ h => h) (Or.inl ⟨by rfl, ?_⟩) ?_ ?_
               rotate_left
               ·
                intro w'
                go_simp
                with_reducible rfl
               rotate_left
               ·
                simp only [Act.put, List.setIfInBounds_toArray, List.set_cons_zero, List.set_cons_succ, i64_w, i32_w]
                rfl
               refine pure_ (i := 6) (N := some 85) (v := ?_) (a' := ?_) #[true, true, true, true, true, true, true, false, true, false, false] rfl rfl (any_of HT_.out (by kernel_rfl)) (fun _ _ _ h => h) (Or.inl ⟨by rfl, ?_⟩) ?_ ?_
               rotate_left
               ·
                intro w'
                go_simp
                with_reducible rfl
               rotate_left
               ·
                simp only [Act.put, List.setIfInBounds_toArray, List.set_cons_zero, List.set_cons_succ, i64_w, i32_w]
                rfl
               refine pure_ (i := 7) (N := some 86) (v := ?_) (a' := ?_) #[true, true, true, true, true, true, true, true, true, false, false] rfl rfl (any_of HT_.out (by kernel_rfl)) (fun _ _ _ h => h) (Or.inl ⟨by rfl, ?_⟩) ?_ ?_
               rotate_left
               ·
                intro w'
                go_simp
                with_reducible rfl
               rotate_left
               ·
                simp only [Act.put, List.setIfInBounds_toArray, List.set_cons_zero, List.set_cons_succ, i64_w, i32_w]
                rfl
               exact norm_ (by simp only [putAll, Act.put, List.setIfInBounds_toArray, List.set_cons_zero, List.set_cons_succ]) (hCont (.slice Ao140 t240.length co140, v247, gb251) _ ⟨hHeld, (by refine rdd ?_; exact Kd.R_mono HO242.out (fun _ hk => ⟨hk.2, ⟨hk.1.1.1.2, ⟨hk.1.1.2, hk.1.2⟩⟩⟩)), (by refine rdd ?_; exact Kd.R_mono HO248.out (fun _ hk => ⟨hk.2, ⟨hk.1.1.1.2, ⟨hk.1.1.2, hk.1.2⟩⟩⟩)), (by refine rdd ?_; exact Kd.R_mono HO_215000.out (fun _ hk => ⟨hk.1.2, ⟨hk.2, ⟨hk.1.1.1, hk.1.1.2⟩⟩⟩)), (by refine rdd ?_; exact Kd.R_mono HO_220000.out (fun _ hk => ⟨hk.1.2, ⟨hk.2, ⟨hk.1.1.1, hk.1.1.2⟩⟩⟩)), (by refine rdd ?_; exact Kd.R_mono HO_228000.out (fun _ hk => ⟨hk.1.2, ⟨hk.2, ⟨hk.1.1.1, hk.1.1.2⟩⟩⟩)), (bd BK200.out), (bd BK201.out), (bd BK214.out), (bd BK219.out), (bd BK227.out), (bd BK251.out), GW251.out, GE251.out, NB200_251.out, NB251_200.out, NB201_251.out, NB251_201.out, NB214_251.out, NB251_214.out, NB219_251.out, NB251_219.out, NB227_251.out, NB251_227.out, (hb6 HB.out GE200.out GE201.out GE214.out GE219.out GE227.out GE251.out)⟩)
             ·
              skip
              refine box_step ?hg (N := 14) ?hd (cs := #[.slice none 0 0, .int .i64 0]) (t := 43) ?hr ?_; (case hd => rfl); (case hg => rfl); (case hr => first | (go_simp; done) | (go_simp; rfl))
              intro gb251 hg w138 hbox hb
              have n0_ := A_ (Kd.R_below (rdd HO_215000.out) hb)
              have n1_ := A_ (Kd.R_below (rdd HO_220000.out) hb)
              have n2_ := A_ (Kd.R_below (rdd HO_228000.out) hb)
              have n3_ := A_ (Kd.R_below (rdd HO242.out) hb)
              have n4_ := A_ (blk_below (bd BK200.out) hb)
              have n5_ := A_ (blk_below (bd BK201.out) hb)
              have n6_ := A_ (blk_below (bd BK214.out) hb)
              have n7_ := A_ (blk_below (bd BK219.out) hb)
              have n8_ := A_ (blk_below (bd BK227.out) hb)
              have n9_ := A_ (below_step (hb5 HB.out GE200.out GE201.out GE214.out GE219.out GE227.out) hb)
              have n10_ := A_ (hbox)
              have n11_ := A_ ((by rw [hg]; exact (below_size (hb5 HB.out GE200.out GE201.out GE214.out GE219.out GE227.out)) : w.heap.size ≤ gb251))
              have n12_ := A_ ((by rw [hg]; exact (below_size (hb5 HB.out GE200.out GE201.out GE214.out GE219.out GE227.out)) : w.heap.size ≤ gb251))
              have n13_ := A_ ((by rw [hg]; exact Nat.ne_of_lt (blk_lt (bd BK200.out)) : gb200 ≠ gb251))
              have n14_ := A_ ((by rw [hg]; exact Nat.ne_of_gt (blk_lt (bd BK200.out)) : gb251 ≠ gb200))
              have n15_ := A_ ((by rw [hg]; exact Nat.ne_of_lt (blk_lt (bd BK201.out)) : gb201 ≠ gb251))
              have n16_ := A_ ((by rw [hg]; exact Nat.ne_of_gt (blk_lt (bd BK201.out)) : gb251 ≠ gb201))
              have n17_ := A_ ((by rw [hg]; exact Nat.ne_of_lt (blk_lt (bd BK214.out)) : gb214 ≠ gb251))
              have n18_ := A_ ((by rw [hg]; exact Nat.ne_of_gt (blk_lt (bd BK214.out)) : gb251 ≠ gb214))
              have n19_ := A_ ((by rw [hg]; exact Nat.ne_of_lt (blk_lt (bd BK219.out)) : gb219 ≠ gb251))
              have n20_ := A_ ((by rw [hg]; exact Nat.ne_of_gt (blk_lt (bd BK219.out)) : gb251 ≠ gb219))
              have n21_ := A_ ((by rw [hg]; exact Nat.ne_of_lt (blk_lt (bd BK227.out)) : gb227 ≠ gb251))
              have n22_ := A_ ((by rw [hg]; exact Nat.ne_of_gt (blk_lt (bd BK227.out)) : gb251 ≠ gb227))
              clear HO_215000
              clear HO_220000
              clear HO_228000
              clear HO242
              clear BK200
              clear BK201
              clear BK214
              clear BK219
              clear BK227
              clear HB
              have HO_215000 := n0_
              have HO_220000 := n1_
              have HO_228000 := n2_
              have HO242 := n3_
              have BK200 := n4_
              have BK201 := n5_
              have BK214 := n6_
              have BK219 := n7_
              have BK227 := n8_
              have HB := n9_
              have BK251 := n10_
              have GW251 := n11_
              have GE251 := n12_
              have NB200_251 := n13_
              have NB251_200 := n14_
              have NB201_251 := n15_
              have NB251_201 := n16_
              have NB214_251 := n17_
              have NB251_214 := n18_
              have NB219_251 := n19_
              have NB251_219 := n20_
              have NB227_251 := n21_
              have NB251_227 := n22_
              clear n0_ n1_ n2_ n3_ n4_ n5_ n6_ n7_ n8_ n9_ n10_ n11_ n12_ n13_ n14_ n15_ n16_ n17_ n18_ n19_ n20_ n21_ n22_
              clear hb hbox hg
              refine hK.out _ _ ⟨(blk_cell BK200.out 0).trans rfl, (blk_cell BK200.out 1).trans rfl, (blk_cell BK201.out 0).trans rfl, (blk_cell BK201.out 1).trans rfl⟩ (fun hHeld => ?_)
              clear hK K
              refine norm_ (a' := ?_) ?_ ?_
              rotate_left
              ·
               show Act.put _ (some 14) _ = _
               simp only [Act.put, List.setIfInBounds_toArray, List.set_cons_zero, List.set_cons_succ, i64_w, i32_w]
               rfl
              refine one_ (i := 3) (N := some 83) #[true, true, true, true, false, false, false, false, true, false, false] rfl rfl (one_of HT_.out (by kernel_rfl)) (by decide) (fun K hK => ?_)
              refine goes_ Try.func24 (by kernel_rfl) rfl #[.agg #[.int .i64 a1_0, .bool a1_1]] (by rfl) rfl rfl (by (try simp only [List.map_toArray, List.map_cons, List.map_nil]); first | done | rfl | (simp only [List.length_drop, List.length_take]; rfl)) ?_
              with_reducible refine (laws_toAsked.calls a1_0 a1_1 t244 t245 _ A125.out).mono ?_
              rintro e w139 ⟨rfl, hb⟩
              refine ⟨_, rfl, ?_⟩
              have n0_ := A_ (Kd.R_below (rdd HO_215000.out) hb)
              have n1_ := A_ (Kd.R_below (rdd HO_220000.out) hb)
              have n2_ := A_ (Kd.R_below (rdd HO_228000.out) hb)
              have n3_ := A_ (Kd.R_below (rdd HO242.out) hb)
              have n4_ := A_ (blk_below (bd BK200.out) hb)
              have n5_ := A_ (blk_below (bd BK201.out) hb)
              have n6_ := A_ (blk_below (bd BK214.out) hb)
              have n7_ := A_ (blk_below (bd BK219.out) hb)
              have n8_ := A_ (blk_below (bd BK227.out) hb)
              have n9_ := A_ (blk_below (bd BK251.out) hb)
              have n10_ := A_ (below_step (hb6 HB.out GE200.out GE201.out GE214.out GE219.out GE227.out GE251.out) hb)
              clear HO_215000
              clear HO_220000
              clear HO_228000
              clear HO242
              clear BK200
              clear BK201
              clear BK214
              clear BK219
              clear BK227
              clear BK251
              clear HB
              have HO_215000 := n0_
              have HO_220000 := n1_
              have HO_228000 := n2_
              have HO242 := n3_
              have BK200 := n4_
              have BK201 := n5_
              have BK214 := n6_
              have BK219 := n7_
              have BK227 := n8_
              have BK251 := n9_
              have HB := n10_
              clear n0_ n1_ n2_ n3_ n4_ n5_ n6_ n7_ n8_ n9_ n10_
              (try clear hb)
              (try clear hb2)
              (try clear hk)
              (try clear hi)
              obtain ⟨Ao140, co140, eo140⟩ := Kd.R_slice HO242.out
              (first | subst eo140 | (injection eo140 with f1_ f2_ f3_; have f4_ := f1_.symm; have f5_ := f3_.symm; clear f1_ f2_ f3_; subst f4_; subst f5_))
              refine hK.out _ _ ⟨(blk_cell BK200.out 0).trans rfl, (blk_cell BK200.out 1).trans rfl, (blk_cell BK201.out 0).trans rfl, (blk_cell BK201.out 1).trans rfl⟩ (fun hHeld => ?_)
              clear hK K
              refine norm_ (a' := ?_) ?_ ?_
              rotate_left
              ·
               show Act.put _ (some 83) _ = _
               simp only [Act.put, List.setIfInBounds_toArray, List.set_cons_zero, List.set_cons_succ, i64_w, i32_w]
               rfl
              refine one_ (i := 4) (N := some 84) #[true, true, true, true, true, false, false, false, true, false, false] rfl rfl (one_of HT_.out (by kernel_rfl)) (by decide) (fun K hK => ?_)
              refine goes_ Try.func25 (by kernel_rfl) rfl #[.agg #[.slice Ao140 t240.length co140, .int .i64 t243], .agg #[.int .i64 t244, .bool t245]] (by rfl) rfl rfl (by (try simp only [List.map_toArray, List.map_cons, List.map_nil]); first | done | rfl | (simp only [List.length_drop, List.length_take]; rfl)) ?_
              with_reducible refine (impl_AnswerState.calls kj76 _ _ t240 t243 t244 t245 t246 t249 t250 _ ?side1 ?side2 A126.out).mono ?_
              (case side1 => repeat (first | exact (Kd.R_reads' HO242.out).2.2 | (with_reducible refine Kd.C_alloc ?_ _) | (with_reducible refine Kd.C_drewN ?_ _) | (with_reducible refine Kd.C_drew ?_)))
              (case side2 => exact (Kd.R_reads' HO242.out).2.1)
              rintro e w141 ⟨v247, rfl, ho0, hb⟩
              refine ⟨_, rfl, ?_⟩
              have n0_ := A_ (Kd.R_elder' (rdd HO_215000.out) (Kd.R_base ho0) hb)
              have n1_ := A_ (Kd.R_elder' (rdd HO_220000.out) (Kd.R_base ho0) hb)
              have n2_ := A_ (Kd.R_elder' (rdd HO_228000.out) (Kd.R_base ho0) hb)
              have n3_ := A_ (Kd.R_elder' (rdd HO242.out) (Kd.R_base ho0) hb)
              have n4_ := A_ (Kd.R_lower (Kd.R_new' (Kd.R_new' (Kd.R_new' (Kd.R_new' ho0 (Kd.R_lt (rdd HO_215000.out))) (Kd.R_lt (rdd HO_220000.out))) (Kd.R_lt (rdd HO_228000.out))) (Kd.R_lt (rdd HO242.out))) (below_size (hb6 HB.out GE200.out GE201.out GE214.out GE219.out GE227.out GE251.out)))
              have n5_ := A_ (blk_below (bd BK200.out) hb)
              have n6_ := A_ (blk_below (bd BK201.out) hb)
              have n7_ := A_ (blk_below (bd BK214.out) hb)
              have n8_ := A_ (blk_below (bd BK219.out) hb)
              have n9_ := A_ (blk_below (bd BK227.out) hb)
              have n10_ := A_ (blk_below (bd BK251.out) hb)
              have n11_ := A_ (below_step (hb6 HB.out GE200.out GE201.out GE214.out GE219.out GE227.out GE251.out) hb)
              clear HO_215000
              clear HO_220000
              clear HO_228000
              clear HO242
              clear BK200
              clear BK201
              clear BK214
              clear BK219
              clear BK227
              clear BK251
              clear HB
              have HO_215000 := n0_
              have HO_220000 := n1_
              have HO_228000 := n2_
              have HO242 := n3_
              have HO248 := n4_
              have BK200 := n5_
              have BK201 := n6_
              have BK214 := n7_
              have BK219 := n8_
              have BK227 := n9_
              have BK251 := n10_
              have HB := n11_
              clear n0_ n1_ n2_ n3_ n4_ n5_ n6_ n7_ n8_ n9_ n10_ n11_
              (try clear hb)
              (try clear hb2)
              (try clear hk)
              (try clear hi)
              (try clear ho0)
              refine hK.out _ _ ⟨(blk_cell BK200.out 0).trans rfl, (blk_cell BK200.out 1).trans rfl, (blk_cell BK201.out 0).trans rfl, (blk_cell BK201.out 1).trans rfl⟩ (fun hHeld => ?_)
              clear hK K
              refine norm_ (a' := ?_) ?_ ?_
              rotate_left
              ·
               show Act.put _ (some 84) _ = _
               simp only [Act.put, List.setIfInBounds_toArray, List.set_cons_zero, List.set_cons_succ, i64_w, i32_w]
               rfl
              refine pure_ (i := 5) (N := some 79) (v := ?_) (a' := ?_) #[true, true, true, true, true, true, false, false, true, false, false] rfl rfl (any_of HT_.out (by kernel_rfl)) (fun _ _ _ h => h) (Or.inl ⟨by rfl, ?_⟩) ?_ ?_
              rotate_left
              ·
               intro w'
               go_simp
               with_reducible rfl
              rotate_left
              ·
               simp only [Act.put, List.setIfInBounds_toArray, List.set_cons_zero, List.set_cons_succ, i64_w, i32_w]
               rfl
              refine pure_ (i := 6) (N := some 85) (v := ?_) (a' := ?_) #[true, true, true, true, true, true, true, false, true, false, false] rfl rfl (any_of HT_.out (by kernel_rfl)) (fun _ _ _ h => h) (Or.inl ⟨by rfl, ?_⟩) ?_ ?_
              rotate_left
              ·
               intro w'
               go_simp
               with_reducible rfl
              rotate_left
              ·
               simp only [Act.put, List.setIfInBounds_toArray, List.set_cons_zero, List.set_cons_succ, i64_w, i32_w]
               rfl
              refine pure_ (i := 7) (N := some 86) (v := ?_) (a' := ?_) #[true, true, true, true, true, true, true, true, true, false, false] rfl rfl (any_of HT_.out (by kernel_rfl)) (fun _ _ _ h => h) (Or.inl ⟨by rfl, ?_⟩) ?_ ?_
              rotate_left
              ·
               intro w'
               go_simp
               with_reducible rfl
              rotate_left
              ·
               simp only [Act.put, List.setIfInBounds_toArray, List.set_cons_zero, List.set_cons_succ, i64_w, i32_w]
               rfl
              exact norm_ (by simp only [putAll, Act.put, List.setIfInBounds_toArray, List.set_cons_zero, List.set_cons_succ]) (hCont (.slice Ao140 t240.length co140, v247, gb251) _ ⟨hHeld, (by refine rdd ?_; exact Kd.R_mono HO242.out (fun _ hk => ⟨hk.2, ⟨hk.1.1.1.2, ⟨hk.1.1.2, hk.1.2⟩⟩⟩)), (by refine rdd ?_; exact Kd.R_mono HO248.out (fun _ hk => ⟨hk.2, ⟨hk.1.1.1.2, ⟨hk.1.1.2, hk.1.2⟩⟩⟩)), (by refine rdd ?_; exact Kd.R_mono HO_215000.out (fun _ hk => ⟨hk.1.2, ⟨hk.2, ⟨hk.1.1.1, hk.1.1.2⟩⟩⟩)), (by refine rdd ?_; exact Kd.R_mono HO_220000.out (fun _ hk => ⟨hk.1.2, ⟨hk.2, ⟨hk.1.1.1, hk.1.1.2⟩⟩⟩)), (by refine rdd ?_; exact Kd.R_mono HO_228000.out (fun _ hk => ⟨hk.1.2, ⟨hk.2, ⟨hk.1.1.1, hk.1.1.2⟩⟩⟩)), (bd BK200.out), (bd BK201.out), (bd BK214.out), (bd BK219.out), (bd BK227.out), (bd BK251.out), GW251.out, GE251.out, NB200_251.out, NB251_200.out, NB201_251.out, NB251_201.out, NB214_251.out, NB251_214.out, NB219_251.out, NB251_219.out, NB227_251.out, NB251_227.out, (hb6 HB.out GE200.out GE201.out GE214.out GE219.out GE227.out GE251.out)⟩)
            ·
             skip
             refine box_step ?hg (N := 14) ?hd (cs := #[.slice none 0 0, .int .i64 0]) (t := 43) ?hr ?_; (case hd => rfl); (case hg => rfl); (case hr => first | (go_simp; done) | (go_simp; rfl))
             intro gb251 hg w137 hbox hb
             have n0_ := A_ (Kd.R_below (rdd HO_215000.out) hb)
             have n1_ := A_ (Kd.R_below (rdd HO_220000.out) hb)
             have n2_ := A_ (Kd.R_below (rdd HO_228000.out) hb)
             have n3_ := A_ (blk_below (bd BK200.out) hb)
             have n4_ := A_ (blk_below (bd BK201.out) hb)
             have n5_ := A_ (blk_below (bd BK214.out) hb)
             have n6_ := A_ (blk_below (bd BK219.out) hb)
             have n7_ := A_ (blk_below (bd BK227.out) hb)
             have n8_ := A_ (below_step (hb5 HB.out GE200.out GE201.out GE214.out GE219.out GE227.out) hb)
             have n9_ := A_ (hbox)
             have n10_ := A_ ((by rw [hg]; exact (below_size (hb5 HB.out GE200.out GE201.out GE214.out GE219.out GE227.out)) : w.heap.size ≤ gb251))
             have n11_ := A_ ((by rw [hg]; exact (below_size (hb5 HB.out GE200.out GE201.out GE214.out GE219.out GE227.out)) : w.heap.size ≤ gb251))
             have n12_ := A_ ((by rw [hg]; exact Nat.ne_of_lt (blk_lt (bd BK200.out)) : gb200 ≠ gb251))
             have n13_ := A_ ((by rw [hg]; exact Nat.ne_of_gt (blk_lt (bd BK200.out)) : gb251 ≠ gb200))
             have n14_ := A_ ((by rw [hg]; exact Nat.ne_of_lt (blk_lt (bd BK201.out)) : gb201 ≠ gb251))
             have n15_ := A_ ((by rw [hg]; exact Nat.ne_of_gt (blk_lt (bd BK201.out)) : gb251 ≠ gb201))
             have n16_ := A_ ((by rw [hg]; exact Nat.ne_of_lt (blk_lt (bd BK214.out)) : gb214 ≠ gb251))
             have n17_ := A_ ((by rw [hg]; exact Nat.ne_of_gt (blk_lt (bd BK214.out)) : gb251 ≠ gb214))
             have n18_ := A_ ((by rw [hg]; exact Nat.ne_of_lt (blk_lt (bd BK219.out)) : gb219 ≠ gb251))
             have n19_ := A_ ((by rw [hg]; exact Nat.ne_of_gt (blk_lt (bd BK219.out)) : gb251 ≠ gb219))
             have n20_ := A_ ((by rw [hg]; exact Nat.ne_of_lt (blk_lt (bd BK227.out)) : gb227 ≠ gb251))
             have n21_ := A_ ((by rw [hg]; exact Nat.ne_of_gt (blk_lt (bd BK227.out)) : gb251 ≠ gb227))
             clear HO_215000
             clear HO_220000
             clear HO_228000
             clear BK200
             clear BK201
             clear BK214
             clear BK219
             clear BK227
             clear HB
             have HO_215000 := n0_
             have HO_220000 := n1_
             have HO_228000 := n2_
             have BK200 := n3_
             have BK201 := n4_
             have BK214 := n5_
             have BK219 := n6_
             have BK227 := n7_
             have HB := n8_
             have BK251 := n9_
             have GW251 := n10_
             have GE251 := n11_
             have NB200_251 := n12_
             have NB251_200 := n13_
             have NB201_251 := n14_
             have NB251_201 := n15_
             have NB214_251 := n16_
             have NB251_214 := n17_
             have NB219_251 := n18_
             have NB251_219 := n19_
             have NB227_251 := n20_
             have NB251_227 := n21_
             clear n0_ n1_ n2_ n3_ n4_ n5_ n6_ n7_ n8_ n9_ n10_ n11_ n12_ n13_ n14_ n15_ n16_ n17_ n18_ n19_ n20_ n21_
             clear hb hbox hg
             refine hK.out _ _ ⟨(blk_cell BK200.out 0).trans rfl, (blk_cell BK200.out 1).trans rfl, (blk_cell BK201.out 0).trans rfl, (blk_cell BK201.out 1).trans rfl⟩ (fun hHeld => ?_)
             clear hK K
             refine norm_ (a' := ?_) ?_ ?_
             rotate_left
             ·
              show Act.put _ (some 14) _ = _
              simp only [Act.put, List.setIfInBounds_toArray, List.set_cons_zero, List.set_cons_succ, i64_w, i32_w]
              rfl
             refine one_ (i := 1) (N := some 81) #[true, true, true, false, false, false, false, false, true, false, false] rfl rfl (one_of HT_.out (by kernel_rfl)) (by decide) (fun K hK => ?_)
             refine goes_ Try.func23 (by kernel_rfl) rfl #[.agg #[.slice A0_0 l0_0.length c0_0, .int .i64 a0_1]] (by rfl) rfl rfl (by (try simp only [List.map_toArray, List.map_cons, List.map_nil]); first | done | rfl | (simp only [List.length_drop, List.length_take]; rfl)) ?_
             with_reducible refine (laws_toState.calls kj76 _ _ l0_0 a0_1 t240 t243 _ ?side1 ?side2 A124.out).mono ?_
             (case side1 => repeat (first | exact (Kd.C_below HR0_0.out HB.out) | (with_reducible refine Kd.C_alloc ?_ _) | (with_reducible refine Kd.C_drewN ?_ _) | (with_reducible refine Kd.C_drew ?_)))
             (case side2 => exact HC0_0.out)
             rintro e w138 ⟨v241, rfl, ho0, hb⟩
             refine ⟨_, rfl, ?_⟩
             have n0_ := A_ (Kd.R_elder' (rdd HO_215000.out) (Kd.R_base ho0) hb)
             have n1_ := A_ (Kd.R_elder' (rdd HO_220000.out) (Kd.R_base ho0) hb)
             have n2_ := A_ (Kd.R_elder' (rdd HO_228000.out) (Kd.R_base ho0) hb)
             have n3_ := A_ (Kd.R_lower (Kd.R_new' (Kd.R_new' (Kd.R_new' ho0 (Kd.R_lt (rdd HO_215000.out))) (Kd.R_lt (rdd HO_220000.out))) (Kd.R_lt (rdd HO_228000.out))) (below_size (hb6 HB.out GE200.out GE201.out GE214.out GE219.out GE227.out GE251.out)))
             have n4_ := A_ (blk_below (bd BK200.out) hb)
             have n5_ := A_ (blk_below (bd BK201.out) hb)
             have n6_ := A_ (blk_below (bd BK214.out) hb)
             have n7_ := A_ (blk_below (bd BK219.out) hb)
             have n8_ := A_ (blk_below (bd BK227.out) hb)
             have n9_ := A_ (blk_below (bd BK251.out) hb)
             have n10_ := A_ (below_step (hb6 HB.out GE200.out GE201.out GE214.out GE219.out GE227.out GE251.out) hb)
             clear HO_215000
             clear HO_220000
             clear HO_228000
             clear BK200
             clear BK201
             clear BK214
             clear BK219
             clear BK227
             clear BK251
             clear HB
             have HO_215000 := n0_
             have HO_220000 := n1_
             have HO_228000 := n2_
             have HO242 := n3_
             have BK200 := n4_
             have BK201 := n5_
             have BK214 := n6_
             have BK219 := n7_
             have BK227 := n8_
             have BK251 := n9_
             have HB := n10_
             clear n0_ n1_ n2_ n3_ n4_ n5_ n6_ n7_ n8_ n9_ n10_
             (try clear hb)
             (try clear hb2)
             (try clear hk)
             (try clear hi)
             (try clear ho0)
             refine hK.out _ _ ⟨(blk_cell BK200.out 0).trans rfl, (blk_cell BK200.out 1).trans rfl, (blk_cell BK201.out 0).trans rfl, (blk_cell BK201.out 1).trans rfl⟩ (fun hHeld => ?_)
             clear hK K
             refine norm_ (a' := ?_) ?_ ?_
             rotate_left
             ·
              show Act.put _ (some 81) _ = _
              simp only [Act.put, List.setIfInBounds_toArray, List.set_cons_zero, List.set_cons_succ, i64_w, i32_w]
              rfl
             refine one_ (i := 3) (N := some 83) #[true, true, true, true, false, false, false, false, true, false, false] rfl rfl (one_of HT_.out (by kernel_rfl)) (by decide) (fun K hK => ?_)
             refine goes_ Try.func24 (by kernel_rfl) rfl #[.agg #[.int .i64 a1_0, .bool a1_1]] (by rfl) rfl rfl (by (try simp only [List.map_toArray, List.map_cons, List.map_nil]); first | done | rfl | (simp only [List.length_drop, List.length_take]; rfl)) ?_
             with_reducible refine (laws_toAsked.calls a1_0 a1_1 t244 t245 _ A125.out).mono ?_
             rintro e w139 ⟨rfl, hb⟩
             refine ⟨_, rfl, ?_⟩
             have n0_ := A_ (Kd.R_below (rdd HO_215000.out) hb)
             have n1_ := A_ (Kd.R_below (rdd HO_220000.out) hb)
             have n2_ := A_ (Kd.R_below (rdd HO_228000.out) hb)
             have n3_ := A_ (Kd.R_below (rdd HO242.out) hb)
             have n4_ := A_ (blk_below (bd BK200.out) hb)
             have n5_ := A_ (blk_below (bd BK201.out) hb)
             have n6_ := A_ (blk_below (bd BK214.out) hb)
             have n7_ := A_ (blk_below (bd BK219.out) hb)
             have n8_ := A_ (blk_below (bd BK227.out) hb)
             have n9_ := A_ (blk_below (bd BK251.out) hb)
             have n10_ := A_ (below_step (hb6 HB.out GE200.out GE201.out GE214.out GE219.out GE227.out GE251.out) hb)
             clear HO_215000
             clear HO_220000
             clear HO_228000
             clear HO242
             clear BK200
             clear BK201
             clear BK214
             clear BK219
             clear BK227
             clear BK251
             clear HB
             have HO_215000 := n0_
             have HO_220000 := n1_
             have HO_228000 := n2_
             have HO242 := n3_
             have BK200 := n4_
             have BK201 := n5_
             have BK214 := n6_
             have BK219 := n7_
             have BK227 := n8_
             have BK251 := n9_
             have HB := n10_
             clear n0_ n1_ n2_ n3_ n4_ n5_ n6_ n7_ n8_ n9_ n10_
             (try clear hb)
             (try clear hb2)
             (try clear hk)
             (try clear hi)
             obtain ⟨Ao140, co140, eo140⟩ := Kd.R_slice HO242.out
             (first | subst eo140 | (injection eo140 with f1_ f2_ f3_; have f4_ := f1_.symm; have f5_ := f3_.symm; clear f1_ f2_ f3_; subst f4_; subst f5_))
             refine hK.out _ _ ⟨(blk_cell BK200.out 0).trans rfl, (blk_cell BK200.out 1).trans rfl, (blk_cell BK201.out 0).trans rfl, (blk_cell BK201.out 1).trans rfl⟩ (fun hHeld => ?_)
             clear hK K
             refine norm_ (a' := ?_) ?_ ?_
             rotate_left
             ·
              show Act.put _ (some 83) _ = _
              simp only [Act.put, List.setIfInBounds_toArray, List.set_cons_zero, List.set_cons_succ, i64_w, i32_w]
              rfl
             refine one_ (i := 4) (N := some 84) #[true, true, true, true, true, false, false, false, true, false, false] rfl rfl (one_of HT_.out (by kernel_rfl)) (by decide) (fun K hK => ?_)
             refine goes_ Try.func25 (by kernel_rfl) rfl #[.agg #[.slice Ao140 t240.length co140, .int .i64 t243], .agg #[.int .i64 t244, .bool t245]] (by rfl) rfl rfl (by (try simp only [List.map_toArray, List.map_cons, List.map_nil]); first | done | rfl | (simp only [List.length_drop, List.length_take]; rfl)) ?_
             with_reducible refine (impl_AnswerState.calls kj76 _ _ t240 t243 t244 t245 t246 t249 t250 _ ?side1 ?side2 A126.out).mono ?_
             (case side1 => repeat (first | exact (Kd.R_reads' HO242.out).2.2 | (with_reducible refine Kd.C_alloc ?_ _) | (with_reducible refine Kd.C_drewN ?_ _) | (with_reducible refine Kd.C_drew ?_)))
             (case side2 => exact (Kd.R_reads' HO242.out).2.1)
             rintro e w141 ⟨v247, rfl, ho0, hb⟩
             refine ⟨_, rfl, ?_⟩
             have n0_ := A_ (Kd.R_elder' (rdd HO_215000.out) (Kd.R_base ho0) hb)
             have n1_ := A_ (Kd.R_elder' (rdd HO_220000.out) (Kd.R_base ho0) hb)
             have n2_ := A_ (Kd.R_elder' (rdd HO_228000.out) (Kd.R_base ho0) hb)
             have n3_ := A_ (Kd.R_elder' (rdd HO242.out) (Kd.R_base ho0) hb)
             have n4_ := A_ (Kd.R_lower (Kd.R_new' (Kd.R_new' (Kd.R_new' (Kd.R_new' ho0 (Kd.R_lt (rdd HO_215000.out))) (Kd.R_lt (rdd HO_220000.out))) (Kd.R_lt (rdd HO_228000.out))) (Kd.R_lt (rdd HO242.out))) (below_size (hb6 HB.out GE200.out GE201.out GE214.out GE219.out GE227.out GE251.out)))
             have n5_ := A_ (blk_below (bd BK200.out) hb)
             have n6_ := A_ (blk_below (bd BK201.out) hb)
             have n7_ := A_ (blk_below (bd BK214.out) hb)
             have n8_ := A_ (blk_below (bd BK219.out) hb)
             have n9_ := A_ (blk_below (bd BK227.out) hb)
             have n10_ := A_ (blk_below (bd BK251.out) hb)
             have n11_ := A_ (below_step (hb6 HB.out GE200.out GE201.out GE214.out GE219.out GE227.out GE251.out) hb)
             clear HO_215000
             clear HO_220000
             clear HO_228000
             clear HO242
             clear BK200
             clear BK201
             clear BK214
             clear BK219
             clear BK227
             clear BK251
             clear HB
             have HO_215000 := n0_
             have HO_220000 := n1_
             have HO_228000 := n2_
             have HO242 := n3_
             have HO248 := n4_
             have BK200 := n5_
             have BK201 := n6_
             have BK214 := n7_
             have BK219 := n8_
             have BK227 := n9_
             have BK251 := n10_
             have HB := n11_
             clear n0_ n1_ n2_ n3_ n4_ n5_ n6_ n7_ n8_ n9_ n10_ n11_
             (try clear hb)
             (try clear hb2)
             (try clear hk)
             (try clear hi)
             (try clear ho0)
             refine hK.out _ _ ⟨(blk_cell BK200.out 0).trans rfl, (blk_cell BK200.out 1).trans rfl, (blk_cell BK201.out 0).trans rfl, (blk_cell BK201.out 1).trans rfl⟩ (fun hHeld => ?_)
             clear hK K
             refine norm_ (a' := ?_) ?_ ?_
             rotate_left
             ·
              show Act.put _ (some 84) _ = _
              simp only [Act.put, List.setIfInBounds_toArray, List.set_cons_zero, List.set_cons_succ, i64_w, i32_w]
              rfl
             refine pure_ (i := 5) (N := some 79) (v := ?_) (a' := ?_) #[true, true, true, true, true, true, false, false, true, false, false] rfl rfl (any_of HT_.out (by kernel_rfl)) (fun _ _ _ h => h) (Or.inl ⟨by rfl, ?_⟩) ?_ ?_
             rotate_left
             ·
              intro w'
              go_simp
              with_reducible rfl
             rotate_left
             ·
              simp only [Act.put, List.setIfInBounds_toArray, List.set_cons_zero, List.set_cons_succ, i64_w, i32_w]
              rfl
             refine pure_ (i := 6) (N := some 85) (v := ?_) (a' := ?_) #[true, true, true, true, true, true, true, false, true, false, false] rfl rfl (any_of HT_.out (by kernel_rfl)) (fun _ _ _ h => h) (Or.inl ⟨by rfl, ?_⟩) ?_ ?_
             rotate_left
             ·
              intro w'
              go_simp
              with_reducible rfl
             rotate_left
             ·
              simp only [Act.put, List.setIfInBounds_toArray, List.set_cons_zero, List.set_cons_succ, i64_w, i32_w]
              rfl
             refine pure_ (i := 7) (N := some 86) (v := ?_) (a' := ?_) #[true, true, true, true, true, true, true, true, true, false, false] rfl rfl (any_of HT_.out (by kernel_rfl)) (fun _ _ _ h => h) (Or.inl ⟨by rfl, ?_⟩) ?_ ?_
             rotate_left
             ·
              intro w'
              go_simp
              with_reducible rfl
             rotate_left
             ·
              simp only [Act.put, List.setIfInBounds_toArray, List.set_cons_zero, List.set_cons_succ, i64_w, i32_w]
              rfl
             exact norm_ (by simp only [putAll, Act.put, List.setIfInBounds_toArray, List.set_cons_zero, List.set_cons_succ]) (hCont (.slice Ao140 t240.length co140, v247, gb251) _ ⟨hHeld, (by refine rdd ?_; exact Kd.R_mono HO242.out (fun _ hk => ⟨hk.2, ⟨hk.1.1.1.2, ⟨hk.1.1.2, hk.1.2⟩⟩⟩)), (by refine rdd ?_; exact Kd.R_mono HO248.out (fun _ hk => ⟨hk.2, ⟨hk.1.1.1.2, ⟨hk.1.1.2, hk.1.2⟩⟩⟩)), (by refine rdd ?_; exact Kd.R_mono HO_215000.out (fun _ hk => ⟨hk.1.2, ⟨hk.2, ⟨hk.1.1.1, hk.1.1.2⟩⟩⟩)), (by refine rdd ?_; exact Kd.R_mono HO_220000.out (fun _ hk => ⟨hk.1.2, ⟨hk.2, ⟨hk.1.1.1, hk.1.1.2⟩⟩⟩)), (by refine rdd ?_; exact Kd.R_mono HO_228000.out (fun _ hk => ⟨hk.1.2, ⟨hk.2, ⟨hk.1.1.1, hk.1.1.2⟩⟩⟩)), (bd BK200.out), (bd BK201.out), (bd BK214.out), (bd BK219.out), (bd BK227.out), (bd BK251.out), GW251.out, GE251.out, NB200_251.out, NB251_200.out, NB201_251.out, NB251_201.out, NB214_251.out, NB251_214.out, NB219_251.out, NB251_219.out, NB227_251.out, NB251_227.out, (hb6 HB.out GE200.out GE201.out GE214.out GE219.out GE227.out GE251.out)⟩)
           rintro ⟨v241, v247, gb251⟩ w142 ⟨hS_, h0_, h1_, h2_, h3_, h4_, h5_, h6_, h7_, h8_, h9_, h10_, h11_, h12_, h13_, h14_, h15_, h16_, h17_, h18_, h19_, h20_, h21_, h22_, h23_⟩
           have n0_ : Aside0 (Kd.R (Kd.int .i64) 3 w142 w.heap.size (fun k_ => some k_ ≠ (v247 : Value).ownBlock ∧ some k_ ≠ (.slice Ao29 t209.length co29 : Value).ownBlock ∧ some k_ ≠ (.slice Ao36 t235.length co36 : Value).ownBlock ∧ some k_ ≠ (.slice Ao47 t222.length co47 : Value).ownBlock) v241 t240) := ⟨h0_⟩
           have n1_ : Aside0 (Kd.R (Kd.int .i64) 3 w142 w.heap.size (fun k_ => some k_ ≠ (v241 : Value).ownBlock ∧ some k_ ≠ (.slice Ao29 t209.length co29 : Value).ownBlock ∧ some k_ ≠ (.slice Ao36 t235.length co36 : Value).ownBlock ∧ some k_ ≠ (.slice Ao47 t222.length co47 : Value).ownBlock) v247 t246) := ⟨h1_⟩
           have n2_ : Aside0 (Kd.R (Kd.int .i64) 3 w142 w.heap.size (fun k_ => some k_ ≠ (v241 : Value).ownBlock ∧ some k_ ≠ (v247 : Value).ownBlock ∧ some k_ ≠ (.slice Ao36 t235.length co36 : Value).ownBlock ∧ some k_ ≠ (.slice Ao47 t222.length co47 : Value).ownBlock) (.slice Ao29 t209.length co29) t209) := ⟨h2_⟩
           have n3_ : Aside0 (Kd.R (Kd.int .i64) 3 w142 w.heap.size (fun k_ => some k_ ≠ (v241 : Value).ownBlock ∧ some k_ ≠ (v247 : Value).ownBlock ∧ some k_ ≠ (.slice Ao29 t209.length co29 : Value).ownBlock ∧ some k_ ≠ (.slice Ao47 t222.length co47 : Value).ownBlock) (.slice Ao36 t235.length co36) t235) := ⟨h3_⟩
           have n4_ : Aside0 (Kd.R (Kd.int .i64) 3 w142 w.heap.size (fun k_ => some k_ ≠ (v241 : Value).ownBlock ∧ some k_ ≠ (v247 : Value).ownBlock ∧ some k_ ≠ (.slice Ao29 t209.length co29 : Value).ownBlock ∧ some k_ ≠ (.slice Ao36 t235.length co36 : Value).ownBlock) (.slice Ao47 t222.length co47) t238) := ⟨h4_⟩
           have n5_ : Aside0 (w142.heap[gb200]? = some (.cells #[.slice A0_0 l0_0.length c0_0, .int .i64 a0_1] 39 (0, 0))) := ⟨h5_⟩
           have n6_ : Aside0 (w142.heap[gb201]? = some (.cells #[.int .i64 a1_0, .bool a1_1] 41 (0, 0))) := ⟨h6_⟩
           have n7_ : Aside0 (w142.heap[gb214]? = some (.cells #[.slice Ao29 t209.length co29, .int .i64 t212] 43 (0, 0))) := ⟨h7_⟩
           have n8_ : Aside0 (w142.heap[gb219]? = some (.cells #[.slice Ao36 t235.length co36, .int .i64 t218] 43 (0, 0))) := ⟨h8_⟩
           have n9_ : Aside0 (w142.heap[gb227]? = some (.cells #[.slice Ao47 t222.length co47, .int .i64 t225] 43 (0, 0))) := ⟨h9_⟩
           have n10_ : Aside0 (w142.heap[gb251]? = some (.cells #[.slice none 0 0, .int .i64 0] 43 (0, 0))) := ⟨h10_⟩
           have n11_ : Aside0 (w.heap.size ≤ gb251) := ⟨h11_⟩
           have n12_ : Aside0 (w.heap.size ≤ gb251) := ⟨h12_⟩
           have n13_ : Aside0 (gb200 ≠ gb251) := ⟨h13_⟩
           have n14_ : Aside0 (gb251 ≠ gb200) := ⟨h14_⟩
           have n15_ : Aside0 (gb201 ≠ gb251) := ⟨h15_⟩
           have n16_ : Aside0 (gb251 ≠ gb201) := ⟨h16_⟩
           have n17_ : Aside0 (gb214 ≠ gb251) := ⟨h17_⟩
           have n18_ : Aside0 (gb251 ≠ gb214) := ⟨h18_⟩
           have n19_ : Aside0 (gb219 ≠ gb251) := ⟨h19_⟩
           have n20_ : Aside0 (gb251 ≠ gb219) := ⟨h20_⟩
           have n21_ : Aside0 (gb227 ≠ gb251) := ⟨h21_⟩
           have n22_ : Aside0 (gb251 ≠ gb227) := ⟨h22_⟩
           have n23_ : Aside0 (Below w.heap.size w w142) := ⟨h23_⟩
           clear HO_215000
           clear HO_220000
           clear HO_228000
           clear BK200
           clear BK201
           clear BK214
           clear BK219
           clear BK227
           clear HB
           clear h0_ h1_ h2_ h3_ h4_ h5_ h6_ h7_ h8_ h9_ h10_ h11_ h12_ h13_ h14_ h15_ h16_ h17_ h18_ h19_ h20_ h21_ h22_ h23_
           have HO242 := n0_
           have HO248 := n1_
           have HO_215000 := n2_
           have HO_220000 := n3_
           have HO_228000 := n4_
           have BK200 := n5_
           have BK201 := n6_
           have BK214 := n7_
           have BK219 := n8_
           have BK227 := n9_
           have BK251 := n10_
           have GW251 := n11_
           have GE251 := n12_
           have NB200_251 := n13_
           have NB251_200 := n14_
           have NB201_251 := n15_
           have NB251_201 := n16_
           have NB214_251 := n17_
           have NB251_214 := n18_
           have NB219_251 := n19_
           have NB251_219 := n20_
           have NB227_251 := n21_
           have NB251_227 := n22_
           have HB := n23_
           clear n0_ n1_ n2_ n3_ n4_ n5_ n6_ n7_ n8_ n9_ n10_ n11_ n12_ n13_ n14_ n15_ n16_ n17_ n18_ n19_ n20_ n21_ n22_ n23_
           have hHeld : w142.cell? ⟨gb200, 0, none⟩ = some (.slice A0_0 l0_0.length c0_0) ∧ w142.cell? ⟨gb200, 1, none⟩ = some (.int .i64 a0_1) ∧ w142.cell? ⟨gb201, 0, none⟩ = some (.int .i64 a1_0) ∧ w142.cell? ⟨gb201, 1, none⟩ = some (.bool a1_1) := hS_
           obtain ⟨Ao143, co143, eo143⟩ := Kd.R_slice HO248.out
           (first | subst eo143 | (injection eo143 with f1_ f2_ f3_; have f4_ := f1_.symm; have f5_ := f3_.symm; clear f1_ f2_ f3_; subst f4_; subst f5_))
           refine norm_ (a' := ?_) ?_ ?_
           rotate_left
           ·
            simp only [putAll, Act.put, List.setIfInBounds_toArray, List.set_cons_zero, List.set_cons_succ]
            rfl
           refine one_ (i := 9) (N := none) #[true, true, true, true, true, true, true, true, true, true, false] rfl rfl (one_of HT_.out (by kernel_rfl)) (by decide) (fun K hK => ?_)
           have hs144 : w142.cell? ⟨gb251, 0, none⟩ = some (.slice none 0 0) := (blk_cell BK251.out 0).trans rfl
           have hfs144 := blk_frozen BK251.out 0
           have hns144_0 := NB200_251.out
           have hns144_1 := NB201_251.out
           have hns144_2 := NB214_251.out
           have hns144_3 := NB219_251.out
           have hns144_4 := NB227_251.out
           have hms144_0 := NB251_200.out
           have hms144_1 := NB251_201.out
           have hms144_2 := NB251_214.out
           have hms144_3 := NB251_219.out
           have hms144_4 := NB251_227.out
           have hs145 : w142.cell? ⟨gb251, 1, none⟩ = some (.int .i64 0) := (blk_cell BK251.out 1).trans rfl
           have hfs145 := blk_frozen BK251.out 1
           have hns145_0 := NB200_251.out
           have hns145_1 := NB201_251.out
           have hns145_2 := NB214_251.out
           have hns145_3 := NB219_251.out
           have hns145_4 := NB227_251.out
           have hms145_0 := NB251_200.out
           have hms145_1 := NB251_201.out
           have hms145_2 := NB251_214.out
           have hms145_3 := NB251_219.out
           have hms145_4 := NB251_227.out
           refine skip_ (w1 := ?_) (by rfl) rfl ?_ ?_
           rotate_left
           ·
            go_simp
            rfl
           refine hK.out _ _ ⟨((cell_far (p := ⟨gb251, _, none⟩) NB200_251.out _).trans (((cell_far (p := ⟨gb251, _, none⟩) NB200_251.out _).trans (hHeld.1)))), ((cell_far (p := ⟨gb251, _, none⟩) NB200_251.out _).trans (((cell_far (p := ⟨gb251, _, none⟩) NB200_251.out _).trans (hHeld.2.1)))), ((cell_far (p := ⟨gb251, _, none⟩) NB201_251.out _).trans (((cell_far (p := ⟨gb251, _, none⟩) NB201_251.out _).trans (hHeld.2.2.1)))), ((cell_far (p := ⟨gb251, _, none⟩) NB201_251.out _).trans (((cell_far (p := ⟨gb251, _, none⟩) NB201_251.out _).trans (hHeld.2.2.2))))⟩ (fun hHeld => ?_)
           clear hK K
           refine pure_ (i := 10) (N := some 15) (v := ?_) (a' := ?_) #[true, true, true, true, true, true, true, true, true, true, true] rfl rfl (any_of HT_.out (by kernel_rfl)) (fun _ _ _ h => h) (Or.inl ⟨by rfl, ?_⟩) ?_ ?_
           rotate_left
           ·
            intro w'
            go_simp
            with_reducible rfl
           rotate_left
           ·
            simp only [Act.put, List.setIfInBounds_toArray, List.set_cons_zero, List.set_cons_succ, i64_w, i32_w]
            rfl
           refine done_ (done_of HT_.out (by kernel_rfl)) ?_
           go_upto_region 25 with (fail)
           go_cut [95] (fun v95 wc => ∃ (kq : Nat) (x95_126 : Bool), v95 = .bool x95_126 ∧ Aside0 (laws_FnExactAnswerState.j2 kq t237 x95_126 t238 t225 = some r) ∧ Aside0 (kq ≤ kj76) ∧ Aside0 (Kd.R (Kd.int .i64) 3 wc w.heap.size (fun k_ => some k_ ≠ ((.slice Ao36 t235.length co36) : Value).ownBlock ∧ some k_ ≠ ((.slice Ao47 t222.length co47) : Value).ownBlock ∧ some k_ ≠ ((.slice Ao143 t246.length co143) : Value).ownBlock) (.slice Ao29 t209.length co29) t209) ∧ Aside0 (Kd.R (Kd.int .i64) 3 wc w.heap.size (fun k_ => some k_ ≠ ((.slice Ao29 t209.length co29) : Value).ownBlock ∧ some k_ ≠ ((.slice Ao47 t222.length co47) : Value).ownBlock ∧ some k_ ≠ ((.slice Ao143 t246.length co143) : Value).ownBlock) (.slice Ao36 t235.length co36) t235) ∧ Aside0 (Kd.R (Kd.int .i64) 3 wc w.heap.size (fun k_ => some k_ ≠ ((.slice Ao29 t209.length co29) : Value).ownBlock ∧ some k_ ≠ ((.slice Ao36 t235.length co36) : Value).ownBlock ∧ some k_ ≠ ((.slice Ao143 t246.length co143) : Value).ownBlock) (.slice Ao47 t222.length co47) t238) ∧ Aside0 (Kd.R (Kd.int .i64) 3 wc w.heap.size (fun k_ => some k_ ≠ ((.slice Ao29 t209.length co29) : Value).ownBlock ∧ some k_ ≠ ((.slice Ao36 t235.length co36) : Value).ownBlock ∧ some k_ ≠ ((.slice Ao47 t222.length co47) : Value).ownBlock) (.slice Ao143 t246.length co143) t246) ∧ Aside0 (wc.heap[gb200]? = some (.cells #[(.slice A0_0 l0_0.length c0_0), .int .i64 a0_1] 39 (0, 0))) ∧ Aside0 (wc.heap[gb201]? = some (.cells #[.int .i64 a1_0, .bool a1_1] 41 (0, 0))) ∧ Aside0 (wc.heap[gb214]? = some (.cells #[(.slice Ao29 t209.length co29), .int .i64 t212] 43 (0, 0))) ∧ Aside0 (wc.heap[gb219]? = some (.cells #[(.slice Ao36 t235.length co36), .int .i64 t218] 43 (0, 0))) ∧ Aside0 (wc.heap[gb227]? = some (.cells #[(.slice Ao47 t222.length co47), .int .i64 t225] 43 (0, 0))) ∧ Aside0 (wc.heap[gb251]? = some (.cells #[(.slice Ao143 t246.length co143), .int .i64 t249] 43 (0, 0))) ∧ Aside0 (Below w.heap.size w wc))
           case first =>
            have H := HC127.out
            clear HC127
            replace H := Option.bind_eq_some_iff.mp H
            obtain ⟨t252, A1460, H⟩ := H
            replace H : (if t252 = true then (laws_FnExactAnswerState.j2 kj76 t237 (t250 != t213) t238 t225) else (laws_FnExactAnswerState.j2 kj76 t237 true t238 t225)) = some r := H
            have A146 := A_ A1460
            clear A1460
            by_cases c147 : t252 = true
            ·
             subst c147
             have H1 : (laws_FnExactAnswerState.j2 kj76 t237 (t250 != t213) t238 t225) = some r := by rw [if_pos rfl] at H; exact H
             clear H
             have H := H1
             clear H1
             have H' := A_ H
             clear H
             have hnb148 := NB251_200.out
             have hnc148 := NB200_251.out
             have hnb149 := NB251_201.out
             have hnc149 := NB201_251.out
             have hnb150 := NB251_214.out
             have hnc150 := NB214_251.out
             have hnb151 := NB251_219.out
             have hnc151 := NB219_251.out
             have hnb152 := NB251_227.out
             have hnc152 := NB227_251.out
             have hcz153_0 : w142.cell? ⟨gb251, 0, none⟩ = some (.slice none 0 0) := (blk_cell BK251.out 0).trans rfl
             have hcz153_1 : w142.cell? ⟨gb251, 1, none⟩ = some (.int .i64 0) := (blk_cell BK251.out 1).trans rfl
             have hfz153_0 := blk_frozen BK251.out 0
             have hfz153_1 := blk_frozen BK251.out 1
             have hnb154 := NB214_200.out
             have hnc154 := NB200_214.out
             have hnb155 := NB214_201.out
             have hnc155 := NB201_214.out
             have hnb156 := NB214_219.out
             have hnc156 := NB219_214.out
             have hnb157 := NB214_227.out
             have hnc157 := NB227_214.out
             have hcz158_0 : w142.cell? ⟨gb214, 0, none⟩ = some (.slice Ao29 t209.length co29) := (blk_cell BK214.out 0).trans rfl
             have hcz158_1 : w142.cell? ⟨gb214, 1, none⟩ = some (.int .i64 t212) := (blk_cell BK214.out 1).trans rfl
             have hfz158_0 := blk_frozen BK214.out 0
             have hfz158_1 := blk_frozen BK214.out 1
             go_wp2_with (first | ((with_reducible refine gate_callee (f := 26) rfl ?_); refine goesL_ (some 89) rfl rfl Try.func26 (by kernel_rfl) rfl #[.agg #[.slice Ao143 t246.length co143, .int .i64 t249], .agg #[.slice Ao29 t209.length co29, .int .i64 t212]] rfl (by (try simp only [List.map_toArray, List.map_cons, List.map_nil]); first | done | rfl | (simp only [List.length_drop, List.length_take]; rfl)) ?_; (with_reducible refine (laws_eqState.calls kj76 _ _ t246 t249 _ _ t209 t212 true _ ?side1 ?side2 ?side3 ?side4 A146.out).mono ?_); (case side1 => refine (Kd.R_reads' (e := 3) (base := w.heap.size) (ok := fun k_ => (some k_ ≠ (v241 : Value).ownBlock ∧ (some k_ ≠ (.slice Ao29 t209.length co29 : Value).ownBlock ∧ (some k_ ≠ (.slice Ao36 t235.length co36 : Value).ownBlock ∧ some k_ ≠ (.slice Ao47 t222.length co47 : Value).ownBlock)))) (n := t246.length) (c := co143) ?_).2.2; exact (rdd (Kd.R_mono (Kd.R_far (p := ⟨gb251, 1, none⟩) (Kd.R_far (p := ⟨gb251, 0, none⟩) (Kd.R_types HO248.out BK251.out (by decide)) (fun _ hk => hk.2) (.slice Ao143 t246.length co143)) (fun _ hk => hk.2) (.int .i64 t249)) (fun _ h_ => h_.1)))); (case side2 => exact (Kd.R_reads' HO248.out).2.1); (case side3 => refine (Kd.R_reads' (e := 3) (base := w.heap.size) (ok := fun k_ => (some k_ ≠ (v241 : Value).ownBlock ∧ (some k_ ≠ (.slice Ao143 t246.length co143 : Value).ownBlock ∧ (some k_ ≠ (.slice Ao36 t235.length co36 : Value).ownBlock ∧ some k_ ≠ (.slice Ao47 t222.length co47 : Value).ownBlock)))) (n := t209.length) (c := co29) ?_).2.2; exact (rdd (Kd.R_mono (Kd.R_far (p := ⟨gb251, 1, none⟩) (Kd.R_far (p := ⟨gb251, 0, none⟩) (Kd.R_types HO_215000.out BK251.out (by decide)) (fun _ hk => hk.2) (.slice Ao143 t246.length co143)) (fun _ hk => hk.2) (.int .i64 t249)) (fun _ h_ => h_.1)))); (case side4 => exact (Kd.R_reads' HO_215000.out).2.1); rintro e w159 ⟨rfl, hb⟩; refine ⟨_, rfl, ?_⟩; have n0_ := A_ (Kd.R_below (rdd (Kd.R_mono (Kd.R_far (p := ⟨gb251, 1, none⟩) (Kd.R_far (p := ⟨gb251, 0, none⟩) (Kd.R_types HO_215000.out BK251.out (by decide)) (fun _ hk => hk.2) (.slice Ao143 t246.length co143)) (fun _ hk => hk.2) (.int .i64 t249)) (fun _ h_ => h_.1))) hb); have n1_ := A_ (Kd.R_below (rdd (Kd.R_mono (Kd.R_far (p := ⟨gb251, 1, none⟩) (Kd.R_far (p := ⟨gb251, 0, none⟩) (Kd.R_types HO_220000.out BK251.out (by decide)) (fun _ hk => hk.2) (.slice Ao143 t246.length co143)) (fun _ hk => hk.2) (.int .i64 t249)) (fun _ h_ => h_.1))) hb); have n2_ := A_ (Kd.R_below (rdd (Kd.R_mono (Kd.R_far (p := ⟨gb251, 1, none⟩) (Kd.R_far (p := ⟨gb251, 0, none⟩) (Kd.R_types HO_228000.out BK251.out (by decide)) (fun _ hk => hk.2) (.slice Ao143 t246.length co143)) (fun _ hk => hk.2) (.int .i64 t249)) (fun _ h_ => h_.1))) hb); have n3_ := A_ (Kd.R_below (rdd (Kd.R_mono (Kd.R_far (p := ⟨gb251, 1, none⟩) (Kd.R_far (p := ⟨gb251, 0, none⟩) (Kd.R_types HO242.out BK251.out (by decide)) (fun _ hk => hk.2) (.slice Ao143 t246.length co143)) (fun _ hk => hk.2) (.int .i64 t249)) (fun _ h_ => h_.1))) hb); have n4_ := A_ (Kd.R_below (rdd (Kd.R_mono (Kd.R_far (p := ⟨gb251, 1, none⟩) (Kd.R_far (p := ⟨gb251, 0, none⟩) (Kd.R_types HO248.out BK251.out (by decide)) (fun _ hk => hk.2) (.slice Ao143 t246.length co143)) (fun _ hk => hk.2) (.int .i64 t249)) (fun _ h_ => h_.1))) hb); have n5_ := A_ (blk_below (g := gb200) (o := .cells #[.slice A0_0 l0_0.length c0_0, .int .i64 a0_1] 39 (0, 0)) (by refine bd ?_; refine blk_far ?_ NB200_251.out _; refine bd ?_; refine blk_far ?_ NB200_251.out _; refine bd ?_; exact BK200.out) hb); have n6_ := A_ (blk_below (g := gb201) (o := .cells #[.int .i64 a1_0, .bool a1_1] 41 (0, 0)) (by refine bd ?_; refine blk_far ?_ NB201_251.out _; refine bd ?_; refine blk_far ?_ NB201_251.out _; refine bd ?_; exact BK201.out) hb); have n7_ := A_ (blk_below (g := gb214) (o := .cells #[.slice Ao29 t209.length co29, .int .i64 t212] 43 (0, 0)) (by refine bd ?_; refine blk_far ?_ NB214_251.out _; refine bd ?_; refine blk_far ?_ NB214_251.out _; refine bd ?_; exact BK214.out) hb); have n8_ := A_ (blk_below (g := gb219) (o := .cells #[.slice Ao36 t235.length co36, .int .i64 t218] 43 (0, 0)) (by refine bd ?_; refine blk_far ?_ NB219_251.out _; refine bd ?_; refine blk_far ?_ NB219_251.out _; refine bd ?_; exact BK219.out) hb); have n9_ := A_ (blk_below (g := gb227) (o := .cells #[.slice Ao47 t222.length co47, .int .i64 t225] 43 (0, 0)) (by refine bd ?_; refine blk_far ?_ NB227_251.out _; refine bd ?_; refine blk_far ?_ NB227_251.out _; refine bd ?_; exact BK227.out) hb); have n10_ := A_ (blk_below (g := gb251) (o := .cells #[.slice Ao143 t246.length co143, .int .i64 t249] 43 (0, 0)) (by refine bd ?_; refine blk_put (cs := #[.slice Ao143 t246.length co143, .int .i64 0]) ?_ 1 _ rfl; refine bd ?_; refine blk_put (cs := #[.slice none 0 0, .int .i64 0]) ?_ 0 _ rfl; refine bd ?_; exact BK251.out) hb); have n11_ := A_ (below_step (hb6 HB.out GE200.out GE201.out GE214.out GE219.out GE227.out GE251.out) hb); clear HO_215000; clear HO_220000; clear HO_228000; clear HO242; clear HO248; clear BK200; clear BK201; clear BK214; clear BK219; clear BK227; clear BK251; clear HB; have HO_215000 := n0_; have HO_220000 := n1_; have HO_228000 := n2_; have HO242 := n3_; have HO248 := n4_; have BK200 := n5_; have BK201 := n6_; have BK214 := n7_; have BK219 := n8_; have BK227 := n9_; have BK251 := n10_; have HB := n11_; clear n0_ n1_ n2_ n3_ n4_ n5_ n6_ n7_ n8_ n9_ n10_ n11_; (try clear hb); (try clear hb2); (try clear hk); (try clear hi)))
             go_meet
             case rel => exact ⟨_, ((t250 != t213)), (by first | rfl | (simp; done) | (simp [*]; done)), H', ⟨by have := HJ15.out; have := HJ76.out; first | omega | exact Nat.le_refl _⟩, ⟨by (try simp only [hl220000_76]); refine rdd ?_; exact Kd.R_mono HO_215000.out (fun _ hk => ⟨hk.2.2.1, ⟨hk.2.2.2, hk.2.1⟩⟩)⟩, ⟨by (try simp only [hl220000_76]); refine rdd ?_; exact Kd.R_mono HO_220000.out (fun _ hk => ⟨hk.2.2.1, ⟨hk.2.2.2, hk.2.1⟩⟩)⟩, ⟨by (try simp only [hl220000_76]); refine rdd ?_; exact Kd.R_mono HO_228000.out (fun _ hk => ⟨hk.2.2.1, ⟨hk.2.2.2, hk.2.1⟩⟩)⟩, ⟨by (try simp only [hl220000_76]); refine rdd ?_; exact Kd.R_mono HO248.out (fun _ hk => ⟨hk.2.1, ⟨hk.2.2.1, hk.2.2.2⟩⟩)⟩, ⟨by (try simp only [hl220000_76]); refine bd ?_; exact BK200.out⟩, ⟨by (try simp only [hl220000_76]); refine bd ?_; exact BK201.out⟩, ⟨by (try simp only [hl220000_76]); refine bd ?_; exact BK214.out⟩, ⟨by (try simp only [hl220000_76]); refine bd ?_; exact BK219.out⟩, ⟨by (try simp only [hl220000_76]); refine bd ?_; exact BK227.out⟩, ⟨by (try simp only [hl220000_76]); refine bd ?_; exact BK251.out⟩, ⟨hb6 HB.out GE200.out GE201.out GE214.out GE219.out GE227.out GE251.out⟩⟩
            ·
             replace c147 := Bool.eq_false_iff.mpr c147
             subst c147
             have H1 : (laws_FnExactAnswerState.j2 kj76 t237 true t238 t225) = some r := by rw [if_neg (show ¬ (false = true) by decide)] at H; exact H
             clear H
             have H := H1
             clear H1
             have H' := A_ H
             clear H
             have hnb160 := NB251_200.out
             have hnc160 := NB200_251.out
             have hnb161 := NB251_201.out
             have hnc161 := NB201_251.out
             have hnb162 := NB251_214.out
             have hnc162 := NB214_251.out
             have hnb163 := NB251_219.out
             have hnc163 := NB219_251.out
             have hnb164 := NB251_227.out
             have hnc164 := NB227_251.out
             have hcz165_0 : w142.cell? ⟨gb251, 0, none⟩ = some (.slice none 0 0) := (blk_cell BK251.out 0).trans rfl
             have hcz165_1 : w142.cell? ⟨gb251, 1, none⟩ = some (.int .i64 0) := (blk_cell BK251.out 1).trans rfl
             have hfz165_0 := blk_frozen BK251.out 0
             have hfz165_1 := blk_frozen BK251.out 1
             have hnb166 := NB214_200.out
             have hnc166 := NB200_214.out
             have hnb167 := NB214_201.out
             have hnc167 := NB201_214.out
             have hnb168 := NB214_219.out
             have hnc168 := NB219_214.out
             have hnb169 := NB214_227.out
             have hnc169 := NB227_214.out
             have hcz170_0 : w142.cell? ⟨gb214, 0, none⟩ = some (.slice Ao29 t209.length co29) := (blk_cell BK214.out 0).trans rfl
             have hcz170_1 : w142.cell? ⟨gb214, 1, none⟩ = some (.int .i64 t212) := (blk_cell BK214.out 1).trans rfl
             have hfz170_0 := blk_frozen BK214.out 0
             have hfz170_1 := blk_frozen BK214.out 1
             go_wp2_with (first | ((with_reducible refine gate_callee (f := 26) rfl ?_); refine goesL_ (some 89) rfl rfl Try.func26 (by kernel_rfl) rfl #[.agg #[.slice Ao143 t246.length co143, .int .i64 t249], .agg #[.slice Ao29 t209.length co29, .int .i64 t212]] rfl (by (try simp only [List.map_toArray, List.map_cons, List.map_nil]); first | done | rfl | (simp only [List.length_drop, List.length_take]; rfl)) ?_; (with_reducible refine (laws_eqState.calls kj76 _ _ t246 t249 _ _ t209 t212 false _ ?side1 ?side2 ?side3 ?side4 A146.out).mono ?_); (case side1 => refine (Kd.R_reads' (e := 3) (base := w.heap.size) (ok := fun k_ => (some k_ ≠ (v241 : Value).ownBlock ∧ (some k_ ≠ (.slice Ao29 t209.length co29 : Value).ownBlock ∧ (some k_ ≠ (.slice Ao36 t235.length co36 : Value).ownBlock ∧ some k_ ≠ (.slice Ao47 t222.length co47 : Value).ownBlock)))) (n := t246.length) (c := co143) ?_).2.2; exact (rdd (Kd.R_mono (Kd.R_far (p := ⟨gb251, 1, none⟩) (Kd.R_far (p := ⟨gb251, 0, none⟩) (Kd.R_types HO248.out BK251.out (by decide)) (fun _ hk => hk.2) (.slice Ao143 t246.length co143)) (fun _ hk => hk.2) (.int .i64 t249)) (fun _ h_ => h_.1)))); (case side2 => exact (Kd.R_reads' HO248.out).2.1); (case side3 => refine (Kd.R_reads' (e := 3) (base := w.heap.size) (ok := fun k_ => (some k_ ≠ (v241 : Value).ownBlock ∧ (some k_ ≠ (.slice Ao143 t246.length co143 : Value).ownBlock ∧ (some k_ ≠ (.slice Ao36 t235.length co36 : Value).ownBlock ∧ some k_ ≠ (.slice Ao47 t222.length co47 : Value).ownBlock)))) (n := t209.length) (c := co29) ?_).2.2; exact (rdd (Kd.R_mono (Kd.R_far (p := ⟨gb251, 1, none⟩) (Kd.R_far (p := ⟨gb251, 0, none⟩) (Kd.R_types HO_215000.out BK251.out (by decide)) (fun _ hk => hk.2) (.slice Ao143 t246.length co143)) (fun _ hk => hk.2) (.int .i64 t249)) (fun _ h_ => h_.1)))); (case side4 => exact (Kd.R_reads' HO_215000.out).2.1); rintro e w171 ⟨rfl, hb⟩; refine ⟨_, rfl, ?_⟩; have n0_ := A_ (Kd.R_below (rdd (Kd.R_mono (Kd.R_far (p := ⟨gb251, 1, none⟩) (Kd.R_far (p := ⟨gb251, 0, none⟩) (Kd.R_types HO_215000.out BK251.out (by decide)) (fun _ hk => hk.2) (.slice Ao143 t246.length co143)) (fun _ hk => hk.2) (.int .i64 t249)) (fun _ h_ => h_.1))) hb); have n1_ := A_ (Kd.R_below (rdd (Kd.R_mono (Kd.R_far (p := ⟨gb251, 1, none⟩) (Kd.R_far (p := ⟨gb251, 0, none⟩) (Kd.R_types HO_220000.out BK251.out (by decide)) (fun _ hk => hk.2) (.slice Ao143 t246.length co143)) (fun _ hk => hk.2) (.int .i64 t249)) (fun _ h_ => h_.1))) hb); have n2_ := A_ (Kd.R_below (rdd (Kd.R_mono (Kd.R_far (p := ⟨gb251, 1, none⟩) (Kd.R_far (p := ⟨gb251, 0, none⟩) (Kd.R_types HO_228000.out BK251.out (by decide)) (fun _ hk => hk.2) (.slice Ao143 t246.length co143)) (fun _ hk => hk.2) (.int .i64 t249)) (fun _ h_ => h_.1))) hb); have n3_ := A_ (Kd.R_below (rdd (Kd.R_mono (Kd.R_far (p := ⟨gb251, 1, none⟩) (Kd.R_far (p := ⟨gb251, 0, none⟩) (Kd.R_types HO242.out BK251.out (by decide)) (fun _ hk => hk.2) (.slice Ao143 t246.length co143)) (fun _ hk => hk.2) (.int .i64 t249)) (fun _ h_ => h_.1))) hb); have n4_ := A_ (Kd.R_below (rdd (Kd.R_mono (Kd.R_far (p := ⟨gb251, 1, none⟩) (Kd.R_far (p := ⟨gb251, 0, none⟩) (Kd.R_types HO248.out BK251.out (by decide)) (fun _ hk => hk.2) (.slice Ao143 t246.length co143)) (fun _ hk => hk.2) (.int .i64 t249)) (fun _ h_ => h_.1))) hb); have n5_ := A_ (blk_below (g := gb200) (o := .cells #[.slice A0_0 l0_0.length c0_0, .int .i64 a0_1] 39 (0, 0)) (by refine bd ?_; refine blk_far ?_ NB200_251.out _; refine bd ?_; refine blk_far ?_ NB200_251.out _; refine bd ?_; exact BK200.out) hb); have n6_ := A_ (blk_below (g := gb201) (o := .cells #[.int .i64 a1_0, .bool a1_1] 41 (0, 0)) (by refine bd ?_; refine blk_far ?_ NB201_251.out _; refine bd ?_; refine blk_far ?_ NB201_251.out _; refine bd ?_; exact BK201.out) hb); have n7_ := A_ (blk_below (g := gb214) (o := .cells #[.slice Ao29 t209.length co29, .int .i64 t212] 43 (0, 0)) (by refine bd ?_; refine blk_far ?_ NB214_251.out _; refine bd ?_; refine blk_far ?_ NB214_251.out _; refine bd ?_; exact BK214.out) hb); have n8_ := A_ (blk_below (g := gb219) (o := .cells #[.slice Ao36 t235.length co36, .int .i64 t218] 43 (0, 0)) (by refine bd ?_; refine blk_far ?_ NB219_251.out _; refine bd ?_; refine blk_far ?_ NB219_251.out _; refine bd ?_; exact BK219.out) hb); have n9_ := A_ (blk_below (g := gb227) (o := .cells #[.slice Ao47 t222.length co47, .int .i64 t225] 43 (0, 0)) (by refine bd ?_; refine blk_far ?_ NB227_251.out _; refine bd ?_; refine blk_far ?_ NB227_251.out _; refine bd ?_; exact BK227.out) hb); have n10_ := A_ (blk_below (g := gb251) (o := .cells #[.slice Ao143 t246.length co143, .int .i64 t249] 43 (0, 0)) (by refine bd ?_; refine blk_put (cs := #[.slice Ao143 t246.length co143, .int .i64 0]) ?_ 1 _ rfl; refine bd ?_; refine blk_put (cs := #[.slice none 0 0, .int .i64 0]) ?_ 0 _ rfl; refine bd ?_; exact BK251.out) hb); have n11_ := A_ (below_step (hb6 HB.out GE200.out GE201.out GE214.out GE219.out GE227.out GE251.out) hb); clear HO_215000; clear HO_220000; clear HO_228000; clear HO242; clear HO248; clear BK200; clear BK201; clear BK214; clear BK219; clear BK227; clear BK251; clear HB; have HO_215000 := n0_; have HO_220000 := n1_; have HO_228000 := n2_; have HO242 := n3_; have HO248 := n4_; have BK200 := n5_; have BK201 := n6_; have BK214 := n7_; have BK219 := n8_; have BK227 := n9_; have BK251 := n10_; have HB := n11_; clear n0_ n1_ n2_ n3_ n4_ n5_ n6_ n7_ n8_ n9_ n10_ n11_; (try clear hb); (try clear hb2); (try clear hk); (try clear hi)))
             go_meet
             case rel => exact ⟨_, (true), (by first | rfl | (simp; done) | (simp [*]; done)), H', ⟨by have := HJ15.out; have := HJ76.out; first | omega | exact Nat.le_refl _⟩, ⟨by (try simp only [hl220000_76]); refine rdd ?_; exact Kd.R_mono HO_215000.out (fun _ hk => ⟨hk.2.2.1, ⟨hk.2.2.2, hk.2.1⟩⟩)⟩, ⟨by (try simp only [hl220000_76]); refine rdd ?_; exact Kd.R_mono HO_220000.out (fun _ hk => ⟨hk.2.2.1, ⟨hk.2.2.2, hk.2.1⟩⟩)⟩, ⟨by (try simp only [hl220000_76]); refine rdd ?_; exact Kd.R_mono HO_228000.out (fun _ hk => ⟨hk.2.2.1, ⟨hk.2.2.2, hk.2.1⟩⟩)⟩, ⟨by (try simp only [hl220000_76]); refine rdd ?_; exact Kd.R_mono HO248.out (fun _ hk => ⟨hk.2.1, ⟨hk.2.2.1, hk.2.2.2⟩⟩)⟩, ⟨by (try simp only [hl220000_76]); refine bd ?_; exact BK200.out⟩, ⟨by (try simp only [hl220000_76]); refine bd ?_; exact BK201.out⟩, ⟨by (try simp only [hl220000_76]); refine bd ?_; exact BK214.out⟩, ⟨by (try simp only [hl220000_76]); refine bd ?_; exact BK219.out⟩, ⟨by (try simp only [hl220000_76]); refine bd ?_; exact BK227.out⟩, ⟨by (try simp only [hl220000_76]); refine bd ?_; exact BK251.out⟩, ⟨hb6 HB.out GE200.out GE201.out GE214.out GE219.out GE227.out GE251.out⟩⟩
           case rest =>
            clear HC127
            try clear c1
            try clear c2
            try clear p2
            try clear c14
            try clear c15
            try clear c16
            try clear c23
            try clear c24
            try clear c25
            try clear c26
            try clear c147
            try clear c148
            try clear c149
            try clear c150
            try clear c151
            try clear c152
            try clear c154
            try clear c155
            try clear c156
            try clear c157
            try clear c160
            try clear c161
            try clear c162
            try clear c163
            try clear c164
            try clear c166
            try clear c167
            try clear c168
            try clear c169
            try clear hcz153_0
            try clear hcz153_1
            try clear hcz158_0
            try clear hcz158_1
            try clear hcz165_0
            try clear hcz165_1
            try clear hcz170_0
            try clear hcz170_1
            try clear hfz153_0
            try clear hfz153_1
            try clear hfz158_0
            try clear hfz158_1
            try clear hfz165_0
            try clear hfz165_1
            try clear hfz170_0
            try clear hfz170_1
            obtain ⟨kq, x95_126, rfl, HA, HJ126, HO_215000, HO_220000, HO_228000, HO_252000, BK200, BK201, BK214, BK219, BK227, BK251, HB⟩ := hcut
            have hl228000_126 := (Kd.R_reads' HO_228000.out).1
            rw [hl228000_126] at HO_228000
            (try simp only [hl228000_126])
            (try simp only [hl228000_126] at BK200)
            (try simp only [hl228000_126] at BK201)
            (try simp only [hl228000_126] at BK214)
            (try simp only [hl228000_126] at BK219)
            (try simp only [hl228000_126] at BK227)
            (try simp only [hl228000_126] at BK251)
            (try simp only [hl228000_126] at HO_215000)
            (try simp only [hl228000_126] at HO_220000)
            (try simp only [hl228000_126] at HO_252000)
            cases kq with
            | zero => exact absurd HA.out (by simp [laws_FnExactAnswerState.j2])
            | succ kj126 =>
             have H := HA.out
             clear HA
             simp only [laws_FnExactAnswerState.j2] at H
             by_cases c172 : x95_126 = true
             ·
              subst c172
              have H1 : (some false) = some r := by rw [if_pos rfl] at H; exact H
              clear H
              have H := H1
              clear H1
              obtain rfl := Option.some.inj H
              go_wp2
              go_ret
              exact ⟨by first | rfl | (simp [errW_none, errW_some] <;> rfl) | (simp [*, errW_none, errW_some] <;> rfl), by repeat (first | (with_reducible first | exact HB.out | apply below_alloc | apply pw_below_drewN | apply below_drew1 | refine below_set ?_ GE200.out | refine below_set ?_ GE201.out | refine below_set ?_ GE214.out | refine below_set ?_ GE219.out | refine below_set ?_ GE227.out | refine below_set ?_ GE251.out) | exact HB.out)⟩
             ·
              replace c172 := Bool.eq_false_iff.mpr c172
              subst c172
              have H1 : ((laws_heldState.f kj126 t238 t225 1).bind fun t253 => (if t253 < 0 then (some false) else (if t253 = t237 then (some true) else (some false)))) = some r := by rw [if_neg (show ¬ (false = true) by decide)] at H; exact H
              clear H
              have H := H1
              clear H1
              replace H := Option.bind_eq_some_iff.mp H
              obtain ⟨t253, A1730, H⟩ := H
              replace H : (if t253 < 0 then (some false) else (if t253 = t237 then (some true) else (some false))) = some r := H
              have A173 := A_ A1730
              clear A1730
              by_cases c174 : t253 < 0
              ·
               rw [if_pos c174] at H
               have c174b0 : decide (t253 < 0) = true := decide_eq_true c174
               clear c174
               obtain rfl := Option.some.inj H
               have hnb175 := NB227_200.out
               have hnc175 := NB200_227.out
               have hnb176 := NB227_201.out
               have hnc176 := NB201_227.out
               have hnb177 := NB227_214.out
               have hnc177 := NB214_227.out
               have hnb178 := NB227_219.out
               have hnc178 := NB219_227.out
               have hnb179 := NB227_251.out
               have hnc179 := NB251_227.out
               have hcz180_0 : wc.cell? ⟨gb227, 0, none⟩ = some (.slice Ao47 t238.length co47) := (blk_cell BK227.out 0).trans rfl
               have hcz180_1 : wc.cell? ⟨gb227, 1, none⟩ = some (.int .i64 t225) := (blk_cell BK227.out 1).trans rfl
               have hfz180_0 := blk_frozen BK227.out 0
               have hfz180_1 := blk_frozen BK227.out 1
               go_wp2_with (first | ((with_reducible refine gate_callee (f := 28) rfl ?_); refine goesL_ (some 98) rfl rfl Try.func28 (by kernel_rfl) rfl #[.agg #[.slice Ao47 t238.length co47, .int .i64 t225], .int .i64 1] rfl (by (try simp only [List.map_toArray, List.map_cons, List.map_nil]); first | done | rfl | (simp only [List.length_drop, List.length_take]; rfl)) ?_; (with_reducible refine (laws_heldState.calls kj126 _ _ t238 t225 1 t253 _ ?side1 ?side2 A173.out).mono ?_); (case side1 => repeat (first | exact (Kd.R_reads' HO_228000.out).2.2 | (with_reducible refine Kd.C_alloc ?_ _) | (with_reducible refine Kd.C_drewN ?_ _) | (with_reducible refine Kd.C_drew ?_))); (case side2 => exact (Kd.R_reads' HO_228000.out).2.1); rintro e w181 ⟨rfl, hb⟩; refine ⟨_, rfl, ?_⟩; have n0_ := A_ (Kd.R_below (rdd HO_215000.out) hb); have n1_ := A_ (Kd.R_below (rdd HO_220000.out) hb); have n2_ := A_ (Kd.R_below (rdd HO_228000.out) hb); have n3_ := A_ (Kd.R_below (rdd HO_252000.out) hb); have n4_ := A_ (blk_below (bd BK200.out) hb); have n5_ := A_ (blk_below (bd BK201.out) hb); have n6_ := A_ (blk_below (bd BK214.out) hb); have n7_ := A_ (blk_below (bd BK219.out) hb); have n8_ := A_ (blk_below (bd BK227.out) hb); have n9_ := A_ (blk_below (bd BK251.out) hb); have n10_ := A_ (below_step (hb6 HB.out GE200.out GE201.out GE214.out GE219.out GE227.out GE251.out) hb); clear HO_215000; clear HO_220000; clear HO_228000; clear HO_252000; clear BK200; clear BK201; clear BK214; clear BK219; clear BK227; clear BK251; clear HB; have HO_215000 := n0_; have HO_220000 := n1_; have HO_228000 := n2_; have HO_252000 := n3_; have BK200 := n4_; have BK201 := n5_; have BK214 := n6_; have BK219 := n7_; have BK227 := n8_; have BK251 := n9_; have HB := n10_; clear n0_ n1_ n2_ n3_ n4_ n5_ n6_ n7_ n8_ n9_ n10_; (try clear hb); (try clear hb2); (try clear hk); (try clear hi)))
               go_ret
               exact ⟨by first | rfl | (simp [errW_none, errW_some] <;> rfl) | (simp [*, errW_none, errW_some] <;> rfl), by repeat (first | (with_reducible first | exact HB.out | apply below_alloc | apply pw_below_drewN | apply below_drew1 | refine below_set ?_ GE200.out | refine below_set ?_ GE201.out | refine below_set ?_ GE214.out | refine below_set ?_ GE219.out | refine below_set ?_ GE227.out | refine below_set ?_ GE251.out) | exact HB.out)⟩
              ·
               rw [if_neg c174] at H
               have c174b0 : decide (t253 < 0) = false := decide_eq_false c174
               clear c174
               by_cases c182 : t253 = t237
               ·
                rw [if_pos c182] at H
                have c182b0 : (t253 == t237) = true := beq_iff_eq.mpr c182
                have c182b1 : (t253 != t237) = false := bne_eq_false_iff_eq.mpr c182
                clear c182
                obtain rfl := Option.some.inj H
                have hnb183 := NB227_200.out
                have hnc183 := NB200_227.out
                have hnb184 := NB227_201.out
                have hnc184 := NB201_227.out
                have hnb185 := NB227_214.out
                have hnc185 := NB214_227.out
                have hnb186 := NB227_219.out
                have hnc186 := NB219_227.out
                have hnb187 := NB227_251.out
                have hnc187 := NB251_227.out
                have hcz188_0 : wc.cell? ⟨gb227, 0, none⟩ = some (.slice Ao47 t238.length co47) := (blk_cell BK227.out 0).trans rfl
                have hcz188_1 : wc.cell? ⟨gb227, 1, none⟩ = some (.int .i64 t225) := (blk_cell BK227.out 1).trans rfl
                have hfz188_0 := blk_frozen BK227.out 0
                have hfz188_1 := blk_frozen BK227.out 1
                go_wp2_with (first | ((with_reducible refine gate_callee (f := 28) rfl ?_); refine goesL_ (some 98) rfl rfl Try.func28 (by kernel_rfl) rfl #[.agg #[.slice Ao47 t238.length co47, .int .i64 t225], .int .i64 1] rfl (by (try simp only [List.map_toArray, List.map_cons, List.map_nil]); first | done | rfl | (simp only [List.length_drop, List.length_take]; rfl)) ?_; (with_reducible refine (laws_heldState.calls kj126 _ _ t238 t225 1 t253 _ ?side1 ?side2 A173.out).mono ?_); (case side1 => repeat (first | exact (Kd.R_reads' HO_228000.out).2.2 | (with_reducible refine Kd.C_alloc ?_ _) | (with_reducible refine Kd.C_drewN ?_ _) | (with_reducible refine Kd.C_drew ?_))); (case side2 => exact (Kd.R_reads' HO_228000.out).2.1); rintro e w189 ⟨rfl, hb⟩; refine ⟨_, rfl, ?_⟩; have n0_ := A_ (Kd.R_below (rdd HO_215000.out) hb); have n1_ := A_ (Kd.R_below (rdd HO_220000.out) hb); have n2_ := A_ (Kd.R_below (rdd HO_228000.out) hb); have n3_ := A_ (Kd.R_below (rdd HO_252000.out) hb); have n4_ := A_ (blk_below (bd BK200.out) hb); have n5_ := A_ (blk_below (bd BK201.out) hb); have n6_ := A_ (blk_below (bd BK214.out) hb); have n7_ := A_ (blk_below (bd BK219.out) hb); have n8_ := A_ (blk_below (bd BK227.out) hb); have n9_ := A_ (blk_below (bd BK251.out) hb); have n10_ := A_ (below_step (hb6 HB.out GE200.out GE201.out GE214.out GE219.out GE227.out GE251.out) hb); clear HO_215000; clear HO_220000; clear HO_228000; clear HO_252000; clear BK200; clear BK201; clear BK214; clear BK219; clear BK227; clear BK251; clear HB; have HO_215000 := n0_; have HO_220000 := n1_; have HO_228000 := n2_; have HO_252000 := n3_; have BK200 := n4_; have BK201 := n5_; have BK214 := n6_; have BK219 := n7_; have BK227 := n8_; have BK251 := n9_; have HB := n10_; clear n0_ n1_ n2_ n3_ n4_ n5_ n6_ n7_ n8_ n9_ n10_; (try clear hb); (try clear hb2); (try clear hk); (try clear hi)))
                go_ret
                exact ⟨by first | rfl | (simp [errW_none, errW_some] <;> rfl) | (simp [*, errW_none, errW_some] <;> rfl), by repeat (first | (with_reducible first | exact HB.out | apply below_alloc | apply pw_below_drewN | apply below_drew1 | refine below_set ?_ GE200.out | refine below_set ?_ GE201.out | refine below_set ?_ GE214.out | refine below_set ?_ GE219.out | refine below_set ?_ GE227.out | refine below_set ?_ GE251.out) | exact HB.out)⟩
               ·
                rw [if_neg c182] at H
                have c182b0 : (t253 == t237) = false := beq_eq_false_iff_ne.mpr c182
                have c182b1 : (t253 != t237) = true := bne_iff_ne.mpr c182
                obtain rfl := Option.some.inj H
                have hnb190 := NB227_200.out
                have hnc190 := NB200_227.out
                have hnb191 := NB227_201.out
                have hnc191 := NB201_227.out
                have hnb192 := NB227_214.out
                have hnc192 := NB214_227.out
                have hnb193 := NB227_219.out
                have hnc193 := NB219_227.out
                have hnb194 := NB227_251.out
                have hnc194 := NB251_227.out
                have hcz195_0 : wc.cell? ⟨gb227, 0, none⟩ = some (.slice Ao47 t238.length co47) := (blk_cell BK227.out 0).trans rfl
                have hcz195_1 : wc.cell? ⟨gb227, 1, none⟩ = some (.int .i64 t225) := (blk_cell BK227.out 1).trans rfl
                have hfz195_0 := blk_frozen BK227.out 0
                have hfz195_1 := blk_frozen BK227.out 1
                go_wp2_with (first | ((with_reducible refine gate_callee (f := 28) rfl ?_); refine goesL_ (some 98) rfl rfl Try.func28 (by kernel_rfl) rfl #[.agg #[.slice Ao47 t238.length co47, .int .i64 t225], .int .i64 1] rfl (by (try simp only [List.map_toArray, List.map_cons, List.map_nil]); first | done | rfl | (simp only [List.length_drop, List.length_take]; rfl)) ?_; (with_reducible refine (laws_heldState.calls kj126 _ _ t238 t225 1 t253 _ ?side1 ?side2 A173.out).mono ?_); (case side1 => repeat (first | exact (Kd.R_reads' HO_228000.out).2.2 | (with_reducible refine Kd.C_alloc ?_ _) | (with_reducible refine Kd.C_drewN ?_ _) | (with_reducible refine Kd.C_drew ?_))); (case side2 => exact (Kd.R_reads' HO_228000.out).2.1); rintro e w196 ⟨rfl, hb⟩; refine ⟨_, rfl, ?_⟩; have n0_ := A_ (Kd.R_below (rdd HO_215000.out) hb); have n1_ := A_ (Kd.R_below (rdd HO_220000.out) hb); have n2_ := A_ (Kd.R_below (rdd HO_228000.out) hb); have n3_ := A_ (Kd.R_below (rdd HO_252000.out) hb); have n4_ := A_ (blk_below (bd BK200.out) hb); have n5_ := A_ (blk_below (bd BK201.out) hb); have n6_ := A_ (blk_below (bd BK214.out) hb); have n7_ := A_ (blk_below (bd BK219.out) hb); have n8_ := A_ (blk_below (bd BK227.out) hb); have n9_ := A_ (blk_below (bd BK251.out) hb); have n10_ := A_ (below_step (hb6 HB.out GE200.out GE201.out GE214.out GE219.out GE227.out GE251.out) hb); clear HO_215000; clear HO_220000; clear HO_228000; clear HO_252000; clear BK200; clear BK201; clear BK214; clear BK219; clear BK227; clear BK251; clear HB; have HO_215000 := n0_; have HO_220000 := n1_; have HO_228000 := n2_; have HO_252000 := n3_; have BK200 := n4_; have BK201 := n5_; have BK214 := n6_; have BK219 := n7_; have BK227 := n8_; have BK251 := n9_; have HB := n10_; clear n0_ n1_ n2_ n3_ n4_ n5_ n6_ n7_ n8_ n9_ n10_; (try clear hb); (try clear hb2); (try clear hk); (try clear hi)))
                go_ret
                exact ⟨by first | rfl | (simp [errW_none, errW_some] <;> rfl) | (simp [*, errW_none, errW_some] <;> rfl), by repeat (first | (with_reducible first | exact HB.out | apply below_alloc | apply pw_below_drewN | apply below_drew1 | refine below_set ?_ GE200.out | refine below_set ?_ GE201.out | refine below_set ?_ GE214.out | refine below_set ?_ GE219.out | refine below_set ?_ GE227.out | refine below_set ?_ GE251.out) | exact HB.out)⟩
          ·
           rw [if_neg c123] at H
           have c123b0 : (t239 == t237) = false := beq_eq_false_iff_ne.mpr c123
           have c123b1 : (t239 != t237) = true := bne_iff_ne.mpr c123
           obtain rfl := Option.some.inj H
           have hnb197 := NB227_200.out
           have hnc197 := NB200_227.out
           have hnb198 := NB227_201.out
           have hnc198 := NB201_227.out
           have hnb199 := NB227_214.out
           have hnc199 := NB214_227.out
           have hnb200 := NB227_219.out
           have hnc200 := NB219_227.out
           have hcz201_0 : wc.cell? ⟨gb227, 0, none⟩ = some (.slice Ao47 t222.length co47) := (blk_cell BK227.out 0).trans rfl
           have hcz201_1 : wc.cell? ⟨gb227, 1, none⟩ = some (.int .i64 t225) := (blk_cell BK227.out 1).trans rfl
           have hfz201_0 := blk_frozen BK227.out 0
           have hfz201_1 := blk_frozen BK227.out 1
           go_wp2_with (first | ((with_reducible refine gate_callee (f := 27) rfl ?_); refine goesL_ (some 70) rfl rfl Try.func27 (by kernel_rfl) rfl #[.agg #[.slice Ao47 t222.length co47, .int .i64 t225], .int .i64 1] rfl (by (try simp only [List.map_toArray, List.map_cons, List.map_nil]); first | done | rfl | (simp only [List.length_drop, List.length_take]; rfl)) ?_; (with_reducible refine (laws_markState.calls kj76 (fun k_ => some k_ = (.slice Ao47 t222.length co47 : Value).ownBlock) (.slice Ao47 t222.length co47) t222 t225 1 t237 t238 w _ ?side1 ?side2 A112.out).mono ?_); (case side1 => repeat (first | (with_reducible first | exact HB.out | apply below_alloc | apply pw_below_drewN | apply below_drew1 | refine below_set ?_ GE200.out | refine below_set ?_ GE201.out | refine below_set ?_ GE214.out | refine below_set ?_ GE219.out | refine below_set ?_ GE227.out) | exact HB.out)); (case side2 => exact Kd.R_tight rfl HO_228000.out); rintro e w202 ⟨rfl, hy0, hb, hkp⟩; refine ⟨_, rfl, ?_⟩; have n0_ := A_ (Kd.R_mono (ok' := fun k_ => some k_ ≠ (.slice Ao36 t235.length co36 : Value).ownBlock ∧ some k_ ≠ (.slice Ao47 t222.length co47 : Value).ownBlock) (Kd.R_keptB (HO_215000.out) hkp (fun k_ hk_ hs_ => (hk_.2) hs_)) (fun k_ hk_ => ⟨hk_.1.1, hk_.1.2⟩)); have n1_ := A_ (Kd.R_mono (ok' := fun k_ => some k_ ≠ (.slice Ao29 t209.length co29 : Value).ownBlock ∧ some k_ ≠ (.slice Ao47 t222.length co47 : Value).ownBlock) (Kd.R_keptB (HO_220000.out) hkp (fun k_ hk_ hs_ => (hk_.2) hs_)) (fun k_ hk_ => ⟨hk_.1.1, hk_.1.2⟩)); have n2_ := A_ (Kd.R_reok rfl hy0 (fun k_ e_ => HO_228000.out.1 k_ e_)); have n3_ := A_ (blk_kept (bd BK200.out) hkp (fun hs_ => (fun e_ => (Kd.R_ne HO_228000.out BK200.out (by decide)) e_) hs_)); have n4_ := A_ (blk_kept (bd BK201.out) hkp (fun hs_ => (fun e_ => (Kd.R_ne HO_228000.out BK201.out (by decide)) e_) hs_)); have n5_ := A_ (blk_kept (bd BK214.out) hkp (fun hs_ => (fun e_ => (Kd.R_ne HO_228000.out BK214.out (by decide)) e_) hs_)); have n6_ := A_ (blk_kept (bd BK219.out) hkp (fun hs_ => (fun e_ => (Kd.R_ne HO_228000.out BK219.out (by decide)) e_) hs_)); have n7_ := A_ (blk_kept (bd BK227.out) hkp (fun hs_ => (fun e_ => (Kd.R_ne HO_228000.out BK227.out (by decide)) e_) hs_)); have n8_ := A_ (hb); clear HO_215000; clear HO_220000; clear HO_228000; clear BK200; clear BK201; clear BK214; clear BK219; clear BK227; clear HB; have HO_215000 := n0_; have HO_220000 := n1_; have HO_228000 := n2_; have BK200 := n3_; have BK201 := n4_; have BK214 := n5_; have BK219 := n6_; have BK227 := n7_; have HB := n8_; clear n0_ n1_ n2_ n3_ n4_ n5_ n6_ n7_ n8_; (try clear hb); (try clear hkp); (try clear hy0); have hcz203_0 : w202.cell? ⟨gb227, 0, none⟩ = some (.slice Ao47 t222.length co47) := (blk_cell BK227.out 0).trans rfl; have hcz203_1 : w202.cell? ⟨gb227, 1, none⟩ = some (.int .i64 t225) := (blk_cell BK227.out 1).trans rfl; have hfz203_0 := blk_frozen BK227.out 0; have hfz203_1 := blk_frozen BK227.out 1) | ((with_reducible refine gate_callee (f := 28) rfl ?_); refine goesL_ (some 73) rfl rfl Try.func28 (by kernel_rfl) rfl #[.agg #[.slice Ao47 t238.length co47, .int .i64 t225], .int .i64 1] rfl (by (try simp only [List.map_toArray, List.map_cons, List.map_nil]); first | done | (rw [show t238.length = t222.length from (Kd.R_reads' HO_228000.out).1.symm] <;> rfl) | rfl | (simp only [List.length_drop, List.length_take]; rfl)) ?_; (with_reducible refine (laws_heldState.calls kj76 _ _ t238 t225 1 t239 _ ?side1 ?side2 A113.out).mono ?_); (case side1 => repeat (first | exact (Kd.R_reads' HO_228000.out).2.2 | (with_reducible refine Kd.C_alloc ?_ _) | (with_reducible refine Kd.C_drewN ?_ _) | (with_reducible refine Kd.C_drew ?_))); (case side2 => rw [show t238.length = t222.length from (Kd.R_reads' HO_228000.out).1.symm]; exact (Kd.R_reads' HO_228000.out).2.1); rintro e w204 ⟨rfl, hb⟩; refine ⟨_, rfl, ?_⟩; have n0_ := A_ (Kd.R_below (rdd HO_215000.out) hb); have n1_ := A_ (Kd.R_below (rdd HO_220000.out) hb); have n2_ := A_ (Kd.R_below (rdd HO_228000.out) hb); have n3_ := A_ (blk_below (bd BK200.out) hb); have n4_ := A_ (blk_below (bd BK201.out) hb); have n5_ := A_ (blk_below (bd BK214.out) hb); have n6_ := A_ (blk_below (bd BK219.out) hb); have n7_ := A_ (blk_below (bd BK227.out) hb); have n8_ := A_ (below_step (hb5 HB.out GE200.out GE201.out GE214.out GE219.out GE227.out) hb); clear HO_215000; clear HO_220000; clear HO_228000; clear BK200; clear BK201; clear BK214; clear BK219; clear BK227; clear HB; have HO_215000 := n0_; have HO_220000 := n1_; have HO_228000 := n2_; have BK200 := n3_; have BK201 := n4_; have BK214 := n5_; have BK219 := n6_; have BK227 := n7_; have HB := n8_; clear n0_ n1_ n2_ n3_ n4_ n5_ n6_ n7_ n8_; (try clear hb); (try clear hb2); (try clear hk); (try clear hi)))
           go_ret
           exact ⟨by first | rfl | (simp [errW_none, errW_some] <;> rfl) | (simp [*, errW_none, errW_some] <;> rfl), by repeat (first | (with_reducible first | exact HB.out | apply below_alloc | apply pw_below_drewN | apply below_drew1 | refine below_set ?_ GE200.out | refine below_set ?_ GE201.out | refine below_set ?_ GE214.out | refine below_set ?_ GE219.out | refine below_set ?_ GE227.out) | exact HB.out)⟩
     ·
      replace c75 := Bool.eq_false_iff.mpr c75
      subst c75
      have H1 : (some false) = some r := by rw [if_neg (show ¬ (false = true) by decide)] at H; exact H
      clear H
      have H := H1
      clear H1
      obtain rfl := Option.some.inj H
      try go_wp2
      have n0_ := A_ (Kd.R_drew HO_215000.out)
      have n1_ := A_ (Kd.R_drew HO_220000.out)
      have n2_ := A_ (Kd.R_drew HO_228000.out)
      have n3_ := A_ (blk_drew BK200.out)
      have n4_ := A_ (blk_drew BK201.out)
      have n5_ := A_ (blk_drew BK214.out)
      have n6_ := A_ (blk_drew BK219.out)
      have n7_ := A_ (blk_drew BK227.out)
      have n8_ := A_ (below_drew1 HB.out)
      clear HO_215000
      clear HO_220000
      clear HO_228000
      clear BK200
      clear BK201
      clear BK214
      clear BK219
      clear BK227
      clear HB
      have HO_215000 := n0_
      have HO_220000 := n1_
      have HO_228000 := n2_
      have BK200 := n3_
      have BK201 := n4_
      have BK214 := n5_
      have BK219 := n6_
      have BK227 := n7_
      have HB := n8_
      clear n0_ n1_ n2_ n3_ n4_ n5_ n6_ n7_ n8_
      refine start_ (n := 5) (S := fun w' => w'.cell? ⟨gb219, 0, none⟩ = some (.slice Ao36 t215.length co36) ∧ w'.cell? ⟨gb219, 1, none⟩ = some (.int .i64 t218) ∧ w'.cell? ⟨gb200, 0, none⟩ = some (.slice A0_0 l0_0.length c0_0) ∧ w'.cell? ⟨gb200, 1, none⟩ = some (.int .i64 a0_1)) (ds := []) #[false, false, false, false, false] (by kernel_rfl) rfl rfl ⟨(blk_cell BK219.out 0).trans rfl, (blk_cell BK219.out 1).trans rfl, (blk_cell BK200.out 0).trans rfl, (blk_cell BK200.out 1).trans rfl⟩ (fun hHeld => ?_)
      generalize wc.drew = w205 at HO_215000 HO_220000 HO_228000 BK200 BK201 BK214 BK219 BK227 HB hHeld ⊢
      refine take_ (i := 0) (N := some 47) (v := ?_) (a' := ?_) #[true, false, false, false, false] rfl rfl (by kernel_rfl) (fun _ _ _ h => h) (Or.inl ⟨by rfl, ?_⟩) hHeld ?_ ?_
      rotate_left
      ·
       rintro w' ⟨s0, s1, s2, s3⟩
       go_simp
       with_reducible rfl
      rotate_left
      ·
       simp only [Act.put, List.setIfInBounds_toArray, List.set_cons_zero, List.set_cons_succ, i64_w, i32_w]
       rfl
      refine take_ (i := 1) (N := some 48) (v := ?_) (a' := ?_) #[true, true, false, false, false] rfl rfl (by kernel_rfl) (fun _ _ _ h => h) (Or.inl ⟨by rfl, ?_⟩) hHeld ?_ ?_
      rotate_left
      ·
       rintro w' ⟨s0, s1, s2, s3⟩
       go_simp
       with_reducible rfl
      rotate_left
      ·
       simp only [Act.put, List.setIfInBounds_toArray, List.set_cons_zero, List.set_cons_succ, i64_w, i32_w]
       rfl
      refine one_ (i := 2) (N := some 49) #[true, true, true, false, false] rfl rfl (by kernel_rfl) (by decide) (fun K hK => ?_)
      refine goes_ Try.func23 (by kernel_rfl) rfl #[.agg #[.slice A0_0 l0_0.length c0_0, .int .i64 a0_1]] (by rfl) rfl rfl (by (try simp only [List.map_toArray, List.map_cons, List.map_nil]); first | done | rfl | (simp only [List.length_drop, List.length_take]; rfl)) ?_
      with_reducible refine (laws_toState.calls kj15 _ _ l0_0 a0_1 t229 t232 _ ?side1 ?side2 A73.out).mono ?_
      (case side1 => repeat (first | exact (Kd.C_below HR0_0.out HB.out) | (with_reducible refine Kd.C_alloc ?_ _) | (with_reducible refine Kd.C_drewN ?_ _) | (with_reducible refine Kd.C_drew ?_)))
      (case side2 => exact HC0_0.out)
      rintro e w206 ⟨v230, rfl, ho0, hb⟩
      refine ⟨_, rfl, ?_⟩
      have n0_ := A_ (Kd.R_elder' (rdd HO_215000.out) (Kd.R_base ho0) hb)
      have n1_ := A_ (Kd.R_elder' (rdd HO_220000.out) (Kd.R_base ho0) hb)
      have n2_ := A_ (Kd.R_elder' (rdd HO_228000.out) (Kd.R_base ho0) hb)
      have n3_ := A_ (Kd.R_lower (Kd.R_new' (Kd.R_new' (Kd.R_new' ho0 (Kd.R_lt (rdd HO_215000.out))) (Kd.R_lt (rdd HO_220000.out))) (Kd.R_lt (rdd HO_228000.out))) (below_size (hb5 HB.out GE200.out GE201.out GE214.out GE219.out GE227.out)))
      have n4_ := A_ (blk_below (bd BK200.out) hb)
      have n5_ := A_ (blk_below (bd BK201.out) hb)
      have n6_ := A_ (blk_below (bd BK214.out) hb)
      have n7_ := A_ (blk_below (bd BK219.out) hb)
      have n8_ := A_ (blk_below (bd BK227.out) hb)
      have n9_ := A_ (below_step (hb5 HB.out GE200.out GE201.out GE214.out GE219.out GE227.out) hb)
      clear HO_215000
      clear HO_220000
      clear HO_228000
      clear BK200
      clear BK201
      clear BK214
      clear BK219
      clear BK227
      clear HB
      have HO_215000 := n0_
      have HO_220000 := n1_
      have HO_228000 := n2_
      have HO231 := n3_
      have BK200 := n4_
      have BK201 := n5_
      have BK214 := n6_
      have BK219 := n7_
      have BK227 := n8_
      have HB := n9_
      clear n0_ n1_ n2_ n3_ n4_ n5_ n6_ n7_ n8_ n9_
      (try clear hb)
      (try clear hb2)
      (try clear hk)
      (try clear hi)
      (try clear ho0)
      obtain ⟨Ao207, co207, eo207⟩ := Kd.R_slice HO231.out
      (first | subst eo207 | (injection eo207 with f1_ f2_ f3_; have f4_ := f1_.symm; have f5_ := f3_.symm; clear f1_ f2_ f3_; subst f4_; subst f5_))
      refine hK.out _ _ ⟨(blk_cell BK219.out 0).trans rfl, (blk_cell BK219.out 1).trans rfl, (blk_cell BK200.out 0).trans rfl, (blk_cell BK200.out 1).trans rfl⟩ (fun hHeld => ?_)
      clear hK K
      refine norm_ (a' := ?_) ?_ ?_
      rotate_left
      ·
       show Act.put _ (some 49) _ = _
       simp only [Act.put, List.setIfInBounds_toArray, List.set_cons_zero, List.set_cons_succ, i64_w, i32_w]
       rfl
      refine one_ (i := 3) (N := some 50) #[true, true, true, true, false] rfl rfl (by kernel_rfl) (by decide) (fun K hK => ?_)
      refine goes_ Try.func26 (by kernel_rfl) rfl #[.agg #[.slice Ao36 t215.length co36, .int .i64 t218], .agg #[.slice Ao207 t229.length co207, .int .i64 t232]] (by rfl) rfl rfl (by (try simp only [List.map_toArray, List.map_cons, List.map_nil]); first | done | rfl | (simp only [List.length_drop, List.length_take]; rfl)) ?_
      with_reducible refine (laws_eqState.calls kj15 _ _ t215 t218 _ _ t229 t232 false _ ?side1 ?side2 ?side3 ?side4 A74.out).mono ?_
      (case side1 => repeat (first | exact (Kd.R_reads' HO_220000.out).2.2 | (with_reducible refine Kd.C_alloc ?_ _) | (with_reducible refine Kd.C_drewN ?_ _) | (with_reducible refine Kd.C_drew ?_)))
      (case side2 => exact (Kd.R_reads' HO_220000.out).2.1)
      (case side3 => repeat (first | exact (Kd.R_reads' HO231.out).2.2 | (with_reducible refine Kd.C_alloc ?_ _) | (with_reducible refine Kd.C_drewN ?_ _) | (with_reducible refine Kd.C_drew ?_)))
      (case side4 => exact (Kd.R_reads' HO231.out).2.1)
      rintro e w208 ⟨rfl, hb⟩
      refine ⟨_, rfl, ?_⟩
      have n0_ := A_ (Kd.R_below (rdd HO_215000.out) hb)
      have n1_ := A_ (Kd.R_below (rdd HO_220000.out) hb)
      have n2_ := A_ (Kd.R_below (rdd HO_228000.out) hb)
      have n3_ := A_ (Kd.R_below (rdd HO231.out) hb)
      have n4_ := A_ (blk_below (bd BK200.out) hb)
      have n5_ := A_ (blk_below (bd BK201.out) hb)
      have n6_ := A_ (blk_below (bd BK214.out) hb)
      have n7_ := A_ (blk_below (bd BK219.out) hb)
      have n8_ := A_ (blk_below (bd BK227.out) hb)
      have n9_ := A_ (below_step (hb5 HB.out GE200.out GE201.out GE214.out GE219.out GE227.out) hb)
      clear HO_215000
      clear HO_220000
      clear HO_228000
      clear HO231
      clear BK200
      clear BK201
      clear BK214
      clear BK219
      clear BK227
      clear HB
      have HO_215000 := n0_
      have HO_220000 := n1_
      have HO_228000 := n2_
      have HO231 := n3_
      have BK200 := n4_
      have BK201 := n5_
      have BK214 := n6_
      have BK219 := n7_
      have BK227 := n8_
      have HB := n9_
      clear n0_ n1_ n2_ n3_ n4_ n5_ n6_ n7_ n8_ n9_
      (try clear hb)
      (try clear hb2)
      (try clear hk)
      (try clear hi)
      refine hK.out _ _ ⟨(blk_cell BK219.out 0).trans rfl, (blk_cell BK219.out 1).trans rfl, (blk_cell BK200.out 0).trans rfl, (blk_cell BK200.out 1).trans rfl⟩ (fun hHeld => ?_)
      clear hK K
      refine norm_ (a' := ?_) ?_ ?_
      rotate_left
      ·
       show Act.put _ (some 50) _ = _
       simp only [Act.put, List.setIfInBounds_toArray, List.set_cons_zero, List.set_cons_succ, i64_w, i32_w]
       rfl
      refine pure_ (i := 4) (N := some 51) (v := ?_) (a' := ?_) #[true, true, true, true, true] rfl rfl (by kernel_rfl) (fun _ _ _ h => h) (Or.inl ⟨by rfl, ?_⟩) ?_ ?_
      rotate_left
      ·
       intro w'
       go_simp
       with_reducible rfl
      rotate_left
      ·
       simp only [Act.put, List.setIfInBounds_toArray, List.set_cons_zero, List.set_cons_succ, i64_w, i32_w]
       rfl
      refine done_ (by kernel_rfl) ?_
      try go_wp2
      go_ret
      exact ⟨by first | rfl | (simp [errW_none, errW_some] <;> rfl) | (simp [*, errW_none, errW_some] <;> rfl), by repeat (first | (with_reducible first | exact HB.out | apply below_alloc | apply pw_below_drewN | apply below_drew1 | refine below_set ?_ GE200.out | refine below_set ?_ GE201.out | refine below_set ?_ GE214.out | refine below_set ?_ GE219.out | refine below_set ?_ GE227.out) | exact HB.out)⟩

/-- THE ONE PURE STATEMENT of laws_FnExactAnswerState. -/
def laws_FnExactAnswerState.Pure : Prop := ∀ (l0_0 : List Int) (a0_1 : Int) (a1_0 : Int) (a1_1 : Bool), l0_0.length ≤ maxLen → (∀ x ∈ l0_0, (Lit.int .i64 x).wf = true) → (Lit.int .i64 a0_1).wf = true → (Lit.int .i64 a1_0).wf = true → ∃ k, laws_FnExactAnswerState.f k l0_0 a0_1 a1_0 a1_1 = some true

end Go.Proofs.Ytllelojlcmkehaa.PFnExactAnswerState
