/- The plain law behind the statement FnExactChecksum: what the Go functions' Lean forms come to. Written for this work; no condition. -/
import Derived.Test.YticjbfcelocehaaPFnExactChecksumx
import Derived.Test.YticjbfcelocehaaLib
set_option linter.unusedVariables false
set_option linter.unusedSimpArgs false
namespace Go.Proofs.Yticjbfcelocehaa.PFnExactChecksum
open Go.RowKit Go.Proofs.YticjbfcelocehaaW.PrintWords Go.Proofs.YticjbfcelocehaaW.PrintLast Go.Proofs.YticjbfcelocehaaW.PrintMore Go.Proofs.Yticjbfcelocehaa.Lib

theorem spec_l1Sum.ev (s : ByteArray) (h : s.size ≤ 140737488351232) : Stops (fun k => spec_l1Sum.f k s) (sumV s s.size) := by
  refine Stops.count (g := fun k (t : Int × Int) => spec_l1Sum.l0 k s t.1 t.2) (fun i => (sumV s i, (i : Int))) s.size (Stops.now1 fun m => ?_) fun i hi m => ?_
  · simp only [spec_l1Sum.l0]; rw [if_neg (by omega)]
  · have e : wrap64 ((i : Int) + 1) = (i : Int) + 1 := w64 (by omega) (by omega)
    simp only [spec_l1Sum.l0]; rw [if_pos (by omega), if_pos (by omega), e]; rfl

theorem spec_Checksum.ev (s : ByteArray) (h : s.size ≤ 140737488351232) : Stops (fun k => spec_Checksum.f k s) (if (s.size : Int) > 4000 then (0, false) else (sumV s s.size, true)) := by
  refine (spec_l1Sum.ev s h).same fun m e => ?_
  simp only [spec_Checksum.f, e, Option.bind_some]; split <;> rfl

theorem impl_checksum.ev (s : ByteArray) (h : s.size ≤ 140737488351232) : Stops (fun k => impl_checksum.f k s) (sumV s s.size) := by
  refine Stops.count (g := fun k (t : Int × Int) => impl_checksum.l0 k s t.1 (s.size : Int) t.2) (fun i => (sumV s i, (i : Int))) s.size (Stops.now1 fun m => ?_) fun i hi m => ?_
  · simp only [impl_checksum.l0]; rw [if_neg (by omega)]
  · have e : wrap64 ((i : Int) + 1) = (i : Int) + 1 := w64 (by omega) (by omega)
    simp only [impl_checksum.l0]; rw [if_pos (by omega), if_pos (by omega), if_pos (by omega), e]; rfl

theorem impl_Checksum.ev (s : ByteArray) (h : s.size ≤ 140737488351232) : Stops (fun k => impl_Checksum.f k s) (if (s.size : Int) > 4000 then (0, false) else (sumV s s.size, true)) := by
  refine (impl_checksum.ev s h).same fun m e => ?_
  simp only [impl_Checksum.f, e, Option.bind_some]; split <;> rfl

theorem law : laws_FnExactChecksum.Pure := by
  intro s hs
  refine Stops.rounds (r := true) (Evt.mono ((spec_Checksum.ev s hs).and (impl_Checksum.ev s hs)) fun m ⟨h1, h2⟩ => ?_)
  simp [laws_FnExactChecksum.f, h1, h2]

end Go.Proofs.Yticjbfcelocehaa.PFnExactChecksum
