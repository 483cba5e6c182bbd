/- Arguments that come in, read as lists: slices of numbers, of strings, of pairs. General lemmas; no condition. Written for this work. -/
import Derived.Test.YtmckmagdiokhiaaWMore
import Derived.Deep.SlicePairs
import Derived.Deep.Strs
import Derived.ChangeSlices
import Derived.ChangeShapes
import Derived.Lib.SmallJoins
set_option linter.unusedVariables false
namespace Go.Proofs.Ytmckmagdiokhiaa.Open
open Go.ChangeShapes Go.WideShapes Go.Deep Go.RowKit Go.Proofs.YtmckmagdiokhiaaW.PrintWords Go.Proofs.YtmckmagdiokhiaaW.PrintLast Go.Proofs.YtmckmagdiokhiaaW.PrintMore

variable {H : Type} {enc : TypeId × Value → H} {P : Program} {w : World} {base : Nat} {held : Bool}

theorem ints_of {t e : TypeId} {k : IntKind} {fuel : Nat} {cs : List Value} {x : DataW H × List MemPlace} (ht : P.underlying t = some (.slice e)) (he : P.underlying e = some (.int k)) (hc : P.cellsOf e = 1)
    (h : DataW.trod enc P w base (fun _ => true) held fuel t cs = some x) :
    ∃ (A : Option Addr) (l : List Int) (c : Nat), cs = [.slice A l.length c] ∧ (Kd.int k).C w A l.length l ∧ l.length ≤ c ∧ l.length ≤ maxLen ∧ ∀ n ∈ l, (Lit.int k n).wf = true := by
  rcases open_ints ht he hc h with ⟨rfl, _⟩ | ⟨a, len, cap, zs, rfl, _, hl, hm, hz, _, hcell, hwz⟩
  · exact ⟨none, [], 0, rfl, Kd.C_nil _ _, Nat.le_refl _, Nat.zero_le _, fun n hn => by simp at hn⟩
  · obtain ⟨l, rfl, hr, hm2, hw, hc2⟩ := ReadsInt.ofRowC (k := k) (w := w) (a := some a) (len := len) (cap := cap) (zs := zs) (.inr ⟨a, rfl, hl, hm, by simpa using hz, hcell, hwz⟩)
    exact ⟨some a, l, cap, rfl, Kd.C_of_reads (d := (0 : Int)) (h1 := fun _ => rfl) hr, hc2, hm2, hw⟩

theorem strs_of {t e : TypeId} {fuel : Nat} {cs : List Value} {x : DataW H × List MemPlace} (ht : P.underlying t = some (.slice e)) (he : P.underlying e = some .string) (hc : P.cellsOf e = 1)
    (h : DataW.trod enc P w base (fun _ => true) held fuel t cs = some x) :
    ∃ (A : Option Addr) (l : List ByteArray) (c : Nat), cs = [.slice A l.length c] ∧ Kd.string.C w A l.length l ∧ l.length ≤ c ∧ l.length ≤ maxLen ∧ ∀ s ∈ l, s.size ≤ maxLen := by
  rcases open_strs ht he hc h with ⟨rfl, _⟩ | ⟨a, len, cap, m, Sx, rfl, _, hl, hm, hmm, _, hx⟩
  · exact ⟨none, [], 0, rfl, Kd.C_nil _ _, Nat.le_refl _, Nat.zero_le _, fun n hn => by simp at hn⟩
  · have hlm : len ≤ m := by rw [hmm]; simpa using hl
    have e1 : ((List.range len).map Sx).length = len := by simp
    refine ⟨some a, (List.range len).map Sx, cap, by rw [e1], ?_, by rw [e1]; exact hl, by rw [e1]; omega, fun s hs => ?_⟩
    · refine ⟨rfl, by rw [e1]; unfold maxLen at hm; omega, fun _ => ⟨a, rfl, fun j p hj => ?_⟩⟩
      obtain ⟨hj1, hj2⟩ := List.getElem?_eq_some_iff.1 hj
      rw [e1] at hj1
      simp only [List.getElem_map, List.getElem_range] at hj2
      subst hj2
      refine ⟨[.string (Sx j)], rfl, rfl, fun i u hu => ?_⟩
      cases i with
      | zero =>
        have hu' : Value.string (Sx j) = u := by simpa using hu
        subst hu'
        have h1 := (hx j (by omega)).1
        show w.cell? (a.add (j * 1 + 0)) = _
        rw [Nat.mul_one, Nat.add_zero]; exact h1
      | succ i => simp at hu
    · obtain ⟨j, hj, rfl⟩ := List.mem_map.1 hs
      have := List.mem_range.1 hj
      exact (hx j (by omega)).2

theorem asks_of {γ : Type} {d : Kd γ} (mk : Int → Bool → γ) (hsz : d.sz = 2) (hK : ∀ x b, d.K w (mk x b) [.int .i64 x, .bool b]) {t e : TypeId} {f0 f1 : Field} {fuel : Nat} {cs : List Value} {x : DataW H × List MemPlace}
    (ht : P.underlying t = some (.slice e)) (he : P.underlying e = some (.struct #[f0, f1]))
    (ce : P.cellsOf e = 2) (o0 : f0.offset = 0) (o1 : f1.offset = 1) (c0 : P.cellsOf f0.type = 1) (c1 : P.cellsOf f1.type = 1) (u0 : P.underlying f0.type = some (.int .i64)) (u1 : P.underlying f1.type = some .bool)
    (h : DataW.trod enc P w base (fun _ => true) held fuel t cs = some x) :
    ∃ (A : Option Addr) (l : List γ) (c : Nat), cs = [.slice A l.length c] ∧ d.C w A l.length l ∧ l.length ≤ c ∧ l.length ≤ maxLen ∧ ∀ s ∈ l, ∃ (x : Int) (b : Bool), s = mk x b ∧ (Lit.int .i64 x).wf = true := by
  rcases open_slice_pairs ht he ce o0 o1 c0 c1 h with ⟨rfl, _⟩ | ⟨a, len, cap, m, n, V0, V1, D0, D1, P0, P1, rfl, _, hl, hm, hmm, _, hx⟩
  · exact ⟨none, [], 0, rfl, Kd.C_nil _ _, Nat.le_refl _, Nat.zero_le _, fun n hn => by simp at hn⟩
  · have hlm : len ≤ m := by rw [hmm]; simpa using hl
    have each : ∀ i, i < m → ∃ q : Int × Bool, V0 i = .int .i64 q.1 ∧ V1 i = .bool q.2 ∧ (Lit.int .i64 q.1).wf = true := fun i hi => by
      obtain ⟨_, _, h1, h2⟩ := hx i hi
      obtain ⟨x0, e0, _, w0⟩ := DataW.trod_int u0 h1
      obtain ⟨b0, e1, _⟩ := DataW.trod_bool u1 h2
      exact ⟨(x0, b0), by simpa using e0, by simpa using e1, w0⟩
    obtain ⟨q, hq⟩ := choose_lt each
    have e1 : ((List.range len).map fun i => mk (q i).1 (q i).2).length = len := by simp
    refine ⟨some a, (List.range len).map fun i => mk (q i).1 (q i).2, cap, by rw [e1], ?_, by rw [e1]; exact hl, by rw [e1]; omega, fun s hs => ?_⟩
    · refine ⟨rfl, by rw [e1]; unfold maxLen at hm; omega, fun _ => ⟨a, rfl, fun j p hj => ?_⟩⟩
      obtain ⟨hj1, hj2⟩ := List.getElem?_eq_some_iff.1 hj
      rw [e1] at hj1
      simp only [List.getElem_map, List.getElem_range] at hj2
      subst hj2
      obtain ⟨h0, h1, _⟩ := hx j (by omega)
      obtain ⟨k0, k1, _⟩ := hq j (by omega)
      rw [k0] at h0
      rw [k1] at h1
      refine ⟨[.int .i64 (q j).1, .bool (q j).2], by rw [hsz]; rfl, hK _ _, fun i u hu => ?_⟩
      rw [hsz]
      match i, hu with
      | 0, hu =>
        have hu' : Value.int .i64 (q j).1 = u := by simpa using hu
        subst hu'
        exact h0
      | 1, hu =>
        have hu' : Value.bool (q j).2 = u := by simpa using hu
        subst hu'
        exact h1
      | i + 2, hu => simp at hu
    · obtain ⟨j, hj, rfl⟩ := List.mem_map.1 hs
      have := List.mem_range.1 hj
      exact ⟨_, _, rfl, (hq j (by omega)).2.2⟩

end Go.Proofs.Ytmckmagdiokhiaa.Open
