/- General lemmas about rounds that end ('Stops'), wrapping sums, shifts and bits, and lists: no program in sight. Written for this work. -/
import Derived.Test.YtmckmagdiokhiaaWMore
set_option linter.unusedVariables false
namespace Go.Proofs.Ytmckmagdiokhiaa.Lib
open Go.RowKit Go.Proofs.YtmckmagdiokhiaaW.PrintWords Go.Proofs.YtmckmagdiokhiaaW.PrintLast Go.Proofs.YtmckmagdiokhiaaW.PrintMore

variable {α β : Type}

theorem w64 {n : Int} (h1 : -9223372036854775808 ≤ n) (h2 : n ≤ 9223372036854775807) : wrap64 n = n := by unfold wrap64; omega
theorem wf64 {a : Int} (h : (Lit.int .i64 a).wf = true) : -9223372036854775808 ≤ a ∧ a ≤ 9223372036854775807 := by
  simp [Lit.wf, IntKind.min, IntKind.max, IntKind.bits, IntKind.signed] at h
  omega
theorem wrap_i64 (n : Int) : IntKind.i64.wrap n = wrap64 n := by rw [IntKind.wrap_i64]; unfold wrap64; rfl
theorem shl_i64 (x y : Int) : shl .i64 x y = wrap64 (x * 2 ^ min y.toNat 64) := by unfold shl; rw [wrap_i64]; rfl
theorem pow_pos' (n : Nat) : (0 : Int) < 2 ^ n := by exact_mod_cast Nat.two_pow_pos n
theorem pow_le' {m n : Nat} (h : m ≤ n) : (2 : Int) ^ m ≤ 2 ^ n := by exact_mod_cast Nat.pow_le_pow_right (by decide) h
theorem shl_one {a : Int} (h0 : 0 ≤ a) (h : a ≤ 62) : shl .i64 1 a = 2 ^ a.toNat := by
  rw [shl_i64, Nat.min_eq_left (by omega), Int.one_mul]
  have h1 := pow_pos' a.toNat
  have h2 : (2 : Int) ^ a.toNat ≤ 2 ^ 62 := pow_le' (by omega)
  exact w64 (by omega) (by omega)
theorem shr_nn {x y : Int} (hx : 0 ≤ x) : 0 ≤ shr .i64 x y := by unfold shr; exact Int.ediv_nonneg hx (Int.le_of_lt (pow_pos' _))
/-- Bit k of a question. -/
def bitI (x k : Int) : Bool := x / 2 ^ k.toNat % 2 == 1

/-! rounds that end -/
/-- From some number of rounds on it answers r. -/
def Stops (g : Nat → Option α) (r : α) : Prop := ∃ K, ∀ k, K ≤ k → g k = some r
theorem Stops.rounds {g : Nat → Option α} {r : α} (h : Stops g r) : ∃ k, g k = some r := by
  obtain ⟨K, h⟩ := h
  exact ⟨K, h K (Nat.le_refl _)⟩
theorem Stops.step {g f : Nat → Option α} {r : α} (h : ∀ k, g (k + 1) = f k) (k : Stops f r) : Stops g r := by
  obtain ⟨K, k⟩ := k
  refine ⟨K + 1, fun n hn => ?_⟩
  obtain ⟨m, rfl⟩ : ∃ m, n = m + 1 := ⟨n - 1, by omega⟩
  rw [h]
  exact k m (by omega)
theorem Stops.ifp {c : Prop} [Decidable c] {A B : Nat → Option α} {r : α} (h : c) (k : Stops A r) : Stops (fun n => if c then A n else B n) r := by
  obtain ⟨K, k⟩ := k
  exact ⟨K, fun n hn => (if_pos h).trans (k n hn)⟩
theorem Stops.ifn {c : Prop} [Decidable c] {A B : Nat → Option α} {r : α} (h : ¬ c) (k : Stops B r) : Stops (fun n => if c then A n else B n) r := by
  obtain ⟨K, k⟩ := k
  exact ⟨K, fun n hn => (if_neg h).trans (k n hn)⟩
theorem Stops.const {o : Option α} {r : α} (h : o = some r) : Stops (fun _ => o) r := ⟨0, fun _ _ => h⟩
theorem Stops.bindc {o : Option α} {f : Nat → α → Option β} {a : α} {r : β} (h : o = some a) (k : Stops (fun n => f n a) r) : Stops (fun n => o.bind (f n)) r := by
  subst h
  exact k
theorem Stops.cast {g : Nat → Option α} {r q : α} (h : Stops g r) (e : r = q) : Stops g q := e ▸ h
/-- A loop that counts: from state 'F 0' to state 'F n', round by round; then its end. -/
theorem Stops.count {σ : Type} {g : Nat → σ → Option α} {r : α} (F : Nat → σ) (n : Nat) (hend : Stops (fun k => g k (F n)) r)
    (hstep : ∀ i, i < n → ∀ k, g (k + 1) (F i) = g k (F (i + 1))) : Stops (fun k => g k (F 0)) r := by
  induction n with
  | zero => exact hend
  | succ n ih => exact ih (Stops.step (hstep n (by omega)) hend) fun i hi => hstep i (by omega)
/-- A loop that counts, where a round calls what has rounds of its own. -/
theorem Stops.count' {σ : Type} {g : Nat → σ → Option α} {r : α} (F : Nat → σ) (n : Nat) (hend : Stops (fun k => g k (F n)) r)
    (hstep : ∀ i, i < n → Stops (fun k => g k (F (i + 1))) r → Stops (fun k => g k (F i)) r) : Stops (fun k => g k (F 0)) r := by
  induction n with
  | zero => exact hend
  | succ n ih => exact ih (hstep n (by omega) hend) fun i hi => hstep i (by omega)

/-- It holds from some number of rounds on. -/
def Evt (P : Nat → Prop) : Prop := ∃ K, ∀ k, K ≤ k → P k
theorem Stops.evt {g : Nat → Option α} {r : α} (h : Stops g r) : Evt (fun k => g k = some r) := h
theorem Evt.ev {g : Nat → Option α} {r : α} (h : Evt (fun k => g k = some r)) : Stops g r := h
theorem Evt.and {P Q : Nat → Prop} (h : Evt P) (k : Evt Q) : Evt (fun n => P n ∧ Q n) := by
  obtain ⟨K, h⟩ := h
  obtain ⟨K', k⟩ := k
  exact ⟨max K K', fun n hn => ⟨h n (by omega), k n (by omega)⟩⟩
theorem Stops.and {g : Nat → Option α} {r : α} {Q : Nat → Prop} (h : Stops g r) (k : Evt Q) : Evt (fun n => g n = some r ∧ Q n) := Evt.and h k
theorem Evt.mono {P Q : Nat → Prop} (h : Evt P) (k : ∀ m, P m → Q m) : Evt Q := by
  obtain ⟨K, h⟩ := h
  exact ⟨K, fun n hn => k n (h n hn)⟩
theorem Evt.succ {P Q : Nat → Prop} (h : Evt P) (k : ∀ m, P m → Q (m + 1)) : Evt Q := by
  obtain ⟨K, h⟩ := h
  refine ⟨K + 1, fun n hn => ?_⟩
  obtain ⟨m, rfl⟩ : ∃ m, n = m + 1 := ⟨n - 1, by omega⟩
  exact k m (h m (by omega))
theorem Evt.shift {P : Nat → Prop} (h : Evt P) : ∃ m, ∀ j, P (m + j) := by
  obtain ⟨K, h⟩ := h
  exact ⟨K, fun j => h _ (by omega)⟩
theorem Evt.true : Evt (fun _ => True) := ⟨0, fun _ _ => trivial⟩
/-- One round: what the rest comes to gives what the whole comes to. -/
theorem Stops.round {f : Nat → Option α} {g : Nat → Option β} {r : α} {q : β} (h : Stops f r) (k : ∀ m, f m = some r → g (m + 1) = some q) : Stops g q := Evt.succ (P := fun m => f m = some r) (Q := fun m => g m = some q) h k
theorem Stops.same {f : Nat → Option α} {g : Nat → Option β} {r : α} {q : β} (h : Stops f r) (k : ∀ m, f m = some r → g m = some q) : Stops g q := Evt.mono (P := fun m => f m = some r) (Q := fun m => g m = some q) h k
theorem Stops.now1 {g : Nat → Option α} {r : α} (h : ∀ m, g (m + 1) = some r) : Stops g r := ⟨1, fun n hn => by obtain ⟨m, rfl⟩ : ∃ m, n = m + 1 := ⟨n - 1, by omega⟩; exact h m⟩
/-- A loop over a list's places: from the place i on it comes to what 'val' says of the rest. -/
theorem Stops.over {σ γ : Type} (l : List γ) (g : Nat → Nat → σ → Option β) (val : List γ → σ → β)
    (hnil : ∀ s, Stops (fun k => g k l.length s) (val [] s))
    (hcons : ∀ (i : Nat) (hi : i < l.length) (s : σ), (∀ s', Stops (fun k => g k (i + 1) s') (val (l.drop (i + 1)) s')) → Stops (fun k => g k i s) (val (l[i] :: l.drop (i + 1)) s))
    (d : Nat) : ∀ (i : Nat) (s : σ), i + d = l.length → Stops (fun k => g k i s) (val (l.drop i) s) := by
  induction d with
  | zero =>
    intro i s h
    obtain rfl : i = l.length := by omega
    rw [List.drop_length]
    exact hnil s
  | succ d ih =>
    intro i s h
    have hi : i < l.length := by omega
    rw [List.drop_eq_getElem_cons hi]
    exact hcons i hi s fun s' => ih (i + 1) s' (by omega)
theorem Stops.over0 {σ γ : Type} (l : List γ) (g : Nat → Nat → σ → Option β) (val : List γ → σ → β) (s : σ)
    (hnil : ∀ s, Stops (fun k => g k l.length s) (val [] s))
    (hcons : ∀ (i : Nat) (hi : i < l.length) (s : σ), (∀ s', Stops (fun k => g k (i + 1) s') (val (l.drop (i + 1)) s')) → Stops (fun k => g k i s) (val (l[i] :: l.drop (i + 1)) s)) :
    Stops (fun k => g k 0 s) (val l s) := Stops.over l g val hnil hcons l.length 0 s (by omega)

/-! lists -/
theorem rd_nat (l : List Int) (i : Nat) : rd l (i : Int) = l.getD i 0 := by unfold rd; rw [Int.toNat_natCast]
/-- The list a, a + 1, .. of n numbers. -/
def upFrom (a : Int) : Nat → List Int
  | 0 => []
  | n + 1 => a :: upFrom (a + 1) n
theorem upFrom_length (n : Nat) : ∀ a, (upFrom a n).length = n := by
  induction n with
  | zero => intro a; rfl
  | succ n ih => intro a; simp [upFrom, ih]
theorem upFrom_getD (n : Nat) : ∀ (a : Int) (i : Nat), i < n → (upFrom a n).getD i 0 = a + i := by
  induction n with
  | zero => intro a i h; omega
  | succ n ih =>
    intro a i h
    cases i with
    | zero => simp [upFrom]
    | succ i => simp only [upFrom, List.getD_cons_succ]; rw [ih _ _ (by omega)]; push_cast; omega
theorem upFrom_append (n : Nat) : ∀ (a : Int), upFrom a (n + 1) = upFrom a n ++ [a + n] := by
  induction n with
  | zero => intro a; simp [upFrom]
  | succ n ih =>
    intro a
    rw [upFrom, ih]
    simp only [upFrom, List.cons_append]
    push_cast
    rw [show a + 1 + (n : Int) = a + ((n : Int) + 1) by omega]
theorem set_split (l : List Int) (m : Nat) (pre : List Int) (v : Int) (hp : pre.length = m) (hm : m < l.length) :
    (pre ++ l.drop m).set m v = (pre ++ [v]) ++ l.drop (m + 1) := by
  subst hp
  rw [List.set_append_right _ _ (Nat.le_refl _), Nat.sub_self, List.drop_eq_getElem_cons hm, List.set_cons_zero, List.append_assoc]
  rfl
theorem rd_at (l : List Int) (i : Nat) (hi : i < l.length) : rd l (i : Int) = l[i] := by rw [rd_nat, List.getD_eq_getElem?_getD, List.getElem?_eq_getElem hi]; rfl
theorem getD_split (l : List Int) (m : Nat) (hm : m < l.length) : l.take (m + 1) = l.take m ++ [l.getD m 0] := by
  rw [List.take_succ_eq_append_getElem hm, List.getD_eq_getElem?_getD, List.getElem?_eq_getElem hm]; rfl
theorem set_fill (l : List Int) (i : Nat) (hi : i < l.length) :
    (l.take i ++ List.replicate (l.length - i) (0 : Int)).set i (l[i]) = l.take (i + 1) ++ List.replicate (l.length - (i + 1)) 0 := by
  have h1 : (l.take i).length = i := by rw [List.length_take]; omega
  rw [List.set_append_right _ _ (by omega), h1, Nat.sub_self, List.take_succ_eq_append_getElem hi]
  obtain ⟨d, hd⟩ : ∃ d, l.length - i = d + 1 := ⟨l.length - i - 1, by omega⟩
  rw [hd, List.replicate_succ, List.set_cons_zero, show l.length - (i + 1) = d by omega, List.append_assoc]
  rfl
/-- The numbers 0, .., n - 1 of which p holds. -/
def numsTo (p : Int → Bool) : Nat → List Int
  | 0 => []
  | n + 1 => if p n = true then numsTo p n ++ [(n : Int)] else numsTo p n
theorem numsTo_length (p : Int → Bool) (n : Nat) : (numsTo p n).length ≤ n := by
  induction n with
  | zero => simp [numsTo]
  | succ n ih =>
    unfold numsTo
    split
    · rw [List.length_append, List.length_singleton]; omega
    · omega

/-! the program's own words -/
def isN (n : Int) : Bool := decide (1 ≤ n ∧ n ≤ 12)
def isM (n : Int) : Bool := decide (0 ≤ n ∧ n ≤ 2)
def isA (n : Int) : Bool := decide (0 ≤ n ∧ n ≤ 30)
def isQ (n q : Int) : Bool := isN n && decide (0 ≤ q ∧ q ≤ wrap64 (shl .i64 1 n - 1))
theorem isN_bd {n : Int} (h : isN n = true) : 1 ≤ n ∧ n ≤ 12 := of_decide_eq_true h
theorem isM_bd {n : Int} (h : isM n = true) : 0 ≤ n ∧ n ≤ 2 := of_decide_eq_true h
theorem isA_bd {n : Int} (h : isA n = true) : 0 ≤ n ∧ n ≤ 30 := of_decide_eq_true h
theorem isQ_bd {n q : Int} (h : isQ n q = true) : 1 ≤ n ∧ n ≤ 12 ∧ 0 ≤ q ∧ q ≤ 4095 := by
  unfold isQ at h
  rw [Bool.and_eq_true, decide_eq_true_eq] at h
  obtain ⟨h1, h2, h3⟩ := h
  have h1 := isN_bd h1
  rw [shl_one (by omega) (by omega)] at h3
  have h4 : (2 : Int) ^ n.toNat ≤ 2 ^ 12 := pow_le' (by omega)
  have h5 := pow_pos' n.toNat
  rw [w64 (by omega) (by omega)] at h3
  omega
def waysV (q : Int) : Nat → Int
  | 0 => 1
  | i + 1 => wrap64 (Int.tdiv (wrap64 (waysV q i * wrap64 (q - i))) ((i : Int) + 1))
def ballV (q : Int) : Nat → Int
  | 0 => 0
  | i + 1 => wrap64 (ballV q i + waysV q i)
def qOf (n : Int) : List Int → Int → Int × Bool
  | [], q => (q, true)
  | x :: t, q => if 0 ≤ x ∧ x ≤ wrap64 (n - 1) then qOf n t (Go.bits .or .i64 q (shl .i64 1 x)) else (0, false)
def sumV (s : ByteArray) : Nat → Int
  | 0 => 7
  | i + 1 => Int.tmod (wrap64 (wrap64 (wrap64 (41 * sumV s i) + wrap64 (bt s i)) + 1)) 999979
theorem ballV_all : ∀ q : Fin 31, ∀ k : Fin 3, 1 ≤ ballV (q.val : Int) ((mn (q.val : Int) (k.val : Int)) + 1).toNat ∧ ballV (q.val : Int) ((mn (q.val : Int) (k.val : Int)) + 1).toNat ≤ 466 := by decide +kernel
theorem ballV_bd (q k : Int) (h0 : 0 ≤ q) (h1 : q ≤ 30) (h2 : 0 ≤ k) (h3 : k ≤ 2) : 1 ≤ ballV q ((mn q k) + 1).toNat ∧ ballV q ((mn q k) + 1).toNat ≤ 466 := by
  obtain ⟨q, rfl⟩ := Int.eq_ofNat_of_zero_le h0
  obtain ⟨k, rfl⟩ := Int.eq_ofNat_of_zero_le h2
  exact ballV_all ⟨q, by omega⟩ ⟨k, by omega⟩
theorem ballV_ne (q k : Int) (h0 : 0 ≤ q) (h1 : q ≤ 30) (h2 : 0 ≤ k) (h3 : k ≤ 2) : ballV q ((mn q k) + 1).toNat ≠ 0 := by
  have := ballV_bd q k h0 h1 h2 h3
  omega

/-! bits -/
def hasB (q k : Int) : Bool := Go.bits .and .i64 (shr .i64 q k) 1 == 1
theorem wrap64_bd (n : Int) : -9223372036854775808 ≤ wrap64 n ∧ wrap64 n ≤ 9223372036854775807 := by unfold wrap64; omega
theorem bits_bd (op : BinOp) (x y : Int) : -9223372036854775808 ≤ Go.bits op .i64 x y ∧ Go.bits op .i64 x y ≤ 9223372036854775807 := by
  unfold Go.bits
  rw [wrap_i64]
  exact wrap64_bd _
theorem and_one (y : Int) : Go.bits .and .i64 y 1 = 0 ∨ Go.bits .and .i64 y 1 = 1 := by
  have h : ((BitVec.ofInt 64 y) &&& (BitVec.ofInt 64 1)).toNat = (BitVec.ofInt 64 y).toNat % 2 := by
    rw [BitVec.toNat_and]
    exact Nat.and_one_is_mod _
  have e0 : Go.bits .and .i64 y 1 = IntKind.i64.wrap (((BitVec.ofInt 64 y &&& BitVec.ofInt 64 1).toNat : Nat) : Int) := rfl
  rw [e0, h]
  rcases Nat.mod_two_eq_zero_or_one (BitVec.ofInt 64 y).toNat with e | e <;> rw [e]
  · left; rfl
  · right; rfl
theorem or_zero (x : Int) (h1 : -9223372036854775808 ≤ x) (h2 : x ≤ 9223372036854775807) : Go.bits .or .i64 x 0 = x := by
  have h : ((BitVec.ofInt 64 x) ||| (BitVec.ofInt 64 0)).toNat = (BitVec.ofInt 64 x).toNat := by simp
  have e0 : Go.bits .or .i64 x 0 = IntKind.i64.wrap (((BitVec.ofInt 64 x ||| BitVec.ofInt 64 0).toNat : Nat) : Int) := rfl
  rw [e0, h, wrap_i64, BitVec.toNat_ofInt]
  unfold wrap64
  omega
theorem shl_zero (k : Int) : shl .i64 0 k = 0 := by rw [shl_i64, Int.zero_mul]; exact w64 (by omega) (by omega)
/-- A bit that is set, or not: as one would write it with a test. -/
theorem or_bit (x w i k : Int) (h1 : -9223372036854775808 ≤ x) (h2 : x ≤ 9223372036854775807) :
    Go.bits .or .i64 x (shl .i64 (Go.bits .and .i64 (shr .i64 w i) 1) k) = if hasB w i = true then Go.bits .or .i64 x (shl .i64 1 k) else x := by
  unfold hasB
  rcases and_one (shr .i64 w i) with e | e <;> rw [e]
  · rw [if_neg (by simp), shl_zero, or_zero x h1 h2]
  · rw [if_pos (by simp)]

/-! texts -/
theorem strOfNums_size (l : List Int) : (strOfNums l).size = l.length := by simp [strOfNums, ByteArray.size]
def mtV : Nat → Int → ByteArray → ByteArray
  | 0, _, acc => (⟨#[109]⟩ : ByteArray) ++ acc
  | f + 1, x, acc => if x > 0 then mtV f (x / 10) (strOfNums [(wrap64 (48 + (Int.tmod x 10))) % 256] ++ acc) else (⟨#[109]⟩ : ByteArray) ++ acc
def textsFrom (a : Int) : Nat → List ByteArray
  | 0 => []
  | n + 1 => textsFrom a n ++ [mtV (a + n).toNat (a + n) ⟨#[]⟩]
theorem textsFrom_length (a : Int) (n : Nat) : (textsFrom a n).length = n := by
  induction n with
  | zero => rfl
  | succ n ih => simp [textsFrom, ih]
theorem textsFrom_append (a : Int) (n : Nat) : textsFrom a (n + 1) = textsFrom a n ++ [mtV (a + n).toNat (a + n) ⟨#[]⟩] := rfl
theorem textsFrom_getD (n : Nat) (a : Int) (i : Nat) (h : i < n) : (textsFrom a n).getD i ByteArray.empty = mtV (a + i).toNat (a + i) ⟨#[]⟩ := by
  induction n with
  | zero => omega
  | succ n ih =>
    rw [textsFrom, List.getD_eq_getElem?_getD]
    by_cases hi : i < n
    · rw [List.getElem?_append_left (by rw [textsFrom_length]; exact hi), ← List.getD_eq_getElem?_getD]
      exact ih hi
    · obtain rfl : i = n := by omega
      rw [List.getElem?_append_right (by rw [textsFrom_length]; omega), textsFrom_length, Nat.sub_self]; rfl
theorem set_splitS {γ : Type} (l : List γ) (m : Nat) (pre : List γ) (v : γ) (hp : pre.length = m) (hm : m < l.length) :
    (pre ++ l.drop m).set m v = (pre ++ [v]) ++ l.drop (m + 1) := by
  subst hp
  rw [List.set_append_right _ _ (Nat.le_refl _), Nat.sub_self, List.drop_eq_getElem_cons hm, List.set_cons_zero, List.append_assoc]
  rfl
def spV (s : ByteArray) (b : Int) : Nat → List ByteArray × Int
  | 0 => ([], 0)
  | i + 1 => if bt s i = b then ((spV s b i).1 ++ [s.extract (spV s b i).2.toNat i], (i : Int) + 1) else spV s b i
theorem spV_bd (s : ByteArray) (b : Int) (i : Nat) : 0 ≤ (spV s b i).2 ∧ (spV s b i).2 ≤ i ∧ (spV s b i).1.length ≤ i := by
  induction i with
  | zero => simp [spV]
  | succ i ih =>
    unfold spV
    split
    · refine ⟨by simp only; omega, by simp only; omega, by simp only [List.length_append, List.length_singleton]; omega⟩
    · omega

/-! a list, asked by a predicate -/
def idxInt (p : Int → Bool) : List Int → Int → Int
  | [], _ => -1
  | x :: t, k => if p x = true then k else idxInt p t (k + 1)
theorem idxInt_any (p : Int → Bool) (l : List Int) : ∀ k : Int, 0 ≤ k → decide (0 ≤ idxInt p l k) = l.any p := by
  induction l with
  | nil => intro k _; rfl
  | cons x t ih =>
    intro k hk
    unfold idxInt
    rw [List.any_cons]
    cases hx : p x
    · simp only [Bool.false_or]
      exact ih (k + 1) (by omega)
    · simpa using hk
theorem idxInt_hit (p : Int → Bool) (l : List Int) (k : Nat) (h : k < l.length) (hp : p (rd l k) = true) : idxInt p (l.drop k) k = k := by
  rw [List.drop_eq_getElem_cons h, idxInt, if_pos (by rw [rd, Int.toNat_natCast, List.getD_eq_getElem?_getD, List.getElem?_eq_getElem h] at hp; exact hp)]
theorem idxInt_on (p : Int → Bool) (l : List Int) (k : Nat) (h : k < l.length) (hp : p (rd l k) = false) : idxInt p (l.drop k) k = idxInt p (l.drop (k + 1)) (k + 1 : Nat) := by
  rw [List.drop_eq_getElem_cons h, idxInt, if_neg (by rw [rd, Int.toNat_natCast, List.getD_eq_getElem?_getD, List.getElem?_eq_getElem h] at hp; simp at hp; simp [hp])]; rfl

def idxOf {γ : Type} (p : γ → Bool) : List γ → Int → Int
  | [], _ => -1
  | x :: t, k => if p x = true then k else idxOf p t (k + 1)
theorem idxOf_any {γ : Type} (p : γ → Bool) (l : List γ) : ∀ k : Int, 0 ≤ k → decide (0 ≤ idxOf p l k) = l.any p := by
  induction l with
  | nil => intro k _; rfl
  | cons x t ih =>
    intro k hk
    unfold idxOf
    rw [List.any_cons]
    cases hx : p x
    · simp only [Bool.false_or]
      exact ih (k + 1) (by omega)
    · simpa using hk
theorem idxOf_hit {γ : Type} (p : γ → Bool) (z : γ) (l : List γ) (k : Nat) (h : k < l.length) (hp : p (l.getD (k : Int).toNat z) = true) : idxOf p (l.drop k) k = k := by
  rw [List.drop_eq_getElem_cons h, idxOf, if_pos (by rw [Int.toNat_natCast, List.getD_eq_getElem?_getD, List.getElem?_eq_getElem h] at hp; exact hp)]
theorem idxOf_on {γ : Type} (p : γ → Bool) (z : γ) (l : List γ) (k : Nat) (h : k < l.length) (hp : p (l.getD (k : Int).toNat z) = false) : idxOf p (l.drop k) k = idxOf p (l.drop (k + 1)) (k + 1 : Nat) := by
  rw [List.drop_eq_getElem_cons h, idxOf, if_neg (by rw [Int.toNat_natCast, List.getD_eq_getElem?_getD, List.getElem?_eq_getElem h] at hp; simp at hp; simp [hp])]; rfl

/-- Column i of a table of words: bit k is bit i of word k; of the first n words. -/
def colV (l : List Int) (i : Int) : Nat → Int
  | 0 => 0
  | k + 1 => if hasB (l.getD k 0) i = true then Go.bits .or .i64 (colV l i k) (shl .i64 1 k) else colV l i k
theorem colV_bd (l : List Int) (i : Int) (n : Nat) : -9223372036854775808 ≤ colV l i n ∧ colV l i n ≤ 9223372036854775807 := by
  induction n with
  | zero => simp [colV]
  | succ n ih =>
    unfold colV
    split
    · exact bits_bd _ _ _
    · exact ih
theorem colV_step (l : List Int) (i : Int) (n : Nat) : Go.bits .or .i64 (colV l i n) (shl .i64 (Go.bits .and .i64 (shr .i64 (l.getD n 0) i) 1) n) = colV l i (n + 1) := by
  have h := colV_bd l i n
  rw [or_bit _ _ _ _ h.1 h.2]; rfl
def colsV (l : List Int) (q : Nat) (n : Nat) : List Int := (List.range q).map fun i => colV l (i : Nat) n
theorem colsV_length (l : List Int) (q n : Nat) : (colsV l q n).length = q := by simp [colsV]
theorem colsV_getD (l : List Int) (q n i : Nat) (h : i < q) : (colsV l q n).getD i 0 = colV l (i : Nat) n := by
  rw [List.getD_eq_getElem?_getD, colsV, List.getElem?_map, List.getElem?_range h]; rfl
theorem colsV_zero (l : List Int) (q : Nat) : colsV l q 0 = List.replicate q 0 := by
  apply List.ext_getElem
  · simp [colsV]
  · intro i h1 h2; simp [colsV, colV]
/-- The first i columns whole, the others empty (spec); the first i columns of n + 1 words, the others of n (impl). -/
def mixV (l : List Int) (q a b i : Nat) : List Int := (List.range q).map fun j => if j < i then colV l (j : Nat) a else colV l (j : Nat) b
theorem mixV_length (l : List Int) (q a b i : Nat) : (mixV l q a b i).length = q := by simp [mixV]
theorem mixV_zero (l : List Int) (q a b : Nat) : mixV l q a b 0 = colsV l q b := by simp [mixV, colsV]
theorem mixV_all (l : List Int) (q a b : Nat) : mixV l q a b q = colsV l q a := by
  apply List.ext_getElem
  · simp [mixV, colsV]
  · intro i h1 h2
    have : i < q := by simpa [mixV] using h1
    simp [mixV, colsV, this]
theorem mixV_getD (l : List Int) (q a b i j : Nat) (h : j < q) : (mixV l q a b i).getD j 0 = if j < i then colV l (j : Nat) a else colV l (j : Nat) b := by
  rw [List.getD_eq_getElem?_getD, mixV, List.getElem?_map, List.getElem?_range h]; rfl
theorem mixV_set (l : List Int) (q a b i : Nat) (h : i < q) : (mixV l q a b i).set i (colV l (i : Nat) a) = mixV l q a b (i + 1) := by
  apply List.ext_getElem
  · simp [mixV]
  · intro j h1 h2
    have hj : j < q := by simpa [mixV] using h2
    rw [List.getElem_set]
    simp only [mixV, List.getElem_map, List.getElem_range]
    by_cases e : i = j
    · subst e
      rw [if_pos rfl, if_pos (by omega)]
    · rw [if_neg e]
      by_cases g : j < i
      · rw [if_pos g, if_pos (by omega)]
      · rw [if_neg g, if_neg (by omega)]
theorem mixV_same (l : List Int) (q a b i : Nat) (h : i < q) : (mixV l q a b i).set i (colV l (i : Nat) b) = mixV l q a b i := by
  apply List.ext_getElem
  · simp [mixV]
  · intro j h1 h2
    rw [List.getElem_set]
    by_cases e : i = j
    · subst e
      rw [if_pos rfl]
      simp [mixV]
    · rw [if_neg e]
/-- The true word of number k: bit i is bit k of question i; of the first n questions. -/
def twV (l : List Int) (k : Int) : Nat → Int
  | 0 => 0
  | i + 1 => if hasB (l.getD i 0) k = true then Go.bits .or .i64 (twV l k i) (shl .i64 1 i) else twV l k i
theorem twV_col (l : List Int) (k : Int) (n : Nat) : twV l k n = colV l k n := by
  induction n with
  | zero => rfl
  | succ n ih => simp only [twV, colV, ih]
theorem twV_step (l : List Int) (k : Int) (n : Nat) : Go.bits .or .i64 (twV l k n) (shl .i64 (Go.bits .and .i64 (shr .i64 (l.getD n 0) k) 1) n) = twV l k (n + 1) := by
  rw [twV_col, colV_step, ← twV_col]
/-- Is it a scheme for n numbers? -/
def isSch (n : Int) (l : List Int) : Bool := isN n && decide (l.length ≤ 14) && !(l.any fun x => !isQ n x)
/-- Is it a State: the lies of the numbers, and most? -/
def isSt (l : List Int) (most : Int) : Bool := isN l.length && isM most && !(l.any fun x => !decide (-1 ≤ x ∧ x ≤ most))
/-- Are they words of so many questions? -/
def okSo (l : List Int) (q : Int) : Bool := isN l.length && decide (0 ≤ q ∧ q ≤ 14) && !(l.any fun x => !decide (0 ≤ x ∧ x ≤ wrap64 (shl .i64 1 q - 1)))
/-- Are they counts? -/
def sumI : List Int → Int → Int
  | [], s => s
  | x :: t, s => sumI t (wrap64 (s + x))
def areC (l : List Int) : Bool := decide (1 ≤ l.length ∧ l.length ≤ 3) && !(l.any fun x => !decide (0 ≤ x ∧ x ≤ 8)) && decide (sumI l 0 ≤ 8)

theorem and_bind (a b : Bool) : ((some a).bind fun t => if t = true then ((some b).bind fun u => some u) else some false) = some (a && b) := by cases a <;> rfl
/-- A loop that asks each element, but for at most c + 1 of them; then 'rest'. -/
def chkV {γ : Type} (p : γ → Bool) (rest : Bool) (c : Nat) : List γ → Nat → Bool
  | [], _ => rest
  | x :: t, i => if i ≤ c then (if p x = true then chkV p rest c t (i + 1) else false) else rest
theorem chkV_eq {γ : Type} (p : γ → Bool) (rest : Bool) (c : Nat) (l : List γ) : ∀ i, (rest = true → l.length + i ≤ c + 1) → chkV p rest c l i = (rest && l.all p) := by
  induction l with
  | nil => intro i _; simp [chkV]
  | cons x t ih =>
    intro i h
    unfold chkV
    rw [List.all_cons]
    by_cases hi : i ≤ c
    · rw [if_pos hi]
      cases hx : p x
      · simp
      · rw [if_pos rfl, ih (i + 1) (fun g => by have := h g; rw [List.length_cons] at this; omega)]
        simp
    · rw [if_neg hi]
      cases hr : rest
      · simp
      · have := h hr
        rw [List.length_cons] at this
        omega
/-- A function that has a body is entered. -/
theorem enters_fn {P : Program} {f : FuncId} {fn : Func} {c : Code} (hf : P.funcs[f]? = some fn) (hname : (fn.name == "runtime.NumGoroutine") = false) (hb : fn.body = some c) :
    ∀ (args : Array Value) (w : World), (callFunc f args).run P w = .ok (.enter f args) w := by
  intro args w
  have h1 : fn.name ≠ "runtime.NumGoroutine" := by simpa using hname
  simp [callFunc, hf, h1, hb, mark]

end Go.Proofs.Ytmckmagdiokhiaa.Lib
