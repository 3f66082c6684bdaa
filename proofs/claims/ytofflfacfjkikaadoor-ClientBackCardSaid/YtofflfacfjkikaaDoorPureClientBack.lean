/- A request is read back from its octets; what is read is built again of what was read: for every request and every octets, no condition beyond the form's reach. -/
import Derived.Test.YtofflfacfjkikaaDoorPCbkx
import Derived.Test.YtofflfacfjkikaaDoorInClientBack
import Derived.Lib.Bytes
import Derived.Laws.Bits64b
namespace Go.Proofs.YtofflfacfjkikaaDoor.Pure
open Go.RowKit Go.Proofs.YtofflfacfjkikaaDoor.PCbk Go.Proofs.YtofflfacfjkikaaDoorW.PrintWords Go.Proofs.YtofflfacfjkikaaDoorW.PrintLast Go.Proofs.YtofflfacfjkikaaDoorW.PrintMore
set_option linter.unusedVariables false
set_option linter.unusedSimpArgs false

theorem w_id {x : Int} (h0 : -9223372036854775808 ≤ x) (h1 : x ≤ 9223372036854775807) : wrap64 x = x := by unfold wrap64; omega
theorem wf_i64 {a : Int} (h : (Lit.int .i64 a).wf = true) : -9223372036854775808 ≤ a ∧ a ≤ 9223372036854775807 := by
  simpa [Lit.wf, IntKind.min, IntKind.max, IntKind.signed, IntKind.bits] using h
theorem wf_u8 {a : Int} (h : (Lit.int .u8 a).wf = true) : 0 ≤ a ∧ a ≤ 255 := by
  simpa [Lit.wf, IntKind.min, IntKind.max, IntKind.signed, IntKind.bits] using h
theorem wf_u32 {a : Int} (h : (Lit.int .u32 a).wf = true) : 0 ≤ a ∧ a ≤ 4294967295 := by
  simpa [Lit.wf, IntKind.min, IntKind.max, IntKind.signed, IntKind.bits] using h
theorem wf_u64 {a : Int} (h : (Lit.int .u64 a).wf = true) : 0 ≤ a ∧ a ≤ 18446744073709551615 := by
  simpa [Lit.wf, IntKind.min, IntKind.max, IntKind.signed, IntKind.bits] using h
/-- All are octets. -/
def Oct (l : List Int) : Prop := ∀ x ∈ l, 0 ≤ x ∧ x ≤ 255
theorem Oct.of_wf {l : List Int} (h : ∀ x ∈ l, (Lit.int .u8 x).wf = true) : Oct l := fun x hx => wf_u8 (h x hx)
theorem Oct.nil : Oct [] := fun _ h => by cases h
theorem Oct.append {a b : List Int} (ha : Oct a) (hb : Oct b) : Oct (a ++ b) := fun x hx => (List.mem_append.1 hx).elim (ha x) (hb x)
theorem Oct.take {a : List Int} (ha : Oct a) (n : Nat) : Oct (a.take n) := fun x hx => ha x (List.mem_of_mem_take hx)
theorem Oct.drop {a : List Int} (ha : Oct a) (n : Nat) : Oct (a.drop n) := fun x hx => ha x (List.mem_of_mem_drop hx)
theorem rd_nat (l : List Int) (k : Nat) (h : k < l.length) : rd l (k : Int) = l[k] := by
  unfold rd
  simp [List.getD_eq_getElem?_getD, h]

theorem sameBytes_loop (a b : List Int) (hl : a.length = b.length) (hm : a.length ≤ 9223372036854775807) : ∀ (d k i : Nat), i + d = a.length → d < k → a.take i = b.take i →
    undercroftplain_SameBytes.l0 k a b (i : Int) = some (decide (a = b)) := by
  intro d
  induction d with
  | zero =>
    intro k i hi hk ht
    obtain ⟨k, rfl⟩ : ∃ m, k = m + 1 := ⟨k - 1, by omega⟩
    simp only [undercroftplain_SameBytes.l0]
    rw [if_neg (by omega)]
    have : a = b := by
      rw [List.take_of_length_le (by omega), List.take_of_length_le (by omega)] at ht
      exact ht
    rw [decide_eq_true this]
  | succ d ih =>
    intro k i hi hk ht
    obtain ⟨k, rfl⟩ : ∃ m, k = m + 1 := ⟨k - 1, by omega⟩
    simp only [undercroftplain_SameBytes.l0]
    rw [if_pos (by omega), if_pos (by omega), if_pos (by omega), rd_nat a i (by omega), rd_nat b i (by omega)]
    by_cases h : a[i]'(by omega) = b[i]'(by omega)
    · rw [if_pos h, w_id (by omega) (by omega)]
      have := ih k (i + 1) (by omega) (by omega) (by
        rw [List.take_succ_eq_append_getElem (by omega), List.take_succ_eq_append_getElem (by omega), ht, h])
      exact_mod_cast this
    · rw [if_neg h]
      have : a ≠ b := by
        rintro rfl
        exact h rfl
      rw [decide_eq_false this]
theorem sameBytes_is (a b : List Int) (k : Nat) (hk : a.length < k) (hm : a.length ≤ 9223372036854775807) : undercroftplain_SameBytes.f k a b = some (decide (a = b)) := by
  unfold undercroftplain_SameBytes.f
  by_cases hl : a.length = b.length
  · rw [if_pos (by omega)]
    exact sameBytes_loop a b hl hm a.length k 0 (by omega) hk rfl
  · rw [if_neg (by omega)]
    have : a ≠ b := by
      rintro rfl
      exact hl rfl
    rw [decide_eq_false this]

/-- '(a % n + n) % n' lies in 0 .. n - 1. -/
theorem mod_in (a n : Int) (h0 : 0 < n) (h1 : n ≤ 4611686018427387904) : 0 ≤ Int.tmod (wrap64 ((Int.tmod a n) + n)) n ∧ Int.tmod (wrap64 ((Int.tmod a n) + n)) n < n := by
  have h1' := Int.tmod_lt_of_pos a h0
  have h2 : -n < Int.tmod a n := by
    rcases Int.le_total 0 a with h | h
    · have := Int.tmod_nonneg n h; omega
    · have := Int.neg_tmod (a := a) (b := n)
      have h3 := Int.tmod_lt_of_pos (-a) h0
      omega
  rw [w_id (by omega) (by omega)]
  have h3 := Int.tmod_lt_of_pos (Int.tmod a n + n) h0
  have h4 := Int.tmod_nonneg n (show 0 ≤ Int.tmod a n + n by omega)
  omega


namespace CrcMath
abbrev R := BitVec 32
def poly : R := 0xedb88320#32
def b1 (c : R) : R := (c >>> 1) ^^^ (if c.getLsbD 0 then poly else 0#32)
def bs : Nat → R → R
  | 0, c => c
  | n + 1, c => bs n (b1 c)
theorem b1_zero : b1 0#32 = 0#32 := by decide
theorem b1_xor (a b : R) : b1 (a ^^^ b) = b1 a ^^^ b1 b := by
  unfold b1
  rw [BitVec.ushiftRight_xor_distrib, BitVec.getLsbD_xor]
  cases a.getLsbD 0 <;> cases b.getLsbD 0 <;> simp
  · ac_rfl
  · ac_rfl
  · rw [show a >>> 1 ^^^ poly ^^^ (b >>> 1 ^^^ poly) = (a >>> 1 ^^^ b >>> 1) ^^^ (poly ^^^ poly) by ac_rfl]
    simp
theorem bs_zero (n : Nat) : bs n 0#32 = 0#32 := by
  induction n with
  | zero => rfl
  | succ n ih => rw [bs, b1_zero, ih]
theorem bs_xor (n : Nat) (a b : R) : bs n (a ^^^ b) = bs n a ^^^ bs n b := by
  induction n generalizing a b with
  | zero => rfl
  | succ n ih => rw [bs, b1_xor, ih]; rfl
theorem bs_add (m n : Nat) (c : R) : bs (m + n) c = bs n (bs m c) := by
  induction m generalizing c with
  | zero => simp [bs]
  | succ m ih => rw [Nat.succ_add, bs, ih]; rfl
theorem b1_eq_zero (c : R) (h : b1 c = 0#32) : c = 0#32 := by
  unfold b1 at h
  by_cases h0 : c.getLsbD 0 = true
  · exfalso
    have h31 := congrArg (fun x : R => x.getLsbD 31) h
    simp [h0, poly] at h31
  · have h0' : c.getLsbD 0 = false := by simpa using h0
    rw [h0'] at h
    simp at h
    apply BitVec.eq_of_getLsbD_eq
    intro i hi
    rcases Nat.eq_zero_or_pos i with rfl | hp
    · simpa using h0'
    · have := congrArg (fun x : R => x.getLsbD (i - 1)) h
      simp only [BitVec.getLsbD_ushiftRight] at this
      rw [show 1 + (i - 1) = i by omega] at this
      simpa using this
theorem bs_eq_zero (n : Nat) (c : R) (h : bs n c = 0#32) : c = 0#32 := by
  induction n generalizing c with
  | zero => exact h
  | succ n ih => exact b1_eq_zero c (ih _ h)
theorem xor_eq_zero {a b : R} (h : a ^^^ b = 0#32) : a = b := by
  have := congrArg (fun x => x ^^^ b) h
  simpa [BitVec.xor_assoc] using this
theorem bs_inj (n : Nat) (a b : R) (h : bs n a = bs n b) : a = b := by
  apply xor_eq_zero
  apply bs_eq_zero n
  rw [bs_xor, h]
  simp
/-- Bits above the lowest n fall down. -/
theorem b1_even (c : R) (h : c.getLsbD 0 = false) : b1 c = c >>> 1 := by
  unfold b1
  rw [h]
  simp
theorem bs_high (n : Nat) (c : R) (h : ∀ i, i < n → c.getLsbD i = false) : bs n c = c >>> n := by
  induction n generalizing c with
  | zero => simp [bs]
  | succ n ih =>
    rw [bs, b1_even c (h 0 (by omega)), ih, ← BitVec.shiftRight_add]
    · rw [Nat.add_comm]
    · intro i hi
      rw [BitVec.getLsbD_ushiftRight]
      exact h _ (by omega)
/-- Four bits at once: a table of sixteen serves. -/
theorem bs4 (c : R) : bs 4 c = (c >>> 4) ^^^ bs 4 (c &&& 15#32) := by
  have hc : c = (c >>> 4 <<< 4) ^^^ (c &&& 15#32) := by
    apply BitVec.eq_of_getLsbD_eq
    intro i hi
    simp only [BitVec.getLsbD_xor, BitVec.getLsbD_shiftLeft, BitVec.getLsbD_ushiftRight, BitVec.getLsbD_and]
    by_cases h4 : i < 4
    · have : (15#32).getLsbD i = true := by
        rcases i with _ | _ | _ | _ | i <;> first | rfl | omega
      simp [h4, this]
    · have : (15#32).getLsbD i = false := by
        rw [show (15#32) = BitVec.ofNat 32 15 from rfl, BitVec.getLsbD_ofNat]
        have : Nat.testBit 15 i = false := Nat.testBit_lt_two_pow (Nat.lt_of_lt_of_le (by decide : 15 < 2 ^ 4) (Nat.pow_le_pow_right (by decide) (by omega)))
        simp [this]
      rw [this, show 4 + (i - 4) = i by omega]
      simp [h4, hi]
  have h1 : bs 4 (c >>> 4 <<< 4) = c >>> 4 := by
    rw [bs_high]
    · apply BitVec.eq_of_getLsbD_eq
      intro i hi
      simp only [BitVec.getLsbD_shiftLeft, BitVec.getLsbD_ushiftRight]
      by_cases h : 4 + i < 32
      · simp [h]
      · simp [h]
        exact (BitVec.getLsbD_of_ge _ _ (by omega))
    · intro i hi
      simp [BitVec.getLsbD_shiftLeft, hi]
  calc bs 4 c = bs 4 ((c >>> 4 <<< 4) ^^^ (c &&& 15#32)) := by rw [← hc]
    _ = _ := by rw [bs_xor, h1]
/-- An octet more. -/
def step (c : R) (x : BitVec 8) : R := bs 8 (c ^^^ x.setWidth 32)
def run (c : R) (l : List (BitVec 8)) : R := l.foldl step c
theorem run_append (c : R) (a b : List (BitVec 8)) : run c (a ++ b) = run (run c a) b := by simp [run]
theorem step_xor (c d : R) (x y : BitVec 8) : step (c ^^^ d) (x ^^^ y) = step c x ^^^ step d y := by
  unfold step
  rw [← bs_xor]
  congr 1
  rw [BitVec.setWidth_xor]
  ac_rfl
/-- Two texts of one length. -/
def mix : List (BitVec 8) → List (BitVec 8) → List (BitVec 8) := List.zipWith (· ^^^ ·)
theorem run_mix (a b : List (BitVec 8)) (h : a.length = b.length) (c d : R) : run (c ^^^ d) (mix a b) = run c a ^^^ run d b := by
  induction a generalizing b c d with
  | nil => cases b with
    | nil => rfl
    | cons _ _ => simp at h
  | cons x a ih => cases b with
    | nil => simp at h
    | cons y b =>
      show run (step (c ^^^ d) (x ^^^ y)) (mix a b) = run (step c x) a ^^^ run (step d y) b
      rw [step_xor]
      exact ih b (by simpa using h) _ _
theorem run_inj (l : List (BitVec 8)) (c d : R) (h : run c l = run d l) : c = d := by
  induction l generalizing c d with
  | nil => exact h
  | cons x l ih =>
    have := bs_inj 8 _ _ (ih _ _ h)
    have h2 := congrArg (fun z => z ^^^ x.setWidth 32) this
    simpa [BitVec.xor_assoc] using h2
/-- What a register's change comes to behind a text. -/
theorem run_xor (l : List (BitVec 8)) (c d : R) : run (c ^^^ d) l = run c l ^^^ bs (8 * l.length) d := by
  induction l generalizing c d with
  | nil => simp [run, bs]
  | cons x l ih =>
    have h : step (c ^^^ d) x = step c x ^^^ bs 8 d := by
      unfold step
      rw [← bs_xor]
      congr 1
      ac_rfl
    show run (step (c ^^^ d) x) l = run (step c x) l ^^^ bs (8 * (l.length + 1)) d
    rw [h, ih, ← bs_add, show 8 + 8 * l.length = 8 * (l.length + 1) by omega]
theorem bs_shl (n : Nat) (x : R) (h : x <<< n >>> n = x) : bs n (x <<< n) = x := by
  rw [bs_high, h]
  intro i hi
  simp [BitVec.getLsbD_shiftLeft, hi]
theorem one_shl (q : Nat) (h : q < 32) : (1#32) <<< q >>> q = 1#32 := by
  apply BitVec.eq_of_getLsbD_eq
  intro i hi
  simp only [BitVec.getLsbD_ushiftRight, BitVec.getLsbD_shiftLeft]
  by_cases h0 : i = 0
  · subst h0; simp [h]
  · have : (1#32).getLsbD i = false := by
      rw [BitVec.getLsbD_one]; simp [h0]
    rw [show q + i - q = i by omega, this]; simp
theorem bs_one (q m : Nat) (hq : q < 32) (hm : q ≤ m) : bs m ((1#32) <<< q) = bs (m - q) 1#32 := by
  have : bs (q + (m - q)) ((1#32) <<< q) = bs (m - q) 1#32 := by rw [bs_add, bs_shl _ _ (one_shl q hq)]
  rwa [show q + (m - q) = m by omega] at this
/-- One bit turned. -/
theorem run_turn (l : List (BitVec 8)) (c : R) (j q : Nat) (hj : j < l.length) (hq : q < 8) :
    run c (l.set j (l[j] ^^^ (1#8) <<< q)) = run c l ^^^ bs (8 * (l.length - j) - q) 1#32 := by
  induction l generalizing c j with
  | nil => simp at hj
  | cons x l ih =>
    cases j with
    | zero =>
      show run (step c (x ^^^ (1#8) <<< q)) l = run (step c x) l ^^^ bs (8 * (l.length + 1 - 0) - q) 1#32
      have h : step c (x ^^^ (1#8) <<< q) = step c x ^^^ bs (8 - q) 1#32 := by
        rw [← bs_one q 8 (by omega) (by omega)]
        unfold step
        rw [← bs_xor]
        congr 1
        rw [BitVec.setWidth_xor]
        have : BitVec.setWidth 32 ((1#8) <<< q) = (1#32) <<< q := by
          rcases q with _ | _ | _ | _ | _ | _ | _ | _ | q <;> first | rfl | omega
        rw [this]
        ac_rfl
      rw [h, run_xor, ← bs_add, show 8 - q + 8 * l.length = 8 * (l.length + 1 - 0) - q by omega]
    | succ j =>
      show run (step c x) (l.set j (l[j]'(by simpa using hj) ^^^ (1#8) <<< q)) = run (step c x) l ^^^ bs (8 * (l.length + 1 - (j + 1)) - q) 1#32
      rw [ih _ _ (by simpa using hj), show l.length + 1 - (j + 1) = l.length - j by omega]
/-- A register's octets, the lowest first. -/
def low (t : R) : List (BitVec 8) := [t.setWidth 8, (t >>> 8).setWidth 8, (t >>> 16).setWidth 8, (t >>> 24).setWidth 8]
theorem part_shl (t : R) (n : Nat) (hn : n ≤ 24) : ((t >>> n).setWidth 8).setWidth 32 <<< n >>> n = ((t >>> n).setWidth 8).setWidth 32 := by
  apply BitVec.eq_of_getLsbD_eq
  intro i hi
  simp only [BitVec.getLsbD_ushiftRight, BitVec.getLsbD_shiftLeft, BitVec.getLsbD_setWidth]
  by_cases h8 : i < 8
  · rw [show n + i - n = i by omega]
    have : n + i < 32 := by omega
    simp [h8, this, hi]
  · rw [show n + i - n = i by omega]
    simp [h8]
theorem low_join (t : R) : (t.setWidth 8).setWidth 32 ^^^ ((t >>> 8).setWidth 8).setWidth 32 <<< 8 ^^^ ((t >>> 16).setWidth 8).setWidth 32 <<< 16 ^^^ ((t >>> 24).setWidth 8).setWidth 32 <<< 24 = t := by
  apply BitVec.eq_of_getLsbD_eq
  intro i hi
  simp only [BitVec.getLsbD_xor, BitVec.getLsbD_shiftLeft, BitVec.getLsbD_setWidth, BitVec.getLsbD_ushiftRight]
  by_cases h1 : i < 8
  · simp [h1, hi, show i < 16 by omega, show i < 24 by omega]
  · by_cases h2 : i < 16
    · simp [h1, h2, hi, show i < 24 by omega, show i - 8 < 8 by omega, show 8 + (i - 8) = i by omega, show i - 8 < 32 by omega]
    · by_cases h3 : i < 24
      · simp [h1, h2, h3, hi, show ¬ i - 8 < 8 by omega, show i - 16 < 8 by omega, show 16 + (i - 16) = i by omega, show i - 16 < 32 by omega]
      · simp [h1, h2, h3, hi, show ¬ i - 8 < 8 by omega, show ¬ i - 16 < 8 by omega, show i - 24 < 8 by omega, show 24 + (i - 24) = i by omega, show i - 24 < 32 by omega]
theorem run_low (s t : R) : run s (low t) = bs 32 (s ^^^ t) := by
  have key : ∀ (n : Nat) (c : R), n ≤ 24 → step (bs n c) ((t >>> n).setWidth 8) = bs (n + 8) (c ^^^ ((t >>> n).setWidth 8).setWidth 32 <<< n) := by
    intro n c hn
    unfold step
    rw [bs_add, bs_xor n, bs_shl _ _ (part_shl t n hn)]
  have h0 := key 0 s (by omega)
  have e0 : t >>> 0 = t := by simp
  have s0 : ∀ x : R, x <<< 0 = x := by intro x; simp
  rw [e0, s0] at h0
  have h1 : step s (t.setWidth 8) = bs 8 (s ^^^ (t.setWidth 8).setWidth 32) := by rw [← h0]; rfl
  have h2 := key 8 (s ^^^ (t.setWidth 8).setWidth 32) (by omega)
  have h3 := key 16 (s ^^^ (t.setWidth 8).setWidth 32 ^^^ ((t >>> 8).setWidth 8).setWidth 32 <<< 8) (by omega)
  have h4 := key 24 (s ^^^ (t.setWidth 8).setWidth 32 ^^^ ((t >>> 8).setWidth 8).setWidth 32 <<< 8 ^^^ ((t >>> 16).setWidth 8).setWidth 32 <<< 16) (by omega)
  have hj := low_join t
  simp only [run, low, List.foldl_cons, List.foldl_nil]
  rw [h1, h2, h3, h4]
  generalize (t.setWidth 8).setWidth 32 = x0 at *
  generalize ((t >>> 8).setWidth 8).setWidth 32 <<< 8 = x1 at *
  generalize ((t >>> 16).setWidth 8).setWidth 32 <<< 16 = x2 at *
  generalize ((t >>> 24).setWidth 8).setWidth 32 <<< 24 = x3 at *
  subst hj
  congr 1
  ac_rfl
def sum (c : R) (l : List (BitVec 8)) : R := ~~~ run (~~~ c) l
def rest : R := bs 32 0xffffffff#32
theorem run_sealed (l : List (BitVec 8)) (t : R) : run 0xffffffff#32 (l ++ low t) = rest ↔ t = sum 0 l := by
  rw [run_append, run_low]
  unfold rest sum
  have e : (~~~ (0 : R)) = 0xffffffff#32 := by decide
  rw [e]
  constructor
  · intro h
    have := bs_inj 32 _ _ h
    have h2 := congrArg (fun z => run 0xffffffff#32 l ^^^ z) this
    simp only [← BitVec.xor_assoc, BitVec.xor_self, BitVec.zero_xor] at h2
    rw [h2]
    apply BitVec.eq_of_getLsbD_eq
    intro i hi
    have : (0xffffffff#32).getLsbD i = true := by
      rw [show (0xffffffff#32) = BitVec.allOnes 32 by decide, BitVec.getLsbD_allOnes]; simp [hi]
    simp only [BitVec.getLsbD_xor, BitVec.getLsbD_not, hi, this]; simp
  · rintro rfl
    congr 1
    apply BitVec.eq_of_getLsbD_eq
    intro i hi
    have : (0xffffffff#32).getLsbD i = true := by
      rw [show (0xffffffff#32) = BitVec.allOnes 32 by decide, BitVec.getLsbD_allOnes]; simp [hi]
    simp only [BitVec.getLsbD_xor, BitVec.getLsbD_not, hi, this]; simp
theorem sum_sealed (l : List (BitVec 8)) : sum 0 (l ++ low (sum 0 l)) = ~~~ rest := by
  have := (run_sealed l (sum 0 l)).2 rfl
  generalize sum 0 l = z at *
  unfold sum
  rw [show (~~~ (0 : R)) = 0xffffffff#32 by decide, this]
theorem rest_is : ~~~ rest = 0x2144df1c#32 := by decide
theorem sum_append (c : R) (a b : List (BitVec 8)) : sum c (a ++ b) = sum (sum c a) b := by
  unfold sum
  rw [run_append, BitVec.not_not]
theorem sum_nil (c : R) : sum c [] = c := by simp [sum, run]
theorem sum_three (a b c : List (BitVec 8)) (h1 : a.length = b.length) (h2 : b.length = c.length) :
    sum 0 (mix (mix a b) c) = sum 0 a ^^^ sum 0 b ^^^ sum 0 c := by
  unfold sum
  have hl : (mix a b).length = c.length := by simp [mix]; omega
  have e : (~~~ (0 : R)) = (~~~ (0 : R) ^^^ ~~~ (0 : R)) ^^^ ~~~ (0 : R) := by decide
  have : run (~~~ (0 : R)) (mix (mix a b) c) = run (~~~ (0 : R)) a ^^^ run (~~~ (0 : R)) b ^^^ run (~~~ (0 : R)) c := by
    conv => lhs; rw [e]
    rw [run_mix _ _ hl, run_mix _ _ h1]
  rw [this]
  apply BitVec.eq_of_getLsbD_eq
  intro i hi
  simp only [BitVec.getLsbD_xor, BitVec.getLsbD_not, hi]
  cases (run (~~~ (0 : R)) a).getLsbD i <;> cases (run (~~~ (0 : R)) b).getLsbD i <;> cases (run (~~~ (0 : R)) c).getLsbD i <;> rfl
end CrcMath

open CrcMath
def reg (c : Int) : R := BitVec.ofInt 32 c
def oct (x : Int) : BitVec 8 := BitVec.ofInt 8 x
def num (r : R) : Int := (r.toNat : Int)
theorem num_range (r : R) : 0 ≤ num r ∧ num r ≤ 4294967295 := by unfold num; have := r.isLt; omega
theorem reg_num (r : R) : reg (num r) = r := by
  unfold reg num
  rw [BitVec.ofInt_natCast]
  simp
theorem num_reg (c : Int) (h0 : 0 ≤ c) (h1 : c ≤ 4294967295) : num (reg c) = c := by
  obtain ⟨n, rfl⟩ := Int.eq_ofNat_of_zero_le h0
  unfold reg num
  rw [BitVec.ofInt_natCast, BitVec.toNat_ofNat, Nat.mod_eq_of_lt (by omega)]
theorem xor_u32 (a b : Int) : Go.bits .xor .u32 a b = num (reg a ^^^ reg b) := by
  show IntKind.u32.wrap _ = _
  rw [IntKind.wrap_u32]
  have := (reg a ^^^ reg b).isLt
  show ((reg a ^^^ reg b).toNat : Int) % 4294967296 = ((reg a ^^^ reg b).toNat : Int)
  omega
theorem and_u32 (a b : Int) : Go.bits .and .u32 a b = num (reg a &&& reg b) := by
  show IntKind.u32.wrap _ = _
  rw [IntKind.wrap_u32]
  have := (reg a &&& reg b).isLt
  show ((reg a &&& reg b).toNat : Int) % 4294967296 = ((reg a &&& reg b).toNat : Int)
  omega
theorem reg_half (r : R) (n : Nat) : reg (num r / (2 ^ n : Nat)) = r >>> n := by
  unfold reg num
  rw [← Int.natCast_ediv, BitVec.ofInt_natCast]
  apply BitVec.eq_of_toNat_eq
  rw [BitVec.toNat_ofNat, BitVec.toNat_ushiftRight, Nat.shiftRight_eq_div_pow]
  exact Nat.mod_eq_of_lt (Nat.lt_of_le_of_lt (Nat.div_le_self _ _) r.isLt)
theorem nstep_is (r : R) : nstep (num r) = num (b1 r) := by
  unfold nstep b1
  rw [xor_u32, and_u32, and_u32, reg_num, reg_num, show num r / 2 = num r / (2 ^ 1 : Nat) by rfl, reg_half]
  congr 2
  by_cases h : r.getLsbD 0 = true
  · have e : r &&& reg 1 = 1#32 := by
      apply BitVec.eq_of_getLsbD_eq
      intro i hi
      rw [BitVec.getLsbD_and, show reg 1 = 1#32 by decide, BitVec.getLsbD_one]
      by_cases h0 : i = 0
      · subst h0; rw [h]; simp
      · simp [h0]
    rw [e, if_pos h]
    decide
  · have h' : r.getLsbD 0 = false := by simpa using h
    have e : r &&& reg 1 = 0#32 := by
      apply BitVec.eq_of_getLsbD_eq
      intro i hi
      rw [BitVec.getLsbD_and, show reg 1 = 1#32 by decide, BitVec.getLsbD_one]
      by_cases h0 : i = 0
      · subst h0; rw [h']; simp
      · simp [h0]
    rw [e, if_neg h]
    decide
theorem bs_out (n : Nat) (r : R) : bs (n + 1) r = b1 (bs n r) := by
  rw [bs_add]; rfl
theorem nibT_is (n : Nat) (r : R) : nibT n (num r) = num (bs n r) := by
  induction n with
  | zero => rfl
  | succ n ih => rw [nibT, ih, nstep_is, bs_out]
theorem hstep_is (r : R) : hstep (num r) = num (bs 4 r) := by
  unfold hstep
  rw [xor_u32, and_u32, reg_num, nibT_is, reg_num, show num r / 16 = num r / (2 ^ 4 : Nat) by rfl, reg_half, show reg 15 = 15#32 by decide, ← bs4]
theorem rstep_is (r : R) (x : Int) (h0 : 0 ≤ x) (h1 : x ≤ 255) : rstep (num r) x = num (CrcMath.step r (oct x)) := by
  unfold rstep CrcMath.step
  rw [xor_u32, reg_num, hstep_is, hstep_is, ← bs_add]
  congr 3
  unfold reg oct
  obtain ⟨n, rfl⟩ := Int.eq_ofNat_of_zero_le h0
  rw [Int.emod_eq_of_lt h0 (by omega), BitVec.ofInt_natCast, BitVec.ofInt_natCast]
  apply BitVec.eq_of_toNat_eq
  simp only [BitVec.toNat_ofNat, BitVec.toNat_setWidth]
  omega
theorem crcI_is (l : List Int) (hl : Oct l) (r : R) : crcI (num r) l = num (run r (l.map oct)) := by
  unfold crcI run
  induction l generalizing r with
  | nil => rfl
  | cons x l ih =>
    rw [List.foldl_cons, List.map_cons, List.foldl_cons, rstep_is r x (hl x (by simp)).1 (hl x (by simp)).2]
    exact ih (fun y hy => hl y (by simp [hy])) _
/-- The sum of octets, as a number. -/
def sumI (c : Int) (l : List Int) : Int := num (sum (reg c) (l.map oct))
theorem xor_ones (r : R) : reg 4294967295 ^^^ r = ~~~ r := by
  apply BitVec.eq_of_getLsbD_eq
  intro i hi
  rw [BitVec.getLsbD_xor, BitVec.getLsbD_not, show reg 4294967295 = BitVec.allOnes 32 by decide, BitVec.getLsbD_allOnes]
  simp [hi]
theorem extend_is (c : Int) (l : List Int) (hl : Oct l) : crc_Extend.f c l = some (sumI c l) := by
  unfold crc_Extend.f sumI sum
  rw [xor_u32, xor_u32, crcI_is _ hl, reg_num, xor_ones, xor_ones]
theorem sum_is (l : List Int) (hl : Oct l) : crc_Sum.f l = some (sumI 0 l) := by
  unfold crc_Sum.f
  rw [extend_is 0 l hl]
  rfl
theorem sumI_range (c : Int) (l : List Int) : 0 ≤ sumI c l ∧ sumI c l ≤ 4294967295 := num_range _
theorem sumI_append (c : Int) (a b : List Int) : sumI c (a ++ b) = sumI (sumI c a) b := by
  unfold sumI
  rw [List.map_append, sum_append, reg_num]
theorem sumI_nil (c : Int) (h0 : 0 ≤ c) (h1 : c ≤ 4294967295) : sumI c [] = c := by
  unfold sumI
  rw [List.map_nil, sum_nil, num_reg c h0 h1]

/-- A number's four octets, the lowest first. -/
def lowI (c : Int) : List Int := [c % 256, c / 256 % 256, c / 65536 % 256, c / 16777216 % 256]
theorem lowI_oct (c : Int) : Oct (lowI c) := by
  intro x hx
  simp [lowI] at hx
  omega
theorem low_is (c : Int) (k : Nat) (hk : 5 ≤ k) : crc_low.f k c = some (lowI c) := by
  obtain ⟨k, rfl⟩ : ∃ m, k = m + 5 := ⟨k - 5, by omega⟩
  unfold crc_low.f
  rw [if_pos (by omega)]
  simp only [Option.bind_some, List.length_replicate]
  have e0 : wrap64 0 = 0 := w_id (by omega) (by omega)
  have e1 : wrap64 1 = 1 := w_id (by omega) (by omega)
  have e2 : wrap64 2 = 2 := w_id (by omega) (by omega)
  have e3 : wrap64 3 = 3 := w_id (by omega) (by omega)
  have e4 : wrap64 4 = 4 := w_id (by omega) (by omega)
  have e8 : wrap64 8 = 8 := w_id (by omega) (by omega)
  have e16 : wrap64 16 = 16 := w_id (by omega) (by omega)
  have e24 : wrap64 24 = 24 := w_id (by omega) (by omega)
  have s0 : shr .u32 c 0 = c := by simp [shr]
  have s1 : shr .u32 c 8 = c / 256 := by simp [shr, IntKind.bits]
  have s2 : shr .u32 c 16 = c / 65536 := by simp [shr, IntKind.bits]
  have s3 : shr .u32 c 24 = c / 16777216 := by simp [shr, IntKind.bits]
  show crc_low.l0 (k + 5) c [0, 0, 0, 0] 4 0 = _
  simp [crc_low.l0, e0, e1, e2, e3, e4, e8, e16, e24, s0, s1, s2, s3, lowI]
theorem map_oct_lowI (r : R) : (lowI (num r)).map oct = low r := by
  unfold lowI low num oct
  simp only [List.map_cons, List.map_nil]
  have key : ∀ (n : Nat), n = 0 ∨ n = 8 ∨ n = 16 ∨ n = 24 → BitVec.ofInt 8 ((r.toNat : Int) / (2 ^ n : Nat) % 256) = (r >>> n).setWidth 8 := by
    intro n _
    rw [← Int.natCast_ediv]
    have : ((r.toNat / 2 ^ n : Nat) : Int) % 256 = ((r.toNat / 2 ^ n % 256 : Nat) : Int) := by omega
    rw [this, BitVec.ofInt_natCast]
    apply BitVec.eq_of_toNat_eq
    rw [BitVec.toNat_ofNat, BitVec.toNat_setWidth, BitVec.toNat_ushiftRight, Nat.shiftRight_eq_div_pow]
    omega
  have k0 := key 0 (by simp)
  have k1 := key 8 (by simp)
  have k2 := key 16 (by simp)
  have k3 := key 24 (by simp)
  simp only [Nat.pow_zero, Int.natCast_one, Int.ediv_one] at k0
  rw [show r >>> 0 = r by simp] at k0
  rw [k0]
  have h1 : (r.toNat : Int) / 256 = (r.toNat : Int) / (2 ^ 8 : Nat) := rfl
  have h2 : (r.toNat : Int) / 65536 = (r.toNat : Int) / (2 ^ 16 : Nat) := rfl
  have h3 : (r.toNat : Int) / 16777216 = (r.toNat : Int) / (2 ^ 24 : Nat) := rfl
  rw [h1, h2, h3, k1, k2, k3]
theorem lowI_inj (a b : Int) (ha : 0 ≤ a ∧ a ≤ 4294967295) (hb : 0 ≤ b ∧ b ≤ 4294967295) (h : lowI a = lowI b) : a = b := by
  simp [lowI] at h
  omega
theorem seal_is (l : List Int) (hl : Oct l) (k : Nat) (hk : 5 ≤ k) (hm : l.length + 4 < 140737488355328) : crc_Seal.f k l = some (l ++ lowI (sumI 0 l)) := by
  unfold crc_Seal.f
  rw [sum_is l hl]
  simp only [Option.bind_some]
  rw [low_is _ k hk]
  simp only [Option.bind_some]
  unfold slices_Concat_byte_byte.f
  rw [if_pos (by simp [lowI]; omega)]
  simp
theorem sealed_rest (l : List Int) : sumI 0 (l ++ lowI (sumI 0 l)) = 558161692 := by
  unfold sumI
  rw [List.map_append, map_oct_lowI, show reg 0 = 0 by rfl, sum_sealed, rest_is]
  decide

theorem equal_is (a b : List Int) (ha : Oct a) (hb : Oct b) : bytes_Equal.f a b = some (decide (a = b)) := by
  unfold bytes_Equal.f
  rw [Lib.strOfNums_toList, Lib.strOfNums_toList]
  congr 1
  by_cases h : a = b
  · subst h; simp
  · rw [decide_eq_false h]
    apply beq_eq_false_iff_ne.2
    intro e
    apply h
    unfold Lib.bytesOf at e
    apply List.ext_getElem
    · have := congrArg List.length e
      simpa using this
    · intro i h1 h2
      have := congrArg (fun l => l[i]?) e
      simp only [List.getElem?_map, List.getElem?_eq_getElem h1, List.getElem?_eq_getElem h2, Option.map_some, Option.some.injEq] at this
      have p := ha _ (List.getElem_mem h1)
      have q := hb _ (List.getElem_mem h2)
      have e2 := congrArg UInt8.toNat this
      simp only [UInt8.toNat_ofNat'] at e2
      omega
theorem open_short (y : List Int) (k : Nat) (h : y.length < 4) : crc_Open.f k y = some ([], 8) := by
  unfold crc_Open.f
  rw [if_pos (by omega)]
theorem open_is (y : List Int) (hy : Oct y) (k : Nat) (hk : 5 ≤ k) (h4 : 4 ≤ y.length) (hm : y.length < 140737488355328) :
    crc_Open.f k y = if y.drop (y.length - 4) = lowI (sumI 0 (y.take (y.length - 4))) then some (y.take (y.length - 4), 0) else some ([], 21) := by
  unfold crc_Open.f
  rw [if_neg (by omega), w_id (by omega) (by omega), if_pos (by omega), if_pos (by omega)]
  have e : ((y.length : Int) - 4).toNat = y.length - 4 := by omega
  rw [e, sum_is _ (hy.take _)]
  simp only [Option.bind_some]
  rw [low_is _ k hk]
  simp only [Option.bind_some]
  rw [equal_is _ _ (hy.drop _) (lowI_oct _)]
  simp only [Option.bind_some]
  by_cases h : y.drop (y.length - 4) = lowI (sumI 0 (y.take (y.length - 4)))
  · rw [if_pos h, if_pos (decide_eq_true h)]
    unfold bytes_Clone.f
    rw [if_pos (by rw [List.length_take]; omega)]
    rfl
  · rw [if_neg h, if_neg (by simpa using h)]
theorem open_sealed (l : List Int) (hl : Oct l) (k : Nat) (hk : 5 ≤ k) (hm : l.length + 4 < 140737488355328) : crc_Open.f k (l ++ lowI (sumI 0 l)) = some (l, 0) := by
  have e : (l ++ lowI (sumI 0 l)).length - 4 = l.length := by simp [lowI]
  rw [open_is _ (hl.append (lowI_oct _)) k hk (by simp [lowI]) (by simp [lowI]; try omega), e]
  simp

theorem xor_u8 (a b : Int) : Go.bits .xor .u8 a b = ((oct a ^^^ oct b).toNat : Int) := by
  show IntKind.u8.wrap _ = _
  rw [IntKind.wrap_u8]
  have := (oct a ^^^ oct b).isLt
  show ((oct a ^^^ oct b).toNat : Int) % 256 = ((oct a ^^^ oct b).toNat : Int)
  omega
theorem xor_u8_range (a b : Int) : 0 ≤ Go.bits .xor .u8 a b ∧ Go.bits .xor .u8 a b ≤ 255 := by
  rw [xor_u8]
  have := (oct a ^^^ oct b).isLt
  omega
theorem oct_xor (a b : Int) : oct (Go.bits .xor .u8 a b) = oct a ^^^ oct b := by
  rw [xor_u8]
  show BitVec.ofInt 8 _ = _
  rw [BitVec.ofInt_natCast]
  simp

/-- A number in groups of 7 bits. -/
def encF : Nat → Nat → List Int
  | 0, m => [(m : Int)]
  | f + 1, m => if m ≤ 127 then [(m : Int)] else ((m % 128 + 128 : Nat) : Int) :: encF f (m / 128)
theorem or_128 : ∀ v : Nat, v < 256 → Go.bits .or .u8 (v : Int) 128 = ((v % 128 + 128 : Nat) : Int) := by decide +kernel
theorem and_127 : ∀ v : Nat, v < 256 → Go.bits .and .i64 (v : Int) 127 = ((v % 128 : Nat) : Int) := by decide +kernel
theorem groups_ev : ∀ (f m : Nat) (b : List Int), m < 128 ^ (f + 1) → b.length + f < 140737488355328 → Ev (fun k => wire_groups.l0 k b (m : Int)) (b ++ encF f m) := by
  intro f
  induction f with
  | zero =>
    intro m b hm hb
    have hm' : m < 128 := hm
    refine Ev.step (f := fun _ => some (b ++ [(m : Int)])) (fun k => ?_) (Ev.now _)
    rw [wire_groups.l0, if_neg (by omega), if_pos (by omega), show (m : Int) % 256 = (m : Int) by omega]
  | succ f ih =>
    intro m b hm hb
    by_cases h : m ≤ 127
    · rw [encF, if_pos h]
      refine Ev.step (f := fun _ => some (b ++ [(m : Int)])) (fun k => ?_) (Ev.now _)
      rw [wire_groups.l0, if_neg (by omega), if_pos (by omega), show (m : Int) % 256 = (m : Int) by omega]
    · have h2 : m / 128 < 128 ^ (f + 1) := by
        refine Nat.div_lt_of_lt_mul ?_
        rw [Nat.mul_comm]
        exact hm
      have e : b ++ encF (f + 1) m = (b ++ [((m % 128 + 128 : Nat) : Int)]) ++ encF f (m / 128) := by rw [encF, if_neg h, List.append_assoc]; rfl
      rw [e]
      refine Ev.step (f := fun k => wire_groups.l0 k (b ++ [((m % 128 + 128 : Nat) : Int)]) ((m / 128 : Nat) : Int)) (fun k => ?_) (ih (m / 128) _ h2 (by rw [List.length_append, List.length_singleton]; omega))
      have e1 : (m : Int) % 256 = ((m % 256 : Nat) : Int) := by omega
      have e2 : m % 256 % 128 + 128 = m % 128 + 128 := by omega
      rw [wire_groups.l0, if_pos (by omega), if_pos (by omega), e1, or_128 _ (by omega), e2]
      rfl
theorem encF_len : ∀ (f m : Nat), (encF f m).length ≤ f + 1 := by
  intro f
  induction f with
  | zero => intro m; exact Nat.le_refl _
  | succ f ih =>
    intro m
    rw [encF]
    split
    · simp
    · rw [List.length_cons]; have := ih (m / 128); omega
theorem encF_pos : ∀ (f m : Nat), 1 ≤ (encF f m).length := by
  intro f m
  cases f with
  | zero => exact Nat.le_refl _
  | succ f => rw [encF]; split <;> simp
theorem encF_mono : ∀ (f m n : Nat), m ≤ n → (encF f m).length ≤ (encF f n).length := by
  intro f
  induction f with
  | zero => intro m n _; exact Nat.le_refl _
  | succ f ih =>
    intro m n h
    rw [encF, encF]
    by_cases h1 : m ≤ 127
    · rw [if_pos h1]
      split
      · exact Nat.le_refl _
      · simp
    · rw [if_neg h1, if_neg (by omega), List.length_cons, List.length_cons]
      have := ih (m / 128) (n / 128) (by omega)
      omega
theorem encF_oct : ∀ (f m : Nat), m < 128 ^ (f + 1) → Oct (encF f m) := by
  intro f
  induction f with
  | zero =>
    intro m hm x hx
    have hm' : m < 128 := hm
    rw [encF, List.mem_singleton] at hx
    omega
  | succ f ih =>
    intro m hm
    rw [encF]
    split
    · intro x hx
      rw [List.mem_singleton] at hx
      omega
    · intro x hx
      rcases List.mem_cons.1 hx with h | h
      · omega
      · exact ih (m / 128) (by refine Nat.div_lt_of_lt_mul ?_; rw [Nat.mul_comm]; exact hm) x h
theorem gstep_is (N c i : Nat) (hc : c < 256) (hi : i ≤ 9) (hN : N < 2 ^ (7 * i)) (hX : (c % 128) * 2 ^ (7 * i) < 18446744073709551616) : gstep (N : Int) (c : Int) i = ((N + (c % 128) * 2 ^ (7 * i) : Nat) : Int) := by
  have hP : 2 ^ (7 * i) ≤ 9223372036854775808 := by
    have : 2 ^ (7 * i) ≤ 2 ^ 63 := Nat.pow_le_pow_right (by decide) (by omega)
    exact this
  unfold gstep
  rw [and_127 c hc]
  have e1 : IntKind.u64.wrap ((c % 128 : Nat) : Int) = ((c % 128 : Nat) : Int) := by rw [IntKind.wrap_u64]; omega
  have e2 : (((c % 128 : Nat) : Int) * 2 ^ (7 * i)) = (((c % 128) * 2 ^ (7 * i) : Nat) : Int) := by rw [Int.natCast_mul, Int.natCast_pow]; rfl
  rw [e1, e2]
  have e4 : N ||| (c % 128) * 2 ^ (7 * i) = N + (c % 128) * 2 ^ (7 * i) := by
    have := Nat.two_pow_add_eq_or_of_lt hN (c % 128)
    rw [Nat.or_comm, Nat.mul_comm, ← this, Nat.add_comm]
  generalize (c % 128) * 2 ^ (7 * i) = X at *
  have e3 : IntKind.u64.wrap (X : Int) = (X : Int) := by rw [IntKind.wrap_u64]; omega
  rw [e3, bits_or_u64_nat N X (by omega) hX, e4]
theorem groups_dec : ∀ (f i N m : Nat) (r : List Int), i + f = 9 → N < 2 ^ (7 * i) → m < 128 ^ (f + 1) → N + m * 2 ^ (7 * i) < 18446744073709551616 → (0 < i → 0 < m) → groupsI i (N : Int) (encF f m ++ r) = ((((N + m * 2 ^ (7 * i) : Nat) : Int), none), r) := by
  intro f
  induction f with
  | zero =>
    intro i N m r hi hN hm hX h0
    have hm' : m < 128 := hm
    have hi9 : i = 9 := by omega
    have h1 : m ≤ 1 := by
      rw [hi9] at hX
      have e : 2 ^ (7 * 9) = 9223372036854775808 := by decide
      rw [e] at hX
      omega
    have hs := gstep_is N m i (by omega) (by omega) hN (by rw [show m % 128 = m by omega]; omega)
    rw [show m % 128 = m by omega] at hs
    rw [encF, List.singleton_append, groupsI_end (by omega) (by omega), hs]
  | succ f ih =>
    intro i N m r hi hN hm hX h0
    by_cases h : m ≤ 127
    · have hs := gstep_is N m i (by omega) (by omega) hN (by rw [show m % 128 = m by omega]; omega)
      rw [show m % 128 = m by omega] at hs
      rw [encF, if_pos h, List.singleton_append, groupsI_end (by omega) (by omega), hs]
    · obtain ⟨q, hq⟩ : ∃ q, q = m / 128 := ⟨_, rfl⟩
      obtain ⟨s, hs⟩ : ∃ s, s = m % 128 := ⟨_, rfl⟩
      have hms : m = 128 * q + s := by omega
      have hP : 2 ^ (7 * (i + 1)) = 128 * 2 ^ (7 * i) := by rw [Nat.mul_add, Nat.pow_add, Nat.mul_comm]
      have hq1 : q < 128 ^ (f + 1) := by
        rw [hq]
        refine Nat.div_lt_of_lt_mul ?_
        rw [Nat.mul_comm]
        exact hm
      have hsum : s * 2 ^ (7 * i) + q * (128 * 2 ^ (7 * i)) = m * 2 ^ (7 * i) := by
        rw [hms, Nat.add_mul, Nat.mul_comm 128 q, Nat.mul_assoc, Nat.add_comm]
      have hs127 : s * 2 ^ (7 * i) ≤ 127 * 2 ^ (7 * i) := Nat.mul_le_mul_right _ (by omega)
      have hg := gstep_is N (s + 128) i (by omega) (by omega) hN (by rw [show (s + 128) % 128 = s by omega]; omega)
      rw [show (s + 128) % 128 = s by omega] at hg
      have hi2 := ih (i + 1) (N + s * 2 ^ (7 * i)) q r (by omega) (by rw [hP]; omega) hq1 (by rw [hP]; omega) (fun _ => by omega)
      rw [encF, if_neg h, ← hs, ← hq, List.cons_append, groupsI_on (by omega) (by omega), hg, hi2, hP]
      congr 3
      omega
/-- A number with its sign. -/
def zN (n : Int) : Nat := if 0 ≤ n then (2 * n).toNat else (-2 * n - 1).toNat
theorem x0_i64 (x : Int) (h0 : -9223372036854775808 ≤ x) (h1 : x ≤ 9223372036854775807) : Go.bits .xor .i64 x 0 = x := by
  show IntKind.i64.wrap ((BitVec.ofInt 64 x ^^^ BitVec.ofInt 64 0).toNat : Int) = x
  have e : BitVec.ofInt 64 0 = 0#64 := rfl
  rw [e, BitVec.xor_zero, BitVec.toNat_ofInt, IntKind.wrap_i64]
  omega
theorem x1_i64 (x : Int) (h0 : -9223372036854775808 ≤ x) (h1 : x ≤ 9223372036854775807) : Go.bits .xor .i64 x (-1) = -x - 1 := by
  show IntKind.i64.wrap ((BitVec.ofInt 64 x ^^^ BitVec.ofInt 64 (-1)).toNat : Int) = -x - 1
  have e : BitVec.ofInt 64 (-1) = BitVec.allOnes 64 := by decide
  rw [e, BitVec.xor_allOnes, BitVec.toNat_not, BitVec.toNat_ofInt, IntKind.wrap_i64]
  omega
theorem z_is (n : Int) (h0 : -9223372036854775808 ≤ n) (h1 : n ≤ 9223372036854775807) : IntKind.u64.wrap (Go.bits .xor .i64 (wrap64 (n * 2)) (n / 9223372036854775808)) = ((zN n : Nat) : Int) := by
  have hw : -9223372036854775808 ≤ wrap64 (n * 2) ∧ wrap64 (n * 2) ≤ 9223372036854775807 := by unfold wrap64; omega
  unfold zN
  by_cases h : 0 ≤ n
  · rw [if_pos h, show n / 9223372036854775808 = 0 by omega, x0_i64 _ hw.1 hw.2, IntKind.wrap_u64]
    unfold wrap64
    omega
  · rw [if_neg h, show n / 9223372036854775808 = -1 by omega, x1_i64 _ hw.1 hw.2, IntKind.wrap_u64]
    unfold wrap64
    omega
theorem zN_lt (n : Int) (h0 : -9223372036854775808 ≤ n) (h1 : n ≤ 9223372036854775807) : zN n < 18446744073709551616 := by
  unfold zN
  split <;> omega
theorem unz_is (n : Int) (h0 : -9223372036854775808 ≤ n) (h1 : n ≤ 9223372036854775807) : unz ((zN n : Nat) : Int) = n := by
  have hlt := zN_lt n h0 h1
  have ha : Go.bits .and .u64 ((zN n : Nat) : Int) 1 = ((zN n % 2 : Nat) : Int) := by
    have h := bits_and_u64_nat (zN n) 1 hlt (by decide)
    rw [Nat.and_one_is_mod] at h
    exact h
  unfold unz
  rw [ha]
  by_cases h : 0 ≤ n
  · have e : ((zN n : Nat) : Int) = 2 * n := by unfold zN; rw [if_pos h]; omega
    have e1 : ((zN n % 2 : Nat) : Int) = 0 := by omega
    have e2 : wrap64 (((zN n : Nat) : Int) / 2) = n := by rw [e]; unfold wrap64; omega
    rw [e1, e2, show wrap64 (-(wrap64 0)) = 0 by unfold wrap64; omega, x0_i64 n h0 h1]
  · have e : ((zN n : Nat) : Int) = -2 * n - 1 := by unfold zN; rw [if_neg h]; omega
    have e1 : ((zN n % 2 : Nat) : Int) = 1 := by omega
    have e2 : wrap64 (((zN n : Nat) : Int) / 2) = -n - 1 := by rw [e]; unfold wrap64; omega
    rw [e1, e2, show wrap64 (-(wrap64 1)) = -1 by unfold wrap64; omega, x1_i64 _ (by omega) (by omega)]
    omega

def encN (n : Int) : List Int := encF 9 (zN n)
def encT (t : List Int) : List Int := encF 9 t.length ++ t
def sealW (l : List Int) : List Int := l ++ lowI (sumI 0 l)
def bodyI (kind : Int) (nums : List Int) (texts : List (List Int)) : List Int := [kind, (nums.length : Int)] ++ nums.flatMap encN ++ [(texts.length : Int)] ++ texts.flatMap encT
def checkW (kind : Int) (nums : List Int) (texts : List (List Int)) : Int := if kind < 0 ∨ 255 < kind then 22 else if 64 < nums.length ∨ 64 < texts.length then 3 else if texts.any (fun t => decide (4096 < t.length)) = true then 5 else 0
def I64 (n : Int) : Prop := -9223372036854775808 ≤ n ∧ n ≤ 9223372036854775807
theorem wnat {i : Nat} (h : i ≤ 4611686018427387904) : wrap64 ((i : Int) + 1) = ((i + 1 : Nat) : Int) := by unfold wrap64; omega
theorem rdL1_nat (l : List (List Int)) (i : Nat) (h : i < l.length) : rd_L1 l (i : Int) = l[i] := by
  unfold rd_L1
  simp [List.getD_eq_getElem?_getD, h]
theorem check_l0 (texts : List (List Int)) (hl : texts.length ≤ 64) : ∀ (d i : Nat), i + d = texts.length → Ev (fun k => wire_Check.l0 k texts (texts.length : Int) (i : Int)) (if (texts.drop i).any (fun t => decide (4096 < t.length)) = true then 5 else 0) := by
  intro d
  induction d with
  | zero =>
    intro i hi
    rw [List.drop_eq_nil_of_le (by omega)]
    refine Ev.step (f := fun _ => some 0) (fun k => ?_) (Ev.now _)
    rw [wire_Check.l0, if_neg (by omega)]
  | succ d ih =>
    intro i hi
    have hlt : i < texts.length := by omega
    rw [List.drop_eq_getElem_cons hlt, List.any_cons]
    by_cases h : 4096 < (texts[i]).length
    · rw [decide_eq_true h, Bool.true_or, if_pos rfl]
      refine Ev.step (f := fun _ => some 5) (fun k => ?_) (Ev.now _)
      rw [wire_Check.l0, if_pos (by omega), if_pos (by omega), if_pos (by omega), rdL1_nat texts i hlt, if_pos (by omega)]
    · rw [decide_eq_false h, Bool.false_or]
      refine Ev.step (f := fun k => wire_Check.l0 k texts (texts.length : Int) ((i + 1 : Nat) : Int)) (fun k => ?_) (ih (i + 1) (by omega))
      rw [wire_Check.l0, if_pos (by omega), if_pos (by omega), if_pos (by omega), rdL1_nat texts i hlt, if_neg (by omega), wnat (by omega)]
theorem check_is (kind : Int) (nums : List Int) (texts : List (List Int)) : Ev (fun k => wire_Check.f k kind nums texts) (checkW kind nums texts) := by
  have hj1 : ∀ b : Bool, (b = true ↔ 64 < nums.length ∨ 64 < texts.length) → Ev (fun k => wire_Check.j1 k b kind nums texts) (if 64 < nums.length ∨ 64 < texts.length then 3 else if texts.any (fun t => decide (4096 < t.length)) = true then 5 else 0) := by
    intro b hb
    by_cases h : 64 < nums.length ∨ 64 < texts.length
    · rw [if_pos h]
      refine Ev.step (f := fun _ => some 3) (fun k => ?_) (Ev.now _)
      rw [wire_Check.j1, if_pos (hb.2 h)]
    · rw [if_neg h]
      refine Ev.step (f := fun k => wire_Check.l0 k texts (texts.length : Int) ((0 : Nat) : Int)) (fun k => ?_) (check_l0 texts (by omega) texts.length 0 (by omega))
      rw [wire_Check.j1, if_neg (fun e => h (hb.1 e))]
      rfl
  have hj0 : ∀ b : Bool, (b = true ↔ kind < 0 ∨ 255 < kind) → Ev (fun k => wire_Check.j0 k b kind nums texts) (checkW kind nums texts) := by
    intro b hb
    unfold checkW
    by_cases h : kind < 0 ∨ 255 < kind
    · rw [if_pos h]
      refine Ev.step (f := fun _ => some 22) (fun k => ?_) (Ev.now _)
      rw [wire_Check.j0, if_pos (hb.2 h)]
    · rw [if_neg h]
      by_cases h2 : 64 < nums.length
      · refine Ev.step (f := fun k => wire_Check.j1 k true kind nums texts) (fun k => ?_) (hj1 true ⟨fun _ => .inl h2, fun _ => rfl⟩)
        rw [wire_Check.j0, if_neg (fun e => h (hb.1 e)), if_pos (by omega)]
      · refine Ev.step (f := fun k => wire_Check.j1 k (decide ((texts.length : Int) > 64)) kind nums texts) (fun k => ?_) (hj1 _ ⟨fun e => .inr (by have := of_decide_eq_true e; omega), fun e => decide_eq_true (by omega)⟩)
        rw [wire_Check.j0, if_neg (fun e => h (hb.1 e)), if_neg (by omega)]
  by_cases h : kind < 0
  · refine Ev.congr (f := fun k => wire_Check.j0 k true kind nums texts) (fun k => ?_) (hj0 true ⟨fun _ => .inl h, fun _ => rfl⟩)
    unfold wire_Check.f
    rw [if_pos h]
  · refine Ev.congr (f := fun k => wire_Check.j0 k (decide (kind > 255)) kind nums texts) (fun k => ?_) (hj0 _ ⟨fun e => .inr (by have := of_decide_eq_true e; omega), fun e => decide_eq_true (by omega)⟩)
    unfold wire_Check.f
    rw [if_neg h]
theorem check_zero {kind : Int} {nums : List Int} {texts : List (List Int)} (h : checkW kind nums texts = 0) : 0 ≤ kind ∧ kind ≤ 255 ∧ nums.length ≤ 64 ∧ texts.length ≤ 64 ∧ ∀ t ∈ texts, t.length ≤ 4096 := by
  unfold checkW at h
  split at h
  · omega
  · split at h
    · omega
    · split at h
      · omega
      · rename_i h1 h2 h3
        refine ⟨by omega, by omega, by omega, by omega, fun t ht => ?_⟩
        rcases Nat.lt_or_ge 4096 t.length with h4 | h4
        · exact absurd (List.any_eq_true.2 ⟨t, ht, decide_eq_true h4⟩) h3
        · exact h4
theorem flat_len {α : Type} (f : α → List Int) (n : Nat) : ∀ (l : List α), (∀ x ∈ l, (f x).length ≤ n) → (l.flatMap f).length ≤ l.length * n := by
  intro l
  induction l with
  | nil => intro _; simp
  | cons x r ih =>
    intro h
    have h1 := h x List.mem_cons_self
    have h2 := ih (fun y hy => h y (List.mem_cons_of_mem _ hy))
    rw [List.flatMap_cons, List.length_append, List.length_cons, Nat.add_mul]
    omega
theorem flat_oct {α : Type} (f : α → List Int) : ∀ (l : List α), (∀ x ∈ l, Oct (f x)) → Oct (l.flatMap f) := by
  intro l h x hx
  obtain ⟨y, hy, hxy⟩ := List.mem_flatMap.1 hx
  exact h y hy x hxy
theorem encN_len (n : Int) : (encN n).length ≤ 10 := encF_len 9 _
theorem encT_len (t : List Int) (h : t.length ≤ 4096) : (encT t).length ≤ 4106 := by
  unfold encT
  rw [List.length_append]
  have := encF_len 9 t.length
  omega
theorem pow128 : (128 : Nat) ^ (9 + 1) = 1180591620717411303424 := by decide
theorem encN_oct (n : Int) (h : I64 n) : Oct (encN n) := encF_oct 9 _ (by have := zN_lt n h.1 h.2; rw [pow128]; omega)
theorem encT_oct (t : List Int) (h : t.length ≤ 4096) (ho : Oct t) : Oct (encT t) := (encF_oct 9 _ (by rw [pow128]; omega)).append ho
theorem enc_l1 (texts : List (List Int)) (hl : texts.length ≤ 64) (ht : ∀ t ∈ texts, t.length ≤ 4096 ∧ Oct t) : ∀ (d i : Nat) (b : List Int), i + d = texts.length → Oct b → b.length + d * 4106 ≤ 1000000 → Ev (fun k => wire_Encode.l1 k b texts (texts.length : Int) (i : Int)) (sealW (b ++ (texts.drop i).flatMap encT), 0) := by
  intro d
  induction d with
  | zero =>
    intro i b hi hb hlen
    rw [List.drop_eq_nil_of_le (by omega), List.flatMap_nil, List.append_nil]
    refine Ev.step (f := fun k => (crc_Seal.f k b).bind fun t => some (t, 0)) (fun k => ?_) (Ev.bind (a := sealW b) ⟨5, fun k hk => seal_is b hb k hk (by omega)⟩ (Ev.now _))
    rw [wire_Encode.l1, if_neg (by omega)]
  | succ d ih =>
    intro i b hi hb hlen
    have hlt : i < texts.length := by omega
    have h1 := ht _ (List.getElem_mem hlt)
    have e : b ++ (texts.drop i).flatMap encT = (b ++ encF 9 (texts[i]).length ++ texts[i]) ++ (texts.drop (i + 1)).flatMap encT := by
      rw [List.drop_eq_getElem_cons hlt, List.flatMap_cons, encT, List.append_assoc, List.append_assoc, List.append_assoc]
    rw [e]
    have hlen2 := encF_len 9 (texts[i]).length
    have hg := groups_ev 9 (texts[i]).length b (by rw [pow128]; omega) (by omega)
    refine Ev.step (f := fun k => (wire_groups.f k b ((texts[i]).length : Int)).bind fun t139 => if t139.length + (texts[i]).length < 140737488355328 then wire_Encode.l1 k (t139 ++ texts[i]) texts (texts.length : Int) ((i + 1 : Nat) : Int) else none) (fun k => ?_) (Ev.bind (a := b ++ encF 9 (texts[i]).length) hg ?_)
    · have hw : IntKind.u64.wrap ((texts[i]).length : Int) = ((texts[i]).length : Int) := by rw [IntKind.wrap_u64]; omega
      rw [wire_Encode.l1, if_pos (by omega), if_pos (by omega), if_pos (by omega), rdL1_nat texts i hlt, hw, wnat (by omega)]
    · refine Ev.congr (f := fun k => wire_Encode.l1 k (b ++ encF 9 (texts[i]).length ++ texts[i]) texts (texts.length : Int) ((i + 1 : Nat) : Int)) (fun k => if_pos (by rw [List.length_append]; omega)) (ih (i + 1) _ (by omega) ((hb.append (encF_oct 9 (texts[i]).length (by rw [pow128]; omega))).append h1.2) (by rw [List.length_append, List.length_append]; omega))
theorem enc_l0 (kind : Int) (nums : List Int) (texts : List (List Int)) (hn : ∀ x ∈ nums, I64 x) (hl : nums.length ≤ 64) (ht : texts.length ≤ 64) (R : List Int × Int) : ∀ (d i : Nat) (b : List Int), i + d = nums.length → b.length + d * 10 ≤ 100000 → Ev (fun k => wire_Encode.l1 k (b ++ (nums.drop i).flatMap encN ++ [(texts.length : Int)]) texts (texts.length : Int) ((0 : Nat) : Int)) R → Ev (fun k => wire_Encode.l0 k b nums (nums.length : Int) (i : Int) kind nums texts) R := by
  intro d
  induction d with
  | zero =>
    intro i b hi hlen hnext
    rw [List.drop_eq_nil_of_le (by omega), List.flatMap_nil, List.append_nil] at hnext
    refine Ev.step (f := fun k => wire_Encode.l1 k (b ++ [(texts.length : Int)]) texts (texts.length : Int) ((0 : Nat) : Int)) (fun k => ?_) hnext
    rw [wire_Encode.l0, if_neg (by omega), if_pos (by omega), show (texts.length : Int) % 256 = (texts.length : Int) by omega]
    rfl
  | succ d ih =>
    intro i b hi hlen hnext
    have hlt : i < nums.length := by omega
    have h1 := hn _ (List.getElem_mem hlt)
    have e : b ++ (nums.drop i).flatMap encN = (b ++ encN nums[i]) ++ (nums.drop (i + 1)).flatMap encN := by
      rw [List.drop_eq_getElem_cons hlt, List.flatMap_cons, List.append_assoc]
    rw [e] at hnext
    have hz := zN_lt nums[i] h1.1 h1.2
    have hlen2 := encN_len nums[i]
    have hg := groups_ev 9 (zN nums[i]) b (by rw [pow128]; omega) (by omega)
    refine Ev.step (f := fun k => (wire_groups.f k b ((zN nums[i] : Nat) : Int)).bind fun t132 => wire_Encode.l0 k t132 nums (nums.length : Int) ((i + 1 : Nat) : Int) kind nums texts) (fun k => ?_) (Ev.bind (a := b ++ encN nums[i]) hg (ih (i + 1) _ (by omega) (by rw [List.length_append]; omega) hnext))
    rw [wire_Encode.l0, if_pos (by omega), if_pos (by omega), if_pos (by omega), rd_nat nums i hlt, z_is _ h1.1 h1.2, wnat (by omega)]
theorem body_oct {kind : Int} {nums : List Int} {texts : List (List Int)} (hk : 0 ≤ kind ∧ kind ≤ 255) (hn : ∀ x ∈ nums, I64 x) (hl : nums.length ≤ 64) (hl2 : texts.length ≤ 64) (ht : ∀ t ∈ texts, t.length ≤ 4096 ∧ Oct t) : Oct (bodyI kind nums texts) := by
  refine Oct.append (Oct.append (Oct.append ?_ (flat_oct _ _ (fun x hx => encN_oct x (hn x hx)))) ?_) (flat_oct _ _ (fun t h => encT_oct t (ht t h).1 (ht t h).2))
  · intro x hx
    simp at hx
    omega
  · intro x hx
    simp at hx
    omega
theorem body_len {kind : Int} {nums : List Int} {texts : List (List Int)} (hl : nums.length ≤ 64) (hl2 : texts.length ≤ 64) (ht : ∀ t ∈ texts, t.length ≤ 4096) : (bodyI kind nums texts).length ≤ 300000 := by
  have h1 := flat_len encN 10 nums (fun x _ => encN_len x)
  have h2 := flat_len encT 4106 texts (fun t h => encT_len t (ht t h))
  unfold bodyI
  simp only [List.length_append, List.length_cons, List.length_nil]
  omega
theorem encode_is (kind : Int) (nums : List Int) (texts : List (List Int)) (hn : ∀ x ∈ nums, I64 x) (ht : ∀ t ∈ texts, Oct t) : Ev (fun k => wire_Encode.f k kind nums texts) (if checkW kind nums texts = 0 then (sealW (bodyI kind nums texts), 0) else ([], checkW kind nums texts)) := by
  unfold wire_Encode.f
  refine Ev.bind (check_is kind nums texts) ?_
  by_cases h : checkW kind nums texts = 0
  · obtain ⟨h0, h1, h2, h3, h4⟩ := check_zero h
    rw [if_pos h]
    have e1 := enc_l1 texts h3 (fun t m => ⟨h4 t m, ht t m⟩) texts.length 0 ([kind, (nums.length : Int)] ++ nums.flatMap encN ++ [(texts.length : Int)]) (by omega) (by
      refine Oct.append (Oct.append ?_ (flat_oct _ _ (fun x hx => encN_oct x (hn x hx)))) ?_
      · intro x hx
        simp at hx
        omega
      · intro x hx
        simp at hx
        omega) (by
      have := flat_len encN 10 nums (fun x _ => encN_len x)
      simp only [List.length_append, List.length_cons, List.length_nil]
      omega)
    have e0 := enc_l0 kind nums texts hn h2 h3 _ nums.length 0 [kind, (nums.length : Int)] (by omega) (by simp; omega) e1
    refine Ev.congr (f := fun k => wire_Encode.l0 k [kind, (nums.length : Int)] nums (nums.length : Int) ((0 : Nat) : Int) kind nums texts) (fun k => ?_) e0
    rw [if_pos h, show kind % 256 = kind by omega, show (nums.length : Int) % 256 = (nums.length : Int) by omega]
    rfl
  · rw [if_neg h]
    exact Ev.congr (f := fun _ => some ([], checkW kind nums texts)) (fun k => if_neg h) (Ev.now _)
theorem groupsI_enc (m : Nat) (r : List Int) (h : m < 18446744073709551616) : groupsI 0 0 (encF 9 m ++ r) = (((m : Int), none), r) := by
  have := groups_dec 9 0 0 m r (by omega) (by decide) (by rw [pow128]; omega) (by rw [show 2 ^ (7 * 0) = 1 from rfl]; omega) (fun h => absurd h (by decide))
  rw [show 2 ^ (7 * 0) = 1 from rfl, Nat.mul_one, Nat.zero_add] at this
  exact this
theorem nums_dec : ∀ (nums acc r : List Int), (∀ x ∈ nums, I64 x) → numsLoop nums.length acc (nums.flatMap encN ++ r) = ((acc ++ nums, none), r) := by
  intro nums
  induction nums with
  | nil => intro acc r _; rw [List.append_nil]; rfl
  | cons x s ih =>
    intro acc r h
    have h1 := h x List.mem_cons_self
    have hg := groupsI_enc (zN x) (s.flatMap encN ++ r) (zN_lt x h1.1 h1.2)
    rw [List.flatMap_cons, List.append_assoc, List.length_cons, numsLoop]
    unfold encN at hg ⊢
    rw [hg, if_pos rfl, unz_is x h1.1 h1.2]
    have := ih (acc ++ [x]) r (fun y hy => h y (List.mem_cons_of_mem _ hy))
    unfold encN at this
    rw [this, List.append_assoc]
    rfl
theorem text_dec (t r : List Int) (h : t.length ≤ 4096) : textI (encT t ++ r) = ((t, none), r) := by
  have hg := groupsI_enc t.length (t ++ r) (by omega)
  unfold textI encT
  rw [List.append_assoc, hg]
  dsimp only
  rw [if_pos rfl, if_neg (by omega), Int.toNat_natCast]
  unfold takeI
  rw [if_neg (by rw [List.length_append]; omega), List.take_left', List.drop_left'] <;> rfl
theorem texts_dec : ∀ (texts acc : List (List Int)) (r : List Int), (∀ t ∈ texts, t.length ≤ 4096) → textsLoop texts.length acc (texts.flatMap encT ++ r) = ((acc ++ texts, none), r) := by
  intro texts
  induction texts with
  | nil => intro acc r _; rw [List.append_nil]; rfl
  | cons x s ih =>
    intro acc r h
    rw [List.flatMap_cons, List.append_assoc, List.length_cons, textsLoop, text_dec x _ (h x List.mem_cons_self), if_pos rfl, ih _ r (fun y hy => h y (List.mem_cons_of_mem _ hy)), List.append_assoc]
    rfl
theorem count_dec (n : Nat) (r : List Int) (h : n ≤ 64) : countI 64 ((n : Int) :: r) = (((n : Int), none), r) := by
  unfold countI
  rw [if_neg (fun e => by have h2 := e.2; simp only [octetI] at h2; omega)]
  rfl
theorem rec_dec (kind : Int) (nums : List Int) (texts : List (List Int)) (hn : ∀ x ∈ nums, I64 x) (h1 : nums.length ≤ 64) (h2 : texts.length ≤ 64) (ht : ∀ t ∈ texts, t.length ≤ 4096) : recI (bodyI kind nums texts) = .good kind nums texts := by
  have e : bodyI kind nums texts = kind :: (nums.length : Int) :: (nums.flatMap encN ++ ((texts.length : Int) :: (texts.flatMap encT ++ []))) := by
    unfold bodyI
    simp
  have n1 : numsI ((nums.length : Int) :: (nums.flatMap encN ++ ((texts.length : Int) :: (texts.flatMap encT ++ [])))) = ((nums, none), (texts.length : Int) :: (texts.flatMap encT ++ [])) := by
    unfold numsI
    rw [count_dec _ _ h1]
    show numsGo none ((nums.length : Int)).toNat [] _ = _
    unfold numsGo
    rw [if_pos rfl, Int.toNat_natCast, nums_dec nums [] _ hn]
    rfl
  have n2 : textsI ((texts.length : Int) :: (texts.flatMap encT ++ [])) = ((texts, none), []) := by
    unfold textsI
    rw [count_dec _ _ h2]
    show textsGo none ((texts.length : Int)).toNat [] _ = _
    unfold textsGo
    rw [if_pos rfl, Int.toNat_natCast, texts_dec texts [] _ ht]
    rfl
  rw [e]
  unfold recI
  simp only [octetI, n1, n2]
  rfl
theorem oct5_of {l : List Int} (h : Oct l) : oct5 l = true := List.all_eq_true.2 (fun x hx => by have := h x hx; simp; omega)
theorem decode_sealed (kind : Int) (nums : List Int) (texts : List (List Int)) (hn : ∀ x ∈ nums, I64 x) (ht : ∀ t ∈ texts, Oct t) (hc : checkW kind nums texts = 0) : Ev (fun k => wire_Decode.f k (sealW (bodyI kind nums texts))) (kind, nums, texts, 0) := by
  obtain ⟨h0, h1, h2, h3, h4⟩ := check_zero hc
  have ho := body_oct (kind := kind) ⟨h0, h1⟩ hn h2 h3 (fun t m => ⟨h4 t m, ht t m⟩)
  have hl := body_len (kind := kind) h2 h3 h4
  unfold wire_Decode.f
  refine Ev.bind (a := (bodyI kind nums texts, 0)) ⟨5, fun k hk => open_sealed _ ho k hk (by omega)⟩ ?_
  refine Ev.congr (f := fun _ => some (kind, nums, texts, 0)) (fun k => ?_) (Ev.now _)
  simp only [if_pos trivial]
  rw [if_pos (oct5_of ho), rec_dec kind nums texts hn h2 h3 h4]

theorem groups_inv : ∀ (l : List Int) (i N : Nat) (m : Int) (r : List Int), Oct l → i ≤ 9 → N < 2 ^ (7 * i) → groupsI i (N : Int) l = ((m, none), r) → ∃ M : Nat, l = encF (9 - i) M ++ r ∧ m = ((N + M * 2 ^ (7 * i) : Nat) : Int) ∧ N + M * 2 ^ (7 * i) < 18446744073709551616 ∧ (0 < i → 0 < M) := by
  intro l
  induction l with
  | nil => intro i N m r _ _ _ h; simp [groupsI] at h
  | cons c s ih =>
    intro i N m r ho hi hN h
    have hc := ho c List.mem_cons_self
    have hos : Oct s := fun x hx => ho x (List.mem_cons_of_mem _ hx)
    by_cases hE : (i = 9 ∧ 1 < c) ∨ (0 < i ∧ c = 0)
    · rw [groupsI_err hE] at h
      simp at h
    obtain ⟨C, rfl⟩ : ∃ C : Nat, c = (C : Int) := ⟨c.toNat, by omega⟩
    have h9 : i = 9 → C ≤ 1 := fun e => by
      rcases Nat.lt_or_ge 1 C with h1 | h1
      · exact absurd (.inl ⟨e, by omega⟩) hE
      · exact h1
    have hP9 : i = 9 → 2 ^ (7 * i) = 9223372036854775808 := by rintro rfl; decide
    have hP8 : i ≤ 8 → 2 ^ (7 * i) ≤ 72057594037927936 := fun h => by
      have : 2 ^ (7 * i) ≤ 2 ^ 56 := Nat.pow_le_pow_right (by decide) (by omega)
      exact this
    have h0 : 0 < i → 0 < C := fun e => by
      rcases Nat.eq_zero_or_pos C with h1 | h1
      · exact absurd (.inr ⟨e, by omega⟩) hE
      · exact h1
    by_cases h8 : (C : Int) < 128
    · rw [groupsI_end hE h8] at h
      have hb : C * 2 ^ (7 * i) ≤ 127 * 2 ^ (7 * i) := Nat.mul_le_mul_right _ (by omega)
      have hX : N + C * 2 ^ (7 * i) < 18446744073709551616 := by
        by_cases h99 : i = 9
        · have h1 := h9 h99
          have h2 := hP9 h99
          have hb2 : C * 2 ^ (7 * i) ≤ 1 * 2 ^ (7 * i) := Nat.mul_le_mul_right _ h1
          omega
        · have := hP8 (by omega)
          omega
      have hs := gstep_is N C i (by omega) hi hN (by rw [show C % 128 = C by omega]; omega)
      rw [show C % 128 = C by omega] at hs
      rw [hs] at h
      simp only [Prod.mk.injEq, and_true] at h
      refine ⟨C, ?_, h.1.symm, hX, h0⟩
      rw [← h.2]
      have e : encF (9 - i) C = [(C : Int)] := by
        cases hf : 9 - i with
        | zero => rfl
        | succ f => rw [encF, if_pos (by omega)]
      rw [e]
      rfl
    · rw [groupsI_on hE h8] at h
      have hi8 : i ≤ 8 := by
        by_cases h99 : i = 9
        · have := h9 h99; omega
        · omega
      have hP := hP8 hi8
      have hP1 : 2 ^ (7 * (i + 1)) = 128 * 2 ^ (7 * i) := by rw [Nat.mul_add, Nat.pow_add, Nat.mul_comm]
      have hb : (C % 128) * 2 ^ (7 * i) ≤ 127 * 2 ^ (7 * i) := Nat.mul_le_mul_right _ (by omega)
      have hs := gstep_is N C i (by omega) hi hN (by omega)
      rw [hs] at h
      obtain ⟨M, e1, e2, e3, e4⟩ := ih (i + 1) (N + (C % 128) * 2 ^ (7 * i)) m r hos (by omega) (by rw [hP1]; omega) h
      have hM := e4 (by omega)
      have hsum : (C % 128) * 2 ^ (7 * i) + M * 2 ^ (7 * (i + 1)) = (128 * M + C % 128) * 2 ^ (7 * i) := by
        rw [hP1, Nat.add_mul, Nat.mul_comm 128 M, Nat.mul_assoc, Nat.add_comm]
      have hsum2 : N + (C % 128) * 2 ^ (7 * i) + M * 2 ^ (7 * (i + 1)) = N + (128 * M + C % 128) * 2 ^ (7 * i) := by rw [Nat.add_assoc, hsum]
      rw [hsum2] at e2 e3
      refine ⟨128 * M + C % 128, ?_, e2, e3, fun _ => by omega⟩
      rw [e1, show 9 - i = (9 - (i + 1)) + 1 by omega, encF, if_neg (by omega), show (128 * M + C % 128) % 128 + 128 = C by omega, show (128 * M + C % 128) / 128 = M by omega]
      rfl
theorem groups_inv0 (l : List Int) (m : Int) (r : List Int) (ho : Oct l) (h : groupsI 0 0 l = ((m, none), r)) : ∃ M : Nat, l = encF 9 M ++ r ∧ m = (M : Int) ∧ M < 18446744073709551616 := by
  obtain ⟨M, e1, e2, e3, _⟩ := groups_inv l 0 0 m r ho (by omega) (by decide) h
  rw [show 2 ^ (7 * 0) = 1 from rfl, Nat.mul_one, Nat.zero_add] at e2 e3
  exact ⟨M, e1, e2, e3⟩
theorem unz_inv (M : Nat) (h : M < 18446744073709551616) : I64 (unz (M : Int)) ∧ zN (unz (M : Int)) = M := by
  by_cases h2 : M % 2 = 0
  · have hn : I64 ((M / 2 : Nat) : Int) := by unfold I64; omega
    have hz : zN ((M / 2 : Nat) : Int) = M := by unfold zN; rw [if_pos (by omega)]; omega
    have hu := unz_is ((M / 2 : Nat) : Int) hn.1 hn.2
    rw [hz] at hu
    rw [hu]
    exact ⟨hn, hz⟩
  · have hn : I64 (-((M / 2 : Nat) : Int) - 1) := by unfold I64; omega
    have hz : zN (-((M / 2 : Nat) : Int) - 1) = M := by unfold zN; rw [if_neg (by omega)]; omega
    have hu := unz_is (-((M / 2 : Nat) : Int) - 1) hn.1 hn.2
    rw [hz] at hu
    rw [hu]
    exact ⟨hn, hz⟩
theorem Oct.of_app {a b : List Int} (h : Oct (a ++ b)) : Oct b := fun x hx => h x (List.mem_append_right a hx)
theorem nums_inv : ∀ (d : Nat) (acc l ns r : List Int), Oct l → numsLoop d acc l = ((ns, none), r) → ∃ xs : List Int, xs.length = d ∧ ns = acc ++ xs ∧ l = xs.flatMap encN ++ r ∧ ∀ x ∈ xs, I64 x := by
  intro d
  induction d with
  | zero =>
    intro acc l ns r _ h
    rw [numsLoop] at h
    simp only [Prod.mk.injEq, and_true] at h
    exact ⟨[], rfl, by rw [List.append_nil]; exact h.1.symm, by rw [h.2]; rfl, fun x hx => by cases hx⟩
  | succ d ih =>
    intro acc l ns r ho h
    rw [numsLoop] at h
    rcases hg : groupsI 0 0 l with ⟨⟨m, er⟩, l2⟩
    rw [hg] at h
    cases er with
    | some c => simp at h
    | none =>
      rw [if_pos rfl] at h
      obtain ⟨M, e1, rfl, hM⟩ := groups_inv0 l m l2 ho hg
      obtain ⟨hI, hz⟩ := unz_inv M hM
      obtain ⟨xs, x1, x2, x3, x4⟩ := ih _ l2 ns r (by rw [e1] at ho; exact ho.of_app) h
      refine ⟨unz (M : Int) :: xs, by rw [List.length_cons, x1], by rw [x2, List.append_assoc]; rfl, ?_, fun x hx => ?_⟩
      · rw [List.flatMap_cons, List.append_assoc, ← x3, e1]
        unfold encN
        rw [hz]
      · rcases List.mem_cons.1 hx with h | h
        · rw [h]; exact hI
        · exact x4 x h
theorem text_inv (l t r : List Int) (ho : Oct l) (h : textI l = ((t, none), r)) : l = encT t ++ r ∧ t.length ≤ 4096 := by
  unfold textI at h
  rcases hg : groupsI 0 0 l with ⟨⟨m, er⟩, l2⟩
  rw [hg] at h
  dsimp only at h
  cases er with
  | some c => simp at h
  | none =>
    rw [if_pos rfl] at h
    obtain ⟨M, e1, rfl, hM⟩ := groups_inv0 l m l2 ho hg
    by_cases hb : 4096 < (M : Int)
    · rw [if_pos hb] at h; simp at h
    · rw [if_neg hb, Int.toNat_natCast] at h
      unfold takeI at h
      by_cases hl : l2.length < M
      · rw [if_pos hl] at h; simp at h
      · rw [if_neg hl] at h
        simp only [Prod.mk.injEq, and_true] at h
        obtain ⟨rfl, rfl⟩ := h
        have hlen : (l2.take M).length = M := by rw [List.length_take]; omega
        refine ⟨?_, by omega⟩
        unfold encT
        rw [hlen, List.append_assoc, List.take_append_drop]
        exact e1
theorem texts_inv : ∀ (d : Nat) (acc : List (List Int)) (l : List Int) (ts : List (List Int)) (r : List Int), Oct l → textsLoop d acc l = ((ts, none), r) → ∃ xs : List (List Int), xs.length = d ∧ ts = acc ++ xs ∧ l = xs.flatMap encT ++ r ∧ ∀ t ∈ xs, t.length ≤ 4096 ∧ Oct t := by
  intro d
  induction d with
  | zero =>
    intro acc l ns r _ h
    rw [textsLoop] at h
    simp only [Prod.mk.injEq, and_true] at h
    exact ⟨[], rfl, by rw [List.append_nil]; exact h.1.symm, by rw [h.2]; rfl, fun x hx => by cases hx⟩
  | succ d ih =>
    intro acc l ts r ho h
    rw [textsLoop] at h
    rcases hg : textI l with ⟨⟨t, er⟩, l2⟩
    rw [hg] at h
    cases er with
    | some c => simp at h
    | none =>
      rw [if_pos rfl] at h
      obtain ⟨e1, e2⟩ := text_inv l t l2 ho hg
      have hot : Oct t := fun x hx => ho x (by rw [e1]; exact List.mem_append_left _ (by unfold encT; exact List.mem_append_right _ hx))
      obtain ⟨xs, x1, x2, x3, x4⟩ := ih _ l2 ts r (by rw [e1] at ho; exact ho.of_app) h
      refine ⟨t :: xs, by rw [List.length_cons, x1], by rw [x2, List.append_assoc]; rfl, by rw [List.flatMap_cons, List.append_assoc, ← x3, e1], fun y hy => ?_⟩
      rcases List.mem_cons.1 hy with h | h
      · rw [h]; exact ⟨e2, hot⟩
      · exact x4 y h
theorem count_inv (l r : List Int) (n : Int) (h : countI 64 l = ((n, none), r)) : l = n :: r ∧ n ≤ 64 := by
  have hle := countI_le h
  refine ⟨?_, hle⟩
  unfold countI at h
  split at h
  · simp at h
  · cases l with
    | nil => simp [octetI] at h
    | cons x s =>
      simp only [octetI, Prod.mk.injEq, and_true] at h
      rw [h.1, h.2]
theorem numsI_inv (l ns r : List Int) (ho : Oct l) (h : numsI l = ((ns, none), r)) : l = (ns.length : Int) :: (ns.flatMap encN ++ r) ∧ ns.length ≤ 64 ∧ ∀ x ∈ ns, I64 x := by
  unfold numsI at h
  rcases hc : countI 64 l with ⟨⟨n, er⟩, l2⟩
  rw [hc] at h
  unfold numsGo at h
  cases er with
  | some c => simp at h
  | none =>
    rw [if_pos rfl] at h
    obtain ⟨e1, e2⟩ := count_inv l l2 n hc
    have hn := ho n (by rw [e1]; exact List.mem_cons_self)
    obtain ⟨xs, x1, x2, x3, x4⟩ := nums_inv _ _ l2 ns r (fun x hx => ho x (by rw [e1]; exact List.mem_cons_of_mem _ hx)) h
    rw [List.nil_append] at x2
    subst x2
    dsimp only at x1
    refine ⟨?_, by omega, x4⟩
    rw [e1, ← x3, show ((ns.length : Nat) : Int) = n by omega]
theorem textsI_inv (l : List Int) (ts : List (List Int)) (r : List Int) (ho : Oct l) (h : textsI l = ((ts, none), r)) : l = (ts.length : Int) :: (ts.flatMap encT ++ r) ∧ ts.length ≤ 64 ∧ ∀ t ∈ ts, t.length ≤ 4096 ∧ Oct t := by
  unfold textsI at h
  rcases hc : countI 64 l with ⟨⟨n, er⟩, l2⟩
  rw [hc] at h
  unfold textsGo at h
  cases er with
  | some c => simp at h
  | none =>
    rw [if_pos rfl] at h
    obtain ⟨e1, e2⟩ := count_inv l l2 n hc
    have hn := ho n (by rw [e1]; exact List.mem_cons_self)
    obtain ⟨xs, x1, x2, x3, x4⟩ := texts_inv _ _ l2 ts r (fun x hx => ho x (by rw [e1]; exact List.mem_cons_of_mem _ hx)) h
    rw [List.nil_append] at x2
    subst x2
    dsimp only at x1
    refine ⟨?_, by omega, x4⟩
    rw [e1, ← x3, show ((ts.length : Nat) : Int) = n by omega]
theorem octet_inv {q l1 : List Int} {x : Int} (h : octetI q = ((x, none), l1)) : q = x :: l1 := by
  cases q with
  | nil => simp [octetI] at h
  | cons y s =>
    simp only [octetI, Prod.mk.injEq, and_true] at h
    rw [h.1, h.2]
theorem octet_bad {q l1 : List Int} {x c : Int} (h : octetI q = ((x, some c), l1)) : c = 8 := by
  cases q with
  | nil => simp [octetI] at h; omega
  | cons y s => simp [octetI] at h
theorem rec_inv (q : List Int) (ho : Oct q) (k : Int) (n : List Int) (t : List (List Int)) (h : recI q = .good k n t) : q = bodyI k n t ∧ checkW k n t = 0 ∧ (∀ x ∈ n, I64 x) ∧ ∀ y ∈ t, Oct y := by
  unfold recI at h
  rcases h1 : octetI q with ⟨⟨x, e1⟩, l1⟩
  rw [h1] at h
  cases e1 with
  | some c => simp at h
  | none =>
    simp only at h
    obtain rfl := octet_inv h1
    have hx := ho x List.mem_cons_self
    have ho1 : Oct l1 := fun y hy => ho y (List.mem_cons_of_mem _ hy)
    rcases h2 : numsI l1 with ⟨⟨ns, e2⟩, l2⟩
    rw [h2] at h
    cases e2 with
    | some c => simp at h
    | none =>
      simp only at h
      obtain ⟨a1, a2, a3⟩ := numsI_inv l1 ns l2 ho1 h2
      have ho2 : Oct l2 := fun y hy => ho1 y (by rw [a1]; exact List.mem_cons_of_mem _ (List.mem_append_right _ hy))
      rcases h3 : textsI l2 with ⟨⟨ts, e3⟩, l3⟩
      rw [h3] at h
      cases e3 with
      | some c => simp at h
      | none =>
        simp only at h
        obtain ⟨b1, b2, b3⟩ := textsI_inv l2 ts l3 ho2 h3
        by_cases h4 : 0 < l3.length
        · rw [if_pos h4] at h; cases h
        · rw [if_neg h4] at h
          have hl3 : l3 = [] := List.eq_nil_of_length_eq_zero (by omega)
          injection h with c1 c2 c3
          subst c1 c2 c3
          refine ⟨?_, ?_, a3, fun y hy => (b3 y hy).2⟩
          · unfold bodyI
            rw [a1, b1, hl3]
            simp
          · unfold checkW
            rw [if_neg (by omega), if_neg (by omega), if_neg]
            intro h5
            obtain ⟨y, hy, h6⟩ := List.any_eq_true.1 h5
            have := (b3 y hy).1
            have := of_decide_eq_true h6
            omega
theorem groups_bad : ∀ (l : List Int) (i : Nat) (n : Int) (c : Int), (groupsI i n l).1.2 = some c → c ≠ 0 := by
  intro l
  induction l with
  | nil => intro i n c h; simp [groupsI] at h; omega
  | cons x s ih =>
    intro i n c h
    rw [groupsI] at h
    split at h
    · simp at h; omega
    · split at h
      · simp at h
      · exact ih _ _ c h
theorem count_bad (l : List Int) (m c : Int) (h : (countI m l).1.2 = some c) : c ≠ 0 := by
  unfold countI at h
  split at h
  · simp at h; omega
  · cases l with
    | nil => simp [octetI] at h; omega
    | cons x s => simp [octetI] at h
theorem nums_bad : ∀ (d : Nat) (acc l : List Int) (c : Int), (numsLoop d acc l).1.2 = some c → c ≠ 0 := by
  intro d
  induction d with
  | zero => intro acc l c h; simp [numsLoop] at h
  | succ d ih =>
    intro acc l c h
    rw [numsLoop] at h
    split at h
    · exact ih _ _ c h
    · exact groups_bad l 0 0 c h
theorem text_bad (l : List Int) (c : Int) (h : (textI l).1.2 = some c) : c ≠ 0 := by
  unfold textI at h
  split at h
  · split at h
    · simp at h; omega
    · unfold takeI at h
      split at h
      · simp at h; omega
      · simp at h
  · exact groups_bad l 0 0 c h
theorem texts_bad : ∀ (d : Nat) (acc : List (List Int)) (l : List Int) (c : Int), (textsLoop d acc l).1.2 = some c → c ≠ 0 := by
  intro d
  induction d with
  | zero => intro acc l c h; simp [textsLoop] at h
  | succ d ih =>
    intro acc l c h
    rw [textsLoop] at h
    split at h
    · exact ih _ _ c h
    · exact text_bad l c h
theorem rec_bad_ne (q : List Int) (c : Int) (h : recI q = .bad c) : c ≠ 0 := by
  unfold recI at h
  rcases h1 : octetI q with ⟨⟨x, e1⟩, l1⟩
  rw [h1] at h
  cases e1 with
  | some c1 =>
    simp only at h
    injection h with h
    have := octet_bad h1
    omega
  | none =>
    simp only at h
    rcases h2 : numsI l1 with ⟨⟨ns, e2⟩, l2⟩
    rw [h2] at h
    cases e2 with
    | some c1 =>
      simp only at h
      injection h with h
      subst h
      have e : (numsI l1).1.2 = some c1 := by rw [h2]
      unfold numsI numsGo at e
      split at e
      · exact nums_bad _ _ _ c1 e
      · exact count_bad _ _ c1 e
    | none =>
      simp only at h
      rcases h3 : textsI l2 with ⟨⟨ts, e3⟩, l3⟩
      rw [h3] at h
      cases e3 with
      | some c1 =>
        simp only at h
        injection h with h
        subst h
        have e : (textsI l2).1.2 = some c1 := by rw [h3]
        unfold textsI textsGo at e
        split at e
        · exact texts_bad _ _ _ c1 e
        · exact count_bad _ _ c1 e
      | none =>
        simp only at h
        split at h
        · injection h with h; omega
        · cases h

def decI (y : List Int) : Int × List Int × List (List Int) × Int :=
  if y.length < 4 then (0, [], [], 8) else if y.drop (y.length - 4) = lowI (sumI 0 (y.take (y.length - 4))) then (match recI (y.take (y.length - 4)) with | .good k n t => (k, n, t, 0) | .bad c => (0, [], [], c)) else (0, [], [], 21)
theorem decode_is (y : List Int) (hy : Oct y) (hm : y.length < 140737488355328) : Ev (fun k => wire_Decode.f k y) (decI y) := by
  unfold wire_Decode.f decI
  by_cases h4 : y.length < 4
  · rw [if_pos h4]
    refine Ev.bind (a := ([], 8)) ⟨0, fun k _ => open_short y k h4⟩ ?_
    exact Ev.congr (f := fun _ => some (0, [], [], 8)) (fun k => if_neg (show ¬ (([] : List Int), (8 : Int)).2 = 0 by decide)) (Ev.now _)
  · rw [if_neg h4]
    have hop := fun k hk => open_is y hy k hk (by omega) hm
    by_cases hs : y.drop (y.length - 4) = lowI (sumI 0 (y.take (y.length - 4)))
    · rw [if_pos hs]
      refine Ev.bind (a := (y.take (y.length - 4), 0)) ⟨5, fun k hk => by show crc_Open.f k y = _; rw [hop k hk, if_pos hs]⟩ ?_
      cases hr : recI (y.take (y.length - 4)) with
      | good kk n t =>
        refine Ev.congr (f := fun _ => some (kk, n, t, 0)) (fun k => ?_) (Ev.now _)
        dsimp only
        rw [if_pos rfl, if_pos (oct5_of (hy.take _))]
      | bad c =>
        refine Ev.congr (f := fun _ => some (0, [], [], c)) (fun k => ?_) (Ev.now _)
        dsimp only
        rw [if_pos rfl, if_pos (oct5_of (hy.take _))]
    · rw [if_neg hs]
      refine Ev.bind (a := ([], 21)) ⟨5, fun k hk => by show crc_Open.f k y = _; rw [hop k hk, if_neg hs]⟩ ?_
      exact Ev.congr (f := fun _ => some (0, [], [], 21)) (fun k => if_neg (show ¬ (([] : List Int), (21 : Int)).2 = 0 by decide)) (Ev.now _)
/-- What is read is built again; what is not read has a code, and is no record. -/
theorem dec_two (y : List Int) (hy : Oct y) : (∃ c, c ≠ 0 ∧ decI y = (0, [], [], c)) ∨ (∃ k n t, decI y = (k, n, t, 0) ∧ y = sealW (bodyI k n t) ∧ checkW k n t = 0 ∧ (∀ x ∈ n, I64 x) ∧ ∀ z ∈ t, Oct z) := by
  unfold decI
  by_cases h4 : y.length < 4
  · exact .inl ⟨8, by decide, if_pos h4⟩
  · rw [if_neg h4]
    by_cases hs : y.drop (y.length - 4) = lowI (sumI 0 (y.take (y.length - 4)))
    · rw [if_pos hs]
      cases hr : recI (y.take (y.length - 4)) with
      | good k n t =>
        obtain ⟨e1, e2, e3, e4⟩ := rec_inv _ (hy.take _) k n t hr
        refine .inr ⟨k, n, t, rfl, ?_, e2, e3, e4⟩
        rw [← e1]
        unfold sealW
        rw [← hs, List.take_append_drop]
      | bad c => exact .inl ⟨c, rec_bad_ne _ c hr, rfl⟩
    · exact .inl ⟨21, by decide, if_neg hs⟩

abbrev SC := S86
/-- The reference's row for the program, and back. -/
theorem rdC (l : List SC) (i : Nat) (h : i < l.length) : rd_T86 l (i : Int) = l[i] := by
  unfold rd_T86
  rw [Int.toNat_natCast, List.getD_eq_getElem?_getD, List.getElem?_eq_getElem h]; rfl
/-- May a session ask under a number? -/
def whoOk (s n : Int) : Bool := decide (1 ≤ s) && decide (s ≤ 2147483647) && decide (1 ≤ n) && decide (n ≤ 1099511627776)
theorem may_is (s n : Int) : client_may.f s n = some (whoOk s n) := by
  unfold client_may.f whoOk
  by_cases h1 : s ≥ 1
  · rw [if_pos h1]
    by_cases h2 : s ≤ 2147483647
    · rw [if_pos h2]
      by_cases h3 : n ≥ 1
      · rw [if_pos h3]; simp [show (1 : Int) ≤ s from h1, h2, show (1 : Int) ≤ n from h3]
      · rw [if_neg h3]; simp [show ¬ (1 : Int) ≤ n from h3]
    · rw [if_neg h2]; simp [h2]
  · rw [if_neg h1]; simp [show ¬ (1 : Int) ≤ s from h1]
def stepOk (l : List SC) (i : Nat) : Bool := whoOk (l.getD i z86).f0 (l.getD i z86).f1 && decide ((l.getD i z86).f2.length ≤ 4096) && (i == 0 || decide ((l.getD (i - 1) z86).f0 < (l.getD i z86).f0))
theorem getD_lt (l : List SC) (i : Nat) (h : i < l.length) : l.getD i z86 = l[i] := by
  simp [List.getD_eq_getElem?_getD, h]
theorem clcheck_loop (l : List SC) (hl : l.length ≤ 140737488351232) : ∀ (d i : Nat), i + d = l.length → Ev (fun k => client_Check.l0 k l l (l.length : Int) (i : Int)) (if (List.range' i d).all (fun i => decide (i < 64) && stepOk l i) = true then 0 else 9) := by
  intro d
  induction d with
  | zero =>
    intro i hi
    refine Ev.step (f := fun _ => some 0) (fun k => ?_) (by simp; exact Ev.now _)
    simp only [client_Check.l0]
    rw [if_neg (by omega)]
  | succ d ih =>
    intro i hi
    rw [List.range'_succ, List.all_cons]
    have hlt : i < l.length := by omega
    have hx := rdC l i hlt
    have hst : stepOk l i = (whoOk l[i].f0 l[i].f1 && decide (l[i].f2.length ≤ 4096) && (i == 0 || decide ((l.getD (i - 1) z86).f0 < l[i].f0))) := by unfold stepOk; rw [getD_lt l i hlt]
    have bad : ∀ (b : Bool), b = false → Ev (fun _ => some (9 : Int)) (if (b && (List.range' (i + 1) d).all (fun i => decide (i < 64) && stepOk l i)) = true then 0 else 9) := fun b hb => by
      rw [hb, Bool.false_and, if_neg (by decide)]; exact Ev.now _
    by_cases h64 : i < 64
    case neg =>
      refine Ev.step (f := fun _ => some 9) (fun k => ?_) (bad _ (by simp [h64]))
      simp only [client_Check.l0]
      rw [if_pos (by omega), if_pos (by omega), if_pos (by omega), if_pos (by omega)]
    cases hw : whoOk l[i].f0 l[i].f1 with
    | false =>
      refine Ev.step (f := fun _ => some 9) (fun k => ?_) (bad _ (by rw [hst, hw]; simp))
      simp only [client_Check.l0]
      rw [if_pos (by omega), if_pos (by omega), if_pos (by omega), if_neg (by omega), hx, may_is, hw]; rfl
    | true =>
      by_cases hlen : l[i].f2.length ≤ 4096
      case neg =>
        refine Ev.step (f := fun _ => some 9) (fun k => ?_) (bad _ (by rw [hst, hw]; simp [hlen]))
        simp only [client_Check.l0]
        rw [if_pos (by omega), if_pos (by omega), if_pos (by omega), if_neg (by omega), hx, may_is, hw]
        simp only [Option.bind_some]
        rw [if_pos trivial, if_pos (by omega)]
      by_cases h0 : i = 0
      · subst h0
        have e : (decide (0 < 64) && stepOk l 0) = true := by rw [hst, hw]; simp [hlen]
        rw [e, Bool.true_and]
        refine Ev.step (f := fun k => client_Check.l0 k l l (l.length : Int) ((0 + 1 : Nat) : Int)) (fun k => ?_) (ih 1 (by omega))
        simp only [client_Check.l0]
        rw [if_pos (by omega), if_pos (by omega), if_pos (by omega), if_neg (by omega), hx, may_is, hw]
        simp only [Option.bind_some]
        rw [if_pos trivial, if_neg (by omega), if_neg (by omega), w_id (by omega) (by omega)]
        rfl
      · have hp := rdC l (i - 1) (by omega)
        have e1 : ((i - 1 : Nat) : Int) = (i : Int) - 1 := by omega
        rw [e1] at hp
        have hg := getD_lt l (i - 1) (by omega)
        by_cases hlt2 : l[i - 1].f0 < l[i].f0
        · have e : (decide (i < 64) && stepOk l i) = true := by rw [hst, hw, hg]; simp [hlen, h64, hlt2]
          rw [e, Bool.true_and]
          refine Ev.step (f := fun k => client_Check.l0 k l l (l.length : Int) ((i + 1 : Nat) : Int)) (fun k => ?_) (ih (i + 1) (by omega))
          simp only [client_Check.l0]
          rw [if_pos (by omega), if_pos (by omega), if_pos (by omega), if_neg (by omega), hx, may_is, hw]
          simp only [Option.bind_some]
          rw [if_pos trivial, if_neg (by omega), if_pos (by omega), w_id (by omega) (by omega), if_pos (by omega), if_pos (by omega), hp, if_neg (by omega), w_id (by omega) (by omega)]
          rfl
        · refine Ev.step (f := fun _ => some 9) (fun k => ?_) (bad _ (by rw [hst, hw, hg]; simp [hlen, h64, hlt2, h0]))
          simp only [client_Check.l0]
          rw [if_pos (by omega), if_pos (by omega), if_pos (by omega), if_neg (by omega), hx, may_is, hw]
          simp only [Option.bind_some]
          rw [if_pos trivial, if_neg (by omega), if_pos (by omega), w_id (by omega) (by omega), if_pos (by omega), if_pos (by omega), hp, if_pos (by omega)]
def Rising (l : List SC) : Prop := l.Pairwise (fun a b => a.f0 < b.f0)
/-- May a table be? -/
def Good (l : List SC) : Prop := l.length ≤ 64 ∧ (∀ x ∈ l, whoOk x.f0 x.f1 = true ∧ x.f2.length ≤ 4096) ∧ Rising l
instance (l : List SC) : Decidable (Good l) := by unfold Good Rising; infer_instance
def checkI (l : List SC) : Int := if Good l then 0 else 9
theorem good_iff (l : List SC) : (List.range l.length).all (fun i => decide (i < 64) && stepOk l i) = true ↔ Good l := by
  unfold Good Rising
  rw [List.all_eq_true]
  constructor
  · intro h
    have hs : ∀ i, i < l.length → i < 64 ∧ stepOk l i = true := fun i hi => by
      have := h i (List.mem_range.2 hi)
      simpa using this
    refine ⟨?_, fun x hx => ?_, ?_⟩
    · rcases Nat.lt_or_ge 64 l.length with h | h
      · have := (hs 64 h).1; omega
      · exact h
    · obtain ⟨i, hi, rfl⟩ := List.getElem_of_mem hx
      have := (hs i hi).2
      simp only [stepOk, Bool.and_eq_true, getD_lt l i hi, decide_eq_true_eq] at this
      exact ⟨this.1.1, this.1.2⟩
    · rw [List.pairwise_iff_getElem]
      have adj : ∀ i (hi : i + 1 < l.length), (l[i]'(by omega)).f0 < l[i + 1].f0 := fun i hi => by
        have := (hs (i + 1) hi).2
        simp only [stepOk, Bool.and_eq_true, getD_lt l (i + 1) hi, Nat.add_sub_cancel, getD_lt l i (by omega)] at this
        simpa using this.2
      intro i j hi hj hij
      obtain ⟨d, rfl⟩ : ∃ d, j = i + 1 + d := ⟨j - i - 1, by omega⟩
      clear hij
      induction d with
      | zero => exact adj i hj
      | succ d ih => exact Int.lt_trans (ih (by omega)) (adj (i + 1 + d) hj)
  · rintro ⟨h0, h1, h2⟩ i hi
    have hi := List.mem_range.1 hi
    have h64 : i < 64 := by omega
    simp only [stepOk, Bool.and_eq_true, getD_lt l i hi, decide_eq_true_eq]
    refine ⟨h64, ⟨(h1 _ (List.getElem_mem hi)).1, (h1 _ (List.getElem_mem hi)).2⟩, ?_⟩
    by_cases h0 : i = 0
    · simp [h0]
    · rw [getD_lt l (i - 1) (by omega)]
      have := (List.pairwise_iff_getElem.1 h2) (i - 1) i (by omega) hi (by omega)
      simp [this]
theorem checkI_is (l : List SC) : (if (List.range' 0 l.length).all (fun i => decide (i < 64) && stepOk l i) = true then (0 : Int) else 9) = checkI l := by
  unfold checkI
  have := good_iff l
  rw [List.range_eq_range'] at this
  by_cases h : (List.range' 0 l.length).all (fun i => decide (i < 64) && stepOk l i) = true
  · rw [if_pos h, if_pos (this.1 h)]
  · rw [if_neg h, if_neg (fun g => h (this.2 g))]
theorem cl_check (l : List SC) (hl : l.length ≤ 140737488351232) : Ev (fun k => client_Check.f k l) (checkI l) := by
  rw [← checkI_is l]
  exact clcheck_loop l hl l.length 0 (by omega)
/-- What lies ahead of a session, what does not, and what lies behind it. -/
def lo (l : List SC) (s : Int) : List SC := l.filter fun y => decide (y.f0 < s)
def hi (l : List SC) (s : Int) : List SC := l.filter fun y => !decide (y.f0 < s)
def fnd (l : List SC) (s : Int) : Option SC := l.find? fun y => y.f0 == s
theorem lo_cons (y : SC) (l : List SC) (s : Int) : lo (y :: l) s = if y.f0 < s then y :: lo l s else lo l s := by
  unfold lo; rw [List.filter_cons]; by_cases h : y.f0 < s <;> simp [h]
theorem hi_cons (y : SC) (l : List SC) (s : Int) : hi (y :: l) s = if y.f0 < s then hi l s else y :: hi l s := by
  unfold hi; rw [List.filter_cons]; by_cases h : y.f0 < s <;> simp [h]
theorem lo_none {l : List SC} {s : Int} (h : ∀ x ∈ l, s ≤ x.f0) : lo l s = [] := by
  unfold lo; rw [List.filter_eq_nil_iff]; intro x hx; have := h x hx; simp; omega
theorem hi_all {l : List SC} {s : Int} (h : ∀ x ∈ l, s ≤ x.f0) : hi l s = l := by
  unfold hi; rw [List.filter_eq_self]; intro x hx; have := h x hx; simp; omega
theorem fnd_none {l : List SC} {s : Int} (h : ∀ x ∈ l, s < x.f0) : fnd l s = none := by
  unfold fnd; rw [List.find?_eq_none]; intro x hx; have := h x hx; simp; omega
theorem fnd_cons (y : SC) (l : List SC) (s : Int) : fnd (y :: l) s = if y.f0 = s then some y else fnd l s := by
  unfold fnd
  rw [List.find?_cons]
  by_cases h : y.f0 = s
  · simp [h]
  · have e : (y.f0 == s) = false := by simpa using h
    rw [e, if_neg h]
theorem split_at (s : Int) : ∀ (l : List SC), Rising l → l = lo l s ++ hi l s
  | [], _ => rfl
  | y :: r, h => by
    have h' := List.pairwise_cons.1 h
    have ih := split_at s r h'.2
    rw [lo_cons, hi_cons]
    by_cases hy : y.f0 < s
    · rw [if_pos hy, if_pos hy, List.cons_append, ← ih]
    · rw [if_neg hy, if_neg hy]
      have ha : ∀ x ∈ r, s ≤ x.f0 := fun x hx => by have := h'.1 x hx; omega
      rw [lo_none ha, hi_all ha]; rfl
theorem hi_head (s : Int) : ∀ (l : List SC), Rising l → fnd l s = match hi l s with | [] => none | y :: _ => if y.f0 = s then some y else none
  | [], _ => rfl
  | y :: r, h => by
    have h' := List.pairwise_cons.1 h
    have ih := hi_head s r h'.2
    rw [fnd_cons, hi_cons]
    by_cases hy : y.f0 < s
    · rw [if_pos hy, if_neg (by omega), ih]
    · rw [if_neg hy]
      by_cases e : y.f0 = s
      · simp [e]
      · have ha : ∀ x ∈ r, s < x.f0 := fun x hx => by have := h'.1 x hx; omega
        rw [if_neg e, fnd_none ha]; simp [e]
def isI (l : List SC) (s : Int) : Bool := (fnd l s).isSome
/-- What a number is to a session; what it was told. -/
def whatI (l : List SC) (s n : Int) : Int := match fnd l s with | none => 0 | some y => if y.f1 = n then 1 else if y.f1 > n then 2 else 0
def replyI (l : List SC) (s n : Int) : List Int := match fnd l s with | none => [] | some y => if y.f1 = n then y.f2 else []
def behind (l : List SC) (s : Int) : List SC := if isI l s = true then (hi l s).drop 1 else hi l s
theorem bs_spec (p : Nat → Bool) (n : Nat) (hmono : ∀ a b, a ≤ b → b < n → p b = true → p a = true) : ∀ (f i j : Nat), i ≤ j → j ≤ n → j - i < f → (∀ h, h < i → p h = true) → (∀ h, j ≤ h → h < n → p h = false) →
    bsI p f i j ≤ n ∧ (∀ h, h < bsI p f i j → p h = true) ∧ (∀ h, bsI p f i j ≤ h → h < n → p h = false)
  | 0, _, _, _, _, hf, _, _ => by omega
  | f + 1, i, j, hij, hjn, hf, h1, h2 => by
    unfold bsI
    by_cases hlt : i < j
    · rw [if_pos hlt]
      by_cases hp : p ((i + j) / 2) = true
      · rw [if_pos hp]
        exact bs_spec p n hmono f _ j (by omega) hjn (by omega) (fun h hh => hmono h ((i + j) / 2) (by omega) (by omega) hp) h2
      · rw [if_neg hp]
        refine bs_spec p n hmono f i _ (by omega) (by omega) (by omega) h1 (fun h hh hn => ?_)
        cases hc : p h with
        | false => rfl
        | true => exact absurd (hmono ((i + j) / 2) h hh hn hc) hp
    · rw [if_neg hlt]
      exact ⟨by omega, h1, fun h hh hn => h2 h (by omega) hn⟩
theorem cmpI_neg (a b : Int) : decide (cmpI a b < 0) = decide (a < b) := by
  unfold cmpI
  by_cases h : a < b
  · simp [h]
  · by_cases h2 : a > b <;> simp [h, h2]
theorem cmpI_zero (a b : Int) : (cmpI a b == 0) = (a == b) := by
  unfold cmpI
  by_cases h : a < b
  · have : a ≠ b := by omega
    simp [h, this]
  · by_cases h2 : a > b
    · have : a ≠ b := by omega
      simp [h, h2, this]
    · have : a = b := by omega
      simp [this]
theorem find_is (l : List SC) (s n : Int) (hg : Good l) : client_find.f l s n = some (((lo l s).length : Int), isI l s, whatI l s n) := by
  have hs := split_at s l hg.2.2
  have hlen : l.length = (lo l s).length + (hi l s).length := by rw [← List.length_append, ← hs]
  have hp : ∀ h, h < l.length → lessAt l s h = decide (h < (lo l s).length) := fun h hh => by
    unfold lessAt
    rw [rdC l h hh, cmpI_neg]
    by_cases hlt : h < (lo l s).length
    · have e : l[h] = (lo l s)[h] := by rw [List.getElem_of_eq hs, List.getElem_append_left hlt]
      have hm : l[h] ∈ lo l s := by rw [e]; exact List.getElem_mem hlt
      have := (List.mem_filter.1 hm).2
      rw [this]; simp [hlt]
    · have e : l[h] = (hi l s)[h - (lo l s).length]'(by omega) := by rw [List.getElem_of_eq hs, List.getElem_append_right (by omega)]
      have hm : l[h] ∈ hi l s := by rw [e]; exact List.getElem_mem _
      have := (List.mem_filter.1 hm).2
      have e2 : decide (l[h].f0 < s) = false := by simpa using this
      rw [e2]; simp [hlt]
  have hb := bs_spec (lessAt l s) l.length (fun a b hab hbn hpb => by
    rw [hp b hbn] at hpb
    rw [hp a (by omega)]
    have := of_decide_eq_true hpb
    exact decide_eq_true (by omega)) (l.length + 1) 0 l.length (by omega) (by omega) (by omega) (fun h hh => by omega) (fun h h1 h2 => by omega)
  have hR : bsI (lessAt l s) (l.length + 1) 0 l.length = (lo l s).length := by
    obtain ⟨b1, b2, b3⟩ := hb
    rcases Nat.lt_trichotomy (bsI (lessAt l s) (l.length + 1) 0 l.length) (lo l s).length with h | h | h
    · have := b3 _ (Nat.le_refl _) (by omega)
      rw [hp _ (by omega)] at this
      have := of_decide_eq_false this
      omega
    · exact h
    · have := b2 _ h
      rw [hp _ (by omega)] at this
      have := of_decide_eq_true this
      omega
  have hf := hi_head s l hg.2.2
  unfold client_find.f
  rw [if_pos (by have := hg.1; omega), hR]
  have hfa : foundAt l s (lo l s).length = isI l s := by
    unfold foundAt isI
    cases hh : hi l s with
    | nil => rw [hh] at hlen hf; rw [if_neg (by simp at hlen; omega), hf]; rfl
    | cons y r =>
      rw [hh] at hlen hf
      have hlt : (lo l s).length < l.length := by simp at hlen; omega
      have e : l[(lo l s).length] = y := by rw [List.getElem_of_eq hs, List.getElem_append_right (by omega)]; simp [hh]
      rw [if_pos hlt, rdC l _ hlt, e, cmpI_zero, hf]
      by_cases h : y.f0 = s <;> simp [h]
  rw [hfa]
  congr 3
  unfold isI whatI
  cases hh : hi l s with
  | nil => rw [hh] at hf; rw [hf]; rfl
  | cons y r =>
    rw [hh] at hlen hf
    have hlt : (lo l s).length < l.length := by simp at hlen; omega
    have e : l[(lo l s).length] = y := by rw [List.getElem_of_eq hs, List.getElem_append_right (by omega)]; simp [hh]
    rw [rdC l _ hlt, e, hf]
    by_cases h : y.f0 = s <;> simp [h]
def askI (l : List SC) (s n : Int) : Int × List Int × Int := if Good l then (if whoOk s n = true then (whatI l s n, replyI l s n, 0) else (0, [], 4)) else (0, [], 9)
def doneI (l : List SC) (s n : Int) (r : List Int) : List SC × Int := if Good l then (if whoOk s n = true then (if r.length ≤ 4096 then (if whatI l s n = 0 then (if isI l s = false ∧ 64 ≤ l.length then ([], 51) else (lo l s ++ [⟨s, n, r⟩] ++ behind l s, 0)) else ([], 81)) else ([], 5)) else ([], 4)) else ([], 9)
theorem asked_is (l : List SC) (s n : Int) (hl : l.length ≤ 140737488351232) : Ev (fun k => client_asked.f k l s n) (if Good l then (if whoOk s n = true then 0 else 4) else 9) := by
  unfold client_asked.f
  refine Ev.bind (cl_check l hl) ?_
  unfold checkI
  by_cases hg : Good l
  · simp only [if_pos hg, if_true]
    rw [may_is]
    simp only [Option.bind_some]
    cases whoOk s n <;> exact Ev.now _
  · simp only [if_neg hg]
    rw [if_neg (by decide)]
    exact Ev.now _
theorem at_lo {l : List SC} {s : Int} (hg : Rising l) {y : SC} (hy : fnd l s = some y) : ∃ h : (lo l s).length < l.length, l[(lo l s).length] = y := by
  have hs := split_at s l hg
  have hf := hi_head s l hg
  have hlen : l.length = (lo l s).length + (hi l s).length := by rw [← List.length_append, ← hs]
  cases hh : hi l s with
  | nil => rw [hh, hy] at hf; cases hf
  | cons z r =>
    rw [hh, hy] at hf
    rw [hh] at hlen
    have hlt : (lo l s).length < l.length := by simp at hlen; omega
    have e : l[(lo l s).length] = z := by rw [List.getElem_of_eq hs, List.getElem_append_right (by omega)]; simp [hh]
    by_cases h : z.f0 = s
    · simp [h] at hf
      exact ⟨hlt, by rw [e, hf]⟩
    · simp [h] at hf
theorem fnd_mem {l : List SC} {s : Int} {y : SC} (h : fnd l s = some y) : y ∈ l ∧ y.f0 = s := by
  unfold fnd at h
  exact ⟨List.mem_of_find?_eq_some h, by have := List.find?_some h; simpa using this⟩
theorem cl_ask (l : List SC) (s n : Int) (hl : l.length ≤ 140737488351232) : Ev (fun k => client_Ask.f k l s n) (askI l s n) := by
  unfold client_Ask.f
  refine Ev.bind (asked_is l s n hl) ?_
  unfold askI
  by_cases hg : Good l
  · simp only [if_pos hg]
    cases hw : whoOk s n with
    | false => simp; exact Ev.now _
    | true =>
      simp only [if_true]
      rw [find_is l s n hg]
      simp only [Option.bind_some]
      by_cases h1 : whatI l s n = 1
      · rw [if_pos h1]
        cases hy : fnd l s with
        | none => unfold whatI at h1; rw [hy] at h1; cases h1
        | some y =>
          obtain ⟨hlt, he⟩ := at_lo hg.2.2 hy
          have hyn : y.f1 = n := by
            unfold whatI at h1
            rw [hy] at h1
            simp only at h1
            by_cases h : y.f1 = n
            · exact h
            · rw [if_neg h] at h1
              by_cases h2 : y.f1 > n
              · rw [if_pos h2] at h1; cases h1
              · rw [if_neg h2] at h1; cases h1
          have hr : replyI l s n = y.f2 := by unfold replyI; rw [hy]; simp [hyn]
          have hb := (hg.2.1 y (fnd_mem hy).1).2
          rw [if_pos (by omega), if_pos (by omega), rdC l _ hlt, he, hr]
          unfold bytes_Clone.f
          rw [if_pos (by omega)]
          exact Ev.now _
      · have hr : replyI l s n = [] := by
          unfold replyI
          unfold whatI at h1
          cases hy : fnd l s with
          | none => rfl
          | some y =>
            rw [hy] at h1
            simp only at h1 ⊢
            by_cases h : y.f1 = n
            · rw [if_pos h] at h1; exact absurd rfl h1
            · rw [if_neg h]
        rw [if_neg h1, hr]
        exact Ev.now _
  · simp only [if_neg hg]
    rw [if_neg (by decide)]
    exact Ev.now _
theorem lo_len (l : List SC) (s : Int) : (lo l s).length ≤ l.length := List.length_filter_le _ _
theorem take_lo {l : List SC} (s : Int) (h : Rising l) : l.take (lo l s).length = lo l s := by
  have hs := split_at s l h
  generalize lo l s = A at *
  generalize hi l s = B at *
  subst hs
  exact List.take_left
theorem drop_lo {l : List SC} (s : Int) (h : Rising l) : l.drop (lo l s).length = hi l s := by
  have hs := split_at s l h
  generalize lo l s = A at *
  generalize hi l s = B at *
  subst hs
  exact List.drop_left
theorem set_mid {α : Type} (l : List α) (i : Nat) (x : α) (h : i < l.length) : l.set i x = l.take i ++ [x] ++ (l.drop i).drop 1 := by
  rw [List.drop_drop, List.set_eq_take_append_cons_drop, if_pos h]
  simp [Nat.add_comm]
theorem cl_done (l : List SC) (s n : Int) (r : List Int) (hl : l.length ≤ 140737488351232) : Ev (fun k => client_Done.f k l s n r) (doneI l s n r) := by
  unfold client_Done.f
  refine Ev.bind (asked_is l s n hl) ?_
  unfold doneI
  by_cases hg : Good l
  · simp only [if_pos hg]
    cases hw : whoOk s n with
    | false => simp; exact Ev.now _
    | true =>
      simp only [if_true]
      by_cases hr : r.length ≤ 4096
      case neg => rw [if_neg hr, if_neg hr]; exact Ev.now _
      rw [if_pos hr, if_pos hr, find_is l s n hg]
      simp only [Option.bind_some]
      by_cases h0 : whatI l s n = 0
      case neg => rw [if_neg h0, if_neg h0]; exact Ev.now _
      rw [if_pos h0, if_pos h0]
      have hall : (l.all fun x => decide (x.f2.length ≤ 4096)) = true := by
        rw [List.all_eq_true]; intro x hx; simpa using (hg.2.1 x hx).2
      rw [if_pos hall]
      have hlo := lo_len l s
      cases hi_ : isI l s with
      | true =>
        rw [if_pos rfl, if_neg (show ¬ (true = false ∧ 64 ≤ l.length) by simp)]
        cases hy : fnd l s with
        | none => unfold isI at hi_; rw [hy] at hi_; cases hi_
        | some y =>
          obtain ⟨hlt, he⟩ := at_lo hg.2.2 hy
          rw [if_pos ⟨by omega, by omega, hg.1⟩, Int.toNat_natCast, set_mid l _ _ hlt, take_lo s hg.2.2, drop_lo s hg.2.2]
          unfold behind
          rw [if_pos hi_]
          exact Ev.now _
      | false =>
        rw [if_neg (by decide)]
        by_cases h64 : 64 ≤ l.length
        · rw [if_pos h64, if_pos (show false = false ∧ 64 ≤ l.length from ⟨rfl, h64⟩)]; exact Ev.now _
        · rw [if_neg h64, if_neg (show ¬ (false = false ∧ 64 ≤ l.length) from fun h => h64 h.2), if_pos ⟨by omega, by omega⟩, Int.toNat_natCast, take_lo s hg.2.2, drop_lo s hg.2.2]
          unfold behind
          rw [if_neg (by rw [hi_]; decide)]
          exact Ev.now _
  · simp only [if_neg hg]
    rw [if_neg (by decide)]
    exact Ev.now _
/-- How the reference looks for a session. -/
theorem behind_len (l : List SC) (s : Int) : (behind l s).length ≤ (hi l s).length := by
  unfold behind
  split <;> simp
theorem done_len {l : List SC} (s : Int) (x : SC) (hg : Good l) : (lo l s ++ [x] ++ behind l s).length = if isI l s = true then l.length else l.length + 1 := by
  have hs := split_at s l hg.2.2
  have hlen : l.length = (lo l s).length + (hi l s).length := by rw [← List.length_append, ← hs]
  unfold behind
  cases hi_ : isI l s with
  | true =>
    have : 1 ≤ (hi l s).length := by
      cases hh : hi l s with
      | nil =>
        have hf := hi_head s l hg.2.2
        rw [hh] at hf
        unfold isI at hi_; rw [hf] at hi_; cases hi_
      | cons y r => simp
    simp; omega
  | false => simp; omega
theorem done_mem {l : List SC} {s : Int} {x z : SC} (hz : z ∈ lo l s ++ [x] ++ behind l s) : z = x ∨ z ∈ l := by
  rcases List.mem_append.1 hz with h | h
  · rcases List.mem_append.1 h with h | h
    · exact .inr (List.mem_filter.1 h).1
    · exact .inl (List.mem_singleton.1 h)
  · right
    unfold behind at h
    split at h
    · exact (List.mem_filter.1 (List.mem_of_mem_drop h)).1
    · exact (List.mem_filter.1 h).1
theorem done_bound {l : List SC} (s n : Int) (r : List Int) : ∀ z ∈ (doneI l s n r).1, z.f2.length ≤ 4096 := by
  intro z hz
  unfold doneI at hz
  split at hz
  · rename_i hg
    split at hz
    · split at hz
      · rename_i hr
        split at hz
        · split at hz
          · cases hz
          · rcases done_mem hz with h | h
            · rw [h]; exact hr
            · exact (hg.2.1 z h).2
        · cases hz
      · cases hz
    · cases hz
  · cases hz
theorem done_length {l : List SC} (s n : Int) (r : List Int) : (doneI l s n r).1.length ≤ 65 := by
  unfold doneI
  repeat' split
  all_goals first | (simp; done) | skip
  rename_i hg _ _ _ _
  have := done_len s ⟨s, n, r⟩ hg
  have h64 := hg.1
  show (lo l s ++ [(⟨s, n, r⟩ : SC)] ++ behind l s).length ≤ 65
  rw [this]
  split <;> omega
theorem good_nil : Good [] := ⟨by simp, (fun x hx => by cases hx), List.Pairwise.nil⟩
theorem alive_is : Ev undercroftlaw20_alive.f true := by
  have h1 : doneI [] 1 5 [120] = ([⟨1, 5, [120]⟩], 0) := by kernel_rfl
  have a1 : askI [⟨1, 5, [120]⟩] 1 5 = (1, [120], 0) := by kernel_rfl
  have a2 : askI [⟨1, 5, [120]⟩] 1 4 = (2, [], 0) := by kernel_rfl
  have a3 : askI [⟨1, 5, [120]⟩] 1 6 = (0, [], 0) := by kernel_rfl
  have a4 : askI [⟨1, 5, [120]⟩] 2 1 = (0, [], 0) := by kernel_rfl
  have d1 := cl_done [] 1 5 [120] (by simp)
  have c1 := cl_ask [⟨1, 5, [120]⟩] 1 5 (by simp)
  have c2 := cl_ask [⟨1, 5, [120]⟩] 1 4 (by simp)
  have c3 := cl_ask [⟨1, 5, [120]⟩] 1 6 (by simp)
  have c4 := cl_ask [⟨1, 5, [120]⟩] 2 1 (by simp)
  rw [h1] at d1; rw [a1] at c1; rw [a2] at c2; rw [a3] at c3; rw [a4] at c4
  unfold undercroftlaw20_alive.f
  refine Ev.bind d1 (Ev.bind c1 (Ev.bind c2 (Ev.bind c3 (Ev.bind c4 ?_))))
  refine Ev.congr (f := fun _ => some true) (fun k => ?_) (Ev.now _)
  exact if_pos ⟨rfl, rfl, rfl, rfl, rfl, rfl, rfl, rfl⟩

theorem num_id (x : Int) : undercroftlaw20_num.f x = some x := rfl
theorem csame (a : List Int) (hm : a.length ≤ 9223372036854775807) : Ev (fun k => undercroftplain_SameBytes.f k a a) true := ⟨a.length + 1, fun k hk => by
  show undercroftplain_SameBytes.f k a a = some true
  rw [sameBytes_is a a k (by omega) hm, decide_eq_true rfl]⟩
theorem cchk (s n : Int) (op : List Int) (h : op.length ≤ 200) : checkW 8 [s, n] [op] = 0 := by
  unfold checkW
  rw [if_neg (by omega), if_neg (by simp), if_neg (by simp; omega)]
theorem two_i64 {s n : Int} (hs : I64 s) (hn : I64 n) : ∀ x ∈ [s, n], I64 x := fun x hx => by
  rcases List.mem_cons.1 hx with h | h
  · rw [h]; exact hs
  · rw [List.mem_singleton.1 h]; exact hn
theorem one_oct {op : List Int} (ho : Oct op) : ∀ t ∈ [op], Oct t := fun t ht => by rw [List.mem_singleton.1 ht]; exact ho
theorem cenc_is (s n : Int) (op : List Int) (hs : I64 s) (hn : I64 n) (ho : Oct op) : Ev (fun k => client_Encode.f k s n op) (if whoOk s n = true then (if 200 < op.length then ([], 5) else (sealW (bodyI 8 [s, n] [op]), 0)) else ([], 4)) := by
  unfold client_Encode.f
  by_cases h : whoOk s n = true
  · rw [if_pos h]
    by_cases h2 : 200 < op.length
    · rw [if_pos h2]
      exact Ev.congr (f := fun _ => some ([], 5)) (fun k => by rw [may_is, h, Option.bind_some, if_pos rfl, if_pos (by omega)]) (Ev.now _)
    · rw [if_neg h2]
      have hc := cchk s n op (by omega)
      have he := encode_is 8 [s, n] [op] (two_i64 hs hn) (one_oct ho)
      rw [if_pos hc] at he
      refine Ev.congr (f := fun k => (wire_Encode.f k 8 [s, n] [op]).bind fun bt => some (bt.1, bt.2)) (fun k => ?_) (Ev.bind he (Ev.now _))
      rw [may_is, h, Option.bind_some, if_pos rfl, if_neg (by omega)]
  · rw [if_neg h]
    exact Ev.congr (f := fun _ => some ([], 4)) (fun k => by rw [may_is, Bool.eq_false_iff.2 h, Option.bind_some, if_neg (by decide)]) (Ev.now _)
theorem cenc_len (s n : Int) (op : List Int) (h : op.length ≤ 200) : (sealW (bodyI 8 [s, n] [op])).length ≤ 256 := by
  have h1 := encN_len s
  have h2 := encN_len n
  have h3 := encF_len 9 op.length
  unfold sealW bodyI encT lowI
  simp only [List.flatMap_cons, List.flatMap_nil, List.length_append, List.length_cons, List.length_nil, List.append_nil]
  omega
def codeC (s n : Int) (op : List Int) : Int := if whoOk s n = true then (if 200 < op.length then 5 else 0) else 4
theorem cj0_is (s n : Int) (op : List Int) (hs : I64 s) (hn : I64 n) (ho : Oct op) : Ev (fun k => client_Decode.j0 k false 8 [s, n] [op]) (if codeC s n op = 0 then (s, n, op, 0) else (0, 0, [], codeC s n op)) := by
  have he := cenc_is s n op hs hn ho
  have e2 : (if whoOk s n = true then (if 200 < op.length then (([] : List Int), (5 : Int)) else (sealW (bodyI 8 [s, n] [op]), 0)) else ([], 4)).2 = codeC s n op := by
    unfold codeC
    split
    · split <;> rfl
    · rfl
  generalize (if whoOk s n = true then (if 200 < op.length then (([] : List Int), (5 : Int)) else (sealW (bodyI 8 [s, n] [op]), 0)) else ([], 4)) = E at he e2
  refine Ev.step (f := fun k => (client_Encode.f k s n op).bind fun bt182 => (if bt182.2 = 0 then (some (s, n, op, 0)) else (some (0, 0, ([] : List Int), bt182.2)))) (fun k => ?_) (Ev.bind he ?_)
  · rw [client_Decode.j0, if_neg (by decide), if_pos (show (0 : Int) < (([s, n].length : Nat) : Int) by simp), if_pos (show (1 : Int) < (([s, n].length : Nat) : Int) by simp), if_pos (show (0 : Int) < (([op].length : Nat) : Int) by simp)]
    rfl
  · by_cases h : codeC s n op = 0
    · rw [if_pos h]
      exact Ev.congr (f := fun _ => some (s, n, op, 0)) (fun k => if_pos (by rw [e2]; exact h)) (Ev.now _)
    · rw [if_neg h]
      exact Ev.congr (f := fun _ => some (0, 0, [], codeC s n op)) (fun k => by show (if E.2 = 0 then _ else _) = _; rw [e2, if_neg h]) (Ev.now _)
theorem cj0_bad (k0 : Int) (n : List Int) (t : List (List Int)) : Ev (fun k => client_Decode.j0 k true k0 n t) (0, 0, [], 3) :=
  Ev.step (f := fun _ => some (0, 0, [], 3)) (fun k => by rw [client_Decode.j0, if_pos rfl]) (Ev.now _)
theorem code_zero {s n : Int} {op : List Int} (h : codeC s n op = 0) : whoOk s n = true ∧ op.length ≤ 200 := by
  unfold codeC at h
  split at h
  · split at h
    · cases h
    · exact ⟨by assumption, by omega⟩
  · cases h
theorem zero_code {s n : Int} {op : List Int} (hw : whoOk s n = true) (hl : op.length ≤ 200) : codeC s n op = 0 := by
  unfold codeC
  rw [if_pos hw, if_neg (by omega)]
theorem cdec_two (y : List Int) (hy : Oct y) (hm : y.length < 140737488355328) : (∃ c, c ≠ 0 ∧ Ev (fun k => client_Decode.f k y) (0, 0, [], c)) ∨ (∃ s n op, Ev (fun k => client_Decode.f k y) (s, n, op, 0) ∧ y = sealW (bodyI 8 [s, n] [op]) ∧ whoOk s n = true ∧ op.length ≤ 200 ∧ I64 s ∧ I64 n ∧ Oct op) := by
  have hd := decode_is y hy hm
  unfold client_Decode.f
  rcases dec_two y hy with ⟨c, hc, he⟩ | ⟨k, n, t, he, hy2, hc, hn, ht⟩
  · rw [he] at hd
    exact .inl ⟨c, hc, Ev.bind hd (Ev.congr (f := fun _ => some (0, 0, [], c)) (fun k => if_neg hc) (Ev.now _))⟩
  · rw [he] at hd
    by_cases hk : k = 8
    · subst hk
      by_cases h2 : n.length = 2
      · by_cases h1 : t.length = 1
        · obtain ⟨a, b, rfl⟩ : ∃ a b, n = [a, b] := by
            match n, h2 with
            | [a, b], _ => exact ⟨a, b, rfl⟩
          obtain ⟨op, rfl⟩ := List.length_eq_one_iff.1 h1
          have ha := hn a (by simp)
          have hb := hn b (by simp)
          have ho := ht op (by simp)
          have hj := cj0_is a b op ha hb ho
          have hf := Ev.bind hd (f := fun k bt169 => (if bt169.2.2.2 = 0 then (if bt169.1 = 8 then (if (bt169.2.1.length : Int) = 2 then (client_Decode.j0 k ((bt169.2.2.1.length : Int) != 1) bt169.1 bt169.2.1 bt169.2.2.1) else (client_Decode.j0 k true bt169.1 bt169.2.1 bt169.2.2.1)) else (some (0, 0, ([] : List Int), 22))) else (some (0, 0, ([] : List Int), bt169.2.2.2)))) (Ev.congr (f := fun k => client_Decode.j0 k false 8 [a, b] [op]) (fun k => by
            dsimp only
            rw [if_pos rfl, if_pos rfl, if_pos (by rfl)]
            rfl) hj)
          by_cases hz : codeC a b op = 0
          · rw [if_pos hz] at hf
            obtain ⟨hw, hl⟩ := code_zero hz
            exact .inr ⟨a, b, op, hf, hy2, hw, hl, ha, hb, ho⟩
          · rw [if_neg hz] at hf
            exact .inl ⟨_, hz, hf⟩
        · refine .inl ⟨3, by decide, Ev.bind hd (Ev.congr (f := fun k => client_Decode.j0 k true 8 n t) (fun k => ?_) (cj0_bad _ _ _))⟩
          dsimp only
          rw [if_pos rfl, if_pos rfl, if_pos (by omega), show ((t.length : Int) != 1) = true from bne_iff_ne.2 (by omega)]
      · refine .inl ⟨3, by decide, Ev.bind hd (Ev.congr (f := fun k => client_Decode.j0 k true 8 n t) (fun k => ?_) (cj0_bad _ _ _))⟩
        dsimp only
        rw [if_pos rfl, if_pos rfl, if_neg (by omega)]
    · refine .inl ⟨22, by decide, Ev.bind hd (Ev.congr (f := fun _ => some (0, 0, [], 22)) (fun k' => ?_) (Ev.now _))⟩
      dsimp only
      rw [if_pos rfl, if_neg hk]
theorem cdec_seal (s n : Int) (op : List Int) (hs : I64 s) (hn : I64 n) (ho : Oct op) (hw : whoOk s n = true) (hl : op.length ≤ 200) : Ev (fun k => client_Decode.f k (sealW (bodyI 8 [s, n] [op]))) (s, n, op, 0) := by
  have hd := decode_sealed 8 [s, n] [op] (two_i64 hs hn) (one_oct ho) (cchk s n op hl)
  have hj := cj0_is s n op hs hn ho
  rw [if_pos (zero_code hw hl)] at hj
  unfold client_Decode.f
  refine Ev.bind hd (Ev.congr (f := fun k => client_Decode.j0 k false 8 [s, n] [op]) (fun k => ?_) hj)
  dsimp only
  rw [if_pos rfl, if_pos rfl, if_pos (by rfl)]
  rfl

theorem cback_j0 (y : List Int) (hy : Oct y) (hm : y.length < 140737488355328) : Ev (fun k => undercroftlaw20_ClientBack.j0 k y) true := by
  rcases cdec_two y hy hm with ⟨c, hc, hd⟩ | ⟨s, n, op, hd, hy2, hw, hl, hs, hn, ho⟩
  · refine Ev.step (fun k => rfl) (Ev.bind hd ?_)
    refine Ev.congr (f := fun _ => some true) (fun k => ?_) (Ev.now _)
    dsimp only
    rw [num_id, Option.bind_some, if_neg hc, if_pos rfl]
    rfl
  · have hen := cenc_is s n op hs hn ho
    rw [if_pos hw, if_neg (by omega), ← hy2] at hen
    refine Ev.step (fun k => rfl) (Ev.bind hd ?_)
    refine Ev.congr (f := fun kk => (client_Encode.f kk s n op).bind fun bt228 => ((undercroftlaw20_num.f bt228.2).bind fun t232 => (if t232 = 0 then ((undercroftplain_SameBytes.f kk bt228.1 y).bind fun t233 => (some t233)) else (some false)))) (fun kk => ?_) (Ev.bind hen ?_)
    · dsimp only
      rw [num_id, Option.bind_some, if_pos rfl]
    · refine Ev.congr (f := fun kk => (undercroftplain_SameBytes.f kk y y).bind fun t244 => some t244) (fun kk => ?_) (Ev.bind (csame y (by omega)) (Ev.now _))
      dsimp only
      rw [num_id, Option.bind_some, if_pos rfl]
theorem ClientBack (l0 : S24) (l1 : List Int) (h0 : ok24 l0) (h1 : (l1.length * 1 ≤ 140737488351232 ∧ l1.length ≤ maxLen ∧ ∀ y22 ∈ l1, (Lit.int .u8 y22).wf = true)) : ∃ k, undercroftlaw20_ClientBack.f k l0.f0 l0.f1 l0.f2 l1 = some true := by
  have hs : I64 l0.f0 := wf_i64 h0.1
  have hn : I64 l0.f1 := wf_i64 h0.2.1
  have ho : Oct l0.f2 := Oct.of_wf h0.2.2.2.2
  have hj := cback_j0 l1 (Oct.of_wf h1.2.2) (by have := h1.1; omega)
  have he := cenc_is l0.f0 l0.f1 l0.f2 hs hn ho
  refine Ev.rounds ?_
  unfold undercroftlaw20_ClientBack.f
  refine Ev.bind alive_is ?_
  refine Ev.congr (fun k => if_pos rfl) ?_
  refine Ev.bind he ?_
  by_cases hw : whoOk l0.f0 l0.f1 = true
  · rw [if_pos hw]
    by_cases hl : 200 < l0.f2.length
    · rw [if_pos hl]
      refine Ev.congr (f := fun k => undercroftlaw20_ClientBack.j0 k l1) (fun k => ?_) hj
      dsimp only
      rw [num_id, Option.bind_some, if_neg (by decide)]
    · rw [if_neg hl]
      have hd := cdec_seal l0.f0 l0.f1 l0.f2 hs hn ho hw (by omega)
      have hlen := cenc_len l0.f0 l0.f1 l0.f2 (by omega)
      refine Ev.congr (f := fun k => (client_Decode.f k (sealW (bodyI 8 [l0.f0, l0.f1] [l0.f2]))).bind fun bt211 => ((undercroftlaw20_num.f bt211.2.2.2).bind fun t218 => (if t218 = 0 then (if bt211.1 = l0.f0 then (if bt211.2.1 = l0.f1 then ((undercroftplain_SameBytes.f k bt211.2.2.1 l0.f2).bind fun t219 => (if t219 = true then (undercroftlaw20_ClientBack.j0 k l1) else (some false))) else (some false)) else (some false)) else (some false)))) (fun k => ?_) (Ev.bind hd ?_)
      · dsimp only
        rw [num_id, Option.bind_some, if_pos rfl]
        have hneg : ¬ ((sealW (bodyI 8 [l0.f0, l0.f1] [l0.f2])).length : Int) > 256 := by omega
        simp only [if_neg hneg]
      · refine Ev.congr (f := fun k => (undercroftplain_SameBytes.f k l0.f2 l0.f2).bind fun t219 => (if t219 = true then (undercroftlaw20_ClientBack.j0 k l1) else (some false))) (fun k => ?_) (Ev.bind (csame l0.f2 (by omega)) (Ev.congr (fun k => if_pos rfl) hj))
        dsimp only
        rw [num_id, Option.bind_some, if_pos rfl, if_pos rfl, if_pos rfl]
  · rw [if_neg hw]
    refine Ev.congr (f := fun k => undercroftlaw20_ClientBack.j0 k l1) (fun k => ?_) hj
    dsimp only
    rw [num_id, Option.bind_some, if_neg (by decide)]

end Go.Proofs.YtofflfacfjkikaaDoor.Pure
