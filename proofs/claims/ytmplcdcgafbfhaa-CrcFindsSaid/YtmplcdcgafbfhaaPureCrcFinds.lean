/- What was sealed is opened; with up to 32 bits in a row turned it is not: for every list of octets, every place and every turn, no condition beyond the form's reach. -/
import Derived.Test.YtmplcdcgafbfhaaPCrcFindsx2
import Derived.Lib.Bytes
namespace Go.Proofs.Ytmplcdcgafbfhaa.Pure
open Go.RowKit Go.Proofs.Ytmplcdcgafbfhaa.PCrcFinds Go.Proofs.YtmplcdcgafbfhaaW.PrintWords Go.Proofs.YtmplcdcgafbfhaaW.PrintLast Go.Proofs.YtmplcdcgafbfhaaW.PrintMore
set_option linter.unusedVariables false
set_option linter.unusedSimpArgs false

theorem w_id {x : Int} (h0 : -9223372036854775808 ≤ x) (h1 : x ≤ 9223372036854775807) : wrap64 x = x := by unfold wrap64; omega
theorem wf_i64 {a : Int} (h : (Lit.int .i64 a).wf = true) : -9223372036854775808 ≤ a ∧ a ≤ 9223372036854775807 := by
  simpa [Lit.wf, IntKind.min, IntKind.max, IntKind.signed, IntKind.bits] using h
theorem wf_u8 {a : Int} (h : (Lit.int .u8 a).wf = true) : 0 ≤ a ∧ a ≤ 255 := by
  simpa [Lit.wf, IntKind.min, IntKind.max, IntKind.signed, IntKind.bits] using h
theorem wf_u32 {a : Int} (h : (Lit.int .u32 a).wf = true) : 0 ≤ a ∧ a ≤ 4294967295 := by
  simpa [Lit.wf, IntKind.min, IntKind.max, IntKind.signed, IntKind.bits] using h
theorem wf_u64 {a : Int} (h : (Lit.int .u64 a).wf = true) : 0 ≤ a ∧ a ≤ 18446744073709551615 := by
  simpa [Lit.wf, IntKind.min, IntKind.max, IntKind.signed, IntKind.bits] using h
/-- All are octets. -/
def Oct (l : List Int) : Prop := ∀ x ∈ l, 0 ≤ x ∧ x ≤ 255
theorem Oct.of_wf {l : List Int} (h : ∀ x ∈ l, (Lit.int .u8 x).wf = true) : Oct l := fun x hx => wf_u8 (h x hx)
theorem Oct.nil : Oct [] := fun _ h => by cases h
theorem Oct.append {a b : List Int} (ha : Oct a) (hb : Oct b) : Oct (a ++ b) := fun x hx => (List.mem_append.1 hx).elim (ha x) (hb x)
theorem Oct.take {a : List Int} (ha : Oct a) (n : Nat) : Oct (a.take n) := fun x hx => ha x (List.mem_of_mem_take hx)
theorem Oct.drop {a : List Int} (ha : Oct a) (n : Nat) : Oct (a.drop n) := fun x hx => ha x (List.mem_of_mem_drop hx)
theorem rd_nat (l : List Int) (k : Nat) (h : k < l.length) : rd l (k : Int) = l[k] := by
  unfold rd
  simp [List.getD_eq_getElem?_getD, h]

theorem sameBytes_loop (a b : List Int) (hl : a.length = b.length) (hm : a.length ≤ 9223372036854775807) : ∀ (d k i : Nat), i + d = a.length → d < k → a.take i = b.take i →
    undercroftplain_SameBytes.l0 k a b (i : Int) = some (decide (a = b)) := by
  intro d
  induction d with
  | zero =>
    intro k i hi hk ht
    obtain ⟨k, rfl⟩ : ∃ m, k = m + 1 := ⟨k - 1, by omega⟩
    simp only [undercroftplain_SameBytes.l0]
    rw [if_neg (by omega)]
    have : a = b := by
      rw [List.take_of_length_le (by omega), List.take_of_length_le (by omega)] at ht
      exact ht
    rw [decide_eq_true this]
  | succ d ih =>
    intro k i hi hk ht
    obtain ⟨k, rfl⟩ : ∃ m, k = m + 1 := ⟨k - 1, by omega⟩
    simp only [undercroftplain_SameBytes.l0]
    rw [if_pos (by omega), if_pos (by omega), if_pos (by omega), rd_nat a i (by omega), rd_nat b i (by omega)]
    by_cases h : a[i]'(by omega) = b[i]'(by omega)
    · rw [if_pos h, w_id (by omega) (by omega)]
      have := ih k (i + 1) (by omega) (by omega) (by
        rw [List.take_succ_eq_append_getElem (by omega), List.take_succ_eq_append_getElem (by omega), ht, h])
      exact_mod_cast this
    · rw [if_neg h]
      have : a ≠ b := by
        rintro rfl
        exact h rfl
      rw [decide_eq_false this]
theorem sameBytes_is (a b : List Int) (k : Nat) (hk : a.length < k) (hm : a.length ≤ 9223372036854775807) : undercroftplain_SameBytes.f k a b = some (decide (a = b)) := by
  unfold undercroftplain_SameBytes.f
  by_cases hl : a.length = b.length
  · rw [if_pos (by omega)]
    exact sameBytes_loop a b hl hm a.length k 0 (by omega) hk rfl
  · rw [if_neg (by omega)]
    have : a ≠ b := by
      rintro rfl
      exact hl rfl
    rw [decide_eq_false this]

/-- '(a % n + n) % n' lies in 0 .. n - 1. -/
theorem mod_in (a n : Int) (h0 : 0 < n) (h1 : n ≤ 4611686018427387904) : 0 ≤ Int.tmod (wrap64 ((Int.tmod a n) + n)) n ∧ Int.tmod (wrap64 ((Int.tmod a n) + n)) n < n := by
  have h1' := Int.tmod_lt_of_pos a h0
  have h2 : -n < Int.tmod a n := by
    rcases Int.le_total 0 a with h | h
    · have := Int.tmod_nonneg n h; omega
    · have := Int.neg_tmod (a := a) (b := n)
      have h3 := Int.tmod_lt_of_pos (-a) h0
      omega
  rw [w_id (by omega) (by omega)]
  have h3 := Int.tmod_lt_of_pos (Int.tmod a n + n) h0
  have h4 := Int.tmod_nonneg n (show 0 ≤ Int.tmod a n + n by omega)
  omega


namespace CrcMath
abbrev R := BitVec 32
def poly : R := 0xedb88320#32
def b1 (c : R) : R := (c >>> 1) ^^^ (if c.getLsbD 0 then poly else 0#32)
def bs : Nat → R → R
  | 0, c => c
  | n + 1, c => bs n (b1 c)
theorem b1_zero : b1 0#32 = 0#32 := by decide
theorem b1_xor (a b : R) : b1 (a ^^^ b) = b1 a ^^^ b1 b := by
  unfold b1
  rw [BitVec.ushiftRight_xor_distrib, BitVec.getLsbD_xor]
  cases a.getLsbD 0 <;> cases b.getLsbD 0 <;> simp
  · ac_rfl
  · ac_rfl
  · rw [show a >>> 1 ^^^ poly ^^^ (b >>> 1 ^^^ poly) = (a >>> 1 ^^^ b >>> 1) ^^^ (poly ^^^ poly) by ac_rfl]
    simp
theorem bs_zero (n : Nat) : bs n 0#32 = 0#32 := by
  induction n with
  | zero => rfl
  | succ n ih => rw [bs, b1_zero, ih]
theorem bs_xor (n : Nat) (a b : R) : bs n (a ^^^ b) = bs n a ^^^ bs n b := by
  induction n generalizing a b with
  | zero => rfl
  | succ n ih => rw [bs, b1_xor, ih]; rfl
theorem bs_add (m n : Nat) (c : R) : bs (m + n) c = bs n (bs m c) := by
  induction m generalizing c with
  | zero => simp [bs]
  | succ m ih => rw [Nat.succ_add, bs, ih]; rfl
theorem b1_eq_zero (c : R) (h : b1 c = 0#32) : c = 0#32 := by
  unfold b1 at h
  by_cases h0 : c.getLsbD 0 = true
  · exfalso
    have h31 := congrArg (fun x : R => x.getLsbD 31) h
    simp [h0, poly] at h31
  · have h0' : c.getLsbD 0 = false := by simpa using h0
    rw [h0'] at h
    simp at h
    apply BitVec.eq_of_getLsbD_eq
    intro i hi
    rcases Nat.eq_zero_or_pos i with rfl | hp
    · simpa using h0'
    · have := congrArg (fun x : R => x.getLsbD (i - 1)) h
      simp only [BitVec.getLsbD_ushiftRight] at this
      rw [show 1 + (i - 1) = i by omega] at this
      simpa using this
theorem bs_eq_zero (n : Nat) (c : R) (h : bs n c = 0#32) : c = 0#32 := by
  induction n generalizing c with
  | zero => exact h
  | succ n ih => exact b1_eq_zero c (ih _ h)
theorem xor_eq_zero {a b : R} (h : a ^^^ b = 0#32) : a = b := by
  have := congrArg (fun x => x ^^^ b) h
  simpa [BitVec.xor_assoc] using this
theorem bs_inj (n : Nat) (a b : R) (h : bs n a = bs n b) : a = b := by
  apply xor_eq_zero
  apply bs_eq_zero n
  rw [bs_xor, h]
  simp
/-- Bits above the lowest n fall down. -/
theorem b1_even (c : R) (h : c.getLsbD 0 = false) : b1 c = c >>> 1 := by
  unfold b1
  rw [h]
  simp
theorem bs_high (n : Nat) (c : R) (h : ∀ i, i < n → c.getLsbD i = false) : bs n c = c >>> n := by
  induction n generalizing c with
  | zero => simp [bs]
  | succ n ih =>
    rw [bs, b1_even c (h 0 (by omega)), ih, ← BitVec.shiftRight_add]
    · rw [Nat.add_comm]
    · intro i hi
      rw [BitVec.getLsbD_ushiftRight]
      exact h _ (by omega)
/-- Four bits at once: a table of sixteen serves. -/
theorem bs4 (c : R) : bs 4 c = (c >>> 4) ^^^ bs 4 (c &&& 15#32) := by
  have hc : c = (c >>> 4 <<< 4) ^^^ (c &&& 15#32) := by
    apply BitVec.eq_of_getLsbD_eq
    intro i hi
    simp only [BitVec.getLsbD_xor, BitVec.getLsbD_shiftLeft, BitVec.getLsbD_ushiftRight, BitVec.getLsbD_and]
    by_cases h4 : i < 4
    · have : (15#32).getLsbD i = true := by
        rcases i with _ | _ | _ | _ | i <;> first | rfl | omega
      simp [h4, this]
    · have : (15#32).getLsbD i = false := by
        rw [show (15#32) = BitVec.ofNat 32 15 from rfl, BitVec.getLsbD_ofNat]
        have : Nat.testBit 15 i = false := Nat.testBit_lt_two_pow (Nat.lt_of_lt_of_le (by decide : 15 < 2 ^ 4) (Nat.pow_le_pow_right (by decide) (by omega)))
        simp [this]
      rw [this, show 4 + (i - 4) = i by omega]
      simp [h4, hi]
  have h1 : bs 4 (c >>> 4 <<< 4) = c >>> 4 := by
    rw [bs_high]
    · apply BitVec.eq_of_getLsbD_eq
      intro i hi
      simp only [BitVec.getLsbD_shiftLeft, BitVec.getLsbD_ushiftRight]
      by_cases h : 4 + i < 32
      · simp [h]
      · simp [h]
        exact (BitVec.getLsbD_of_ge _ _ (by omega))
    · intro i hi
      simp [BitVec.getLsbD_shiftLeft, hi]
  calc bs 4 c = bs 4 ((c >>> 4 <<< 4) ^^^ (c &&& 15#32)) := by rw [← hc]
    _ = _ := by rw [bs_xor, h1]
/-- An octet more. -/
def step (c : R) (x : BitVec 8) : R := bs 8 (c ^^^ x.setWidth 32)
def run (c : R) (l : List (BitVec 8)) : R := l.foldl step c
theorem run_append (c : R) (a b : List (BitVec 8)) : run c (a ++ b) = run (run c a) b := by simp [run]
theorem step_xor (c d : R) (x y : BitVec 8) : step (c ^^^ d) (x ^^^ y) = step c x ^^^ step d y := by
  unfold step
  rw [← bs_xor]
  congr 1
  rw [BitVec.setWidth_xor]
  ac_rfl
/-- Two texts of one length. -/
def mix : List (BitVec 8) → List (BitVec 8) → List (BitVec 8) := List.zipWith (· ^^^ ·)
theorem run_mix (a b : List (BitVec 8)) (h : a.length = b.length) (c d : R) : run (c ^^^ d) (mix a b) = run c a ^^^ run d b := by
  induction a generalizing b c d with
  | nil => cases b with
    | nil => rfl
    | cons _ _ => simp at h
  | cons x a ih => cases b with
    | nil => simp at h
    | cons y b =>
      show run (step (c ^^^ d) (x ^^^ y)) (mix a b) = run (step c x) a ^^^ run (step d y) b
      rw [step_xor]
      exact ih b (by simpa using h) _ _
theorem run_inj (l : List (BitVec 8)) (c d : R) (h : run c l = run d l) : c = d := by
  induction l generalizing c d with
  | nil => exact h
  | cons x l ih =>
    have := bs_inj 8 _ _ (ih _ _ h)
    have h2 := congrArg (fun z => z ^^^ x.setWidth 32) this
    simpa [BitVec.xor_assoc] using h2
/-- What a register's change comes to behind a text. -/
theorem run_xor (l : List (BitVec 8)) (c d : R) : run (c ^^^ d) l = run c l ^^^ bs (8 * l.length) d := by
  induction l generalizing c d with
  | nil => simp [run, bs]
  | cons x l ih =>
    have h : step (c ^^^ d) x = step c x ^^^ bs 8 d := by
      unfold step
      rw [← bs_xor]
      congr 1
      ac_rfl
    show run (step (c ^^^ d) x) l = run (step c x) l ^^^ bs (8 * (l.length + 1)) d
    rw [h, ih, ← bs_add, show 8 + 8 * l.length = 8 * (l.length + 1) by omega]
theorem bs_shl (n : Nat) (x : R) (h : x <<< n >>> n = x) : bs n (x <<< n) = x := by
  rw [bs_high, h]
  intro i hi
  simp [BitVec.getLsbD_shiftLeft, hi]
theorem one_shl (q : Nat) (h : q < 32) : (1#32) <<< q >>> q = 1#32 := by
  apply BitVec.eq_of_getLsbD_eq
  intro i hi
  simp only [BitVec.getLsbD_ushiftRight, BitVec.getLsbD_shiftLeft]
  by_cases h0 : i = 0
  · subst h0; simp [h]
  · have : (1#32).getLsbD i = false := by
      rw [BitVec.getLsbD_one]; simp [h0]
    rw [show q + i - q = i by omega, this]; simp
theorem bs_one (q m : Nat) (hq : q < 32) (hm : q ≤ m) : bs m ((1#32) <<< q) = bs (m - q) 1#32 := by
  have : bs (q + (m - q)) ((1#32) <<< q) = bs (m - q) 1#32 := by rw [bs_add, bs_shl _ _ (one_shl q hq)]
  rwa [show q + (m - q) = m by omega] at this
/-- One bit turned. -/
theorem run_turn (l : List (BitVec 8)) (c : R) (j q : Nat) (hj : j < l.length) (hq : q < 8) :
    run c (l.set j (l[j] ^^^ (1#8) <<< q)) = run c l ^^^ bs (8 * (l.length - j) - q) 1#32 := by
  induction l generalizing c j with
  | nil => simp at hj
  | cons x l ih =>
    cases j with
    | zero =>
      show run (step c (x ^^^ (1#8) <<< q)) l = run (step c x) l ^^^ bs (8 * (l.length + 1 - 0) - q) 1#32
      have h : step c (x ^^^ (1#8) <<< q) = step c x ^^^ bs (8 - q) 1#32 := by
        rw [← bs_one q 8 (by omega) (by omega)]
        unfold step
        rw [← bs_xor]
        congr 1
        rw [BitVec.setWidth_xor]
        have : BitVec.setWidth 32 ((1#8) <<< q) = (1#32) <<< q := by
          rcases q with _ | _ | _ | _ | _ | _ | _ | _ | q <;> first | rfl | omega
        rw [this]
        ac_rfl
      rw [h, run_xor, ← bs_add, show 8 - q + 8 * l.length = 8 * (l.length + 1 - 0) - q by omega]
    | succ j =>
      show run (step c x) (l.set j (l[j]'(by simpa using hj) ^^^ (1#8) <<< q)) = run (step c x) l ^^^ bs (8 * (l.length + 1 - (j + 1)) - q) 1#32
      rw [ih _ _ (by simpa using hj), show l.length + 1 - (j + 1) = l.length - j by omega]
/-- A register's octets, the lowest first. -/
def low (t : R) : List (BitVec 8) := [t.setWidth 8, (t >>> 8).setWidth 8, (t >>> 16).setWidth 8, (t >>> 24).setWidth 8]
theorem part_shl (t : R) (n : Nat) (hn : n ≤ 24) : ((t >>> n).setWidth 8).setWidth 32 <<< n >>> n = ((t >>> n).setWidth 8).setWidth 32 := by
  apply BitVec.eq_of_getLsbD_eq
  intro i hi
  simp only [BitVec.getLsbD_ushiftRight, BitVec.getLsbD_shiftLeft, BitVec.getLsbD_setWidth]
  by_cases h8 : i < 8
  · rw [show n + i - n = i by omega]
    have : n + i < 32 := by omega
    simp [h8, this, hi]
  · rw [show n + i - n = i by omega]
    simp [h8]
theorem low_join (t : R) : (t.setWidth 8).setWidth 32 ^^^ ((t >>> 8).setWidth 8).setWidth 32 <<< 8 ^^^ ((t >>> 16).setWidth 8).setWidth 32 <<< 16 ^^^ ((t >>> 24).setWidth 8).setWidth 32 <<< 24 = t := by
  apply BitVec.eq_of_getLsbD_eq
  intro i hi
  simp only [BitVec.getLsbD_xor, BitVec.getLsbD_shiftLeft, BitVec.getLsbD_setWidth, BitVec.getLsbD_ushiftRight]
  by_cases h1 : i < 8
  · simp [h1, hi, show i < 16 by omega, show i < 24 by omega]
  · by_cases h2 : i < 16
    · simp [h1, h2, hi, show i < 24 by omega, show i - 8 < 8 by omega, show 8 + (i - 8) = i by omega, show i - 8 < 32 by omega]
    · by_cases h3 : i < 24
      · simp [h1, h2, h3, hi, show ¬ i - 8 < 8 by omega, show i - 16 < 8 by omega, show 16 + (i - 16) = i by omega, show i - 16 < 32 by omega]
      · simp [h1, h2, h3, hi, show ¬ i - 8 < 8 by omega, show ¬ i - 16 < 8 by omega, show i - 24 < 8 by omega, show 24 + (i - 24) = i by omega, show i - 24 < 32 by omega]
theorem run_low (s t : R) : run s (low t) = bs 32 (s ^^^ t) := by
  have key : ∀ (n : Nat) (c : R), n ≤ 24 → step (bs n c) ((t >>> n).setWidth 8) = bs (n + 8) (c ^^^ ((t >>> n).setWidth 8).setWidth 32 <<< n) := by
    intro n c hn
    unfold step
    rw [bs_add, bs_xor n, bs_shl _ _ (part_shl t n hn)]
  have h0 := key 0 s (by omega)
  have e0 : t >>> 0 = t := by simp
  have s0 : ∀ x : R, x <<< 0 = x := by intro x; simp
  rw [e0, s0] at h0
  have h1 : step s (t.setWidth 8) = bs 8 (s ^^^ (t.setWidth 8).setWidth 32) := by rw [← h0]; rfl
  have h2 := key 8 (s ^^^ (t.setWidth 8).setWidth 32) (by omega)
  have h3 := key 16 (s ^^^ (t.setWidth 8).setWidth 32 ^^^ ((t >>> 8).setWidth 8).setWidth 32 <<< 8) (by omega)
  have h4 := key 24 (s ^^^ (t.setWidth 8).setWidth 32 ^^^ ((t >>> 8).setWidth 8).setWidth 32 <<< 8 ^^^ ((t >>> 16).setWidth 8).setWidth 32 <<< 16) (by omega)
  have hj := low_join t
  simp only [run, low, List.foldl_cons, List.foldl_nil]
  rw [h1, h2, h3, h4]
  generalize (t.setWidth 8).setWidth 32 = x0 at *
  generalize ((t >>> 8).setWidth 8).setWidth 32 <<< 8 = x1 at *
  generalize ((t >>> 16).setWidth 8).setWidth 32 <<< 16 = x2 at *
  generalize ((t >>> 24).setWidth 8).setWidth 32 <<< 24 = x3 at *
  subst hj
  congr 1
  ac_rfl
def sum (c : R) (l : List (BitVec 8)) : R := ~~~ run (~~~ c) l
def rest : R := bs 32 0xffffffff#32
theorem run_sealed (l : List (BitVec 8)) (t : R) : run 0xffffffff#32 (l ++ low t) = rest ↔ t = sum 0 l := by
  rw [run_append, run_low]
  unfold rest sum
  have e : (~~~ (0 : R)) = 0xffffffff#32 := by decide
  rw [e]
  constructor
  · intro h
    have := bs_inj 32 _ _ h
    have h2 := congrArg (fun z => run 0xffffffff#32 l ^^^ z) this
    simp only [← BitVec.xor_assoc, BitVec.xor_self, BitVec.zero_xor] at h2
    rw [h2]
    apply BitVec.eq_of_getLsbD_eq
    intro i hi
    have : (0xffffffff#32).getLsbD i = true := by
      rw [show (0xffffffff#32) = BitVec.allOnes 32 by decide, BitVec.getLsbD_allOnes]; simp [hi]
    simp only [BitVec.getLsbD_xor, BitVec.getLsbD_not, hi, this]; simp
  · rintro rfl
    congr 1
    apply BitVec.eq_of_getLsbD_eq
    intro i hi
    have : (0xffffffff#32).getLsbD i = true := by
      rw [show (0xffffffff#32) = BitVec.allOnes 32 by decide, BitVec.getLsbD_allOnes]; simp [hi]
    simp only [BitVec.getLsbD_xor, BitVec.getLsbD_not, hi, this]; simp
theorem sum_sealed (l : List (BitVec 8)) : sum 0 (l ++ low (sum 0 l)) = ~~~ rest := by
  have := (run_sealed l (sum 0 l)).2 rfl
  generalize sum 0 l = z at *
  unfold sum
  rw [show (~~~ (0 : R)) = 0xffffffff#32 by decide, this]
theorem rest_is : ~~~ rest = 0x2144df1c#32 := by decide
theorem sum_append (c : R) (a b : List (BitVec 8)) : sum c (a ++ b) = sum (sum c a) b := by
  unfold sum
  rw [run_append, BitVec.not_not]
theorem sum_nil (c : R) : sum c [] = c := by simp [sum, run]
theorem sum_three (a b c : List (BitVec 8)) (h1 : a.length = b.length) (h2 : b.length = c.length) :
    sum 0 (mix (mix a b) c) = sum 0 a ^^^ sum 0 b ^^^ sum 0 c := by
  unfold sum
  have hl : (mix a b).length = c.length := by simp [mix]; omega
  have e : (~~~ (0 : R)) = (~~~ (0 : R) ^^^ ~~~ (0 : R)) ^^^ ~~~ (0 : R) := by decide
  have : run (~~~ (0 : R)) (mix (mix a b) c) = run (~~~ (0 : R)) a ^^^ run (~~~ (0 : R)) b ^^^ run (~~~ (0 : R)) c := by
    conv => lhs; rw [e]
    rw [run_mix _ _ hl, run_mix _ _ h1]
  rw [this]
  apply BitVec.eq_of_getLsbD_eq
  intro i hi
  simp only [BitVec.getLsbD_xor, BitVec.getLsbD_not, hi]
  cases (run (~~~ (0 : R)) a).getLsbD i <;> cases (run (~~~ (0 : R)) b).getLsbD i <;> cases (run (~~~ (0 : R)) c).getLsbD i <;> rfl
end CrcMath

open CrcMath
def reg (c : Int) : R := BitVec.ofInt 32 c
def oct (x : Int) : BitVec 8 := BitVec.ofInt 8 x
def num (r : R) : Int := (r.toNat : Int)
theorem num_range (r : R) : 0 ≤ num r ∧ num r ≤ 4294967295 := by unfold num; have := r.isLt; omega
theorem reg_num (r : R) : reg (num r) = r := by
  unfold reg num
  rw [BitVec.ofInt_natCast]
  simp
theorem num_reg (c : Int) (h0 : 0 ≤ c) (h1 : c ≤ 4294967295) : num (reg c) = c := by
  obtain ⟨n, rfl⟩ := Int.eq_ofNat_of_zero_le h0
  unfold reg num
  rw [BitVec.ofInt_natCast, BitVec.toNat_ofNat, Nat.mod_eq_of_lt (by omega)]
theorem xor_u32 (a b : Int) : Go.bits .xor .u32 a b = num (reg a ^^^ reg b) := by
  show IntKind.u32.wrap _ = _
  rw [IntKind.wrap_u32]
  have := (reg a ^^^ reg b).isLt
  show ((reg a ^^^ reg b).toNat : Int) % 4294967296 = ((reg a ^^^ reg b).toNat : Int)
  omega
theorem and_u32 (a b : Int) : Go.bits .and .u32 a b = num (reg a &&& reg b) := by
  show IntKind.u32.wrap _ = _
  rw [IntKind.wrap_u32]
  have := (reg a &&& reg b).isLt
  show ((reg a &&& reg b).toNat : Int) % 4294967296 = ((reg a &&& reg b).toNat : Int)
  omega
theorem reg_half (r : R) (n : Nat) : reg (num r / (2 ^ n : Nat)) = r >>> n := by
  unfold reg num
  rw [← Int.natCast_ediv, BitVec.ofInt_natCast]
  apply BitVec.eq_of_toNat_eq
  rw [BitVec.toNat_ofNat, BitVec.toNat_ushiftRight, Nat.shiftRight_eq_div_pow]
  exact Nat.mod_eq_of_lt (Nat.lt_of_le_of_lt (Nat.div_le_self _ _) r.isLt)
theorem nstep_is (r : R) : nstep (num r) = num (b1 r) := by
  unfold nstep b1
  rw [xor_u32, and_u32, and_u32, reg_num, reg_num, show num r / 2 = num r / (2 ^ 1 : Nat) by rfl, reg_half]
  congr 2
  by_cases h : r.getLsbD 0 = true
  · have e : r &&& reg 1 = 1#32 := by
      apply BitVec.eq_of_getLsbD_eq
      intro i hi
      rw [BitVec.getLsbD_and, show reg 1 = 1#32 by decide, BitVec.getLsbD_one]
      by_cases h0 : i = 0
      · subst h0; rw [h]; simp
      · simp [h0]
    rw [e, if_pos h]
    decide
  · have h' : r.getLsbD 0 = false := by simpa using h
    have e : r &&& reg 1 = 0#32 := by
      apply BitVec.eq_of_getLsbD_eq
      intro i hi
      rw [BitVec.getLsbD_and, show reg 1 = 1#32 by decide, BitVec.getLsbD_one]
      by_cases h0 : i = 0
      · subst h0; rw [h']; simp
      · simp [h0]
    rw [e, if_neg h]
    decide
theorem bs_out (n : Nat) (r : R) : bs (n + 1) r = b1 (bs n r) := by
  rw [bs_add]; rfl
theorem nibT_is (n : Nat) (r : R) : nibT n (num r) = num (bs n r) := by
  induction n with
  | zero => rfl
  | succ n ih => rw [nibT, ih, nstep_is, bs_out]
theorem hstep_is (r : R) : hstep (num r) = num (bs 4 r) := by
  unfold hstep
  rw [xor_u32, and_u32, reg_num, nibT_is, reg_num, show num r / 16 = num r / (2 ^ 4 : Nat) by rfl, reg_half, show reg 15 = 15#32 by decide, ← bs4]
theorem rstep_is (r : R) (x : Int) (h0 : 0 ≤ x) (h1 : x ≤ 255) : rstep (num r) x = num (CrcMath.step r (oct x)) := by
  unfold rstep CrcMath.step
  rw [xor_u32, reg_num, hstep_is, hstep_is, ← bs_add]
  congr 3
  unfold reg oct
  obtain ⟨n, rfl⟩ := Int.eq_ofNat_of_zero_le h0
  rw [Int.emod_eq_of_lt h0 (by omega), BitVec.ofInt_natCast, BitVec.ofInt_natCast]
  apply BitVec.eq_of_toNat_eq
  simp only [BitVec.toNat_ofNat, BitVec.toNat_setWidth]
  omega
theorem crcI_is (l : List Int) (hl : Oct l) (r : R) : crcI (num r) l = num (run r (l.map oct)) := by
  unfold crcI run
  induction l generalizing r with
  | nil => rfl
  | cons x l ih =>
    rw [List.foldl_cons, List.map_cons, List.foldl_cons, rstep_is r x (hl x (by simp)).1 (hl x (by simp)).2]
    exact ih (fun y hy => hl y (by simp [hy])) _
/-- The sum of octets, as a number. -/
def sumI (c : Int) (l : List Int) : Int := num (sum (reg c) (l.map oct))
theorem xor_ones (r : R) : reg 4294967295 ^^^ r = ~~~ r := by
  apply BitVec.eq_of_getLsbD_eq
  intro i hi
  rw [BitVec.getLsbD_xor, BitVec.getLsbD_not, show reg 4294967295 = BitVec.allOnes 32 by decide, BitVec.getLsbD_allOnes]
  simp [hi]
theorem extend_is (c : Int) (l : List Int) (hl : Oct l) : crc_Extend.f c l = some (sumI c l) := by
  unfold crc_Extend.f sumI sum
  rw [xor_u32, xor_u32, crcI_is _ hl, reg_num, xor_ones, xor_ones]
theorem sum_is (l : List Int) (hl : Oct l) : crc_Sum.f l = some (sumI 0 l) := by
  unfold crc_Sum.f
  rw [extend_is 0 l hl]
  rfl
theorem sumI_range (c : Int) (l : List Int) : 0 ≤ sumI c l ∧ sumI c l ≤ 4294967295 := num_range _
theorem sumI_append (c : Int) (a b : List Int) : sumI c (a ++ b) = sumI (sumI c a) b := by
  unfold sumI
  rw [List.map_append, sum_append, reg_num]
theorem sumI_nil (c : Int) (h0 : 0 ≤ c) (h1 : c ≤ 4294967295) : sumI c [] = c := by
  unfold sumI
  rw [List.map_nil, sum_nil, num_reg c h0 h1]

/-- A number's four octets, the lowest first. -/
def lowI (c : Int) : List Int := [c % 256, c / 256 % 256, c / 65536 % 256, c / 16777216 % 256]
theorem lowI_oct (c : Int) : Oct (lowI c) := by
  intro x hx
  simp [lowI] at hx
  omega
theorem low_is (c : Int) (k : Nat) (hk : 5 ≤ k) : crc_low.f k c = some (lowI c) := by
  obtain ⟨k, rfl⟩ : ∃ m, k = m + 5 := ⟨k - 5, by omega⟩
  unfold crc_low.f
  rw [if_pos (by omega)]
  simp only [Option.bind_some, List.length_replicate]
  have e0 : wrap64 0 = 0 := w_id (by omega) (by omega)
  have e1 : wrap64 1 = 1 := w_id (by omega) (by omega)
  have e2 : wrap64 2 = 2 := w_id (by omega) (by omega)
  have e3 : wrap64 3 = 3 := w_id (by omega) (by omega)
  have e4 : wrap64 4 = 4 := w_id (by omega) (by omega)
  have e8 : wrap64 8 = 8 := w_id (by omega) (by omega)
  have e16 : wrap64 16 = 16 := w_id (by omega) (by omega)
  have e24 : wrap64 24 = 24 := w_id (by omega) (by omega)
  have s0 : shr .u32 c 0 = c := by simp [shr]
  have s1 : shr .u32 c 8 = c / 256 := by simp [shr, IntKind.bits]
  have s2 : shr .u32 c 16 = c / 65536 := by simp [shr, IntKind.bits]
  have s3 : shr .u32 c 24 = c / 16777216 := by simp [shr, IntKind.bits]
  show crc_low.l0 (k + 5) c [0, 0, 0, 0] 4 0 = _
  simp [crc_low.l0, e0, e1, e2, e3, e4, e8, e16, e24, s0, s1, s2, s3, lowI]
theorem map_oct_lowI (r : R) : (lowI (num r)).map oct = low r := by
  unfold lowI low num oct
  simp only [List.map_cons, List.map_nil]
  have key : ∀ (n : Nat), n = 0 ∨ n = 8 ∨ n = 16 ∨ n = 24 → BitVec.ofInt 8 ((r.toNat : Int) / (2 ^ n : Nat) % 256) = (r >>> n).setWidth 8 := by
    intro n _
    rw [← Int.natCast_ediv]
    have : ((r.toNat / 2 ^ n : Nat) : Int) % 256 = ((r.toNat / 2 ^ n % 256 : Nat) : Int) := by omega
    rw [this, BitVec.ofInt_natCast]
    apply BitVec.eq_of_toNat_eq
    rw [BitVec.toNat_ofNat, BitVec.toNat_setWidth, BitVec.toNat_ushiftRight, Nat.shiftRight_eq_div_pow]
    omega
  have k0 := key 0 (by simp)
  have k1 := key 8 (by simp)
  have k2 := key 16 (by simp)
  have k3 := key 24 (by simp)
  simp only [Nat.pow_zero, Int.natCast_one, Int.ediv_one] at k0
  rw [show r >>> 0 = r by simp] at k0
  rw [k0]
  have h1 : (r.toNat : Int) / 256 = (r.toNat : Int) / (2 ^ 8 : Nat) := rfl
  have h2 : (r.toNat : Int) / 65536 = (r.toNat : Int) / (2 ^ 16 : Nat) := rfl
  have h3 : (r.toNat : Int) / 16777216 = (r.toNat : Int) / (2 ^ 24 : Nat) := rfl
  rw [h1, h2, h3, k1, k2, k3]
theorem lowI_inj (a b : Int) (ha : 0 ≤ a ∧ a ≤ 4294967295) (hb : 0 ≤ b ∧ b ≤ 4294967295) (h : lowI a = lowI b) : a = b := by
  simp [lowI] at h
  omega
theorem seal_is (l : List Int) (hl : Oct l) (k : Nat) (hk : 5 ≤ k) (hm : l.length + 4 < 140737488355328) : crc_Seal.f k l = some (l ++ lowI (sumI 0 l)) := by
  unfold crc_Seal.f
  rw [sum_is l hl]
  simp only [Option.bind_some]
  rw [low_is _ k hk]
  simp only [Option.bind_some]
  unfold slices_Concat_byte_byte.f
  rw [if_pos (by simp [lowI]; omega)]
  simp
theorem sealed_rest (l : List Int) : sumI 0 (l ++ lowI (sumI 0 l)) = 558161692 := by
  unfold sumI
  rw [List.map_append, map_oct_lowI, show reg 0 = 0 by rfl, sum_sealed, rest_is]
  decide

theorem equal_is (a b : List Int) (ha : Oct a) (hb : Oct b) : bytes_Equal.f a b = some (decide (a = b)) := by
  unfold bytes_Equal.f
  rw [Lib.strOfNums_toList, Lib.strOfNums_toList]
  congr 1
  by_cases h : a = b
  · subst h; simp
  · rw [decide_eq_false h]
    apply beq_eq_false_iff_ne.2
    intro e
    apply h
    unfold Lib.bytesOf at e
    apply List.ext_getElem
    · have := congrArg List.length e
      simpa using this
    · intro i h1 h2
      have := congrArg (fun l => l[i]?) e
      simp only [List.getElem?_map, List.getElem?_eq_getElem h1, List.getElem?_eq_getElem h2, Option.map_some, Option.some.injEq] at this
      have p := ha _ (List.getElem_mem h1)
      have q := hb _ (List.getElem_mem h2)
      have e2 := congrArg UInt8.toNat this
      simp only [UInt8.toNat_ofNat'] at e2
      omega
theorem open_short (y : List Int) (k : Nat) (h : y.length < 4) : crc_Open.f k y = some ([], 8) := by
  unfold crc_Open.f
  rw [if_pos (by omega)]
theorem open_is (y : List Int) (hy : Oct y) (k : Nat) (hk : 5 ≤ k) (h4 : 4 ≤ y.length) (hm : y.length < 140737488355328) :
    crc_Open.f k y = if y.drop (y.length - 4) = lowI (sumI 0 (y.take (y.length - 4))) then some (y.take (y.length - 4), 0) else some ([], 21) := by
  unfold crc_Open.f
  rw [if_neg (by omega), w_id (by omega) (by omega), if_pos (by omega), if_pos (by omega)]
  have e : ((y.length : Int) - 4).toNat = y.length - 4 := by omega
  rw [e, sum_is _ (hy.take _)]
  simp only [Option.bind_some]
  rw [low_is _ k hk]
  simp only [Option.bind_some]
  rw [equal_is _ _ (hy.drop _) (lowI_oct _)]
  simp only [Option.bind_some]
  by_cases h : y.drop (y.length - 4) = lowI (sumI 0 (y.take (y.length - 4)))
  · rw [if_pos h, if_pos (decide_eq_true h)]
    unfold bytes_Clone.f
    rw [if_pos (by rw [List.length_take]; omega)]
    rfl
  · rw [if_neg h, if_neg (by simpa using h)]
theorem open_sealed (l : List Int) (hl : Oct l) (k : Nat) (hk : 5 ≤ k) (hm : l.length + 4 < 140737488355328) : crc_Open.f k (l ++ lowI (sumI 0 l)) = some (l, 0) := by
  have e : (l ++ lowI (sumI 0 l)).length - 4 = l.length := by simp [lowI]
  rw [open_is _ (hl.append (lowI_oct _)) k hk (by simp [lowI]) (by simp [lowI]; try omega), e]
  simp

theorem xor_u8 (a b : Int) : Go.bits .xor .u8 a b = ((oct a ^^^ oct b).toNat : Int) := by
  show IntKind.u8.wrap _ = _
  rw [IntKind.wrap_u8]
  have := (oct a ^^^ oct b).isLt
  show ((oct a ^^^ oct b).toNat : Int) % 256 = ((oct a ^^^ oct b).toNat : Int)
  omega
theorem xor_u8_range (a b : Int) : 0 ≤ Go.bits .xor .u8 a b ∧ Go.bits .xor .u8 a b ≤ 255 := by
  rw [xor_u8]
  have := (oct a ^^^ oct b).isLt
  omega
theorem oct_xor (a b : Int) : oct (Go.bits .xor .u8 a b) = oct a ^^^ oct b := by
  rw [xor_u8]
  show BitVec.ofInt 8 _ = _
  rw [BitVec.ofInt_natCast]
  simp

/-- The residue of octets behind all ones. -/
def res (y : List Int) : R := run 0xffffffff#32 (y.map oct)
theorem lowI_of (c : Int) (h0 : 0 ≤ c) (h1 : c ≤ 4294967295) : (lowI c).map oct = low (reg c) := by
  rw [← map_oct_lowI, num_reg c h0 h1]
/-- Octets are opened exactly where their residue is the one of what is sealed. -/
theorem four_low (z : List Int) (hz : Oct z) (h4 : z.length = 4) : ∃ c : Int, 0 ≤ c ∧ c ≤ 4294967295 ∧ z = lowI c := by
  match z, h4 with
  | [a, b, c, d], _ =>
    have ha := hz a (by simp)
    have hb := hz b (by simp)
    have hc := hz c (by simp)
    have hd := hz d (by simp)
    refine ⟨a + 256 * b + 65536 * c + 16777216 * d, by omega, by omega, ?_⟩
    simp only [lowI, List.cons.injEq, and_true]
    omega
theorem opened_iff (y : List Int) (hy : Oct y) (h4 : 4 ≤ y.length) : y.drop (y.length - 4) = lowI (sumI 0 (y.take (y.length - 4))) ↔ res y = rest := by
  obtain ⟨c, h0, h1, hc⟩ := four_low (y.drop (y.length - 4)) (hy.drop _) (by rw [List.length_drop]; omega)
  have e : res y = run 0xffffffff#32 ((y.take (y.length - 4)).map oct ++ low (reg c)) := by
    unfold res
    conv => lhs; rw [← List.take_append_drop (y.length - 4) y, hc]
    rw [List.map_append, lowI_of c h0 h1]
  rw [e, run_sealed, hc]
  constructor
  · intro h
    have := lowI_inj _ _ ⟨h0, h1⟩ (sumI_range _ _) h
    rw [this]
    unfold sumI
    rw [reg_num]
    rfl
  · intro h
    congr 1
    rw [← num_reg c h0 h1, h]
    rfl
theorem res_turn (y : List Int) (j q : Nat) (hj : j < y.length) (hq : q < 8) : res (y.set j (Go.bits .xor .u8 (rd y (j : Int)) ((2 : Int) ^ q))) = res y ^^^ bs (8 * (y.length - j) - q) 1#32 := by
  unfold res
  rw [List.map_set, oct_xor, rd_nat y j hj]
  have h := run_turn (y.map oct) 0xffffffff#32 j q (by simpa using hj) hq
  rw [List.getElem_map] at h
  simp only [List.length_map] at h
  rw [← h]
  congr 3
  unfold oct
  rcases q with _ | _ | _ | _ | _ | _ | _ | _ | q <;> first | rfl | omega
/-- The lowest i bits. -/
def lowest (t : R) (i : Nat) : R := t &&& (BitVec.ofNat 32 (2 ^ i - 1))
theorem lowest_get (t : R) (i j : Nat) (hi : i ≤ 32) (hj : j < 32) : (lowest t i).getLsbD j = (t.getLsbD j && decide (j < i)) := by
  unfold lowest
  rw [BitVec.getLsbD_and, BitVec.getLsbD_ofNat]
  by_cases h : j < i
  · rw [Nat.testBit_two_pow_sub_one]; simp [hj, h]
  · rw [Nat.testBit_two_pow_sub_one]; simp [h]
theorem lowest_succ (t : R) (i : Nat) (hi : i < 32) : lowest t (i + 1) = lowest t i ^^^ (if t.getLsbD i = true then 1#32 <<< i else 0#32) := by
  apply BitVec.eq_of_getLsbD_eq
  intro j hj
  rw [BitVec.getLsbD_xor, lowest_get _ _ _ (by omega) hj, lowest_get _ _ _ (by omega) hj]
  by_cases h : t.getLsbD i = true
  · rw [if_pos h, BitVec.getLsbD_shiftLeft, BitVec.getLsbD_one]
    by_cases e : j = i
    · subst e; simp [h, hj]
    · by_cases h2 : j < i
      · simp [h2, hj, show j < i + 1 by omega]
      · have : ¬ j < i + 1 := by omega
        have h3 : j - i ≠ 0 := by omega
        simp [h2, this, hj, h3]
  · rw [if_neg h]
    by_cases e : j = i
    · subst e
      have h' : t.getLsbD j = false := by simpa using h
      rw [h']; simp
    · have : (decide (j < i + 1)) = (decide (j < i)) := by
        apply decide_eq_decide.2; omega
      rw [this]; simp
theorem lowest_all (t : R) : lowest t 32 = t := by
  apply BitVec.eq_of_getLsbD_eq
  intro j hj
  rw [lowest_get _ _ _ (by omega) hj]
  simp [hj]
theorem bit_is (t : R) (i : Nat) (hi : i < 32) : Go.bits .and .u32 (shr .u32 (num t) (i : Int)) 1 = 1 ↔ t.getLsbD i = true := by
  have e : shr .u32 (num t) (i : Int) = num t / (2 ^ i : Nat) := by
    unfold shr
    rw [Int.toNat_natCast, show min i IntKind.u32.bits = i from Nat.min_eq_left (by show i ≤ 32; omega)]
    norm_cast
  rw [e, and_u32, reg_half]
  by_cases h : t.getLsbD i = true
  · have e2 : t >>> i &&& reg 1 = 1#32 := by
      apply BitVec.eq_of_getLsbD_eq
      intro j hj
      rw [BitVec.getLsbD_and, BitVec.getLsbD_ushiftRight, show reg 1 = 1#32 by decide, BitVec.getLsbD_one]
      by_cases h0 : j = 0
      · subst h0; simp [h]
      · simp [h0]
    rw [e2]
    exact ⟨fun _ => h, fun _ => by decide⟩
  · have h' : t.getLsbD i = false := by simpa using h
    have e2 : t >>> i &&& reg 1 = 0#32 := by
      apply BitVec.eq_of_getLsbD_eq
      intro j hj
      rw [BitVec.getLsbD_and, BitVec.getLsbD_ushiftRight, show reg 1 = 1#32 by decide, BitVec.getLsbD_one]
      by_cases h0 : j = 0
      · subst h0; simp [h']
      · simp [h0]
    rw [e2]
    exact ⟨fun hh => absurd hh (by decide), fun hh => absurd hh h⟩
theorem finds_end (k : Nat) (y : List Int) (t : Int) (hy : Oct y) (hk : 5 ≤ k) (h4 : 4 ≤ y.length) (hm : y.length < 140737488355328) (h : res y = rest ↔ t = 0) :
    ((crc_Open.f k y).bind fun b => (if t = 0 then ((undercroftlaw02_num.f b.2).bind fun e => (if e = 0 then (some true) else (some false))) else ((undercroftlaw02_num.f b.2).bind fun e => (if e = 21 then (some ((b.1.length : Int) == 0)) else (some false))))) = some true := by
  rw [open_is y hy k hk h4 hm]
  by_cases ht : t = 0
  · rw [if_pos ((opened_iff y hy h4).2 (h.2 ht))]
    simp [ht, undercroftlaw02_num.f]
  · rw [if_neg (fun e => ht (h.1 ((opened_iff y hy h4).1 e)))]
    simp [ht, undercroftlaw02_num.f]
theorem Oct.set {y : List Int} (hy : Oct y) (j : Nat) (v : Int) (hv : 0 ≤ v ∧ v ≤ 255) : Oct (y.set j v) := by
  intro x hx
  rcases List.mem_or_eq_of_mem_set hx with h | h
  · exact hy x h
  · rw [h]; exact hv
theorem finds_loop (x : List Int) (a : Nat) (t : R) (hx : res x = rest) (h4 : 4 ≤ x.length) (ha : a ≤ 8 * (x.length - 4)) (hm : x.length < 140737488355328) :
    ∀ (d k i : Nat) (y : List Int), i + d = 32 → d + 5 < k → y.length = x.length → Oct y → res y = rest ^^^ bs (8 * x.length - a) (lowest t i) →
    undercroftlaw02_CrcFinds.l0 k (a : Int) (num t) y (i : Int) = some true := by
  intro d
  induction d with
  | zero =>
    intro k i y hi hk hl hy hr
    obtain ⟨k, rfl⟩ : ∃ m, k = m + 1 := ⟨k - 1, by omega⟩
    obtain rfl : i = 32 := by omega
    simp only [undercroftlaw02_CrcFinds.l0]
    rw [if_neg (by omega)]
    refine finds_end k y (num t) hy (by omega) (by omega) (by omega) ?_
    rw [hr, lowest_all]
    constructor
    · intro h
      have h2 := congrArg (fun z => rest ^^^ z) h
      simp only [← BitVec.xor_assoc, BitVec.xor_self, BitVec.zero_xor] at h2
      have := bs_eq_zero _ _ h2
      rw [this]; rfl
    · intro h
      have : t = 0#32 := by
        rw [← reg_num t, h]; rfl
      rw [this, bs_zero]; simp
  | succ d ih =>
    intro k i y hi hk hl hy hr
    obtain ⟨k, rfl⟩ : ∃ m, k = m + 1 := ⟨k - 1, by omega⟩
    simp only [undercroftlaw02_CrcFinds.l0]
    have hw : wrap64 ((i : Int) + 1) = ((i + 1 : Nat) : Int) := by rw [w_id (by omega) (by omega)]; omega
    rw [if_pos (by omega), if_pos (by omega), hw]
    by_cases hb : t.getLsbD i = true
    · rw [if_pos ((bit_is t i (by omega)).2 hb)]
      have e1 : wrap64 ((a : Int) + (i : Int)) = ((a + i : Nat) : Int) := by rw [w_id (by omega) (by omega)]; omega
      have e2 : wrap64 (Int.tdiv ((a + i : Nat) : Int) 8) = (((a + i) / 8 : Nat) : Int) := by
        rw [Int.tdiv_eq_ediv_of_nonneg (by omega), w_id (by omega) (by omega)]; omega
      have e3 : Int.tmod ((a + i : Nat) : Int) 8 = (((a + i) % 8 : Nat) : Int) := by
        rw [Int.tmod_eq_emod_of_nonneg (by omega)]; omega
      have e4 : shl .u8 1 (((a + i) % 8 : Nat) : Int) = (2 : Int) ^ ((a + i) % 8) := by
        have : (a + i) % 8 < 8 := Nat.mod_lt _ (by decide)
        generalize (a + i) % 8 = q at *
        rcases q with _ | _ | _ | _ | _ | _ | _ | _ | q <;> first | rfl | omega
      rw [e1, e2, e3, e4, if_pos (by omega), if_pos (by omega), if_pos (by omega), Int.toNat_natCast]
      refine ih k (i + 1) _ (by omega) (by omega) (by simpa using hl) (hy.set _ _ (xor_u8_range _ _)) ?_
      rw [res_turn y ((a + i) / 8) ((a + i) % 8) (by omega) (Nat.mod_lt _ (by decide)), hr, lowest_succ t i (by omega), if_pos hb, bs_xor, bs_one i _ (by omega) (by omega), hl, BitVec.xor_assoc]
      congr 3
      omega
    · rw [if_neg (fun h => hb ((bit_is t i (by omega)).1 h))]
      refine ih k (i + 1) y (by omega) (by omega) hl hy ?_
      rw [hr, lowest_succ t i (by omega), if_neg hb]
      simp
theorem CrcFinds : undercroftlaw02_CrcFinds.Pure := by
  intro b at_ turn _ hm hw hat ht
  have hb := Oct.of_wf hw
  obtain ⟨t0, t1⟩ := wf_u32 ht
  obtain ⟨K, hK⟩ : ∃ K, K = b.length + 50 := ⟨_, rfl⟩
  refine ⟨K, ?_⟩
  unfold undercroftlaw02_CrcFinds.f undercroftlaw02_alive.f
  simp only [Option.bind_some, if_true]
  rw [seal_is b hb K (by omega) (by omega)]
  simp only [Option.bind_some]
  rw [open_sealed b hb K (by omega) (by omega)]
  simp only [Option.bind_some, undercroftlaw02_num.f, if_true]
  rw [sameBytes_is b b K (by omega) (by omega)]
  simp only [Option.bind_some, decide_true, Bool.not_true]
  obtain ⟨k, rfl⟩ : ∃ m, K = m + 1 := ⟨K - 1, by omega⟩
  have hl : (b ++ lowI (sumI 0 b)).length = b.length + 4 := by simp [lowI]
  have hr : res (b ++ lowI (sumI 0 b)) = rest := (opened_iff _ (hb.append (lowI_oct _)) (by omega)).1 (by
    rw [hl, show b.length + 4 - 4 = b.length by omega]; simp)
  simp only [undercroftlaw02_CrcFinds.j0]
  rw [if_neg (by simp), hl]
  have e1 : wrap64 (((b.length + 4 : Nat) : Int) - 4) = (b.length : Int) := by rw [w_id (by omega) (by omega)]; omega
  have e2 : wrap64 (8 * (b.length : Int)) = 8 * (b.length : Int) := w_id (by omega) (by omega)
  have e3 : wrap64 (8 * (b.length : Int) + 1) = 8 * (b.length : Int) + 1 := w_id (by omega) (by omega)
  rw [e1, e2, e3, if_neg (by omega)]
  obtain ⟨m0, m1⟩ := mod_in at_ (8 * (b.length : Int) + 1) (by omega) (by omega)
  generalize Int.tmod (wrap64 ((Int.tmod at_ (8 * (b.length : Int) + 1)) + (8 * (b.length : Int) + 1))) (8 * (b.length : Int) + 1) = a at *
  obtain ⟨a, rfl⟩ := Int.eq_ofNat_of_zero_le m0
  have := finds_loop (b ++ lowI (sumI 0 b)) a (reg turn) hr (by omega) (by omega) (by omega) 32 k 0 (b ++ lowI (sumI 0 b)) (by omega) (by omega) rfl (hb.append (lowI_oct _)) (by
    rw [hr]
    have : lowest (reg turn) 0 = 0#32 := by
      unfold lowest; simp
    rw [this, bs_zero]; simp)
  rw [num_reg turn t0 t1] at this
  exact this

end Go.Proofs.Ytmplcdcgafbfhaa.Pure
