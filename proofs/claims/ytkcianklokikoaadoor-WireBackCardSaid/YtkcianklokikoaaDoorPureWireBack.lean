/- A record is read back from its octets; what is read is built again of what was read: for every record and every octets, no condition beyond the form's reach. -/
import Derived.Test.YtkcianklokikoaaDoorPWibx
import Derived.Test.YtkcianklokikoaaDoorInWireBack
import Derived.Lib.Bytes
import Derived.Laws.Bits64b
namespace Go.Proofs.YtkcianklokikoaaDoor.Pure
open Go.RowKit Go.Proofs.YtkcianklokikoaaDoor.PWib Go.Proofs.YtkcianklokikoaaDoorW.PrintWords Go.Proofs.YtkcianklokikoaaDoorW.PrintLast Go.Proofs.YtkcianklokikoaaDoorW.PrintMore
set_option linter.unusedVariables false
set_option linter.unusedSimpArgs false

theorem w_id {x : Int} (h0 : -9223372036854775808 ≤ x) (h1 : x ≤ 9223372036854775807) : wrap64 x = x := by unfold wrap64; omega
theorem wf_i64 {a : Int} (h : (Lit.int .i64 a).wf = true) : -9223372036854775808 ≤ a ∧ a ≤ 9223372036854775807 := by
  simpa [Lit.wf, IntKind.min, IntKind.max, IntKind.signed, IntKind.bits] using h
theorem wf_u8 {a : Int} (h : (Lit.int .u8 a).wf = true) : 0 ≤ a ∧ a ≤ 255 := by
  simpa [Lit.wf, IntKind.min, IntKind.max, IntKind.signed, IntKind.bits] using h
theorem wf_u32 {a : Int} (h : (Lit.int .u32 a).wf = true) : 0 ≤ a ∧ a ≤ 4294967295 := by
  simpa [Lit.wf, IntKind.min, IntKind.max, IntKind.signed, IntKind.bits] using h
theorem wf_u64 {a : Int} (h : (Lit.int .u64 a).wf = true) : 0 ≤ a ∧ a ≤ 18446744073709551615 := by
  simpa [Lit.wf, IntKind.min, IntKind.max, IntKind.signed, IntKind.bits] using h
/-- All are octets. -/
def Oct (l : List Int) : Prop := ∀ x ∈ l, 0 ≤ x ∧ x ≤ 255
theorem Oct.of_wf {l : List Int} (h : ∀ x ∈ l, (Lit.int .u8 x).wf = true) : Oct l := fun x hx => wf_u8 (h x hx)
theorem Oct.nil : Oct [] := fun _ h => by cases h
theorem Oct.append {a b : List Int} (ha : Oct a) (hb : Oct b) : Oct (a ++ b) := fun x hx => (List.mem_append.1 hx).elim (ha x) (hb x)
theorem Oct.take {a : List Int} (ha : Oct a) (n : Nat) : Oct (a.take n) := fun x hx => ha x (List.mem_of_mem_take hx)
theorem Oct.drop {a : List Int} (ha : Oct a) (n : Nat) : Oct (a.drop n) := fun x hx => ha x (List.mem_of_mem_drop hx)
theorem rd_nat (l : List Int) (k : Nat) (h : k < l.length) : rd l (k : Int) = l[k] := by
  unfold rd
  simp [List.getD_eq_getElem?_getD, h]

theorem sameBytes_loop (a b : List Int) (hl : a.length = b.length) (hm : a.length ≤ 9223372036854775807) : ∀ (d k i : Nat), i + d = a.length → d < k → a.take i = b.take i →
    undercroftplain_SameBytes.l0 k a b (i : Int) = some (decide (a = b)) := by
  intro d
  induction d with
  | zero =>
    intro k i hi hk ht
    obtain ⟨k, rfl⟩ : ∃ m, k = m + 1 := ⟨k - 1, by omega⟩
    simp only [undercroftplain_SameBytes.l0]
    rw [if_neg (by omega)]
    have : a = b := by
      rw [List.take_of_length_le (by omega), List.take_of_length_le (by omega)] at ht
      exact ht
    rw [decide_eq_true this]
  | succ d ih =>
    intro k i hi hk ht
    obtain ⟨k, rfl⟩ : ∃ m, k = m + 1 := ⟨k - 1, by omega⟩
    simp only [undercroftplain_SameBytes.l0]
    rw [if_pos (by omega), if_pos (by omega), if_pos (by omega), rd_nat a i (by omega), rd_nat b i (by omega)]
    by_cases h : a[i]'(by omega) = b[i]'(by omega)
    · rw [if_pos h, w_id (by omega) (by omega)]
      have := ih k (i + 1) (by omega) (by omega) (by
        rw [List.take_succ_eq_append_getElem (by omega), List.take_succ_eq_append_getElem (by omega), ht, h])
      exact_mod_cast this
    · rw [if_neg h]
      have : a ≠ b := by
        rintro rfl
        exact h rfl
      rw [decide_eq_false this]
theorem sameBytes_is (a b : List Int) (k : Nat) (hk : a.length < k) (hm : a.length ≤ 9223372036854775807) : undercroftplain_SameBytes.f k a b = some (decide (a = b)) := by
  unfold undercroftplain_SameBytes.f
  by_cases hl : a.length = b.length
  · rw [if_pos (by omega)]
    exact sameBytes_loop a b hl hm a.length k 0 (by omega) hk rfl
  · rw [if_neg (by omega)]
    have : a ≠ b := by
      rintro rfl
      exact hl rfl
    rw [decide_eq_false this]

theorem copyBytes_is (a : List Int) (h : a.length < 140737488355328) : undercroftplain_CopyBytes.f a = some a := by
  unfold undercroftplain_CopyBytes.f
  rw [if_pos (by simpa using h)]
  simp

/-- '(a % n + n) % n' lies in 0 .. n - 1. -/
theorem mod_in (a n : Int) (h0 : 0 < n) (h1 : n ≤ 4611686018427387904) : 0 ≤ Int.tmod (wrap64 ((Int.tmod a n) + n)) n ∧ Int.tmod (wrap64 ((Int.tmod a n) + n)) n < n := by
  have h1' := Int.tmod_lt_of_pos a h0
  have h2 : -n < Int.tmod a n := by
    rcases Int.le_total 0 a with h | h
    · have := Int.tmod_nonneg n h; omega
    · have := Int.neg_tmod (a := a) (b := n)
      have h3 := Int.tmod_lt_of_pos (-a) h0
      omega
  rw [w_id (by omega) (by omega)]
  have h3 := Int.tmod_lt_of_pos (Int.tmod a n + n) h0
  have h4 := Int.tmod_nonneg n (show 0 ≤ Int.tmod a n + n by omega)
  omega


namespace CrcMath
abbrev R := BitVec 32
def poly : R := 0xedb88320#32
def b1 (c : R) : R := (c >>> 1) ^^^ (if c.getLsbD 0 then poly else 0#32)
def bs : Nat → R → R
  | 0, c => c
  | n + 1, c => bs n (b1 c)
theorem b1_zero : b1 0#32 = 0#32 := by decide
theorem b1_xor (a b : R) : b1 (a ^^^ b) = b1 a ^^^ b1 b := by
  unfold b1
  rw [BitVec.ushiftRight_xor_distrib, BitVec.getLsbD_xor]
  cases a.getLsbD 0 <;> cases b.getLsbD 0 <;> simp
  · ac_rfl
  · ac_rfl
  · rw [show a >>> 1 ^^^ poly ^^^ (b >>> 1 ^^^ poly) = (a >>> 1 ^^^ b >>> 1) ^^^ (poly ^^^ poly) by ac_rfl]
    simp
theorem bs_zero (n : Nat) : bs n 0#32 = 0#32 := by
  induction n with
  | zero => rfl
  | succ n ih => rw [bs, b1_zero, ih]
theorem bs_xor (n : Nat) (a b : R) : bs n (a ^^^ b) = bs n a ^^^ bs n b := by
  induction n generalizing a b with
  | zero => rfl
  | succ n ih => rw [bs, b1_xor, ih]; rfl
theorem bs_add (m n : Nat) (c : R) : bs (m + n) c = bs n (bs m c) := by
  induction m generalizing c with
  | zero => simp [bs]
  | succ m ih => rw [Nat.succ_add, bs, ih]; rfl
theorem b1_eq_zero (c : R) (h : b1 c = 0#32) : c = 0#32 := by
  unfold b1 at h
  by_cases h0 : c.getLsbD 0 = true
  · exfalso
    have h31 := congrArg (fun x : R => x.getLsbD 31) h
    simp [h0, poly] at h31
  · have h0' : c.getLsbD 0 = false := by simpa using h0
    rw [h0'] at h
    simp at h
    apply BitVec.eq_of_getLsbD_eq
    intro i hi
    rcases Nat.eq_zero_or_pos i with rfl | hp
    · simpa using h0'
    · have := congrArg (fun x : R => x.getLsbD (i - 1)) h
      simp only [BitVec.getLsbD_ushiftRight] at this
      rw [show 1 + (i - 1) = i by omega] at this
      simpa using this
theorem bs_eq_zero (n : Nat) (c : R) (h : bs n c = 0#32) : c = 0#32 := by
  induction n generalizing c with
  | zero => exact h
  | succ n ih => exact b1_eq_zero c (ih _ h)
theorem xor_eq_zero {a b : R} (h : a ^^^ b = 0#32) : a = b := by
  have := congrArg (fun x => x ^^^ b) h
  simpa [BitVec.xor_assoc] using this
theorem bs_inj (n : Nat) (a b : R) (h : bs n a = bs n b) : a = b := by
  apply xor_eq_zero
  apply bs_eq_zero n
  rw [bs_xor, h]
  simp
/-- Bits above the lowest n fall down. -/
theorem b1_even (c : R) (h : c.getLsbD 0 = false) : b1 c = c >>> 1 := by
  unfold b1
  rw [h]
  simp
theorem bs_high (n : Nat) (c : R) (h : ∀ i, i < n → c.getLsbD i = false) : bs n c = c >>> n := by
  induction n generalizing c with
  | zero => simp [bs]
  | succ n ih =>
    rw [bs, b1_even c (h 0 (by omega)), ih, ← BitVec.shiftRight_add]
    · rw [Nat.add_comm]
    · intro i hi
      rw [BitVec.getLsbD_ushiftRight]
      exact h _ (by omega)
/-- Four bits at once: a table of sixteen serves. -/
theorem bs4 (c : R) : bs 4 c = (c >>> 4) ^^^ bs 4 (c &&& 15#32) := by
  have hc : c = (c >>> 4 <<< 4) ^^^ (c &&& 15#32) := by
    apply BitVec.eq_of_getLsbD_eq
    intro i hi
    simp only [BitVec.getLsbD_xor, BitVec.getLsbD_shiftLeft, BitVec.getLsbD_ushiftRight, BitVec.getLsbD_and]
    by_cases h4 : i < 4
    · have : (15#32).getLsbD i = true := by
        rcases i with _ | _ | _ | _ | i <;> first | rfl | omega
      simp [h4, this]
    · have : (15#32).getLsbD i = false := by
        rw [show (15#32) = BitVec.ofNat 32 15 from rfl, BitVec.getLsbD_ofNat]
        have : Nat.testBit 15 i = false := Nat.testBit_lt_two_pow (Nat.lt_of_lt_of_le (by decide : 15 < 2 ^ 4) (Nat.pow_le_pow_right (by decide) (by omega)))
        simp [this]
      rw [this, show 4 + (i - 4) = i by omega]
      simp [h4, hi]
  have h1 : bs 4 (c >>> 4 <<< 4) = c >>> 4 := by
    rw [bs_high]
    · apply BitVec.eq_of_getLsbD_eq
      intro i hi
      simp only [BitVec.getLsbD_shiftLeft, BitVec.getLsbD_ushiftRight]
      by_cases h : 4 + i < 32
      · simp [h]
      · simp [h]
        exact (BitVec.getLsbD_of_ge _ _ (by omega))
    · intro i hi
      simp [BitVec.getLsbD_shiftLeft, hi]
  calc bs 4 c = bs 4 ((c >>> 4 <<< 4) ^^^ (c &&& 15#32)) := by rw [← hc]
    _ = _ := by rw [bs_xor, h1]
/-- An octet more. -/
def step (c : R) (x : BitVec 8) : R := bs 8 (c ^^^ x.setWidth 32)
def run (c : R) (l : List (BitVec 8)) : R := l.foldl step c
theorem run_append (c : R) (a b : List (BitVec 8)) : run c (a ++ b) = run (run c a) b := by simp [run]
theorem step_xor (c d : R) (x y : BitVec 8) : step (c ^^^ d) (x ^^^ y) = step c x ^^^ step d y := by
  unfold step
  rw [← bs_xor]
  congr 1
  rw [BitVec.setWidth_xor]
  ac_rfl
/-- Two texts of one length. -/
def mix : List (BitVec 8) → List (BitVec 8) → List (BitVec 8) := List.zipWith (· ^^^ ·)
theorem run_mix (a b : List (BitVec 8)) (h : a.length = b.length) (c d : R) : run (c ^^^ d) (mix a b) = run c a ^^^ run d b := by
  induction a generalizing b c d with
  | nil => cases b with
    | nil => rfl
    | cons _ _ => simp at h
  | cons x a ih => cases b with
    | nil => simp at h
    | cons y b =>
      show run (step (c ^^^ d) (x ^^^ y)) (mix a b) = run (step c x) a ^^^ run (step d y) b
      rw [step_xor]
      exact ih b (by simpa using h) _ _
theorem run_inj (l : List (BitVec 8)) (c d : R) (h : run c l = run d l) : c = d := by
  induction l generalizing c d with
  | nil => exact h
  | cons x l ih =>
    have := bs_inj 8 _ _ (ih _ _ h)
    have h2 := congrArg (fun z => z ^^^ x.setWidth 32) this
    simpa [BitVec.xor_assoc] using h2
/-- What a register's change comes to behind a text. -/
theorem run_xor (l : List (BitVec 8)) (c d : R) : run (c ^^^ d) l = run c l ^^^ bs (8 * l.length) d := by
  induction l generalizing c d with
  | nil => simp [run, bs]
  | cons x l ih =>
    have h : step (c ^^^ d) x = step c x ^^^ bs 8 d := by
      unfold step
      rw [← bs_xor]
      congr 1
      ac_rfl
    show run (step (c ^^^ d) x) l = run (step c x) l ^^^ bs (8 * (l.length + 1)) d
    rw [h, ih, ← bs_add, show 8 + 8 * l.length = 8 * (l.length + 1) by omega]
theorem bs_shl (n : Nat) (x : R) (h : x <<< n >>> n = x) : bs n (x <<< n) = x := by
  rw [bs_high, h]
  intro i hi
  simp [BitVec.getLsbD_shiftLeft, hi]
theorem one_shl (q : Nat) (h : q < 32) : (1#32) <<< q >>> q = 1#32 := by
  apply BitVec.eq_of_getLsbD_eq
  intro i hi
  simp only [BitVec.getLsbD_ushiftRight, BitVec.getLsbD_shiftLeft]
  by_cases h0 : i = 0
  · subst h0; simp [h]
  · have : (1#32).getLsbD i = false := by
      rw [BitVec.getLsbD_one]; simp [h0]
    rw [show q + i - q = i by omega, this]; simp
theorem bs_one (q m : Nat) (hq : q < 32) (hm : q ≤ m) : bs m ((1#32) <<< q) = bs (m - q) 1#32 := by
  have : bs (q + (m - q)) ((1#32) <<< q) = bs (m - q) 1#32 := by rw [bs_add, bs_shl _ _ (one_shl q hq)]
  rwa [show q + (m - q) = m by omega] at this
/-- One bit turned. -/
theorem run_turn (l : List (BitVec 8)) (c : R) (j q : Nat) (hj : j < l.length) (hq : q < 8) :
    run c (l.set j (l[j] ^^^ (1#8) <<< q)) = run c l ^^^ bs (8 * (l.length - j) - q) 1#32 := by
  induction l generalizing c j with
  | nil => simp at hj
  | cons x l ih =>
    cases j with
    | zero =>
      show run (step c (x ^^^ (1#8) <<< q)) l = run (step c x) l ^^^ bs (8 * (l.length + 1 - 0) - q) 1#32
      have h : step c (x ^^^ (1#8) <<< q) = step c x ^^^ bs (8 - q) 1#32 := by
        rw [← bs_one q 8 (by omega) (by omega)]
        unfold step
        rw [← bs_xor]
        congr 1
        rw [BitVec.setWidth_xor]
        have : BitVec.setWidth 32 ((1#8) <<< q) = (1#32) <<< q := by
          rcases q with _ | _ | _ | _ | _ | _ | _ | _ | q <;> first | rfl | omega
        rw [this]
        ac_rfl
      rw [h, run_xor, ← bs_add, show 8 - q + 8 * l.length = 8 * (l.length + 1 - 0) - q by omega]
    | succ j =>
      show run (step c x) (l.set j (l[j]'(by simpa using hj) ^^^ (1#8) <<< q)) = run (step c x) l ^^^ bs (8 * (l.length + 1 - (j + 1)) - q) 1#32
      rw [ih _ _ (by simpa using hj), show l.length + 1 - (j + 1) = l.length - j by omega]
/-- A register's octets, the lowest first. -/
def low (t : R) : List (BitVec 8) := [t.setWidth 8, (t >>> 8).setWidth 8, (t >>> 16).setWidth 8, (t >>> 24).setWidth 8]
theorem part_shl (t : R) (n : Nat) (hn : n ≤ 24) : ((t >>> n).setWidth 8).setWidth 32 <<< n >>> n = ((t >>> n).setWidth 8).setWidth 32 := by
  apply BitVec.eq_of_getLsbD_eq
  intro i hi
  simp only [BitVec.getLsbD_ushiftRight, BitVec.getLsbD_shiftLeft, BitVec.getLsbD_setWidth]
  by_cases h8 : i < 8
  · rw [show n + i - n = i by omega]
    have : n + i < 32 := by omega
    simp [h8, this, hi]
  · rw [show n + i - n = i by omega]
    simp [h8]
theorem low_join (t : R) : (t.setWidth 8).setWidth 32 ^^^ ((t >>> 8).setWidth 8).setWidth 32 <<< 8 ^^^ ((t >>> 16).setWidth 8).setWidth 32 <<< 16 ^^^ ((t >>> 24).setWidth 8).setWidth 32 <<< 24 = t := by
  apply BitVec.eq_of_getLsbD_eq
  intro i hi
  simp only [BitVec.getLsbD_xor, BitVec.getLsbD_shiftLeft, BitVec.getLsbD_setWidth, BitVec.getLsbD_ushiftRight]
  by_cases h1 : i < 8
  · simp [h1, hi, show i < 16 by omega, show i < 24 by omega]
  · by_cases h2 : i < 16
    · simp [h1, h2, hi, show i < 24 by omega, show i - 8 < 8 by omega, show 8 + (i - 8) = i by omega, show i - 8 < 32 by omega]
    · by_cases h3 : i < 24
      · simp [h1, h2, h3, hi, show ¬ i - 8 < 8 by omega, show i - 16 < 8 by omega, show 16 + (i - 16) = i by omega, show i - 16 < 32 by omega]
      · simp [h1, h2, h3, hi, show ¬ i - 8 < 8 by omega, show ¬ i - 16 < 8 by omega, show i - 24 < 8 by omega, show 24 + (i - 24) = i by omega, show i - 24 < 32 by omega]
theorem run_low (s t : R) : run s (low t) = bs 32 (s ^^^ t) := by
  have key : ∀ (n : Nat) (c : R), n ≤ 24 → step (bs n c) ((t >>> n).setWidth 8) = bs (n + 8) (c ^^^ ((t >>> n).setWidth 8).setWidth 32 <<< n) := by
    intro n c hn
    unfold step
    rw [bs_add, bs_xor n, bs_shl _ _ (part_shl t n hn)]
  have h0 := key 0 s (by omega)
  have e0 : t >>> 0 = t := by simp
  have s0 : ∀ x : R, x <<< 0 = x := by intro x; simp
  rw [e0, s0] at h0
  have h1 : step s (t.setWidth 8) = bs 8 (s ^^^ (t.setWidth 8).setWidth 32) := by rw [← h0]; rfl
  have h2 := key 8 (s ^^^ (t.setWidth 8).setWidth 32) (by omega)
  have h3 := key 16 (s ^^^ (t.setWidth 8).setWidth 32 ^^^ ((t >>> 8).setWidth 8).setWidth 32 <<< 8) (by omega)
  have h4 := key 24 (s ^^^ (t.setWidth 8).setWidth 32 ^^^ ((t >>> 8).setWidth 8).setWidth 32 <<< 8 ^^^ ((t >>> 16).setWidth 8).setWidth 32 <<< 16) (by omega)
  have hj := low_join t
  simp only [run, low, List.foldl_cons, List.foldl_nil]
  rw [h1, h2, h3, h4]
  generalize (t.setWidth 8).setWidth 32 = x0 at *
  generalize ((t >>> 8).setWidth 8).setWidth 32 <<< 8 = x1 at *
  generalize ((t >>> 16).setWidth 8).setWidth 32 <<< 16 = x2 at *
  generalize ((t >>> 24).setWidth 8).setWidth 32 <<< 24 = x3 at *
  subst hj
  congr 1
  ac_rfl
def sum (c : R) (l : List (BitVec 8)) : R := ~~~ run (~~~ c) l
def rest : R := bs 32 0xffffffff#32
theorem run_sealed (l : List (BitVec 8)) (t : R) : run 0xffffffff#32 (l ++ low t) = rest ↔ t = sum 0 l := by
  rw [run_append, run_low]
  unfold rest sum
  have e : (~~~ (0 : R)) = 0xffffffff#32 := by decide
  rw [e]
  constructor
  · intro h
    have := bs_inj 32 _ _ h
    have h2 := congrArg (fun z => run 0xffffffff#32 l ^^^ z) this
    simp only [← BitVec.xor_assoc, BitVec.xor_self, BitVec.zero_xor] at h2
    rw [h2]
    apply BitVec.eq_of_getLsbD_eq
    intro i hi
    have : (0xffffffff#32).getLsbD i = true := by
      rw [show (0xffffffff#32) = BitVec.allOnes 32 by decide, BitVec.getLsbD_allOnes]; simp [hi]
    simp only [BitVec.getLsbD_xor, BitVec.getLsbD_not, hi, this]; simp
  · rintro rfl
    congr 1
    apply BitVec.eq_of_getLsbD_eq
    intro i hi
    have : (0xffffffff#32).getLsbD i = true := by
      rw [show (0xffffffff#32) = BitVec.allOnes 32 by decide, BitVec.getLsbD_allOnes]; simp [hi]
    simp only [BitVec.getLsbD_xor, BitVec.getLsbD_not, hi, this]; simp
theorem sum_sealed (l : List (BitVec 8)) : sum 0 (l ++ low (sum 0 l)) = ~~~ rest := by
  have := (run_sealed l (sum 0 l)).2 rfl
  generalize sum 0 l = z at *
  unfold sum
  rw [show (~~~ (0 : R)) = 0xffffffff#32 by decide, this]
theorem rest_is : ~~~ rest = 0x2144df1c#32 := by decide
theorem sum_append (c : R) (a b : List (BitVec 8)) : sum c (a ++ b) = sum (sum c a) b := by
  unfold sum
  rw [run_append, BitVec.not_not]
theorem sum_nil (c : R) : sum c [] = c := by simp [sum, run]
theorem sum_three (a b c : List (BitVec 8)) (h1 : a.length = b.length) (h2 : b.length = c.length) :
    sum 0 (mix (mix a b) c) = sum 0 a ^^^ sum 0 b ^^^ sum 0 c := by
  unfold sum
  have hl : (mix a b).length = c.length := by simp [mix]; omega
  have e : (~~~ (0 : R)) = (~~~ (0 : R) ^^^ ~~~ (0 : R)) ^^^ ~~~ (0 : R) := by decide
  have : run (~~~ (0 : R)) (mix (mix a b) c) = run (~~~ (0 : R)) a ^^^ run (~~~ (0 : R)) b ^^^ run (~~~ (0 : R)) c := by
    conv => lhs; rw [e]
    rw [run_mix _ _ hl, run_mix _ _ h1]
  rw [this]
  apply BitVec.eq_of_getLsbD_eq
  intro i hi
  simp only [BitVec.getLsbD_xor, BitVec.getLsbD_not, hi]
  cases (run (~~~ (0 : R)) a).getLsbD i <;> cases (run (~~~ (0 : R)) b).getLsbD i <;> cases (run (~~~ (0 : R)) c).getLsbD i <;> rfl
end CrcMath

open CrcMath
def reg (c : Int) : R := BitVec.ofInt 32 c
def oct (x : Int) : BitVec 8 := BitVec.ofInt 8 x
def num (r : R) : Int := (r.toNat : Int)
theorem num_range (r : R) : 0 ≤ num r ∧ num r ≤ 4294967295 := by unfold num; have := r.isLt; omega
theorem reg_num (r : R) : reg (num r) = r := by
  unfold reg num
  rw [BitVec.ofInt_natCast]
  simp
theorem num_reg (c : Int) (h0 : 0 ≤ c) (h1 : c ≤ 4294967295) : num (reg c) = c := by
  obtain ⟨n, rfl⟩ := Int.eq_ofNat_of_zero_le h0
  unfold reg num
  rw [BitVec.ofInt_natCast, BitVec.toNat_ofNat, Nat.mod_eq_of_lt (by omega)]
theorem xor_u32 (a b : Int) : Go.bits .xor .u32 a b = num (reg a ^^^ reg b) := by
  show IntKind.u32.wrap _ = _
  rw [IntKind.wrap_u32]
  have := (reg a ^^^ reg b).isLt
  show ((reg a ^^^ reg b).toNat : Int) % 4294967296 = ((reg a ^^^ reg b).toNat : Int)
  omega
theorem and_u32 (a b : Int) : Go.bits .and .u32 a b = num (reg a &&& reg b) := by
  show IntKind.u32.wrap _ = _
  rw [IntKind.wrap_u32]
  have := (reg a &&& reg b).isLt
  show ((reg a &&& reg b).toNat : Int) % 4294967296 = ((reg a &&& reg b).toNat : Int)
  omega
theorem reg_half (r : R) (n : Nat) : reg (num r / (2 ^ n : Nat)) = r >>> n := by
  unfold reg num
  rw [← Int.natCast_ediv, BitVec.ofInt_natCast]
  apply BitVec.eq_of_toNat_eq
  rw [BitVec.toNat_ofNat, BitVec.toNat_ushiftRight, Nat.shiftRight_eq_div_pow]
  exact Nat.mod_eq_of_lt (Nat.lt_of_le_of_lt (Nat.div_le_self _ _) r.isLt)
theorem nstep_is (r : R) : nstep (num r) = num (b1 r) := by
  unfold nstep b1
  rw [xor_u32, and_u32, and_u32, reg_num, reg_num, show num r / 2 = num r / (2 ^ 1 : Nat) by rfl, reg_half]
  congr 2
  by_cases h : r.getLsbD 0 = true
  · have e : r &&& reg 1 = 1#32 := by
      apply BitVec.eq_of_getLsbD_eq
      intro i hi
      rw [BitVec.getLsbD_and, show reg 1 = 1#32 by decide, BitVec.getLsbD_one]
      by_cases h0 : i = 0
      · subst h0; rw [h]; simp
      · simp [h0]
    rw [e, if_pos h]
    decide
  · have h' : r.getLsbD 0 = false := by simpa using h
    have e : r &&& reg 1 = 0#32 := by
      apply BitVec.eq_of_getLsbD_eq
      intro i hi
      rw [BitVec.getLsbD_and, show reg 1 = 1#32 by decide, BitVec.getLsbD_one]
      by_cases h0 : i = 0
      · subst h0; rw [h']; simp
      · simp [h0]
    rw [e, if_neg h]
    decide
theorem bs_out (n : Nat) (r : R) : bs (n + 1) r = b1 (bs n r) := by
  rw [bs_add]; rfl
theorem nibT_is (n : Nat) (r : R) : nibT n (num r) = num (bs n r) := by
  induction n with
  | zero => rfl
  | succ n ih => rw [nibT, ih, nstep_is, bs_out]
theorem hstep_is (r : R) : hstep (num r) = num (bs 4 r) := by
  unfold hstep
  rw [xor_u32, and_u32, reg_num, nibT_is, reg_num, show num r / 16 = num r / (2 ^ 4 : Nat) by rfl, reg_half, show reg 15 = 15#32 by decide, ← bs4]
theorem rstep_is (r : R) (x : Int) (h0 : 0 ≤ x) (h1 : x ≤ 255) : rstep (num r) x = num (CrcMath.step r (oct x)) := by
  unfold rstep CrcMath.step
  rw [xor_u32, reg_num, hstep_is, hstep_is, ← bs_add]
  congr 3
  unfold reg oct
  obtain ⟨n, rfl⟩ := Int.eq_ofNat_of_zero_le h0
  rw [Int.emod_eq_of_lt h0 (by omega), BitVec.ofInt_natCast, BitVec.ofInt_natCast]
  apply BitVec.eq_of_toNat_eq
  simp only [BitVec.toNat_ofNat, BitVec.toNat_setWidth]
  omega
theorem crcI_is (l : List Int) (hl : Oct l) (r : R) : crcI (num r) l = num (run r (l.map oct)) := by
  unfold crcI run
  induction l generalizing r with
  | nil => rfl
  | cons x l ih =>
    rw [List.foldl_cons, List.map_cons, List.foldl_cons, rstep_is r x (hl x (by simp)).1 (hl x (by simp)).2]
    exact ih (fun y hy => hl y (by simp [hy])) _
/-- The sum of octets, as a number. -/
def sumI (c : Int) (l : List Int) : Int := num (sum (reg c) (l.map oct))
theorem xor_ones (r : R) : reg 4294967295 ^^^ r = ~~~ r := by
  apply BitVec.eq_of_getLsbD_eq
  intro i hi
  rw [BitVec.getLsbD_xor, BitVec.getLsbD_not, show reg 4294967295 = BitVec.allOnes 32 by decide, BitVec.getLsbD_allOnes]
  simp [hi]
theorem extend_is (c : Int) (l : List Int) (hl : Oct l) : crc_Extend.f c l = some (sumI c l) := by
  unfold crc_Extend.f sumI sum
  rw [xor_u32, xor_u32, crcI_is _ hl, reg_num, xor_ones, xor_ones]
theorem sum_is (l : List Int) (hl : Oct l) : crc_Sum.f l = some (sumI 0 l) := by
  unfold crc_Sum.f
  rw [extend_is 0 l hl]
  rfl
theorem sumI_range (c : Int) (l : List Int) : 0 ≤ sumI c l ∧ sumI c l ≤ 4294967295 := num_range _
theorem sumI_append (c : Int) (a b : List Int) : sumI c (a ++ b) = sumI (sumI c a) b := by
  unfold sumI
  rw [List.map_append, sum_append, reg_num]
theorem sumI_nil (c : Int) (h0 : 0 ≤ c) (h1 : c ≤ 4294967295) : sumI c [] = c := by
  unfold sumI
  rw [List.map_nil, sum_nil, num_reg c h0 h1]

/-- A number's four octets, the lowest first. -/
def lowI (c : Int) : List Int := [c % 256, c / 256 % 256, c / 65536 % 256, c / 16777216 % 256]
theorem lowI_oct (c : Int) : Oct (lowI c) := by
  intro x hx
  simp [lowI] at hx
  omega
theorem low_is (c : Int) (k : Nat) (hk : 5 ≤ k) : crc_low.f k c = some (lowI c) := by
  obtain ⟨k, rfl⟩ : ∃ m, k = m + 5 := ⟨k - 5, by omega⟩
  unfold crc_low.f
  rw [if_pos (by omega)]
  simp only [Option.bind_some, List.length_replicate]
  have e0 : wrap64 0 = 0 := w_id (by omega) (by omega)
  have e1 : wrap64 1 = 1 := w_id (by omega) (by omega)
  have e2 : wrap64 2 = 2 := w_id (by omega) (by omega)
  have e3 : wrap64 3 = 3 := w_id (by omega) (by omega)
  have e4 : wrap64 4 = 4 := w_id (by omega) (by omega)
  have e8 : wrap64 8 = 8 := w_id (by omega) (by omega)
  have e16 : wrap64 16 = 16 := w_id (by omega) (by omega)
  have e24 : wrap64 24 = 24 := w_id (by omega) (by omega)
  have s0 : shr .u32 c 0 = c := by simp [shr]
  have s1 : shr .u32 c 8 = c / 256 := by simp [shr, IntKind.bits]
  have s2 : shr .u32 c 16 = c / 65536 := by simp [shr, IntKind.bits]
  have s3 : shr .u32 c 24 = c / 16777216 := by simp [shr, IntKind.bits]
  show crc_low.l0 (k + 5) c [0, 0, 0, 0] 4 0 = _
  simp [crc_low.l0, e0, e1, e2, e3, e4, e8, e16, e24, s0, s1, s2, s3, lowI]
theorem map_oct_lowI (r : R) : (lowI (num r)).map oct = low r := by
  unfold lowI low num oct
  simp only [List.map_cons, List.map_nil]
  have key : ∀ (n : Nat), n = 0 ∨ n = 8 ∨ n = 16 ∨ n = 24 → BitVec.ofInt 8 ((r.toNat : Int) / (2 ^ n : Nat) % 256) = (r >>> n).setWidth 8 := by
    intro n _
    rw [← Int.natCast_ediv]
    have : ((r.toNat / 2 ^ n : Nat) : Int) % 256 = ((r.toNat / 2 ^ n % 256 : Nat) : Int) := by omega
    rw [this, BitVec.ofInt_natCast]
    apply BitVec.eq_of_toNat_eq
    rw [BitVec.toNat_ofNat, BitVec.toNat_setWidth, BitVec.toNat_ushiftRight, Nat.shiftRight_eq_div_pow]
    omega
  have k0 := key 0 (by simp)
  have k1 := key 8 (by simp)
  have k2 := key 16 (by simp)
  have k3 := key 24 (by simp)
  simp only [Nat.pow_zero, Int.natCast_one, Int.ediv_one] at k0
  rw [show r >>> 0 = r by simp] at k0
  rw [k0]
  have h1 : (r.toNat : Int) / 256 = (r.toNat : Int) / (2 ^ 8 : Nat) := rfl
  have h2 : (r.toNat : Int) / 65536 = (r.toNat : Int) / (2 ^ 16 : Nat) := rfl
  have h3 : (r.toNat : Int) / 16777216 = (r.toNat : Int) / (2 ^ 24 : Nat) := rfl
  rw [h1, h2, h3, k1, k2, k3]
theorem lowI_inj (a b : Int) (ha : 0 ≤ a ∧ a ≤ 4294967295) (hb : 0 ≤ b ∧ b ≤ 4294967295) (h : lowI a = lowI b) : a = b := by
  simp [lowI] at h
  omega
theorem seal_is (l : List Int) (hl : Oct l) (k : Nat) (hk : 5 ≤ k) (hm : l.length + 4 < 140737488355328) : crc_Seal.f k l = some (l ++ lowI (sumI 0 l)) := by
  unfold crc_Seal.f
  rw [sum_is l hl]
  simp only [Option.bind_some]
  rw [low_is _ k hk]
  simp only [Option.bind_some]
  unfold slices_Concat_byte_byte.f
  rw [if_pos (by simp [lowI]; omega)]
  simp
theorem sealed_rest (l : List Int) : sumI 0 (l ++ lowI (sumI 0 l)) = 558161692 := by
  unfold sumI
  rw [List.map_append, map_oct_lowI, show reg 0 = 0 by rfl, sum_sealed, rest_is]
  decide

theorem equal_is (a b : List Int) (ha : Oct a) (hb : Oct b) : bytes_Equal.f a b = some (decide (a = b)) := by
  unfold bytes_Equal.f
  rw [Lib.strOfNums_toList, Lib.strOfNums_toList]
  congr 1
  by_cases h : a = b
  · subst h; simp
  · rw [decide_eq_false h]
    apply beq_eq_false_iff_ne.2
    intro e
    apply h
    unfold Lib.bytesOf at e
    apply List.ext_getElem
    · have := congrArg List.length e
      simpa using this
    · intro i h1 h2
      have := congrArg (fun l => l[i]?) e
      simp only [List.getElem?_map, List.getElem?_eq_getElem h1, List.getElem?_eq_getElem h2, Option.map_some, Option.some.injEq] at this
      have p := ha _ (List.getElem_mem h1)
      have q := hb _ (List.getElem_mem h2)
      have e2 := congrArg UInt8.toNat this
      simp only [UInt8.toNat_ofNat'] at e2
      omega
theorem open_short (y : List Int) (k : Nat) (h : y.length < 4) : crc_Open.f k y = some ([], 8) := by
  unfold crc_Open.f
  rw [if_pos (by omega)]
theorem open_is (y : List Int) (hy : Oct y) (k : Nat) (hk : 5 ≤ k) (h4 : 4 ≤ y.length) (hm : y.length < 140737488355328) :
    crc_Open.f k y = if y.drop (y.length - 4) = lowI (sumI 0 (y.take (y.length - 4))) then some (y.take (y.length - 4), 0) else some ([], 21) := by
  unfold crc_Open.f
  rw [if_neg (by omega), w_id (by omega) (by omega), if_pos (by omega), if_pos (by omega)]
  have e : ((y.length : Int) - 4).toNat = y.length - 4 := by omega
  rw [e, sum_is _ (hy.take _)]
  simp only [Option.bind_some]
  rw [low_is _ k hk]
  simp only [Option.bind_some]
  rw [equal_is _ _ (hy.drop _) (lowI_oct _)]
  simp only [Option.bind_some]
  by_cases h : y.drop (y.length - 4) = lowI (sumI 0 (y.take (y.length - 4)))
  · rw [if_pos h, if_pos (decide_eq_true h)]
    unfold bytes_Clone.f
    rw [if_pos (by rw [List.length_take]; omega)]
    rfl
  · rw [if_neg h, if_neg (by simpa using h)]
theorem open_sealed (l : List Int) (hl : Oct l) (k : Nat) (hk : 5 ≤ k) (hm : l.length + 4 < 140737488355328) : crc_Open.f k (l ++ lowI (sumI 0 l)) = some (l, 0) := by
  have e : (l ++ lowI (sumI 0 l)).length - 4 = l.length := by simp [lowI]
  rw [open_is _ (hl.append (lowI_oct _)) k hk (by simp [lowI]) (by simp [lowI]; try omega), e]
  simp

theorem xor_u8 (a b : Int) : Go.bits .xor .u8 a b = ((oct a ^^^ oct b).toNat : Int) := by
  show IntKind.u8.wrap _ = _
  rw [IntKind.wrap_u8]
  have := (oct a ^^^ oct b).isLt
  show ((oct a ^^^ oct b).toNat : Int) % 256 = ((oct a ^^^ oct b).toNat : Int)
  omega
theorem xor_u8_range (a b : Int) : 0 ≤ Go.bits .xor .u8 a b ∧ Go.bits .xor .u8 a b ≤ 255 := by
  rw [xor_u8]
  have := (oct a ^^^ oct b).isLt
  omega
theorem oct_xor (a b : Int) : oct (Go.bits .xor .u8 a b) = oct a ^^^ oct b := by
  rw [xor_u8]
  show BitVec.ofInt 8 _ = _
  rw [BitVec.ofInt_natCast]
  simp

theorem run_set (l : List (BitVec 8)) (c : R) (j : Nat) (y : BitVec 8) (hj : j < l.length) (h : run c (l.set j y) = run c l) : y = l[j] := by
  have e1 : l.set j y = l.take j ++ y :: l.drop (j + 1) := by rw [List.set_eq_take_append_cons_drop, if_pos hj]
  have e2 : l = l.take j ++ l[j] :: l.drop (j + 1) := by rw [← List.drop_eq_getElem_cons hj, List.take_append_drop]
  have e3 : run c l = run c (l.take j ++ l[j] :: l.drop (j + 1)) := congrArg (run c) e2
  rw [e1, e3, run_append, run_append] at h
  have h1 : run (CrcMath.step (run c (l.take j)) y) (l.drop (j + 1)) = run (CrcMath.step (run c (l.take j)) l[j]) (l.drop (j + 1)) := h
  have h2 := bs_inj 8 _ _ (run_inj _ _ _ h1)
  have h3 : y.setWidth 32 = (l[j]).setWidth 32 := by
    have h4 := congrArg (fun z => run c (l.take j) ^^^ z) h2
    simp only [← BitVec.xor_assoc, BitVec.xor_self, BitVec.zero_xor] at h4
    exact h4
  have h4 := congrArg BitVec.toNat h3
  rw [BitVec.toNat_setWidth, BitVec.toNat_setWidth] at h4
  have := y.isLt
  have := (l[j]).isLt
  apply BitVec.eq_of_toNat_eq
  omega
theorem oct_zero (x : Int) (h0 : 0 ≤ x) (h1 : x ≤ 255) (h : oct x = 0#8) : x = 0 := by
  have h2 := congrArg BitVec.toNat h
  unfold oct at h2
  rw [BitVec.toNat_ofInt] at h2
  have e : ((2 ^ 8 : Nat) : Int) = 256 := rfl
  rw [e] at h2
  have h3 : (0#8 : BitVec 8).toNat = 0 := rfl
  rw [h3] at h2
  omega
theorem turn_ne (a t : Int) (ht : 0 ≤ t ∧ t ≤ 255) (h0 : t ≠ 0) : oct (Go.bits .xor .u8 a t) ≠ oct a := by
  rw [oct_xor]
  intro h
  have h2 := congrArg (fun z => oct a ^^^ z) h
  simp only [← BitVec.xor_assoc, BitVec.xor_self, BitVec.zero_xor] at h2
  exact h0 (oct_zero t ht.1 ht.2 h2)

/-- A number in groups of 7 bits. -/
def encF : Nat → Nat → List Int
  | 0, m => [(m : Int)]
  | f + 1, m => if m ≤ 127 then [(m : Int)] else ((m % 128 + 128 : Nat) : Int) :: encF f (m / 128)
theorem or_128 : ∀ v : Nat, v < 256 → Go.bits .or .u8 (v : Int) 128 = ((v % 128 + 128 : Nat) : Int) := by decide +kernel
theorem and_127 : ∀ v : Nat, v < 256 → Go.bits .and .i64 (v : Int) 127 = ((v % 128 : Nat) : Int) := by decide +kernel
theorem groups_ev : ∀ (f m : Nat) (b : List Int), m < 128 ^ (f + 1) → b.length + f < 140737488355328 → Ev (fun k => wire_groups.l0 k b (m : Int)) (b ++ encF f m) := by
  intro f
  induction f with
  | zero =>
    intro m b hm hb
    have hm' : m < 128 := hm
    refine Ev.step (f := fun _ => some (b ++ [(m : Int)])) (fun k => ?_) (Ev.now _)
    rw [wire_groups.l0, if_neg (by omega), if_pos (by omega), show (m : Int) % 256 = (m : Int) by omega]
  | succ f ih =>
    intro m b hm hb
    by_cases h : m ≤ 127
    · rw [encF, if_pos h]
      refine Ev.step (f := fun _ => some (b ++ [(m : Int)])) (fun k => ?_) (Ev.now _)
      rw [wire_groups.l0, if_neg (by omega), if_pos (by omega), show (m : Int) % 256 = (m : Int) by omega]
    · have h2 : m / 128 < 128 ^ (f + 1) := by
        refine Nat.div_lt_of_lt_mul ?_
        rw [Nat.mul_comm]
        exact hm
      have e : b ++ encF (f + 1) m = (b ++ [((m % 128 + 128 : Nat) : Int)]) ++ encF f (m / 128) := by rw [encF, if_neg h, List.append_assoc]; rfl
      rw [e]
      refine Ev.step (f := fun k => wire_groups.l0 k (b ++ [((m % 128 + 128 : Nat) : Int)]) ((m / 128 : Nat) : Int)) (fun k => ?_) (ih (m / 128) _ h2 (by rw [List.length_append, List.length_singleton]; omega))
      have e1 : (m : Int) % 256 = ((m % 256 : Nat) : Int) := by omega
      have e2 : m % 256 % 128 + 128 = m % 128 + 128 := by omega
      rw [wire_groups.l0, if_pos (by omega), if_pos (by omega), e1, or_128 _ (by omega), e2]
      rfl
theorem encF_len : ∀ (f m : Nat), (encF f m).length ≤ f + 1 := by
  intro f
  induction f with
  | zero => intro m; exact Nat.le_refl _
  | succ f ih =>
    intro m
    rw [encF]
    split
    · simp
    · rw [List.length_cons]; have := ih (m / 128); omega
theorem encF_pos : ∀ (f m : Nat), 1 ≤ (encF f m).length := by
  intro f m
  cases f with
  | zero => exact Nat.le_refl _
  | succ f => rw [encF]; split <;> simp
theorem encF_mono : ∀ (f m n : Nat), m ≤ n → (encF f m).length ≤ (encF f n).length := by
  intro f
  induction f with
  | zero => intro m n _; exact Nat.le_refl _
  | succ f ih =>
    intro m n h
    rw [encF, encF]
    by_cases h1 : m ≤ 127
    · rw [if_pos h1]
      split
      · exact Nat.le_refl _
      · simp
    · rw [if_neg h1, if_neg (by omega), List.length_cons, List.length_cons]
      have := ih (m / 128) (n / 128) (by omega)
      omega
theorem encF_oct : ∀ (f m : Nat), m < 128 ^ (f + 1) → Oct (encF f m) := by
  intro f
  induction f with
  | zero =>
    intro m hm x hx
    have hm' : m < 128 := hm
    rw [encF, List.mem_singleton] at hx
    omega
  | succ f ih =>
    intro m hm
    rw [encF]
    split
    · intro x hx
      rw [List.mem_singleton] at hx
      omega
    · intro x hx
      rcases List.mem_cons.1 hx with h | h
      · omega
      · exact ih (m / 128) (by refine Nat.div_lt_of_lt_mul ?_; rw [Nat.mul_comm]; exact hm) x h
theorem gstep_is (N c i : Nat) (hc : c < 256) (hi : i ≤ 9) (hN : N < 2 ^ (7 * i)) (hX : (c % 128) * 2 ^ (7 * i) < 18446744073709551616) : gstep (N : Int) (c : Int) i = ((N + (c % 128) * 2 ^ (7 * i) : Nat) : Int) := by
  have hP : 2 ^ (7 * i) ≤ 9223372036854775808 := by
    have : 2 ^ (7 * i) ≤ 2 ^ 63 := Nat.pow_le_pow_right (by decide) (by omega)
    exact this
  unfold gstep
  rw [and_127 c hc]
  have e1 : IntKind.u64.wrap ((c % 128 : Nat) : Int) = ((c % 128 : Nat) : Int) := by rw [IntKind.wrap_u64]; omega
  have e2 : (((c % 128 : Nat) : Int) * 2 ^ (7 * i)) = (((c % 128) * 2 ^ (7 * i) : Nat) : Int) := by rw [Int.natCast_mul, Int.natCast_pow]; rfl
  rw [e1, e2]
  have e4 : N ||| (c % 128) * 2 ^ (7 * i) = N + (c % 128) * 2 ^ (7 * i) := by
    have := Nat.two_pow_add_eq_or_of_lt hN (c % 128)
    rw [Nat.or_comm, Nat.mul_comm, ← this, Nat.add_comm]
  generalize (c % 128) * 2 ^ (7 * i) = X at *
  have e3 : IntKind.u64.wrap (X : Int) = (X : Int) := by rw [IntKind.wrap_u64]; omega
  rw [e3, bits_or_u64_nat N X (by omega) hX, e4]
theorem groups_dec : ∀ (f i N m : Nat) (r : List Int), i + f = 9 → N < 2 ^ (7 * i) → m < 128 ^ (f + 1) → N + m * 2 ^ (7 * i) < 18446744073709551616 → (0 < i → 0 < m) → groupsI i (N : Int) (encF f m ++ r) = ((((N + m * 2 ^ (7 * i) : Nat) : Int), none), r) := by
  intro f
  induction f with
  | zero =>
    intro i N m r hi hN hm hX h0
    have hm' : m < 128 := hm
    have hi9 : i = 9 := by omega
    have h1 : m ≤ 1 := by
      rw [hi9] at hX
      have e : 2 ^ (7 * 9) = 9223372036854775808 := by decide
      rw [e] at hX
      omega
    have hs := gstep_is N m i (by omega) (by omega) hN (by rw [show m % 128 = m by omega]; omega)
    rw [show m % 128 = m by omega] at hs
    rw [encF, List.singleton_append, groupsI_end (by omega) (by omega), hs]
  | succ f ih =>
    intro i N m r hi hN hm hX h0
    by_cases h : m ≤ 127
    · have hs := gstep_is N m i (by omega) (by omega) hN (by rw [show m % 128 = m by omega]; omega)
      rw [show m % 128 = m by omega] at hs
      rw [encF, if_pos h, List.singleton_append, groupsI_end (by omega) (by omega), hs]
    · obtain ⟨q, hq⟩ : ∃ q, q = m / 128 := ⟨_, rfl⟩
      obtain ⟨s, hs⟩ : ∃ s, s = m % 128 := ⟨_, rfl⟩
      have hms : m = 128 * q + s := by omega
      have hP : 2 ^ (7 * (i + 1)) = 128 * 2 ^ (7 * i) := by rw [Nat.mul_add, Nat.pow_add, Nat.mul_comm]
      have hq1 : q < 128 ^ (f + 1) := by
        rw [hq]
        refine Nat.div_lt_of_lt_mul ?_
        rw [Nat.mul_comm]
        exact hm
      have hsum : s * 2 ^ (7 * i) + q * (128 * 2 ^ (7 * i)) = m * 2 ^ (7 * i) := by
        rw [hms, Nat.add_mul, Nat.mul_comm 128 q, Nat.mul_assoc, Nat.add_comm]
      have hs127 : s * 2 ^ (7 * i) ≤ 127 * 2 ^ (7 * i) := Nat.mul_le_mul_right _ (by omega)
      have hg := gstep_is N (s + 128) i (by omega) (by omega) hN (by rw [show (s + 128) % 128 = s by omega]; omega)
      rw [show (s + 128) % 128 = s by omega] at hg
      have hi2 := ih (i + 1) (N + s * 2 ^ (7 * i)) q r (by omega) (by rw [hP]; omega) hq1 (by rw [hP]; omega) (fun _ => by omega)
      rw [encF, if_neg h, ← hs, ← hq, List.cons_append, groupsI_on (by omega) (by omega), hg, hi2, hP]
      congr 3
      omega
/-- A number with its sign. -/
def zN (n : Int) : Nat := if 0 ≤ n then (2 * n).toNat else (-2 * n - 1).toNat
theorem x0_i64 (x : Int) (h0 : -9223372036854775808 ≤ x) (h1 : x ≤ 9223372036854775807) : Go.bits .xor .i64 x 0 = x := by
  show IntKind.i64.wrap ((BitVec.ofInt 64 x ^^^ BitVec.ofInt 64 0).toNat : Int) = x
  have e : BitVec.ofInt 64 0 = 0#64 := rfl
  rw [e, BitVec.xor_zero, BitVec.toNat_ofInt, IntKind.wrap_i64]
  omega
theorem x1_i64 (x : Int) (h0 : -9223372036854775808 ≤ x) (h1 : x ≤ 9223372036854775807) : Go.bits .xor .i64 x (-1) = -x - 1 := by
  show IntKind.i64.wrap ((BitVec.ofInt 64 x ^^^ BitVec.ofInt 64 (-1)).toNat : Int) = -x - 1
  have e : BitVec.ofInt 64 (-1) = BitVec.allOnes 64 := by decide
  rw [e, BitVec.xor_allOnes, BitVec.toNat_not, BitVec.toNat_ofInt, IntKind.wrap_i64]
  omega
theorem z_is (n : Int) (h0 : -9223372036854775808 ≤ n) (h1 : n ≤ 9223372036854775807) : IntKind.u64.wrap (Go.bits .xor .i64 (wrap64 (n * 2)) (n / 9223372036854775808)) = ((zN n : Nat) : Int) := by
  have hw : -9223372036854775808 ≤ wrap64 (n * 2) ∧ wrap64 (n * 2) ≤ 9223372036854775807 := by unfold wrap64; omega
  unfold zN
  by_cases h : 0 ≤ n
  · rw [if_pos h, show n / 9223372036854775808 = 0 by omega, x0_i64 _ hw.1 hw.2, IntKind.wrap_u64]
    unfold wrap64
    omega
  · rw [if_neg h, show n / 9223372036854775808 = -1 by omega, x1_i64 _ hw.1 hw.2, IntKind.wrap_u64]
    unfold wrap64
    omega
theorem zN_lt (n : Int) (h0 : -9223372036854775808 ≤ n) (h1 : n ≤ 9223372036854775807) : zN n < 18446744073709551616 := by
  unfold zN
  split <;> omega
theorem unz_is (n : Int) (h0 : -9223372036854775808 ≤ n) (h1 : n ≤ 9223372036854775807) : unz ((zN n : Nat) : Int) = n := by
  have hlt := zN_lt n h0 h1
  have ha : Go.bits .and .u64 ((zN n : Nat) : Int) 1 = ((zN n % 2 : Nat) : Int) := by
    have h := bits_and_u64_nat (zN n) 1 hlt (by decide)
    rw [Nat.and_one_is_mod] at h
    exact h
  unfold unz
  rw [ha]
  by_cases h : 0 ≤ n
  · have e : ((zN n : Nat) : Int) = 2 * n := by unfold zN; rw [if_pos h]; omega
    have e1 : ((zN n % 2 : Nat) : Int) = 0 := by omega
    have e2 : wrap64 (((zN n : Nat) : Int) / 2) = n := by rw [e]; unfold wrap64; omega
    rw [e1, e2, show wrap64 (-(wrap64 0)) = 0 by unfold wrap64; omega, x0_i64 n h0 h1]
  · have e : ((zN n : Nat) : Int) = -2 * n - 1 := by unfold zN; rw [if_neg h]; omega
    have e1 : ((zN n % 2 : Nat) : Int) = 1 := by omega
    have e2 : wrap64 (((zN n : Nat) : Int) / 2) = -n - 1 := by rw [e]; unfold wrap64; omega
    rw [e1, e2, show wrap64 (-(wrap64 1)) = -1 by unfold wrap64; omega, x1_i64 _ (by omega) (by omega)]
    omega

def encN (n : Int) : List Int := encF 9 (zN n)
def encT (t : List Int) : List Int := encF 9 t.length ++ t
def sealW (l : List Int) : List Int := l ++ lowI (sumI 0 l)
def bodyI (kind : Int) (nums : List Int) (texts : List (List Int)) : List Int := [kind, (nums.length : Int)] ++ nums.flatMap encN ++ [(texts.length : Int)] ++ texts.flatMap encT
def checkW (kind : Int) (nums : List Int) (texts : List (List Int)) : Int := if kind < 0 ∨ 255 < kind then 22 else if 64 < nums.length ∨ 64 < texts.length then 3 else if texts.any (fun t => decide (4096 < t.length)) = true then 5 else 0
def I64 (n : Int) : Prop := -9223372036854775808 ≤ n ∧ n ≤ 9223372036854775807
theorem wnat {i : Nat} (h : i ≤ 4611686018427387904) : wrap64 ((i : Int) + 1) = ((i + 1 : Nat) : Int) := by unfold wrap64; omega
theorem rdL1_nat (l : List (List Int)) (i : Nat) (h : i < l.length) : rd_L1 l (i : Int) = l[i] := by
  unfold rd_L1
  simp [List.getD_eq_getElem?_getD, h]
theorem check_l0 (texts : List (List Int)) (hl : texts.length ≤ 64) : ∀ (d i : Nat), i + d = texts.length → Ev (fun k => wire_Check.l0 k texts (texts.length : Int) (i : Int)) (if (texts.drop i).any (fun t => decide (4096 < t.length)) = true then 5 else 0) := by
  intro d
  induction d with
  | zero =>
    intro i hi
    rw [List.drop_eq_nil_of_le (by omega)]
    refine Ev.step (f := fun _ => some 0) (fun k => ?_) (Ev.now _)
    rw [wire_Check.l0, if_neg (by omega)]
  | succ d ih =>
    intro i hi
    have hlt : i < texts.length := by omega
    rw [List.drop_eq_getElem_cons hlt, List.any_cons]
    by_cases h : 4096 < (texts[i]).length
    · rw [decide_eq_true h, Bool.true_or, if_pos rfl]
      refine Ev.step (f := fun _ => some 5) (fun k => ?_) (Ev.now _)
      rw [wire_Check.l0, if_pos (by omega), if_pos (by omega), if_pos (by omega), rdL1_nat texts i hlt, if_pos (by omega)]
    · rw [decide_eq_false h, Bool.false_or]
      refine Ev.step (f := fun k => wire_Check.l0 k texts (texts.length : Int) ((i + 1 : Nat) : Int)) (fun k => ?_) (ih (i + 1) (by omega))
      rw [wire_Check.l0, if_pos (by omega), if_pos (by omega), if_pos (by omega), rdL1_nat texts i hlt, if_neg (by omega), wnat (by omega)]
theorem check_is (kind : Int) (nums : List Int) (texts : List (List Int)) : Ev (fun k => wire_Check.f k kind nums texts) (checkW kind nums texts) := by
  have hj1 : ∀ b : Bool, (b = true ↔ 64 < nums.length ∨ 64 < texts.length) → Ev (fun k => wire_Check.j1 k b kind nums texts) (if 64 < nums.length ∨ 64 < texts.length then 3 else if texts.any (fun t => decide (4096 < t.length)) = true then 5 else 0) := by
    intro b hb
    by_cases h : 64 < nums.length ∨ 64 < texts.length
    · rw [if_pos h]
      refine Ev.step (f := fun _ => some 3) (fun k => ?_) (Ev.now _)
      rw [wire_Check.j1, if_pos (hb.2 h)]
    · rw [if_neg h]
      refine Ev.step (f := fun k => wire_Check.l0 k texts (texts.length : Int) ((0 : Nat) : Int)) (fun k => ?_) (check_l0 texts (by omega) texts.length 0 (by omega))
      rw [wire_Check.j1, if_neg (fun e => h (hb.1 e))]
      rfl
  have hj0 : ∀ b : Bool, (b = true ↔ kind < 0 ∨ 255 < kind) → Ev (fun k => wire_Check.j0 k b kind nums texts) (checkW kind nums texts) := by
    intro b hb
    unfold checkW
    by_cases h : kind < 0 ∨ 255 < kind
    · rw [if_pos h]
      refine Ev.step (f := fun _ => some 22) (fun k => ?_) (Ev.now _)
      rw [wire_Check.j0, if_pos (hb.2 h)]
    · rw [if_neg h]
      by_cases h2 : 64 < nums.length
      · refine Ev.step (f := fun k => wire_Check.j1 k true kind nums texts) (fun k => ?_) (hj1 true ⟨fun _ => .inl h2, fun _ => rfl⟩)
        rw [wire_Check.j0, if_neg (fun e => h (hb.1 e)), if_pos (by omega)]
      · refine Ev.step (f := fun k => wire_Check.j1 k (decide ((texts.length : Int) > 64)) kind nums texts) (fun k => ?_) (hj1 _ ⟨fun e => .inr (by have := of_decide_eq_true e; omega), fun e => decide_eq_true (by omega)⟩)
        rw [wire_Check.j0, if_neg (fun e => h (hb.1 e)), if_neg (by omega)]
  by_cases h : kind < 0
  · refine Ev.congr (f := fun k => wire_Check.j0 k true kind nums texts) (fun k => ?_) (hj0 true ⟨fun _ => .inl h, fun _ => rfl⟩)
    unfold wire_Check.f
    rw [if_pos h]
  · refine Ev.congr (f := fun k => wire_Check.j0 k (decide (kind > 255)) kind nums texts) (fun k => ?_) (hj0 _ ⟨fun e => .inr (by have := of_decide_eq_true e; omega), fun e => decide_eq_true (by omega)⟩)
    unfold wire_Check.f
    rw [if_neg h]
theorem check_zero {kind : Int} {nums : List Int} {texts : List (List Int)} (h : checkW kind nums texts = 0) : 0 ≤ kind ∧ kind ≤ 255 ∧ nums.length ≤ 64 ∧ texts.length ≤ 64 ∧ ∀ t ∈ texts, t.length ≤ 4096 := by
  unfold checkW at h
  split at h
  · omega
  · split at h
    · omega
    · split at h
      · omega
      · rename_i h1 h2 h3
        refine ⟨by omega, by omega, by omega, by omega, fun t ht => ?_⟩
        rcases Nat.lt_or_ge 4096 t.length with h4 | h4
        · exact absurd (List.any_eq_true.2 ⟨t, ht, decide_eq_true h4⟩) h3
        · exact h4
theorem flat_len {α : Type} (f : α → List Int) (n : Nat) : ∀ (l : List α), (∀ x ∈ l, (f x).length ≤ n) → (l.flatMap f).length ≤ l.length * n := by
  intro l
  induction l with
  | nil => intro _; simp
  | cons x r ih =>
    intro h
    have h1 := h x List.mem_cons_self
    have h2 := ih (fun y hy => h y (List.mem_cons_of_mem _ hy))
    rw [List.flatMap_cons, List.length_append, List.length_cons, Nat.add_mul]
    omega
theorem flat_oct {α : Type} (f : α → List Int) : ∀ (l : List α), (∀ x ∈ l, Oct (f x)) → Oct (l.flatMap f) := by
  intro l h x hx
  obtain ⟨y, hy, hxy⟩ := List.mem_flatMap.1 hx
  exact h y hy x hxy
theorem encN_len (n : Int) : (encN n).length ≤ 10 := encF_len 9 _
theorem encT_len (t : List Int) (h : t.length ≤ 4096) : (encT t).length ≤ 4106 := by
  unfold encT
  rw [List.length_append]
  have := encF_len 9 t.length
  omega
theorem pow128 : (128 : Nat) ^ (9 + 1) = 1180591620717411303424 := by decide
theorem encN_oct (n : Int) (h : I64 n) : Oct (encN n) := encF_oct 9 _ (by have := zN_lt n h.1 h.2; rw [pow128]; omega)
theorem encT_oct (t : List Int) (h : t.length ≤ 4096) (ho : Oct t) : Oct (encT t) := (encF_oct 9 _ (by rw [pow128]; omega)).append ho
theorem enc_l1 (texts : List (List Int)) (hl : texts.length ≤ 64) (ht : ∀ t ∈ texts, t.length ≤ 4096 ∧ Oct t) : ∀ (d i : Nat) (b : List Int), i + d = texts.length → Oct b → b.length + d * 4106 ≤ 1000000 → Ev (fun k => wire_Encode.l1 k b texts (texts.length : Int) (i : Int)) (sealW (b ++ (texts.drop i).flatMap encT), 0) := by
  intro d
  induction d with
  | zero =>
    intro i b hi hb hlen
    rw [List.drop_eq_nil_of_le (by omega), List.flatMap_nil, List.append_nil]
    refine Ev.step (f := fun k => (crc_Seal.f k b).bind fun t => some (t, 0)) (fun k => ?_) (Ev.bind (a := sealW b) ⟨5, fun k hk => seal_is b hb k hk (by omega)⟩ (Ev.now _))
    rw [wire_Encode.l1, if_neg (by omega)]
  | succ d ih =>
    intro i b hi hb hlen
    have hlt : i < texts.length := by omega
    have h1 := ht _ (List.getElem_mem hlt)
    have e : b ++ (texts.drop i).flatMap encT = (b ++ encF 9 (texts[i]).length ++ texts[i]) ++ (texts.drop (i + 1)).flatMap encT := by
      rw [List.drop_eq_getElem_cons hlt, List.flatMap_cons, encT, List.append_assoc, List.append_assoc, List.append_assoc]
    rw [e]
    have hlen2 := encF_len 9 (texts[i]).length
    have hg := groups_ev 9 (texts[i]).length b (by rw [pow128]; omega) (by omega)
    refine Ev.step (f := fun k => (wire_groups.f k b ((texts[i]).length : Int)).bind fun t139 => if t139.length + (texts[i]).length < 140737488355328 then wire_Encode.l1 k (t139 ++ texts[i]) texts (texts.length : Int) ((i + 1 : Nat) : Int) else none) (fun k => ?_) (Ev.bind (a := b ++ encF 9 (texts[i]).length) hg ?_)
    · have hw : IntKind.u64.wrap ((texts[i]).length : Int) = ((texts[i]).length : Int) := by rw [IntKind.wrap_u64]; omega
      rw [wire_Encode.l1, if_pos (by omega), if_pos (by omega), if_pos (by omega), rdL1_nat texts i hlt, hw, wnat (by omega)]
    · refine Ev.congr (f := fun k => wire_Encode.l1 k (b ++ encF 9 (texts[i]).length ++ texts[i]) texts (texts.length : Int) ((i + 1 : Nat) : Int)) (fun k => if_pos (by rw [List.length_append]; omega)) (ih (i + 1) _ (by omega) ((hb.append (encF_oct 9 (texts[i]).length (by rw [pow128]; omega))).append h1.2) (by rw [List.length_append, List.length_append]; omega))
theorem enc_l0 (kind : Int) (nums : List Int) (texts : List (List Int)) (hn : ∀ x ∈ nums, I64 x) (hl : nums.length ≤ 64) (ht : texts.length ≤ 64) (R : List Int × Int) : ∀ (d i : Nat) (b : List Int), i + d = nums.length → b.length + d * 10 ≤ 100000 → Ev (fun k => wire_Encode.l1 k (b ++ (nums.drop i).flatMap encN ++ [(texts.length : Int)]) texts (texts.length : Int) ((0 : Nat) : Int)) R → Ev (fun k => wire_Encode.l0 k b nums (nums.length : Int) (i : Int) kind nums texts) R := by
  intro d
  induction d with
  | zero =>
    intro i b hi hlen hnext
    rw [List.drop_eq_nil_of_le (by omega), List.flatMap_nil, List.append_nil] at hnext
    refine Ev.step (f := fun k => wire_Encode.l1 k (b ++ [(texts.length : Int)]) texts (texts.length : Int) ((0 : Nat) : Int)) (fun k => ?_) hnext
    rw [wire_Encode.l0, if_neg (by omega), if_pos (by omega), show (texts.length : Int) % 256 = (texts.length : Int) by omega]
    rfl
  | succ d ih =>
    intro i b hi hlen hnext
    have hlt : i < nums.length := by omega
    have h1 := hn _ (List.getElem_mem hlt)
    have e : b ++ (nums.drop i).flatMap encN = (b ++ encN nums[i]) ++ (nums.drop (i + 1)).flatMap encN := by
      rw [List.drop_eq_getElem_cons hlt, List.flatMap_cons, List.append_assoc]
    rw [e] at hnext
    have hz := zN_lt nums[i] h1.1 h1.2
    have hlen2 := encN_len nums[i]
    have hg := groups_ev 9 (zN nums[i]) b (by rw [pow128]; omega) (by omega)
    refine Ev.step (f := fun k => (wire_groups.f k b ((zN nums[i] : Nat) : Int)).bind fun t132 => wire_Encode.l0 k t132 nums (nums.length : Int) ((i + 1 : Nat) : Int) kind nums texts) (fun k => ?_) (Ev.bind (a := b ++ encN nums[i]) hg (ih (i + 1) _ (by omega) (by rw [List.length_append]; omega) hnext))
    rw [wire_Encode.l0, if_pos (by omega), if_pos (by omega), if_pos (by omega), rd_nat nums i hlt, z_is _ h1.1 h1.2, wnat (by omega)]
theorem body_oct {kind : Int} {nums : List Int} {texts : List (List Int)} (hk : 0 ≤ kind ∧ kind ≤ 255) (hn : ∀ x ∈ nums, I64 x) (hl : nums.length ≤ 64) (hl2 : texts.length ≤ 64) (ht : ∀ t ∈ texts, t.length ≤ 4096 ∧ Oct t) : Oct (bodyI kind nums texts) := by
  refine Oct.append (Oct.append (Oct.append ?_ (flat_oct _ _ (fun x hx => encN_oct x (hn x hx)))) ?_) (flat_oct _ _ (fun t h => encT_oct t (ht t h).1 (ht t h).2))
  · intro x hx
    simp at hx
    omega
  · intro x hx
    simp at hx
    omega
theorem body_len {kind : Int} {nums : List Int} {texts : List (List Int)} (hl : nums.length ≤ 64) (hl2 : texts.length ≤ 64) (ht : ∀ t ∈ texts, t.length ≤ 4096) : (bodyI kind nums texts).length ≤ 300000 := by
  have h1 := flat_len encN 10 nums (fun x _ => encN_len x)
  have h2 := flat_len encT 4106 texts (fun t h => encT_len t (ht t h))
  unfold bodyI
  simp only [List.length_append, List.length_cons, List.length_nil]
  omega
theorem encode_is (kind : Int) (nums : List Int) (texts : List (List Int)) (hn : ∀ x ∈ nums, I64 x) (ht : ∀ t ∈ texts, Oct t) : Ev (fun k => wire_Encode.f k kind nums texts) (if checkW kind nums texts = 0 then (sealW (bodyI kind nums texts), 0) else ([], checkW kind nums texts)) := by
  unfold wire_Encode.f
  refine Ev.bind (check_is kind nums texts) ?_
  by_cases h : checkW kind nums texts = 0
  · obtain ⟨h0, h1, h2, h3, h4⟩ := check_zero h
    rw [if_pos h]
    have e1 := enc_l1 texts h3 (fun t m => ⟨h4 t m, ht t m⟩) texts.length 0 ([kind, (nums.length : Int)] ++ nums.flatMap encN ++ [(texts.length : Int)]) (by omega) (by
      refine Oct.append (Oct.append ?_ (flat_oct _ _ (fun x hx => encN_oct x (hn x hx)))) ?_
      · intro x hx
        simp at hx
        omega
      · intro x hx
        simp at hx
        omega) (by
      have := flat_len encN 10 nums (fun x _ => encN_len x)
      simp only [List.length_append, List.length_cons, List.length_nil]
      omega)
    have e0 := enc_l0 kind nums texts hn h2 h3 _ nums.length 0 [kind, (nums.length : Int)] (by omega) (by simp; omega) e1
    refine Ev.congr (f := fun k => wire_Encode.l0 k [kind, (nums.length : Int)] nums (nums.length : Int) ((0 : Nat) : Int) kind nums texts) (fun k => ?_) e0
    rw [if_pos h, show kind % 256 = kind by omega, show (nums.length : Int) % 256 = (nums.length : Int) by omega]
    rfl
  · rw [if_neg h]
    exact Ev.congr (f := fun _ => some ([], checkW kind nums texts)) (fun k => if_neg h) (Ev.now _)
theorem groupsI_enc (m : Nat) (r : List Int) (h : m < 18446744073709551616) : groupsI 0 0 (encF 9 m ++ r) = (((m : Int), none), r) := by
  have := groups_dec 9 0 0 m r (by omega) (by decide) (by rw [pow128]; omega) (by rw [show 2 ^ (7 * 0) = 1 from rfl]; omega) (fun h => absurd h (by decide))
  rw [show 2 ^ (7 * 0) = 1 from rfl, Nat.mul_one, Nat.zero_add] at this
  exact this
theorem nums_dec : ∀ (nums acc r : List Int), (∀ x ∈ nums, I64 x) → numsLoop nums.length acc (nums.flatMap encN ++ r) = ((acc ++ nums, none), r) := by
  intro nums
  induction nums with
  | nil => intro acc r _; rw [List.append_nil]; rfl
  | cons x s ih =>
    intro acc r h
    have h1 := h x List.mem_cons_self
    have hg := groupsI_enc (zN x) (s.flatMap encN ++ r) (zN_lt x h1.1 h1.2)
    rw [List.flatMap_cons, List.append_assoc, List.length_cons, numsLoop]
    unfold encN at hg ⊢
    rw [hg, if_pos rfl, unz_is x h1.1 h1.2]
    have := ih (acc ++ [x]) r (fun y hy => h y (List.mem_cons_of_mem _ hy))
    unfold encN at this
    rw [this, List.append_assoc]
    rfl
theorem text_dec (t r : List Int) (h : t.length ≤ 4096) : textI (encT t ++ r) = ((t, none), r) := by
  have hg := groupsI_enc t.length (t ++ r) (by omega)
  unfold textI encT
  rw [List.append_assoc, hg]
  dsimp only
  rw [if_pos rfl, if_neg (by omega), Int.toNat_natCast]
  unfold takeI
  rw [if_neg (by rw [List.length_append]; omega), List.take_left', List.drop_left'] <;> rfl
theorem texts_dec : ∀ (texts acc : List (List Int)) (r : List Int), (∀ t ∈ texts, t.length ≤ 4096) → textsLoop texts.length acc (texts.flatMap encT ++ r) = ((acc ++ texts, none), r) := by
  intro texts
  induction texts with
  | nil => intro acc r _; rw [List.append_nil]; rfl
  | cons x s ih =>
    intro acc r h
    rw [List.flatMap_cons, List.append_assoc, List.length_cons, textsLoop, text_dec x _ (h x List.mem_cons_self), if_pos rfl, ih _ r (fun y hy => h y (List.mem_cons_of_mem _ hy)), List.append_assoc]
    rfl
theorem count_dec (n : Nat) (r : List Int) (h : n ≤ 64) : countI 64 ((n : Int) :: r) = (((n : Int), none), r) := by
  unfold countI
  rw [if_neg (fun e => by have h2 := e.2; simp only [octetI] at h2; omega)]
  rfl
theorem rec_dec (kind : Int) (nums : List Int) (texts : List (List Int)) (hn : ∀ x ∈ nums, I64 x) (h1 : nums.length ≤ 64) (h2 : texts.length ≤ 64) (ht : ∀ t ∈ texts, t.length ≤ 4096) : recI (bodyI kind nums texts) = .good kind nums texts := by
  have e : bodyI kind nums texts = kind :: (nums.length : Int) :: (nums.flatMap encN ++ ((texts.length : Int) :: (texts.flatMap encT ++ []))) := by
    unfold bodyI
    simp
  have n1 : numsI ((nums.length : Int) :: (nums.flatMap encN ++ ((texts.length : Int) :: (texts.flatMap encT ++ [])))) = ((nums, none), (texts.length : Int) :: (texts.flatMap encT ++ [])) := by
    unfold numsI
    rw [count_dec _ _ h1]
    show numsGo none ((nums.length : Int)).toNat [] _ = _
    unfold numsGo
    rw [if_pos rfl, Int.toNat_natCast, nums_dec nums [] _ hn]
    rfl
  have n2 : textsI ((texts.length : Int) :: (texts.flatMap encT ++ [])) = ((texts, none), []) := by
    unfold textsI
    rw [count_dec _ _ h2]
    show textsGo none ((texts.length : Int)).toNat [] _ = _
    unfold textsGo
    rw [if_pos rfl, Int.toNat_natCast, texts_dec texts [] _ ht]
    rfl
  rw [e]
  unfold recI
  simp only [octetI, n1, n2]
  rfl
theorem oct5_of {l : List Int} (h : Oct l) : oct5 l = true := List.all_eq_true.2 (fun x hx => by have := h x hx; simp; omega)
theorem decode_sealed (kind : Int) (nums : List Int) (texts : List (List Int)) (hn : ∀ x ∈ nums, I64 x) (ht : ∀ t ∈ texts, Oct t) (hc : checkW kind nums texts = 0) : Ev (fun k => wire_Decode.f k (sealW (bodyI kind nums texts))) (kind, nums, texts, 0) := by
  obtain ⟨h0, h1, h2, h3, h4⟩ := check_zero hc
  have ho := body_oct (kind := kind) ⟨h0, h1⟩ hn h2 h3 (fun t m => ⟨h4 t m, ht t m⟩)
  have hl := body_len (kind := kind) h2 h3 h4
  unfold wire_Decode.f
  refine Ev.bind (a := (bodyI kind nums texts, 0)) ⟨5, fun k hk => open_sealed _ ho k hk (by omega)⟩ ?_
  refine Ev.congr (f := fun _ => some (kind, nums, texts, 0)) (fun k => ?_) (Ev.now _)
  simp only [if_pos trivial]
  rw [if_pos (oct5_of ho), rec_dec kind nums texts hn h2 h3 h4]

theorem alive_ev : Ev undercroftlaw05_alive.f true := by
  have hb : bodyI 1 [0, -1, 64] [] = [1, 3, 0, 1, 128, 1, 0] := by decide
  have he := encode_is 1 [0, -1, 64] [] (fun x hx => by unfold I64; simp at hx; omega) (fun t h => by cases h)
  rw [if_pos (show checkW 1 [0, -1, 64] [] = 0 by decide), hb] at he
  have hl : (sealW [1, 3, 0, 1, 128, 1, 0]).length = 11 := by unfold sealW lowI; rfl
  have ht : (sealW [1, 3, 0, 1, 128, 1, 0]).take 7 = [1, 3, 0, 1, 128, 1, 0] := by unfold sealW; exact List.take_left' rfl
  unfold undercroftlaw05_alive.f
  refine Ev.bind he ?_
  refine Ev.congr (f := fun k => (undercroftplain_SameBytes.f k [1, 3, 0, 1, 128, 1, 0] [1, 3, 0, 1, 128, 1, 0]).bind fun t => some t) (fun k => ?_) ?_
  · dsimp only
    rw [show undercroftlaw05_num.f 0 = some 0 from rfl, Option.bind_some, if_pos rfl, if_pos (by rw [hl]; rfl), if_pos (by rw [hl]; decide), ht]
  · refine Ev.bind (a := true) ⟨100, fun k hk => ?_⟩ (Ev.now _)
    show undercroftplain_SameBytes.f k [1, 3, 0, 1, 128, 1, 0] [1, 3, 0, 1, 128, 1, 0] = some true
    rw [sameBytes_is _ _ k (by show 7 < k; omega) (by show 7 ≤ 9223372036854775807; decide)]
    rfl
theorem copyLists_l0 (l : List (List Int)) (hl : l.length ≤ 5864062014634) (h : ∀ t ∈ l, t.length < 140737488355328) : ∀ (d i : Nat) (acc : List (List Int)), i + d = l.length → acc = l.take i → Ev (fun k => undercroftplain_CopyLists.l0 k l acc (i : Int)) l := by
  intro d
  induction d with
  | zero =>
    intro i acc hi ha
    refine Ev.step (f := fun _ => some l) (fun k => ?_) (Ev.now _)
    rw [undercroftplain_CopyLists.l0, if_neg (by omega), ha, List.take_of_length_le (by omega)]
  | succ d ih =>
    intro i acc hi ha
    have hlt : i < l.length := by omega
    refine Ev.step (f := fun k => undercroftplain_CopyLists.l0 k l (acc ++ [l[i]]) ((i + 1 : Nat) : Int)) (fun k => ?_) (ih (i + 1) (acc ++ [l[i]]) (by omega) (by rw [ha, List.take_succ_eq_append_getElem hlt]))
    rw [undercroftplain_CopyLists.l0, if_pos (by omega), if_pos (by omega), rdL1_nat l i hlt, copyBytes_is _ (h _ (List.getElem_mem hlt)), Option.bind_some, if_pos (by rw [ha, List.length_take]; omega), wnat (by omega)]
theorem of_ev (a : Int) (l1 : List Int) (l2 : List (List Int)) (h1 : l1.length < 17592186044416) (h2 : l2.length ≤ 5864062014634) (h3 : ∀ t ∈ l2, t.length < 140737488355328) : Ev (fun k => undercroftlaw05_of.f k a l1 l2) (a, l1, l2) := by
  have hc : undercroftplain_CopyInts.f l1 = some l1 := by
    unfold undercroftplain_CopyInts.f
    rw [if_pos (by simpa using h1)]
    simp
  refine Ev.congr (f := fun k => (undercroftplain_CopyLists.l0 k l2 [] ((0 : Nat) : Int)).bind fun t => some (a, l1, t)) (fun k => ?_) (Ev.bind (copyLists_l0 l2 h2 h3 l2.length 0 [] (by omega) (by simp)) (Ev.now _))
  unfold undercroftlaw05_of.f undercroftplain_CopyLists.f
  rw [hc, Option.bind_some]
  rfl

theorem lowI_len (c : Int) : (lowI c).length = 4 := rfl
theorem sum_set (l : List Int) (j : Nat) (hj : j < l.length) (y : Int) (h : sumI 0 (l.set j y) = sumI 0 l) : oct y = oct l[j] := by
  unfold sumI CrcMath.sum at h
  have h1 := congrArg reg h
  rw [reg_num, reg_num] at h1
  have h2 := congrArg (fun z => ~~~ z) h1
  simp only [BitVec.not_not] at h2
  rw [List.map_set] at h2
  have h3 := run_set (l.map oct) _ j (oct y) (by rw [List.length_map]; exact hj) h2
  rw [List.getElem_map] at h3
  exact h3
/-- What is sealed, with an octet turned, is not opened. -/
theorem turned05 (l : List Int) (ho : Oct l) (hl : l.length ≤ 300000) (j : Nat) (hj : j < (sealW l).length) (t : Int) (ht : 0 ≤ t ∧ t ≤ 255) (h0 : t ≠ 0) :
    Ev (fun k => wire_Decode.f k ((sealW l).set j (Go.bits .xor .u8 (rd (sealW l) (j : Int)) t))) (0, [], [], 21) := by
  have hn : (sealW l).length = l.length + 4 := by unfold sealW; rw [List.length_append, lowI_len]
  have hob : Oct (sealW l) := ho.append (lowI_oct _)
  have hne := turn_ne (rd (sealW l) (j : Int)) t ht h0
  have hy := xor_u8_range (rd (sealW l) (j : Int)) t
  generalize Go.bits .xor .u8 (rd (sealW l) (j : Int)) t = y at hne hy ⊢
  rw [rd_nat _ j hj] at hne
  have hos : Oct ((sealW l).set j y) := by
    intro x hx
    rcases List.mem_or_eq_of_mem_set hx with h | rfl
    · exact hob x h
    · exact hy
  have e4 : ((sealW l).set j y).length - 4 = l.length := by rw [List.length_set, hn]; omega
  have hop : Ev (fun k => crc_Open.f k ((sealW l).set j y)) ([], 21) := by
    refine ⟨5, fun k hk => ?_⟩
    have := open_is ((sealW l).set j y) hos k hk (by rw [List.length_set]; omega) (by rw [List.length_set]; omega)
    rw [e4] at this
    show crc_Open.f k ((sealW l).set j y) = some ([], 21)
    rw [this, if_neg]
    by_cases hlt : j < l.length
    · have e1 : ((sealW l).set j y).drop l.length = lowI (sumI 0 l) := by
        rw [List.drop_set_of_lt hlt]
        unfold sealW
        exact List.drop_left' rfl
      have e2 : ((sealW l).set j y).take l.length = l.set j y := by
        rw [List.take_set]
        unfold sealW
        rw [List.take_left' rfl]
      rw [e1, e2]
      intro h
      have h2 := lowI_inj _ _ (sumI_range _ _) (sumI_range _ _) h
      have h3 := sum_set l j hlt y h2.symm
      have h5 : (sealW l)[j] = l[j] := List.getElem_append_left (bs := lowI (sumI 0 l)) hlt
      apply hne
      rw [h3, h5]
    · have e2 : ((sealW l).set j y).take l.length = l := by
        rw [List.take_set_of_le (by omega)]
        unfold sealW
        exact List.take_left' rfl
      rw [e2]
      intro h
      have h3 := congrArg (fun z => z[j - l.length]?) h
      simp only [List.getElem?_drop, show l.length + (j - l.length) = j by omega] at h3
      rw [List.getElem?_set_self (by omega)] at h3
      apply hne
      have h4 : (sealW l)[j]? = some y := by
        rw [h3]
        unfold sealW
        rw [List.getElem?_append_right (by omega)]
      rw [List.getElem?_eq_getElem hj] at h4
      exact congrArg oct (Option.some.inj h4).symm
  unfold wire_Decode.f
  refine Ev.bind hop ?_
  exact Ev.congr (f := fun _ => some (0, [], [], 21)) (fun k => if_neg (show ¬ (([] : List Int), (21 : Int)).2 = 0 by decide)) (Ev.now _)
theorem sameInts_l0 (a : List Int) (hl : a.length ≤ 4611686018427387904) : ∀ (d i : Nat), i + d = a.length → Ev (fun k => undercroftplain_SameInts.l0 k a a (i : Int)) true := by
  intro d
  induction d with
  | zero =>
    intro i hi
    refine Ev.step (f := fun _ => some true) (fun k => ?_) (Ev.now _)
    rw [undercroftplain_SameInts.l0, if_neg (by omega)]
  | succ d ih =>
    intro i hi
    refine Ev.step (f := fun k => undercroftplain_SameInts.l0 k a a ((i + 1 : Nat) : Int)) (fun k => ?_) (ih (i + 1) (by omega))
    rw [undercroftplain_SameInts.l0, if_pos (by omega), if_pos (by omega), if_pos (by omega), if_pos rfl, wnat (by omega)]
theorem sameLists_l0 (a : List (List Int)) (hl : a.length ≤ 4611686018427387904) (hm : ∀ t ∈ a, t.length ≤ 9223372036854775807) : ∀ (d i : Nat), i + d = a.length → Ev (fun k => undercroftplain_SameLists.l0 k a a (i : Int)) true := by
  intro d
  induction d with
  | zero =>
    intro i hi
    refine Ev.step (f := fun _ => some true) (fun k => ?_) (Ev.now _)
    rw [undercroftplain_SameLists.l0, if_neg (by omega)]
  | succ d ih =>
    intro i hi
    have hlt : i < a.length := by omega
    refine Ev.step (f := fun k => (undercroftplain_SameBytes.f k a[i] a[i]).bind fun t => if t = true then undercroftplain_SameLists.l0 k a a ((i + 1 : Nat) : Int) else some false) (fun k => ?_) (Ev.bind (a := true) ⟨(a[i]).length + 1, fun k hk => ?_⟩ (Ev.congr (fun k => if_pos rfl) (ih (i + 1) (by omega))))
    · rw [undercroftplain_SameLists.l0, if_pos (by omega), if_pos (by omega), if_pos (by omega), rdL1_nat a i hlt, wnat (by omega)]
    · show undercroftplain_SameBytes.f k a[i] a[i] = some true
      rw [sameBytes_is _ _ k (by omega) (hm _ (List.getElem_mem hlt)), decide_eq_true rfl]
theorem same_ev (a : Int) (l1 : List Int) (l2 : List (List Int)) (h1 : l1.length ≤ 4611686018427387904) (h2 : l2.length ≤ 4611686018427387904) (h3 : ∀ t ∈ l2, t.length ≤ 9223372036854775807) : Ev (fun k => undercroftlaw05_same.f k a l1 l2 a l1 l2) true := by
  have hi : Ev (fun k => undercroftplain_SameInts.f k l1 l1) true := by
    refine Ev.congr (f := fun k => undercroftplain_SameInts.l0 k l1 l1 ((0 : Nat) : Int)) (fun k => ?_) (sameInts_l0 l1 h1 l1.length 0 (by omega))
    unfold undercroftplain_SameInts.f
    rw [if_pos rfl]
    rfl
  have hs : Ev (fun k => undercroftplain_SameLists.f k l2 l2) true := by
    refine Ev.congr (f := fun k => undercroftplain_SameLists.l0 k l2 l2 ((0 : Nat) : Int)) (fun k => ?_) (sameLists_l0 l2 h2 h3 l2.length 0 (by omega))
    unfold undercroftplain_SameLists.f
    rw [if_pos rfl]
    rfl
  unfold undercroftlaw05_same.f
  refine Ev.congr (fun k => if_pos rfl) ?_
  refine Ev.bind hi ?_
  refine Ev.congr (fun k => if_pos rfl) ?_
  exact Ev.bind hs (Ev.now _)

theorem groups_inv : ∀ (l : List Int) (i N : Nat) (m : Int) (r : List Int), Oct l → i ≤ 9 → N < 2 ^ (7 * i) → groupsI i (N : Int) l = ((m, none), r) → ∃ M : Nat, l = encF (9 - i) M ++ r ∧ m = ((N + M * 2 ^ (7 * i) : Nat) : Int) ∧ N + M * 2 ^ (7 * i) < 18446744073709551616 ∧ (0 < i → 0 < M) := by
  intro l
  induction l with
  | nil => intro i N m r _ _ _ h; simp [groupsI] at h
  | cons c s ih =>
    intro i N m r ho hi hN h
    have hc := ho c List.mem_cons_self
    have hos : Oct s := fun x hx => ho x (List.mem_cons_of_mem _ hx)
    by_cases hE : (i = 9 ∧ 1 < c) ∨ (0 < i ∧ c = 0)
    · rw [groupsI_err hE] at h
      simp at h
    obtain ⟨C, rfl⟩ : ∃ C : Nat, c = (C : Int) := ⟨c.toNat, by omega⟩
    have h9 : i = 9 → C ≤ 1 := fun e => by
      rcases Nat.lt_or_ge 1 C with h1 | h1
      · exact absurd (.inl ⟨e, by omega⟩) hE
      · exact h1
    have hP9 : i = 9 → 2 ^ (7 * i) = 9223372036854775808 := by rintro rfl; decide
    have hP8 : i ≤ 8 → 2 ^ (7 * i) ≤ 72057594037927936 := fun h => by
      have : 2 ^ (7 * i) ≤ 2 ^ 56 := Nat.pow_le_pow_right (by decide) (by omega)
      exact this
    have h0 : 0 < i → 0 < C := fun e => by
      rcases Nat.eq_zero_or_pos C with h1 | h1
      · exact absurd (.inr ⟨e, by omega⟩) hE
      · exact h1
    by_cases h8 : (C : Int) < 128
    · rw [groupsI_end hE h8] at h
      have hb : C * 2 ^ (7 * i) ≤ 127 * 2 ^ (7 * i) := Nat.mul_le_mul_right _ (by omega)
      have hX : N + C * 2 ^ (7 * i) < 18446744073709551616 := by
        by_cases h99 : i = 9
        · have h1 := h9 h99
          have h2 := hP9 h99
          have hb2 : C * 2 ^ (7 * i) ≤ 1 * 2 ^ (7 * i) := Nat.mul_le_mul_right _ h1
          omega
        · have := hP8 (by omega)
          omega
      have hs := gstep_is N C i (by omega) hi hN (by rw [show C % 128 = C by omega]; omega)
      rw [show C % 128 = C by omega] at hs
      rw [hs] at h
      simp only [Prod.mk.injEq, and_true] at h
      refine ⟨C, ?_, h.1.symm, hX, h0⟩
      rw [← h.2]
      have e : encF (9 - i) C = [(C : Int)] := by
        cases hf : 9 - i with
        | zero => rfl
        | succ f => rw [encF, if_pos (by omega)]
      rw [e]
      rfl
    · rw [groupsI_on hE h8] at h
      have hi8 : i ≤ 8 := by
        by_cases h99 : i = 9
        · have := h9 h99; omega
        · omega
      have hP := hP8 hi8
      have hP1 : 2 ^ (7 * (i + 1)) = 128 * 2 ^ (7 * i) := by rw [Nat.mul_add, Nat.pow_add, Nat.mul_comm]
      have hb : (C % 128) * 2 ^ (7 * i) ≤ 127 * 2 ^ (7 * i) := Nat.mul_le_mul_right _ (by omega)
      have hs := gstep_is N C i (by omega) hi hN (by omega)
      rw [hs] at h
      obtain ⟨M, e1, e2, e3, e4⟩ := ih (i + 1) (N + (C % 128) * 2 ^ (7 * i)) m r hos (by omega) (by rw [hP1]; omega) h
      have hM := e4 (by omega)
      have hsum : (C % 128) * 2 ^ (7 * i) + M * 2 ^ (7 * (i + 1)) = (128 * M + C % 128) * 2 ^ (7 * i) := by
        rw [hP1, Nat.add_mul, Nat.mul_comm 128 M, Nat.mul_assoc, Nat.add_comm]
      have hsum2 : N + (C % 128) * 2 ^ (7 * i) + M * 2 ^ (7 * (i + 1)) = N + (128 * M + C % 128) * 2 ^ (7 * i) := by rw [Nat.add_assoc, hsum]
      rw [hsum2] at e2 e3
      refine ⟨128 * M + C % 128, ?_, e2, e3, fun _ => by omega⟩
      rw [e1, show 9 - i = (9 - (i + 1)) + 1 by omega, encF, if_neg (by omega), show (128 * M + C % 128) % 128 + 128 = C by omega, show (128 * M + C % 128) / 128 = M by omega]
      rfl
theorem groups_inv0 (l : List Int) (m : Int) (r : List Int) (ho : Oct l) (h : groupsI 0 0 l = ((m, none), r)) : ∃ M : Nat, l = encF 9 M ++ r ∧ m = (M : Int) ∧ M < 18446744073709551616 := by
  obtain ⟨M, e1, e2, e3, _⟩ := groups_inv l 0 0 m r ho (by omega) (by decide) h
  rw [show 2 ^ (7 * 0) = 1 from rfl, Nat.mul_one, Nat.zero_add] at e2 e3
  exact ⟨M, e1, e2, e3⟩
theorem unz_inv (M : Nat) (h : M < 18446744073709551616) : I64 (unz (M : Int)) ∧ zN (unz (M : Int)) = M := by
  by_cases h2 : M % 2 = 0
  · have hn : I64 ((M / 2 : Nat) : Int) := by unfold I64; omega
    have hz : zN ((M / 2 : Nat) : Int) = M := by unfold zN; rw [if_pos (by omega)]; omega
    have hu := unz_is ((M / 2 : Nat) : Int) hn.1 hn.2
    rw [hz] at hu
    rw [hu]
    exact ⟨hn, hz⟩
  · have hn : I64 (-((M / 2 : Nat) : Int) - 1) := by unfold I64; omega
    have hz : zN (-((M / 2 : Nat) : Int) - 1) = M := by unfold zN; rw [if_neg (by omega)]; omega
    have hu := unz_is (-((M / 2 : Nat) : Int) - 1) hn.1 hn.2
    rw [hz] at hu
    rw [hu]
    exact ⟨hn, hz⟩
theorem Oct.of_app {a b : List Int} (h : Oct (a ++ b)) : Oct b := fun x hx => h x (List.mem_append_right a hx)
theorem nums_inv : ∀ (d : Nat) (acc l ns r : List Int), Oct l → numsLoop d acc l = ((ns, none), r) → ∃ xs : List Int, xs.length = d ∧ ns = acc ++ xs ∧ l = xs.flatMap encN ++ r ∧ ∀ x ∈ xs, I64 x := by
  intro d
  induction d with
  | zero =>
    intro acc l ns r _ h
    rw [numsLoop] at h
    simp only [Prod.mk.injEq, and_true] at h
    exact ⟨[], rfl, by rw [List.append_nil]; exact h.1.symm, by rw [h.2]; rfl, fun x hx => by cases hx⟩
  | succ d ih =>
    intro acc l ns r ho h
    rw [numsLoop] at h
    rcases hg : groupsI 0 0 l with ⟨⟨m, er⟩, l2⟩
    rw [hg] at h
    cases er with
    | some c => simp at h
    | none =>
      rw [if_pos rfl] at h
      obtain ⟨M, e1, rfl, hM⟩ := groups_inv0 l m l2 ho hg
      obtain ⟨hI, hz⟩ := unz_inv M hM
      obtain ⟨xs, x1, x2, x3, x4⟩ := ih _ l2 ns r (by rw [e1] at ho; exact ho.of_app) h
      refine ⟨unz (M : Int) :: xs, by rw [List.length_cons, x1], by rw [x2, List.append_assoc]; rfl, ?_, fun x hx => ?_⟩
      · rw [List.flatMap_cons, List.append_assoc, ← x3, e1]
        unfold encN
        rw [hz]
      · rcases List.mem_cons.1 hx with h | h
        · rw [h]; exact hI
        · exact x4 x h
theorem text_inv (l t r : List Int) (ho : Oct l) (h : textI l = ((t, none), r)) : l = encT t ++ r ∧ t.length ≤ 4096 := by
  unfold textI at h
  rcases hg : groupsI 0 0 l with ⟨⟨m, er⟩, l2⟩
  rw [hg] at h
  dsimp only at h
  cases er with
  | some c => simp at h
  | none =>
    rw [if_pos rfl] at h
    obtain ⟨M, e1, rfl, hM⟩ := groups_inv0 l m l2 ho hg
    by_cases hb : 4096 < (M : Int)
    · rw [if_pos hb] at h; simp at h
    · rw [if_neg hb, Int.toNat_natCast] at h
      unfold takeI at h
      by_cases hl : l2.length < M
      · rw [if_pos hl] at h; simp at h
      · rw [if_neg hl] at h
        simp only [Prod.mk.injEq, and_true] at h
        obtain ⟨rfl, rfl⟩ := h
        have hlen : (l2.take M).length = M := by rw [List.length_take]; omega
        refine ⟨?_, by omega⟩
        unfold encT
        rw [hlen, List.append_assoc, List.take_append_drop]
        exact e1
theorem texts_inv : ∀ (d : Nat) (acc : List (List Int)) (l : List Int) (ts : List (List Int)) (r : List Int), Oct l → textsLoop d acc l = ((ts, none), r) → ∃ xs : List (List Int), xs.length = d ∧ ts = acc ++ xs ∧ l = xs.flatMap encT ++ r ∧ ∀ t ∈ xs, t.length ≤ 4096 ∧ Oct t := by
  intro d
  induction d with
  | zero =>
    intro acc l ns r _ h
    rw [textsLoop] at h
    simp only [Prod.mk.injEq, and_true] at h
    exact ⟨[], rfl, by rw [List.append_nil]; exact h.1.symm, by rw [h.2]; rfl, fun x hx => by cases hx⟩
  | succ d ih =>
    intro acc l ts r ho h
    rw [textsLoop] at h
    rcases hg : textI l with ⟨⟨t, er⟩, l2⟩
    rw [hg] at h
    cases er with
    | some c => simp at h
    | none =>
      rw [if_pos rfl] at h
      obtain ⟨e1, e2⟩ := text_inv l t l2 ho hg
      have hot : Oct t := fun x hx => ho x (by rw [e1]; exact List.mem_append_left _ (by unfold encT; exact List.mem_append_right _ hx))
      obtain ⟨xs, x1, x2, x3, x4⟩ := ih _ l2 ts r (by rw [e1] at ho; exact ho.of_app) h
      refine ⟨t :: xs, by rw [List.length_cons, x1], by rw [x2, List.append_assoc]; rfl, by rw [List.flatMap_cons, List.append_assoc, ← x3, e1], fun y hy => ?_⟩
      rcases List.mem_cons.1 hy with h | h
      · rw [h]; exact ⟨e2, hot⟩
      · exact x4 y h
theorem count_inv (l r : List Int) (n : Int) (h : countI 64 l = ((n, none), r)) : l = n :: r ∧ n ≤ 64 := by
  have hle := countI_le h
  refine ⟨?_, hle⟩
  unfold countI at h
  split at h
  · simp at h
  · cases l with
    | nil => simp [octetI] at h
    | cons x s =>
      simp only [octetI, Prod.mk.injEq, and_true] at h
      rw [h.1, h.2]
theorem numsI_inv (l ns r : List Int) (ho : Oct l) (h : numsI l = ((ns, none), r)) : l = (ns.length : Int) :: (ns.flatMap encN ++ r) ∧ ns.length ≤ 64 ∧ ∀ x ∈ ns, I64 x := by
  unfold numsI at h
  rcases hc : countI 64 l with ⟨⟨n, er⟩, l2⟩
  rw [hc] at h
  unfold numsGo at h
  cases er with
  | some c => simp at h
  | none =>
    rw [if_pos rfl] at h
    obtain ⟨e1, e2⟩ := count_inv l l2 n hc
    have hn := ho n (by rw [e1]; exact List.mem_cons_self)
    obtain ⟨xs, x1, x2, x3, x4⟩ := nums_inv _ _ l2 ns r (fun x hx => ho x (by rw [e1]; exact List.mem_cons_of_mem _ hx)) h
    rw [List.nil_append] at x2
    subst x2
    dsimp only at x1
    refine ⟨?_, by omega, x4⟩
    rw [e1, ← x3, show ((ns.length : Nat) : Int) = n by omega]
theorem textsI_inv (l : List Int) (ts : List (List Int)) (r : List Int) (ho : Oct l) (h : textsI l = ((ts, none), r)) : l = (ts.length : Int) :: (ts.flatMap encT ++ r) ∧ ts.length ≤ 64 ∧ ∀ t ∈ ts, t.length ≤ 4096 ∧ Oct t := by
  unfold textsI at h
  rcases hc : countI 64 l with ⟨⟨n, er⟩, l2⟩
  rw [hc] at h
  unfold textsGo at h
  cases er with
  | some c => simp at h
  | none =>
    rw [if_pos rfl] at h
    obtain ⟨e1, e2⟩ := count_inv l l2 n hc
    have hn := ho n (by rw [e1]; exact List.mem_cons_self)
    obtain ⟨xs, x1, x2, x3, x4⟩ := texts_inv _ _ l2 ts r (fun x hx => ho x (by rw [e1]; exact List.mem_cons_of_mem _ hx)) h
    rw [List.nil_append] at x2
    subst x2
    dsimp only at x1
    refine ⟨?_, by omega, x4⟩
    rw [e1, ← x3, show ((ts.length : Nat) : Int) = n by omega]
theorem octet_inv {q l1 : List Int} {x : Int} (h : octetI q = ((x, none), l1)) : q = x :: l1 := by
  cases q with
  | nil => simp [octetI] at h
  | cons y s =>
    simp only [octetI, Prod.mk.injEq, and_true] at h
    rw [h.1, h.2]
theorem octet_bad {q l1 : List Int} {x c : Int} (h : octetI q = ((x, some c), l1)) : c = 8 := by
  cases q with
  | nil => simp [octetI] at h; omega
  | cons y s => simp [octetI] at h
theorem rec_inv (q : List Int) (ho : Oct q) (k : Int) (n : List Int) (t : List (List Int)) (h : recI q = .good k n t) : q = bodyI k n t ∧ checkW k n t = 0 ∧ (∀ x ∈ n, I64 x) ∧ ∀ y ∈ t, Oct y := by
  unfold recI at h
  rcases h1 : octetI q with ⟨⟨x, e1⟩, l1⟩
  rw [h1] at h
  cases e1 with
  | some c => simp at h
  | none =>
    simp only at h
    obtain rfl := octet_inv h1
    have hx := ho x List.mem_cons_self
    have ho1 : Oct l1 := fun y hy => ho y (List.mem_cons_of_mem _ hy)
    rcases h2 : numsI l1 with ⟨⟨ns, e2⟩, l2⟩
    rw [h2] at h
    cases e2 with
    | some c => simp at h
    | none =>
      simp only at h
      obtain ⟨a1, a2, a3⟩ := numsI_inv l1 ns l2 ho1 h2
      have ho2 : Oct l2 := fun y hy => ho1 y (by rw [a1]; exact List.mem_cons_of_mem _ (List.mem_append_right _ hy))
      rcases h3 : textsI l2 with ⟨⟨ts, e3⟩, l3⟩
      rw [h3] at h
      cases e3 with
      | some c => simp at h
      | none =>
        simp only at h
        obtain ⟨b1, b2, b3⟩ := textsI_inv l2 ts l3 ho2 h3
        by_cases h4 : 0 < l3.length
        · rw [if_pos h4] at h; cases h
        · rw [if_neg h4] at h
          have hl3 : l3 = [] := List.eq_nil_of_length_eq_zero (by omega)
          injection h with c1 c2 c3
          subst c1 c2 c3
          refine ⟨?_, ?_, a3, fun y hy => (b3 y hy).2⟩
          · unfold bodyI
            rw [a1, b1, hl3]
            simp
          · unfold checkW
            rw [if_neg (by omega), if_neg (by omega), if_neg]
            intro h5
            obtain ⟨y, hy, h6⟩ := List.any_eq_true.1 h5
            have := (b3 y hy).1
            have := of_decide_eq_true h6
            omega
theorem groups_bad : ∀ (l : List Int) (i : Nat) (n : Int) (c : Int), (groupsI i n l).1.2 = some c → c ≠ 0 := by
  intro l
  induction l with
  | nil => intro i n c h; simp [groupsI] at h; omega
  | cons x s ih =>
    intro i n c h
    rw [groupsI] at h
    split at h
    · simp at h; omega
    · split at h
      · simp at h
      · exact ih _ _ c h
theorem count_bad (l : List Int) (m c : Int) (h : (countI m l).1.2 = some c) : c ≠ 0 := by
  unfold countI at h
  split at h
  · simp at h; omega
  · cases l with
    | nil => simp [octetI] at h; omega
    | cons x s => simp [octetI] at h
theorem nums_bad : ∀ (d : Nat) (acc l : List Int) (c : Int), (numsLoop d acc l).1.2 = some c → c ≠ 0 := by
  intro d
  induction d with
  | zero => intro acc l c h; simp [numsLoop] at h
  | succ d ih =>
    intro acc l c h
    rw [numsLoop] at h
    split at h
    · exact ih _ _ c h
    · exact groups_bad l 0 0 c h
theorem text_bad (l : List Int) (c : Int) (h : (textI l).1.2 = some c) : c ≠ 0 := by
  unfold textI at h
  split at h
  · split at h
    · simp at h; omega
    · unfold takeI at h
      split at h
      · simp at h; omega
      · simp at h
  · exact groups_bad l 0 0 c h
theorem texts_bad : ∀ (d : Nat) (acc : List (List Int)) (l : List Int) (c : Int), (textsLoop d acc l).1.2 = some c → c ≠ 0 := by
  intro d
  induction d with
  | zero => intro acc l c h; simp [textsLoop] at h
  | succ d ih =>
    intro acc l c h
    rw [textsLoop] at h
    split at h
    · exact ih _ _ c h
    · exact text_bad l c h
theorem rec_bad_ne (q : List Int) (c : Int) (h : recI q = .bad c) : c ≠ 0 := by
  unfold recI at h
  rcases h1 : octetI q with ⟨⟨x, e1⟩, l1⟩
  rw [h1] at h
  cases e1 with
  | some c1 =>
    simp only at h
    injection h with h
    have := octet_bad h1
    omega
  | none =>
    simp only at h
    rcases h2 : numsI l1 with ⟨⟨ns, e2⟩, l2⟩
    rw [h2] at h
    cases e2 with
    | some c1 =>
      simp only at h
      injection h with h
      subst h
      have e : (numsI l1).1.2 = some c1 := by rw [h2]
      unfold numsI numsGo at e
      split at e
      · exact nums_bad _ _ _ c1 e
      · exact count_bad _ _ c1 e
    | none =>
      simp only at h
      rcases h3 : textsI l2 with ⟨⟨ts, e3⟩, l3⟩
      rw [h3] at h
      cases e3 with
      | some c1 =>
        simp only at h
        injection h with h
        subst h
        have e : (textsI l2).1.2 = some c1 := by rw [h3]
        unfold textsI textsGo at e
        split at e
        · exact texts_bad _ _ _ c1 e
        · exact count_bad _ _ c1 e
      | none =>
        simp only at h
        split at h
        · injection h with h; omega
        · cases h

def decI (y : List Int) : Int × List Int × List (List Int) × Int :=
  if y.length < 4 then (0, [], [], 8) else if y.drop (y.length - 4) = lowI (sumI 0 (y.take (y.length - 4))) then (match recI (y.take (y.length - 4)) with | .good k n t => (k, n, t, 0) | .bad c => (0, [], [], c)) else (0, [], [], 21)
theorem decode_is (y : List Int) (hy : Oct y) (hm : y.length < 140737488355328) : Ev (fun k => wire_Decode.f k y) (decI y) := by
  unfold wire_Decode.f decI
  by_cases h4 : y.length < 4
  · rw [if_pos h4]
    refine Ev.bind (a := ([], 8)) ⟨0, fun k _ => open_short y k h4⟩ ?_
    exact Ev.congr (f := fun _ => some (0, [], [], 8)) (fun k => if_neg (show ¬ (([] : List Int), (8 : Int)).2 = 0 by decide)) (Ev.now _)
  · rw [if_neg h4]
    have hop := fun k hk => open_is y hy k hk (by omega) hm
    by_cases hs : y.drop (y.length - 4) = lowI (sumI 0 (y.take (y.length - 4)))
    · rw [if_pos hs]
      refine Ev.bind (a := (y.take (y.length - 4), 0)) ⟨5, fun k hk => by show crc_Open.f k y = _; rw [hop k hk, if_pos hs]⟩ ?_
      cases hr : recI (y.take (y.length - 4)) with
      | good kk n t =>
        refine Ev.congr (f := fun _ => some (kk, n, t, 0)) (fun k => ?_) (Ev.now _)
        dsimp only
        rw [if_pos rfl, if_pos (oct5_of (hy.take _))]
      | bad c =>
        refine Ev.congr (f := fun _ => some (0, [], [], c)) (fun k => ?_) (Ev.now _)
        dsimp only
        rw [if_pos rfl, if_pos (oct5_of (hy.take _))]
    · rw [if_neg hs]
      refine Ev.bind (a := ([], 21)) ⟨5, fun k hk => by show crc_Open.f k y = _; rw [hop k hk, if_neg hs]⟩ ?_
      exact Ev.congr (f := fun _ => some (0, [], [], 21)) (fun k => if_neg (show ¬ (([] : List Int), (21 : Int)).2 = 0 by decide)) (Ev.now _)
/-- What is read is built again; what is not read has a code, and is no record. -/
theorem dec_two (y : List Int) (hy : Oct y) : (∃ c, c ≠ 0 ∧ decI y = (0, [], [], c)) ∨ (∃ k n t, decI y = (k, n, t, 0) ∧ y = sealW (bodyI k n t) ∧ checkW k n t = 0 ∧ (∀ x ∈ n, I64 x) ∧ ∀ z ∈ t, Oct z) := by
  unfold decI
  by_cases h4 : y.length < 4
  · exact .inl ⟨8, by decide, if_pos h4⟩
  · rw [if_neg h4]
    by_cases hs : y.drop (y.length - 4) = lowI (sumI 0 (y.take (y.length - 4)))
    · rw [if_pos hs]
      cases hr : recI (y.take (y.length - 4)) with
      | good k n t =>
        obtain ⟨e1, e2, e3, e4⟩ := rec_inv _ (hy.take _) k n t hr
        refine .inr ⟨k, n, t, rfl, ?_, e2, e3, e4⟩
        rw [← e1]
        unfold sealW
        rw [← hs, List.take_append_drop]
      | bad c => exact .inl ⟨c, rec_bad_ne _ c hr, rfl⟩
    · exact .inl ⟨21, by decide, if_neg hs⟩
theorem num_id (x : Int) : undercroftlaw05_num.f x = some x := rfl
theorem back_j0 (y : List Int) (hy : Oct y) (hm : y.length < 140737488355328) : Ev (fun k => undercroftlaw05_WireBack.j0 k y) true := by
  have hd := decode_is y hy hm
  rcases dec_two y hy with ⟨c, hc, he⟩ | ⟨k, n, t, he, hy2, hc, hn, ht⟩
  · rw [he] at hd
    refine Ev.step (fun k => rfl) (Ev.bind hd ?_)
    refine Ev.congr (f := fun _ => some true) (fun k => ?_) (Ev.now _)
    dsimp only
    have hw : wrap64 (((([] : List Int).length : Int)) + ((([] : List (List Int)).length : Int))) = 0 := by
      show wrap64 (0 + 0) = 0
      unfold wrap64
      omega
    rw [num_id, Option.bind_some, if_neg hc, hw]
    rfl
  · rw [he] at hd
    have hen := encode_is k n t hn ht
    rw [if_pos hc, ← hy2] at hen
    refine Ev.step (fun k => rfl) (Ev.bind hd ?_)
    refine Ev.congr (f := fun kk => (wire_Encode.f kk k n t).bind fun bt239 => ((undercroftlaw05_num.f bt239.2).bind fun t243 => (if t243 = 0 then ((undercroftplain_SameBytes.f kk bt239.1 y).bind fun t244 => (some t244)) else (some false)))) (fun kk => ?_) (Ev.bind hen ?_)
    · dsimp only
      rw [num_id, Option.bind_some, if_pos rfl]
    · refine Ev.congr (f := fun kk => (undercroftplain_SameBytes.f kk y y).bind fun t244 => some t244) (fun kk => ?_) (Ev.bind (a := true) ⟨y.length + 1, fun kk hk => ?_⟩ (Ev.now _))
      · dsimp only
        rw [num_id, Option.bind_some, if_pos rfl]
      · show undercroftplain_SameBytes.f kk y y = some true
        rw [sameBytes_is y y kk (by omega) (by omega), decide_eq_true rfl]
theorem WireBack (l0 : S42) (l1 : List Int) (h0 : ok42 l0) (h1 : (l1.length * 1 ≤ 140737488351232 ∧ l1.length ≤ maxLen ∧ ∀ y23 ∈ l1, (Lit.int .u8 y23).wf = true)) : ∃ k, undercroftlaw05_WireBack.f k l0.f0 l0.f1 l0.f2 l1 = some true := by
  have hn : ∀ x ∈ l0.f1, I64 x := fun x hx => wf_i64 (h0.2.1.2.2 x hx)
  have ht : ∀ t ∈ l0.f2, Oct t := fun t m => Oct.of_wf (h0.2.2.2.2 t m).2.2
  have hof := of_ev l0.f0 l0.f1 l0.f2 (by have := h0.2.1.1; omega) (by have := h0.2.2.1; omega) (fun t m => by have := (h0.2.2.2.2 t m).1; omega)
  have he := encode_is l0.f0 l0.f1 l0.f2 hn ht
  have hj := back_j0 l1 (Oct.of_wf h1.2.2) (by have := h1.1; omega)
  refine Ev.rounds ?_
  unfold undercroftlaw05_WireBack.f
  refine Ev.bind alive_ev ?_
  refine Ev.congr (fun k => if_pos rfl) ?_
  refine Ev.bind hof ?_
  refine Ev.bind he ?_
  by_cases hc : checkW l0.f0 l0.f1 l0.f2 = 0
  · obtain ⟨c0, c1, c2, c3, c4⟩ := check_zero hc
    have hd := decode_sealed l0.f0 l0.f1 l0.f2 hn ht hc
    have hsm := same_ev l0.f0 l0.f1 l0.f2 (by omega) (by omega) (fun t m => by have := c4 t m; omega)
    refine Ev.congr (f := fun k => (wire_Decode.f k (sealW (bodyI l0.f0 l0.f1 l0.f2))).bind fun bt218 => ((undercroftlaw05_num.f bt218.2.2.2).bind fun t227 => (if t227 = 0 then ((undercroftlaw05_same.f k bt218.1 bt218.2.1 bt218.2.2.1 l0.f0 l0.f1 l0.f2).bind fun t228 => (if t228 = true then (undercroftlaw05_WireBack.j0 k l1) else (some false))) else (some false)))) (fun k => ?_) (Ev.bind hd ?_)
    · rw [if_pos hc]
      dsimp only
      rw [num_id, Option.bind_some, if_pos rfl]
    · refine Ev.congr (f := fun k => (undercroftlaw05_same.f k l0.f0 l0.f1 l0.f2 l0.f0 l0.f1 l0.f2).bind fun t228 => (if t228 = true then (undercroftlaw05_WireBack.j0 k l1) else (some false))) (fun k => ?_) (Ev.bind hsm (Ev.congr (fun k => if_pos rfl) hj))
      dsimp only
      rw [num_id, Option.bind_some, if_pos rfl]
  · refine Ev.congr (f := fun k => undercroftlaw05_WireBack.j0 k l1) (fun k => ?_) hj
    rw [if_neg hc]
    dsimp only
    rw [num_id, Option.bind_some, if_neg hc]

end Go.Proofs.YtkcianklokikoaaDoor.Pure
