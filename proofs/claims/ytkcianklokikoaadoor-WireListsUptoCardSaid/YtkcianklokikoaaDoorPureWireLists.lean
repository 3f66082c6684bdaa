/- Texts joined, and octets split, are as the page says; what is handed in stays: for every texts and every octets of at most 1048576 in all. -/
import Derived.Test.YtkcianklokikoaaDoorPWlix
import Derived.Test.YtkcianklokikoaaDoorInWireLists
namespace Go.Proofs.YtkcianklokikoaaDoor.Pure
open Go.RowKit Go.Proofs.YtkcianklokikoaaDoor.PWli Go.Proofs.YtkcianklokikoaaDoorW.PrintWords Go.Proofs.YtkcianklokikoaaDoorW.PrintLast Go.Proofs.YtkcianklokikoaaDoorW.PrintMore
set_option linter.unusedVariables false
set_option linter.unusedSimpArgs false

theorem w_id {x : Int} (h0 : -9223372036854775808 ≤ x) (h1 : x ≤ 9223372036854775807) : wrap64 x = x := by unfold wrap64; omega
theorem wf_i64 {a : Int} (h : (Lit.int .i64 a).wf = true) : -9223372036854775808 ≤ a ∧ a ≤ 9223372036854775807 := by
  simpa [Lit.wf, IntKind.min, IntKind.max, IntKind.signed, IntKind.bits] using h
theorem wf_u8 {a : Int} (h : (Lit.int .u8 a).wf = true) : 0 ≤ a ∧ a ≤ 255 := by
  simpa [Lit.wf, IntKind.min, IntKind.max, IntKind.signed, IntKind.bits] using h
theorem wf_u32 {a : Int} (h : (Lit.int .u32 a).wf = true) : 0 ≤ a ∧ a ≤ 4294967295 := by
  simpa [Lit.wf, IntKind.min, IntKind.max, IntKind.signed, IntKind.bits] using h
theorem wf_u64 {a : Int} (h : (Lit.int .u64 a).wf = true) : 0 ≤ a ∧ a ≤ 18446744073709551615 := by
  simpa [Lit.wf, IntKind.min, IntKind.max, IntKind.signed, IntKind.bits] using h
/-- All are octets. -/
def Oct (l : List Int) : Prop := ∀ x ∈ l, 0 ≤ x ∧ x ≤ 255
theorem Oct.of_wf {l : List Int} (h : ∀ x ∈ l, (Lit.int .u8 x).wf = true) : Oct l := fun x hx => wf_u8 (h x hx)
theorem Oct.nil : Oct [] := fun _ h => by cases h
theorem Oct.append {a b : List Int} (ha : Oct a) (hb : Oct b) : Oct (a ++ b) := fun x hx => (List.mem_append.1 hx).elim (ha x) (hb x)
theorem Oct.take {a : List Int} (ha : Oct a) (n : Nat) : Oct (a.take n) := fun x hx => ha x (List.mem_of_mem_take hx)
theorem Oct.drop {a : List Int} (ha : Oct a) (n : Nat) : Oct (a.drop n) := fun x hx => ha x (List.mem_of_mem_drop hx)
theorem rd_nat (l : List Int) (k : Nat) (h : k < l.length) : rd l (k : Int) = l[k] := by
  unfold rd
  simp [List.getD_eq_getElem?_getD, h]

theorem sameBytes_loop (a b : List Int) (hl : a.length = b.length) (hm : a.length ≤ 9223372036854775807) : ∀ (d k i : Nat), i + d = a.length → d < k → a.take i = b.take i →
    undercroftplain_SameBytes.l0 k a b (i : Int) = some (decide (a = b)) := by
  intro d
  induction d with
  | zero =>
    intro k i hi hk ht
    obtain ⟨k, rfl⟩ : ∃ m, k = m + 1 := ⟨k - 1, by omega⟩
    simp only [undercroftplain_SameBytes.l0]
    rw [if_neg (by omega)]
    have : a = b := by
      rw [List.take_of_length_le (by omega), List.take_of_length_le (by omega)] at ht
      exact ht
    rw [decide_eq_true this]
  | succ d ih =>
    intro k i hi hk ht
    obtain ⟨k, rfl⟩ : ∃ m, k = m + 1 := ⟨k - 1, by omega⟩
    simp only [undercroftplain_SameBytes.l0]
    rw [if_pos (by omega), if_pos (by omega), if_pos (by omega), rd_nat a i (by omega), rd_nat b i (by omega)]
    by_cases h : a[i]'(by omega) = b[i]'(by omega)
    · rw [if_pos h, w_id (by omega) (by omega)]
      have := ih k (i + 1) (by omega) (by omega) (by
        rw [List.take_succ_eq_append_getElem (by omega), List.take_succ_eq_append_getElem (by omega), ht, h])
      exact_mod_cast this
    · rw [if_neg h]
      have : a ≠ b := by
        rintro rfl
        exact h rfl
      rw [decide_eq_false this]
theorem sameBytes_is (a b : List Int) (k : Nat) (hk : a.length < k) (hm : a.length ≤ 9223372036854775807) : undercroftplain_SameBytes.f k a b = some (decide (a = b)) := by
  unfold undercroftplain_SameBytes.f
  by_cases hl : a.length = b.length
  · rw [if_pos (by omega)]
    exact sameBytes_loop a b hl hm a.length k 0 (by omega) hk rfl
  · rw [if_neg (by omega)]
    have : a ≠ b := by
      rintro rfl
      exact hl rfl
    rw [decide_eq_false this]

theorem copyBytes_is (a : List Int) (h : a.length < 140737488355328) : undercroftplain_CopyBytes.f a = some a := by
  unfold undercroftplain_CopyBytes.f
  rw [if_pos (by simpa using h)]
  simp


namespace CrcMath
abbrev R := BitVec 32
def poly : R := 0xedb88320#32
def b1 (c : R) : R := (c >>> 1) ^^^ (if c.getLsbD 0 then poly else 0#32)
def bs : Nat → R → R
  | 0, c => c
  | n + 1, c => bs n (b1 c)
theorem b1_zero : b1 0#32 = 0#32 := by decide
theorem b1_xor (a b : R) : b1 (a ^^^ b) = b1 a ^^^ b1 b := by
  unfold b1
  rw [BitVec.ushiftRight_xor_distrib, BitVec.getLsbD_xor]
  cases a.getLsbD 0 <;> cases b.getLsbD 0 <;> simp
  · ac_rfl
  · ac_rfl
  · rw [show a >>> 1 ^^^ poly ^^^ (b >>> 1 ^^^ poly) = (a >>> 1 ^^^ b >>> 1) ^^^ (poly ^^^ poly) by ac_rfl]
    simp
theorem bs_zero (n : Nat) : bs n 0#32 = 0#32 := by
  induction n with
  | zero => rfl
  | succ n ih => rw [bs, b1_zero, ih]
theorem bs_xor (n : Nat) (a b : R) : bs n (a ^^^ b) = bs n a ^^^ bs n b := by
  induction n generalizing a b with
  | zero => rfl
  | succ n ih => rw [bs, b1_xor, ih]; rfl
theorem bs_add (m n : Nat) (c : R) : bs (m + n) c = bs n (bs m c) := by
  induction m generalizing c with
  | zero => simp [bs]
  | succ m ih => rw [Nat.succ_add, bs, ih]; rfl
theorem b1_eq_zero (c : R) (h : b1 c = 0#32) : c = 0#32 := by
  unfold b1 at h
  by_cases h0 : c.getLsbD 0 = true
  · exfalso
    have h31 := congrArg (fun x : R => x.getLsbD 31) h
    simp [h0, poly] at h31
  · have h0' : c.getLsbD 0 = false := by simpa using h0
    rw [h0'] at h
    simp at h
    apply BitVec.eq_of_getLsbD_eq
    intro i hi
    rcases Nat.eq_zero_or_pos i with rfl | hp
    · simpa using h0'
    · have := congrArg (fun x : R => x.getLsbD (i - 1)) h
      simp only [BitVec.getLsbD_ushiftRight] at this
      rw [show 1 + (i - 1) = i by omega] at this
      simpa using this
theorem bs_eq_zero (n : Nat) (c : R) (h : bs n c = 0#32) : c = 0#32 := by
  induction n generalizing c with
  | zero => exact h
  | succ n ih => exact b1_eq_zero c (ih _ h)
theorem xor_eq_zero {a b : R} (h : a ^^^ b = 0#32) : a = b := by
  have := congrArg (fun x => x ^^^ b) h
  simpa [BitVec.xor_assoc] using this
theorem bs_inj (n : Nat) (a b : R) (h : bs n a = bs n b) : a = b := by
  apply xor_eq_zero
  apply bs_eq_zero n
  rw [bs_xor, h]
  simp
/-- Bits above the lowest n fall down. -/
theorem b1_even (c : R) (h : c.getLsbD 0 = false) : b1 c = c >>> 1 := by
  unfold b1
  rw [h]
  simp
theorem bs_high (n : Nat) (c : R) (h : ∀ i, i < n → c.getLsbD i = false) : bs n c = c >>> n := by
  induction n generalizing c with
  | zero => simp [bs]
  | succ n ih =>
    rw [bs, b1_even c (h 0 (by omega)), ih, ← BitVec.shiftRight_add]
    · rw [Nat.add_comm]
    · intro i hi
      rw [BitVec.getLsbD_ushiftRight]
      exact h _ (by omega)
/-- Four bits at once: a table of sixteen serves. -/
theorem bs4 (c : R) : bs 4 c = (c >>> 4) ^^^ bs 4 (c &&& 15#32) := by
  have hc : c = (c >>> 4 <<< 4) ^^^ (c &&& 15#32) := by
    apply BitVec.eq_of_getLsbD_eq
    intro i hi
    simp only [BitVec.getLsbD_xor, BitVec.getLsbD_shiftLeft, BitVec.getLsbD_ushiftRight, BitVec.getLsbD_and]
    by_cases h4 : i < 4
    · have : (15#32).getLsbD i = true := by
        rcases i with _ | _ | _ | _ | i <;> first | rfl | omega
      simp [h4, this]
    · have : (15#32).getLsbD i = false := by
        rw [show (15#32) = BitVec.ofNat 32 15 from rfl, BitVec.getLsbD_ofNat]
        have : Nat.testBit 15 i = false := Nat.testBit_lt_two_pow (Nat.lt_of_lt_of_le (by decide : 15 < 2 ^ 4) (Nat.pow_le_pow_right (by decide) (by omega)))
        simp [this]
      rw [this, show 4 + (i - 4) = i by omega]
      simp [h4, hi]
  have h1 : bs 4 (c >>> 4 <<< 4) = c >>> 4 := by
    rw [bs_high]
    · apply BitVec.eq_of_getLsbD_eq
      intro i hi
      simp only [BitVec.getLsbD_shiftLeft, BitVec.getLsbD_ushiftRight]
      by_cases h : 4 + i < 32
      · simp [h]
      · simp [h]
        exact (BitVec.getLsbD_of_ge _ _ (by omega))
    · intro i hi
      simp [BitVec.getLsbD_shiftLeft, hi]
  calc bs 4 c = bs 4 ((c >>> 4 <<< 4) ^^^ (c &&& 15#32)) := by rw [← hc]
    _ = _ := by rw [bs_xor, h1]
/-- An octet more. -/
def step (c : R) (x : BitVec 8) : R := bs 8 (c ^^^ x.setWidth 32)
def run (c : R) (l : List (BitVec 8)) : R := l.foldl step c
theorem run_append (c : R) (a b : List (BitVec 8)) : run c (a ++ b) = run (run c a) b := by simp [run]
theorem step_xor (c d : R) (x y : BitVec 8) : step (c ^^^ d) (x ^^^ y) = step c x ^^^ step d y := by
  unfold step
  rw [← bs_xor]
  congr 1
  rw [BitVec.setWidth_xor]
  ac_rfl
/-- Two texts of one length. -/
def mix : List (BitVec 8) → List (BitVec 8) → List (BitVec 8) := List.zipWith (· ^^^ ·)
theorem run_mix (a b : List (BitVec 8)) (h : a.length = b.length) (c d : R) : run (c ^^^ d) (mix a b) = run c a ^^^ run d b := by
  induction a generalizing b c d with
  | nil => cases b with
    | nil => rfl
    | cons _ _ => simp at h
  | cons x a ih => cases b with
    | nil => simp at h
    | cons y b =>
      show run (step (c ^^^ d) (x ^^^ y)) (mix a b) = run (step c x) a ^^^ run (step d y) b
      rw [step_xor]
      exact ih b (by simpa using h) _ _
theorem run_inj (l : List (BitVec 8)) (c d : R) (h : run c l = run d l) : c = d := by
  induction l generalizing c d with
  | nil => exact h
  | cons x l ih =>
    have := bs_inj 8 _ _ (ih _ _ h)
    have h2 := congrArg (fun z => z ^^^ x.setWidth 32) this
    simpa [BitVec.xor_assoc] using h2
/-- What a register's change comes to behind a text. -/
theorem run_xor (l : List (BitVec 8)) (c d : R) : run (c ^^^ d) l = run c l ^^^ bs (8 * l.length) d := by
  induction l generalizing c d with
  | nil => simp [run, bs]
  | cons x l ih =>
    have h : step (c ^^^ d) x = step c x ^^^ bs 8 d := by
      unfold step
      rw [← bs_xor]
      congr 1
      ac_rfl
    show run (step (c ^^^ d) x) l = run (step c x) l ^^^ bs (8 * (l.length + 1)) d
    rw [h, ih, ← bs_add, show 8 + 8 * l.length = 8 * (l.length + 1) by omega]
theorem bs_shl (n : Nat) (x : R) (h : x <<< n >>> n = x) : bs n (x <<< n) = x := by
  rw [bs_high, h]
  intro i hi
  simp [BitVec.getLsbD_shiftLeft, hi]
theorem one_shl (q : Nat) (h : q < 32) : (1#32) <<< q >>> q = 1#32 := by
  apply BitVec.eq_of_getLsbD_eq
  intro i hi
  simp only [BitVec.getLsbD_ushiftRight, BitVec.getLsbD_shiftLeft]
  by_cases h0 : i = 0
  · subst h0; simp [h]
  · have : (1#32).getLsbD i = false := by
      rw [BitVec.getLsbD_one]; simp [h0]
    rw [show q + i - q = i by omega, this]; simp
theorem bs_one (q m : Nat) (hq : q < 32) (hm : q ≤ m) : bs m ((1#32) <<< q) = bs (m - q) 1#32 := by
  have : bs (q + (m - q)) ((1#32) <<< q) = bs (m - q) 1#32 := by rw [bs_add, bs_shl _ _ (one_shl q hq)]
  rwa [show q + (m - q) = m by omega] at this
/-- One bit turned. -/
theorem run_turn (l : List (BitVec 8)) (c : R) (j q : Nat) (hj : j < l.length) (hq : q < 8) :
    run c (l.set j (l[j] ^^^ (1#8) <<< q)) = run c l ^^^ bs (8 * (l.length - j) - q) 1#32 := by
  induction l generalizing c j with
  | nil => simp at hj
  | cons x l ih =>
    cases j with
    | zero =>
      show run (step c (x ^^^ (1#8) <<< q)) l = run (step c x) l ^^^ bs (8 * (l.length + 1 - 0) - q) 1#32
      have h : step c (x ^^^ (1#8) <<< q) = step c x ^^^ bs (8 - q) 1#32 := by
        rw [← bs_one q 8 (by omega) (by omega)]
        unfold step
        rw [← bs_xor]
        congr 1
        rw [BitVec.setWidth_xor]
        have : BitVec.setWidth 32 ((1#8) <<< q) = (1#32) <<< q := by
          rcases q with _ | _ | _ | _ | _ | _ | _ | _ | q <;> first | rfl | omega
        rw [this]
        ac_rfl
      rw [h, run_xor, ← bs_add, show 8 - q + 8 * l.length = 8 * (l.length + 1 - 0) - q by omega]
    | succ j =>
      show run (step c x) (l.set j (l[j]'(by simpa using hj) ^^^ (1#8) <<< q)) = run (step c x) l ^^^ bs (8 * (l.length + 1 - (j + 1)) - q) 1#32
      rw [ih _ _ (by simpa using hj), show l.length + 1 - (j + 1) = l.length - j by omega]
/-- A register's octets, the lowest first. -/
def low (t : R) : List (BitVec 8) := [t.setWidth 8, (t >>> 8).setWidth 8, (t >>> 16).setWidth 8, (t >>> 24).setWidth 8]
theorem part_shl (t : R) (n : Nat) (hn : n ≤ 24) : ((t >>> n).setWidth 8).setWidth 32 <<< n >>> n = ((t >>> n).setWidth 8).setWidth 32 := by
  apply BitVec.eq_of_getLsbD_eq
  intro i hi
  simp only [BitVec.getLsbD_ushiftRight, BitVec.getLsbD_shiftLeft, BitVec.getLsbD_setWidth]
  by_cases h8 : i < 8
  · rw [show n + i - n = i by omega]
    have : n + i < 32 := by omega
    simp [h8, this, hi]
  · rw [show n + i - n = i by omega]
    simp [h8]
theorem low_join (t : R) : (t.setWidth 8).setWidth 32 ^^^ ((t >>> 8).setWidth 8).setWidth 32 <<< 8 ^^^ ((t >>> 16).setWidth 8).setWidth 32 <<< 16 ^^^ ((t >>> 24).setWidth 8).setWidth 32 <<< 24 = t := by
  apply BitVec.eq_of_getLsbD_eq
  intro i hi
  simp only [BitVec.getLsbD_xor, BitVec.getLsbD_shiftLeft, BitVec.getLsbD_setWidth, BitVec.getLsbD_ushiftRight]
  by_cases h1 : i < 8
  · simp [h1, hi, show i < 16 by omega, show i < 24 by omega]
  · by_cases h2 : i < 16
    · simp [h1, h2, hi, show i < 24 by omega, show i - 8 < 8 by omega, show 8 + (i - 8) = i by omega, show i - 8 < 32 by omega]
    · by_cases h3 : i < 24
      · simp [h1, h2, h3, hi, show ¬ i - 8 < 8 by omega, show i - 16 < 8 by omega, show 16 + (i - 16) = i by omega, show i - 16 < 32 by omega]
      · simp [h1, h2, h3, hi, show ¬ i - 8 < 8 by omega, show ¬ i - 16 < 8 by omega, show i - 24 < 8 by omega, show 24 + (i - 24) = i by omega, show i - 24 < 32 by omega]
theorem run_low (s t : R) : run s (low t) = bs 32 (s ^^^ t) := by
  have key : ∀ (n : Nat) (c : R), n ≤ 24 → step (bs n c) ((t >>> n).setWidth 8) = bs (n + 8) (c ^^^ ((t >>> n).setWidth 8).setWidth 32 <<< n) := by
    intro n c hn
    unfold step
    rw [bs_add, bs_xor n, bs_shl _ _ (part_shl t n hn)]
  have h0 := key 0 s (by omega)
  have e0 : t >>> 0 = t := by simp
  have s0 : ∀ x : R, x <<< 0 = x := by intro x; simp
  rw [e0, s0] at h0
  have h1 : step s (t.setWidth 8) = bs 8 (s ^^^ (t.setWidth 8).setWidth 32) := by rw [← h0]; rfl
  have h2 := key 8 (s ^^^ (t.setWidth 8).setWidth 32) (by omega)
  have h3 := key 16 (s ^^^ (t.setWidth 8).setWidth 32 ^^^ ((t >>> 8).setWidth 8).setWidth 32 <<< 8) (by omega)
  have h4 := key 24 (s ^^^ (t.setWidth 8).setWidth 32 ^^^ ((t >>> 8).setWidth 8).setWidth 32 <<< 8 ^^^ ((t >>> 16).setWidth 8).setWidth 32 <<< 16) (by omega)
  have hj := low_join t
  simp only [run, low, List.foldl_cons, List.foldl_nil]
  rw [h1, h2, h3, h4]
  generalize (t.setWidth 8).setWidth 32 = x0 at *
  generalize ((t >>> 8).setWidth 8).setWidth 32 <<< 8 = x1 at *
  generalize ((t >>> 16).setWidth 8).setWidth 32 <<< 16 = x2 at *
  generalize ((t >>> 24).setWidth 8).setWidth 32 <<< 24 = x3 at *
  subst hj
  congr 1
  ac_rfl
def sum (c : R) (l : List (BitVec 8)) : R := ~~~ run (~~~ c) l
def rest : R := bs 32 0xffffffff#32
theorem run_sealed (l : List (BitVec 8)) (t : R) : run 0xffffffff#32 (l ++ low t) = rest ↔ t = sum 0 l := by
  rw [run_append, run_low]
  unfold rest sum
  have e : (~~~ (0 : R)) = 0xffffffff#32 := by decide
  rw [e]
  constructor
  · intro h
    have := bs_inj 32 _ _ h
    have h2 := congrArg (fun z => run 0xffffffff#32 l ^^^ z) this
    simp only [← BitVec.xor_assoc, BitVec.xor_self, BitVec.zero_xor] at h2
    rw [h2]
    apply BitVec.eq_of_getLsbD_eq
    intro i hi
    have : (0xffffffff#32).getLsbD i = true := by
      rw [show (0xffffffff#32) = BitVec.allOnes 32 by decide, BitVec.getLsbD_allOnes]; simp [hi]
    simp only [BitVec.getLsbD_xor, BitVec.getLsbD_not, hi, this]; simp
  · rintro rfl
    congr 1
    apply BitVec.eq_of_getLsbD_eq
    intro i hi
    have : (0xffffffff#32).getLsbD i = true := by
      rw [show (0xffffffff#32) = BitVec.allOnes 32 by decide, BitVec.getLsbD_allOnes]; simp [hi]
    simp only [BitVec.getLsbD_xor, BitVec.getLsbD_not, hi, this]; simp
theorem sum_sealed (l : List (BitVec 8)) : sum 0 (l ++ low (sum 0 l)) = ~~~ rest := by
  have := (run_sealed l (sum 0 l)).2 rfl
  generalize sum 0 l = z at *
  unfold sum
  rw [show (~~~ (0 : R)) = 0xffffffff#32 by decide, this]
theorem rest_is : ~~~ rest = 0x2144df1c#32 := by decide
theorem sum_append (c : R) (a b : List (BitVec 8)) : sum c (a ++ b) = sum (sum c a) b := by
  unfold sum
  rw [run_append, BitVec.not_not]
theorem sum_nil (c : R) : sum c [] = c := by simp [sum, run]
theorem sum_three (a b c : List (BitVec 8)) (h1 : a.length = b.length) (h2 : b.length = c.length) :
    sum 0 (mix (mix a b) c) = sum 0 a ^^^ sum 0 b ^^^ sum 0 c := by
  unfold sum
  have hl : (mix a b).length = c.length := by simp [mix]; omega
  have e : (~~~ (0 : R)) = (~~~ (0 : R) ^^^ ~~~ (0 : R)) ^^^ ~~~ (0 : R) := by decide
  have : run (~~~ (0 : R)) (mix (mix a b) c) = run (~~~ (0 : R)) a ^^^ run (~~~ (0 : R)) b ^^^ run (~~~ (0 : R)) c := by
    conv => lhs; rw [e]
    rw [run_mix _ _ hl, run_mix _ _ h1]
  rw [this]
  apply BitVec.eq_of_getLsbD_eq
  intro i hi
  simp only [BitVec.getLsbD_xor, BitVec.getLsbD_not, hi]
  cases (run (~~~ (0 : R)) a).getLsbD i <;> cases (run (~~~ (0 : R)) b).getLsbD i <;> cases (run (~~~ (0 : R)) c).getLsbD i <;> rfl
end CrcMath

open CrcMath
def reg (c : Int) : R := BitVec.ofInt 32 c
def oct (x : Int) : BitVec 8 := BitVec.ofInt 8 x
def num (r : R) : Int := (r.toNat : Int)
theorem num_range (r : R) : 0 ≤ num r ∧ num r ≤ 4294967295 := by unfold num; have := r.isLt; omega
theorem reg_num (r : R) : reg (num r) = r := by
  unfold reg num
  rw [BitVec.ofInt_natCast]
  simp
theorem num_reg (c : Int) (h0 : 0 ≤ c) (h1 : c ≤ 4294967295) : num (reg c) = c := by
  obtain ⟨n, rfl⟩ := Int.eq_ofNat_of_zero_le h0
  unfold reg num
  rw [BitVec.ofInt_natCast, BitVec.toNat_ofNat, Nat.mod_eq_of_lt (by omega)]
theorem xor_u32 (a b : Int) : Go.bits .xor .u32 a b = num (reg a ^^^ reg b) := by
  show IntKind.u32.wrap _ = _
  rw [IntKind.wrap_u32]
  have := (reg a ^^^ reg b).isLt
  show ((reg a ^^^ reg b).toNat : Int) % 4294967296 = ((reg a ^^^ reg b).toNat : Int)
  omega
theorem and_u32 (a b : Int) : Go.bits .and .u32 a b = num (reg a &&& reg b) := by
  show IntKind.u32.wrap _ = _
  rw [IntKind.wrap_u32]
  have := (reg a &&& reg b).isLt
  show ((reg a &&& reg b).toNat : Int) % 4294967296 = ((reg a &&& reg b).toNat : Int)
  omega
theorem reg_half (r : R) (n : Nat) : reg (num r / (2 ^ n : Nat)) = r >>> n := by
  unfold reg num
  rw [← Int.natCast_ediv, BitVec.ofInt_natCast]
  apply BitVec.eq_of_toNat_eq
  rw [BitVec.toNat_ofNat, BitVec.toNat_ushiftRight, Nat.shiftRight_eq_div_pow]
  exact Nat.mod_eq_of_lt (Nat.lt_of_le_of_lt (Nat.div_le_self _ _) r.isLt)
theorem nstep_is (r : R) : nstep (num r) = num (b1 r) := by
  unfold nstep b1
  rw [xor_u32, and_u32, and_u32, reg_num, reg_num, show num r / 2 = num r / (2 ^ 1 : Nat) by rfl, reg_half]
  congr 2
  by_cases h : r.getLsbD 0 = true
  · have e : r &&& reg 1 = 1#32 := by
      apply BitVec.eq_of_getLsbD_eq
      intro i hi
      rw [BitVec.getLsbD_and, show reg 1 = 1#32 by decide, BitVec.getLsbD_one]
      by_cases h0 : i = 0
      · subst h0; rw [h]; simp
      · simp [h0]
    rw [e, if_pos h]
    decide
  · have h' : r.getLsbD 0 = false := by simpa using h
    have e : r &&& reg 1 = 0#32 := by
      apply BitVec.eq_of_getLsbD_eq
      intro i hi
      rw [BitVec.getLsbD_and, show reg 1 = 1#32 by decide, BitVec.getLsbD_one]
      by_cases h0 : i = 0
      · subst h0; rw [h']; simp
      · simp [h0]
    rw [e, if_neg h]
    decide
theorem bs_out (n : Nat) (r : R) : bs (n + 1) r = b1 (bs n r) := by
  rw [bs_add]; rfl
theorem nibT_is (n : Nat) (r : R) : nibT n (num r) = num (bs n r) := by
  induction n with
  | zero => rfl
  | succ n ih => rw [nibT, ih, nstep_is, bs_out]
theorem hstep_is (r : R) : hstep (num r) = num (bs 4 r) := by
  unfold hstep
  rw [xor_u32, and_u32, reg_num, nibT_is, reg_num, show num r / 16 = num r / (2 ^ 4 : Nat) by rfl, reg_half, show reg 15 = 15#32 by decide, ← bs4]
theorem rstep_is (r : R) (x : Int) (h0 : 0 ≤ x) (h1 : x ≤ 255) : rstep (num r) x = num (CrcMath.step r (oct x)) := by
  unfold rstep CrcMath.step
  rw [xor_u32, reg_num, hstep_is, hstep_is, ← bs_add]
  congr 3
  unfold reg oct
  obtain ⟨n, rfl⟩ := Int.eq_ofNat_of_zero_le h0
  rw [Int.emod_eq_of_lt h0 (by omega), BitVec.ofInt_natCast, BitVec.ofInt_natCast]
  apply BitVec.eq_of_toNat_eq
  simp only [BitVec.toNat_ofNat, BitVec.toNat_setWidth]
  omega
theorem crcI_is (l : List Int) (hl : Oct l) (r : R) : crcI (num r) l = num (run r (l.map oct)) := by
  unfold crcI run
  induction l generalizing r with
  | nil => rfl
  | cons x l ih =>
    rw [List.foldl_cons, List.map_cons, List.foldl_cons, rstep_is r x (hl x (by simp)).1 (hl x (by simp)).2]
    exact ih (fun y hy => hl y (by simp [hy])) _
/-- The sum of octets, as a number. -/
def sumI (c : Int) (l : List Int) : Int := num (sum (reg c) (l.map oct))
theorem xor_ones (r : R) : reg 4294967295 ^^^ r = ~~~ r := by
  apply BitVec.eq_of_getLsbD_eq
  intro i hi
  rw [BitVec.getLsbD_xor, BitVec.getLsbD_not, show reg 4294967295 = BitVec.allOnes 32 by decide, BitVec.getLsbD_allOnes]
  simp [hi]
theorem extend_is (c : Int) (l : List Int) (hl : Oct l) : crc_Extend.f c l = some (sumI c l) := by
  unfold crc_Extend.f sumI sum
  rw [xor_u32, xor_u32, crcI_is _ hl, reg_num, xor_ones, xor_ones]
theorem sum_is (l : List Int) (hl : Oct l) : crc_Sum.f l = some (sumI 0 l) := by
  unfold crc_Sum.f
  rw [extend_is 0 l hl]
  rfl
theorem sumI_range (c : Int) (l : List Int) : 0 ≤ sumI c l ∧ sumI c l ≤ 4294967295 := num_range _
theorem sumI_append (c : Int) (a b : List Int) : sumI c (a ++ b) = sumI (sumI c a) b := by
  unfold sumI
  rw [List.map_append, sum_append, reg_num]
theorem sumI_nil (c : Int) (h0 : 0 ≤ c) (h1 : c ≤ 4294967295) : sumI c [] = c := by
  unfold sumI
  rw [List.map_nil, sum_nil, num_reg c h0 h1]

/-- A number's four octets, the lowest first. -/
def lowI (c : Int) : List Int := [c % 256, c / 256 % 256, c / 65536 % 256, c / 16777216 % 256]
theorem lowI_oct (c : Int) : Oct (lowI c) := by
  intro x hx
  simp [lowI] at hx
  omega
theorem low_is (c : Int) (k : Nat) (hk : 5 ≤ k) : crc_low.f k c = some (lowI c) := by
  obtain ⟨k, rfl⟩ : ∃ m, k = m + 5 := ⟨k - 5, by omega⟩
  unfold crc_low.f
  rw [if_pos (by omega)]
  simp only [Option.bind_some, List.length_replicate]
  have e0 : wrap64 0 = 0 := w_id (by omega) (by omega)
  have e1 : wrap64 1 = 1 := w_id (by omega) (by omega)
  have e2 : wrap64 2 = 2 := w_id (by omega) (by omega)
  have e3 : wrap64 3 = 3 := w_id (by omega) (by omega)
  have e4 : wrap64 4 = 4 := w_id (by omega) (by omega)
  have e8 : wrap64 8 = 8 := w_id (by omega) (by omega)
  have e16 : wrap64 16 = 16 := w_id (by omega) (by omega)
  have e24 : wrap64 24 = 24 := w_id (by omega) (by omega)
  have s0 : shr .u32 c 0 = c := by simp [shr]
  have s1 : shr .u32 c 8 = c / 256 := by simp [shr, IntKind.bits]
  have s2 : shr .u32 c 16 = c / 65536 := by simp [shr, IntKind.bits]
  have s3 : shr .u32 c 24 = c / 16777216 := by simp [shr, IntKind.bits]
  show crc_low.l0 (k + 5) c [0, 0, 0, 0] 4 0 = _
  simp [crc_low.l0, e0, e1, e2, e3, e4, e8, e16, e24, s0, s1, s2, s3, lowI]
theorem map_oct_lowI (r : R) : (lowI (num r)).map oct = low r := by
  unfold lowI low num oct
  simp only [List.map_cons, List.map_nil]
  have key : ∀ (n : Nat), n = 0 ∨ n = 8 ∨ n = 16 ∨ n = 24 → BitVec.ofInt 8 ((r.toNat : Int) / (2 ^ n : Nat) % 256) = (r >>> n).setWidth 8 := by
    intro n _
    rw [← Int.natCast_ediv]
    have : ((r.toNat / 2 ^ n : Nat) : Int) % 256 = ((r.toNat / 2 ^ n % 256 : Nat) : Int) := by omega
    rw [this, BitVec.ofInt_natCast]
    apply BitVec.eq_of_toNat_eq
    rw [BitVec.toNat_ofNat, BitVec.toNat_setWidth, BitVec.toNat_ushiftRight, Nat.shiftRight_eq_div_pow]
    omega
  have k0 := key 0 (by simp)
  have k1 := key 8 (by simp)
  have k2 := key 16 (by simp)
  have k3 := key 24 (by simp)
  simp only [Nat.pow_zero, Int.natCast_one, Int.ediv_one] at k0
  rw [show r >>> 0 = r by simp] at k0
  rw [k0]
  have h1 : (r.toNat : Int) / 256 = (r.toNat : Int) / (2 ^ 8 : Nat) := rfl
  have h2 : (r.toNat : Int) / 65536 = (r.toNat : Int) / (2 ^ 16 : Nat) := rfl
  have h3 : (r.toNat : Int) / 16777216 = (r.toNat : Int) / (2 ^ 24 : Nat) := rfl
  rw [h1, h2, h3, k1, k2, k3]
theorem lowI_inj (a b : Int) (ha : 0 ≤ a ∧ a ≤ 4294967295) (hb : 0 ≤ b ∧ b ≤ 4294967295) (h : lowI a = lowI b) : a = b := by
  simp [lowI] at h
  omega
theorem seal_is (l : List Int) (hl : Oct l) (k : Nat) (hk : 5 ≤ k) (hm : l.length + 4 < 140737488355328) : crc_Seal.f k l = some (l ++ lowI (sumI 0 l)) := by
  unfold crc_Seal.f
  rw [sum_is l hl]
  simp only [Option.bind_some]
  rw [low_is _ k hk]
  simp only [Option.bind_some]
  unfold slices_Concat_byte_byte.f
  rw [if_pos (by simp [lowI]; omega)]
  simp
theorem sealed_rest (l : List Int) : sumI 0 (l ++ lowI (sumI 0 l)) = 558161692 := by
  unfold sumI
  rw [List.map_append, map_oct_lowI, show reg 0 = 0 by rfl, sum_sealed, rest_is]
  decide

/-- A number in groups of 7 bits. -/
def encF : Nat → Nat → List Int
  | 0, m => [(m : Int)]
  | f + 1, m => if m ≤ 127 then [(m : Int)] else ((m % 128 + 128 : Nat) : Int) :: encF f (m / 128)
theorem or_128 : ∀ v : Nat, v < 256 → Go.bits .or .u8 (v : Int) 128 = ((v % 128 + 128 : Nat) : Int) := by decide +kernel
theorem groups_ev : ∀ (f m : Nat) (b : List Int), m < 128 ^ (f + 1) → b.length + f < 140737488355328 → Ev (fun k => wire_groups.l0 k b (m : Int)) (b ++ encF f m) := by
  intro f
  induction f with
  | zero =>
    intro m b hm hb
    have hm' : m < 128 := hm
    refine Ev.step (f := fun _ => some (b ++ [(m : Int)])) (fun k => ?_) (Ev.now _)
    rw [wire_groups.l0, if_neg (by omega), if_pos (by omega), show (m : Int) % 256 = (m : Int) by omega]
  | succ f ih =>
    intro m b hm hb
    by_cases h : m ≤ 127
    · rw [encF, if_pos h]
      refine Ev.step (f := fun _ => some (b ++ [(m : Int)])) (fun k => ?_) (Ev.now _)
      rw [wire_groups.l0, if_neg (by omega), if_pos (by omega), show (m : Int) % 256 = (m : Int) by omega]
    · have h2 : m / 128 < 128 ^ (f + 1) := by
        refine Nat.div_lt_of_lt_mul ?_
        rw [Nat.mul_comm]
        exact hm
      have e : b ++ encF (f + 1) m = (b ++ [((m % 128 + 128 : Nat) : Int)]) ++ encF f (m / 128) := by rw [encF, if_neg h, List.append_assoc]; rfl
      rw [e]
      refine Ev.step (f := fun k => wire_groups.l0 k (b ++ [((m % 128 + 128 : Nat) : Int)]) ((m / 128 : Nat) : Int)) (fun k => ?_) (ih (m / 128) _ h2 (by rw [List.length_append, List.length_singleton]; omega))
      have e1 : (m : Int) % 256 = ((m % 256 : Nat) : Int) := by omega
      have e2 : m % 256 % 128 + 128 = m % 128 + 128 := by omega
      rw [wire_groups.l0, if_pos (by omega), if_pos (by omega), e1, or_128 _ (by omega), e2]
      rfl
theorem encF_len : ∀ (f m : Nat), (encF f m).length ≤ f + 1 := by
  intro f
  induction f with
  | zero => intro m; exact Nat.le_refl _
  | succ f ih =>
    intro m
    rw [encF]
    split
    · simp
    · rw [List.length_cons]; have := ih (m / 128); omega
theorem encF_pos : ∀ (f m : Nat), 1 ≤ (encF f m).length := by
  intro f m
  cases f with
  | zero => exact Nat.le_refl _
  | succ f => rw [encF]; split <;> simp
theorem encF_mono : ∀ (f m n : Nat), m ≤ n → (encF f m).length ≤ (encF f n).length := by
  intro f
  induction f with
  | zero => intro m n _; exact Nat.le_refl _
  | succ f ih =>
    intro m n h
    rw [encF, encF]
    by_cases h1 : m ≤ 127
    · rw [if_pos h1]
      split
      · exact Nat.le_refl _
      · simp
    · rw [if_neg h1, if_neg (by omega), List.length_cons, List.length_cons]
      have := ih (m / 128) (n / 128) (by omega)
      omega
theorem encF_oct : ∀ (f m : Nat), m < 128 ^ (f + 1) → Oct (encF f m) := by
  intro f
  induction f with
  | zero =>
    intro m hm x hx
    have hm' : m < 128 := hm
    rw [encF, List.mem_singleton] at hx
    omega
  | succ f ih =>
    intro m hm
    rw [encF]
    split
    · intro x hx
      rw [List.mem_singleton] at hx
      omega
    · intro x hx
      rcases List.mem_cons.1 hx with h | h
      · omega
      · exact ih (m / 128) (by refine Nat.div_lt_of_lt_mul ?_; rw [Nat.mul_comm]; exact hm) x h
/-- A number with its sign. -/
def zN (n : Int) : Nat := if 0 ≤ n then (2 * n).toNat else (-2 * n - 1).toNat
theorem x0_i64 (x : Int) (h0 : -9223372036854775808 ≤ x) (h1 : x ≤ 9223372036854775807) : Go.bits .xor .i64 x 0 = x := by
  show IntKind.i64.wrap ((BitVec.ofInt 64 x ^^^ BitVec.ofInt 64 0).toNat : Int) = x
  have e : BitVec.ofInt 64 0 = 0#64 := rfl
  rw [e, BitVec.xor_zero, BitVec.toNat_ofInt, IntKind.wrap_i64]
  omega
theorem x1_i64 (x : Int) (h0 : -9223372036854775808 ≤ x) (h1 : x ≤ 9223372036854775807) : Go.bits .xor .i64 x (-1) = -x - 1 := by
  show IntKind.i64.wrap ((BitVec.ofInt 64 x ^^^ BitVec.ofInt 64 (-1)).toNat : Int) = -x - 1
  have e : BitVec.ofInt 64 (-1) = BitVec.allOnes 64 := by decide
  rw [e, BitVec.xor_allOnes, BitVec.toNat_not, BitVec.toNat_ofInt, IntKind.wrap_i64]
  omega
theorem z_is (n : Int) (h0 : -9223372036854775808 ≤ n) (h1 : n ≤ 9223372036854775807) : IntKind.u64.wrap (Go.bits .xor .i64 (wrap64 (n * 2)) (n / 9223372036854775808)) = ((zN n : Nat) : Int) := by
  have hw : -9223372036854775808 ≤ wrap64 (n * 2) ∧ wrap64 (n * 2) ≤ 9223372036854775807 := by unfold wrap64; omega
  unfold zN
  by_cases h : 0 ≤ n
  · rw [if_pos h, show n / 9223372036854775808 = 0 by omega, x0_i64 _ hw.1 hw.2, IntKind.wrap_u64]
    unfold wrap64
    omega
  · rw [if_neg h, show n / 9223372036854775808 = -1 by omega, x1_i64 _ hw.1 hw.2, IntKind.wrap_u64]
    unfold wrap64
    omega
theorem zN_lt (n : Int) (h0 : -9223372036854775808 ≤ n) (h1 : n ≤ 9223372036854775807) : zN n < 18446744073709551616 := by
  unfold zN
  split <;> omega
def encN (n : Int) : List Int := encF 9 (zN n)
def encT (t : List Int) : List Int := encF 9 t.length ++ t
def sealW (l : List Int) : List Int := l ++ lowI (sumI 0 l)
def bodyI (kind : Int) (nums : List Int) (texts : List (List Int)) : List Int := [kind, (nums.length : Int)] ++ nums.flatMap encN ++ [(texts.length : Int)] ++ texts.flatMap encT
def checkW (kind : Int) (nums : List Int) (texts : List (List Int)) : Int := if kind < 0 ∨ 255 < kind then 22 else if 64 < nums.length ∨ 64 < texts.length then 3 else if texts.any (fun t => decide (4096 < t.length)) = true then 5 else 0
def I64 (n : Int) : Prop := -9223372036854775808 ≤ n ∧ n ≤ 9223372036854775807
theorem wnat {i : Nat} (h : i ≤ 4611686018427387904) : wrap64 ((i : Int) + 1) = ((i + 1 : Nat) : Int) := by unfold wrap64; omega
theorem rdL1_nat (l : List (List Int)) (i : Nat) (h : i < l.length) : rd_L1 l (i : Int) = l[i] := by
  unfold rd_L1
  simp [List.getD_eq_getElem?_getD, h]
theorem check_l0 (texts : List (List Int)) (hl : texts.length ≤ 64) : ∀ (d i : Nat), i + d = texts.length → Ev (fun k => wire_Check.l0 k texts (texts.length : Int) (i : Int)) (if (texts.drop i).any (fun t => decide (4096 < t.length)) = true then 5 else 0) := by
  intro d
  induction d with
  | zero =>
    intro i hi
    rw [List.drop_eq_nil_of_le (by omega)]
    refine Ev.step (f := fun _ => some 0) (fun k => ?_) (Ev.now _)
    rw [wire_Check.l0, if_neg (by omega)]
  | succ d ih =>
    intro i hi
    have hlt : i < texts.length := by omega
    rw [List.drop_eq_getElem_cons hlt, List.any_cons]
    by_cases h : 4096 < (texts[i]).length
    · rw [decide_eq_true h, Bool.true_or, if_pos rfl]
      refine Ev.step (f := fun _ => some 5) (fun k => ?_) (Ev.now _)
      rw [wire_Check.l0, if_pos (by omega), if_pos (by omega), if_pos (by omega), rdL1_nat texts i hlt, if_pos (by omega)]
    · rw [decide_eq_false h, Bool.false_or]
      refine Ev.step (f := fun k => wire_Check.l0 k texts (texts.length : Int) ((i + 1 : Nat) : Int)) (fun k => ?_) (ih (i + 1) (by omega))
      rw [wire_Check.l0, if_pos (by omega), if_pos (by omega), if_pos (by omega), rdL1_nat texts i hlt, if_neg (by omega), wnat (by omega)]
theorem check_is (kind : Int) (nums : List Int) (texts : List (List Int)) : Ev (fun k => wire_Check.f k kind nums texts) (checkW kind nums texts) := by
  have hj1 : ∀ b : Bool, (b = true ↔ 64 < nums.length ∨ 64 < texts.length) → Ev (fun k => wire_Check.j1 k b kind nums texts) (if 64 < nums.length ∨ 64 < texts.length then 3 else if texts.any (fun t => decide (4096 < t.length)) = true then 5 else 0) := by
    intro b hb
    by_cases h : 64 < nums.length ∨ 64 < texts.length
    · rw [if_pos h]
      refine Ev.step (f := fun _ => some 3) (fun k => ?_) (Ev.now _)
      rw [wire_Check.j1, if_pos (hb.2 h)]
    · rw [if_neg h]
      refine Ev.step (f := fun k => wire_Check.l0 k texts (texts.length : Int) ((0 : Nat) : Int)) (fun k => ?_) (check_l0 texts (by omega) texts.length 0 (by omega))
      rw [wire_Check.j1, if_neg (fun e => h (hb.1 e))]
      rfl
  have hj0 : ∀ b : Bool, (b = true ↔ kind < 0 ∨ 255 < kind) → Ev (fun k => wire_Check.j0 k b kind nums texts) (checkW kind nums texts) := by
    intro b hb
    unfold checkW
    by_cases h : kind < 0 ∨ 255 < kind
    · rw [if_pos h]
      refine Ev.step (f := fun _ => some 22) (fun k => ?_) (Ev.now _)
      rw [wire_Check.j0, if_pos (hb.2 h)]
    · rw [if_neg h]
      by_cases h2 : 64 < nums.length
      · refine Ev.step (f := fun k => wire_Check.j1 k true kind nums texts) (fun k => ?_) (hj1 true ⟨fun _ => .inl h2, fun _ => rfl⟩)
        rw [wire_Check.j0, if_neg (fun e => h (hb.1 e)), if_pos (by omega)]
      · refine Ev.step (f := fun k => wire_Check.j1 k (decide ((texts.length : Int) > 64)) kind nums texts) (fun k => ?_) (hj1 _ ⟨fun e => .inr (by have := of_decide_eq_true e; omega), fun e => decide_eq_true (by omega)⟩)
        rw [wire_Check.j0, if_neg (fun e => h (hb.1 e)), if_neg (by omega)]
  by_cases h : kind < 0
  · refine Ev.congr (f := fun k => wire_Check.j0 k true kind nums texts) (fun k => ?_) (hj0 true ⟨fun _ => .inl h, fun _ => rfl⟩)
    unfold wire_Check.f
    rw [if_pos h]
  · refine Ev.congr (f := fun k => wire_Check.j0 k (decide (kind > 255)) kind nums texts) (fun k => ?_) (hj0 _ ⟨fun e => .inr (by have := of_decide_eq_true e; omega), fun e => decide_eq_true (by omega)⟩)
    unfold wire_Check.f
    rw [if_neg h]
theorem check_zero {kind : Int} {nums : List Int} {texts : List (List Int)} (h : checkW kind nums texts = 0) : 0 ≤ kind ∧ kind ≤ 255 ∧ nums.length ≤ 64 ∧ texts.length ≤ 64 ∧ ∀ t ∈ texts, t.length ≤ 4096 := by
  unfold checkW at h
  split at h
  · omega
  · split at h
    · omega
    · split at h
      · omega
      · rename_i h1 h2 h3
        refine ⟨by omega, by omega, by omega, by omega, fun t ht => ?_⟩
        rcases Nat.lt_or_ge 4096 t.length with h4 | h4
        · exact absurd (List.any_eq_true.2 ⟨t, ht, decide_eq_true h4⟩) h3
        · exact h4
theorem flat_len {α : Type} (f : α → List Int) (n : Nat) : ∀ (l : List α), (∀ x ∈ l, (f x).length ≤ n) → (l.flatMap f).length ≤ l.length * n := by
  intro l
  induction l with
  | nil => intro _; simp
  | cons x r ih =>
    intro h
    have h1 := h x List.mem_cons_self
    have h2 := ih (fun y hy => h y (List.mem_cons_of_mem _ hy))
    rw [List.flatMap_cons, List.length_append, List.length_cons, Nat.add_mul]
    omega
theorem flat_oct {α : Type} (f : α → List Int) : ∀ (l : List α), (∀ x ∈ l, Oct (f x)) → Oct (l.flatMap f) := by
  intro l h x hx
  obtain ⟨y, hy, hxy⟩ := List.mem_flatMap.1 hx
  exact h y hy x hxy
theorem encN_len (n : Int) : (encN n).length ≤ 10 := encF_len 9 _
theorem encT_len (t : List Int) (h : t.length ≤ 4096) : (encT t).length ≤ 4106 := by
  unfold encT
  rw [List.length_append]
  have := encF_len 9 t.length
  omega
theorem pow128 : (128 : Nat) ^ (9 + 1) = 1180591620717411303424 := by decide
theorem encN_oct (n : Int) (h : I64 n) : Oct (encN n) := encF_oct 9 _ (by have := zN_lt n h.1 h.2; rw [pow128]; omega)
theorem encT_oct (t : List Int) (h : t.length ≤ 4096) (ho : Oct t) : Oct (encT t) := (encF_oct 9 _ (by rw [pow128]; omega)).append ho
theorem enc_l1 (texts : List (List Int)) (hl : texts.length ≤ 64) (ht : ∀ t ∈ texts, t.length ≤ 4096 ∧ Oct t) : ∀ (d i : Nat) (b : List Int), i + d = texts.length → Oct b → b.length + d * 4106 ≤ 1000000 → Ev (fun k => wire_Encode.l1 k b texts (texts.length : Int) (i : Int)) (sealW (b ++ (texts.drop i).flatMap encT), 0) := by
  intro d
  induction d with
  | zero =>
    intro i b hi hb hlen
    rw [List.drop_eq_nil_of_le (by omega), List.flatMap_nil, List.append_nil]
    refine Ev.step (f := fun k => (crc_Seal.f k b).bind fun t => some (t, 0)) (fun k => ?_) (Ev.bind (a := sealW b) ⟨5, fun k hk => seal_is b hb k hk (by omega)⟩ (Ev.now _))
    rw [wire_Encode.l1, if_neg (by omega)]
  | succ d ih =>
    intro i b hi hb hlen
    have hlt : i < texts.length := by omega
    have h1 := ht _ (List.getElem_mem hlt)
    have e : b ++ (texts.drop i).flatMap encT = (b ++ encF 9 (texts[i]).length ++ texts[i]) ++ (texts.drop (i + 1)).flatMap encT := by
      rw [List.drop_eq_getElem_cons hlt, List.flatMap_cons, encT, List.append_assoc, List.append_assoc, List.append_assoc]
    rw [e]
    have hlen2 := encF_len 9 (texts[i]).length
    have hg := groups_ev 9 (texts[i]).length b (by rw [pow128]; omega) (by omega)
    refine Ev.step (f := fun k => (wire_groups.f k b ((texts[i]).length : Int)).bind fun t139 => if t139.length + (texts[i]).length < 140737488355328 then wire_Encode.l1 k (t139 ++ texts[i]) texts (texts.length : Int) ((i + 1 : Nat) : Int) else none) (fun k => ?_) (Ev.bind (a := b ++ encF 9 (texts[i]).length) hg ?_)
    · have hw : IntKind.u64.wrap ((texts[i]).length : Int) = ((texts[i]).length : Int) := by rw [IntKind.wrap_u64]; omega
      rw [wire_Encode.l1, if_pos (by omega), if_pos (by omega), if_pos (by omega), rdL1_nat texts i hlt, hw, wnat (by omega)]
    · refine Ev.congr (f := fun k => wire_Encode.l1 k (b ++ encF 9 (texts[i]).length ++ texts[i]) texts (texts.length : Int) ((i + 1 : Nat) : Int)) (fun k => if_pos (by rw [List.length_append]; omega)) (ih (i + 1) _ (by omega) ((hb.append (encF_oct 9 (texts[i]).length (by rw [pow128]; omega))).append h1.2) (by rw [List.length_append, List.length_append]; omega))
theorem enc_l0 (kind : Int) (nums : List Int) (texts : List (List Int)) (hn : ∀ x ∈ nums, I64 x) (hl : nums.length ≤ 64) (ht : texts.length ≤ 64) (R : List Int × Int) : ∀ (d i : Nat) (b : List Int), i + d = nums.length → b.length + d * 10 ≤ 100000 → Ev (fun k => wire_Encode.l1 k (b ++ (nums.drop i).flatMap encN ++ [(texts.length : Int)]) texts (texts.length : Int) ((0 : Nat) : Int)) R → Ev (fun k => wire_Encode.l0 k b nums (nums.length : Int) (i : Int) kind nums texts) R := by
  intro d
  induction d with
  | zero =>
    intro i b hi hlen hnext
    rw [List.drop_eq_nil_of_le (by omega), List.flatMap_nil, List.append_nil] at hnext
    refine Ev.step (f := fun k => wire_Encode.l1 k (b ++ [(texts.length : Int)]) texts (texts.length : Int) ((0 : Nat) : Int)) (fun k => ?_) hnext
    rw [wire_Encode.l0, if_neg (by omega), if_pos (by omega), show (texts.length : Int) % 256 = (texts.length : Int) by omega]
    rfl
  | succ d ih =>
    intro i b hi hlen hnext
    have hlt : i < nums.length := by omega
    have h1 := hn _ (List.getElem_mem hlt)
    have e : b ++ (nums.drop i).flatMap encN = (b ++ encN nums[i]) ++ (nums.drop (i + 1)).flatMap encN := by
      rw [List.drop_eq_getElem_cons hlt, List.flatMap_cons, List.append_assoc]
    rw [e] at hnext
    have hz := zN_lt nums[i] h1.1 h1.2
    have hlen2 := encN_len nums[i]
    have hg := groups_ev 9 (zN nums[i]) b (by rw [pow128]; omega) (by omega)
    refine Ev.step (f := fun k => (wire_groups.f k b ((zN nums[i] : Nat) : Int)).bind fun t132 => wire_Encode.l0 k t132 nums (nums.length : Int) ((i + 1 : Nat) : Int) kind nums texts) (fun k => ?_) (Ev.bind (a := b ++ encN nums[i]) hg (ih (i + 1) _ (by omega) (by rw [List.length_append]; omega) hnext))
    rw [wire_Encode.l0, if_pos (by omega), if_pos (by omega), if_pos (by omega), rd_nat nums i hlt, z_is _ h1.1 h1.2, wnat (by omega)]
theorem encode_is (kind : Int) (nums : List Int) (texts : List (List Int)) (hn : ∀ x ∈ nums, I64 x) (ht : ∀ t ∈ texts, Oct t) : Ev (fun k => wire_Encode.f k kind nums texts) (if checkW kind nums texts = 0 then (sealW (bodyI kind nums texts), 0) else ([], checkW kind nums texts)) := by
  unfold wire_Encode.f
  refine Ev.bind (check_is kind nums texts) ?_
  by_cases h : checkW kind nums texts = 0
  · obtain ⟨h0, h1, h2, h3, h4⟩ := check_zero h
    rw [if_pos h]
    have e1 := enc_l1 texts h3 (fun t m => ⟨h4 t m, ht t m⟩) texts.length 0 ([kind, (nums.length : Int)] ++ nums.flatMap encN ++ [(texts.length : Int)]) (by omega) (by
      refine Oct.append (Oct.append ?_ (flat_oct _ _ (fun x hx => encN_oct x (hn x hx)))) ?_
      · intro x hx
        simp at hx
        omega
      · intro x hx
        simp at hx
        omega) (by
      have := flat_len encN 10 nums (fun x _ => encN_len x)
      simp only [List.length_append, List.length_cons, List.length_nil]
      omega)
    have e0 := enc_l0 kind nums texts hn h2 h3 _ nums.length 0 [kind, (nums.length : Int)] (by omega) (by simp; omega) e1
    refine Ev.congr (f := fun k => wire_Encode.l0 k [kind, (nums.length : Int)] nums (nums.length : Int) ((0 : Nat) : Int) kind nums texts) (fun k => ?_) e0
    rw [if_pos h, show kind % 256 = kind by omega, show (nums.length : Int) % 256 = (nums.length : Int) by omega]
    rfl
  · rw [if_neg h]
    exact Ev.congr (f := fun _ => some ([], checkW kind nums texts)) (fun k => if_neg h) (Ev.now _)
theorem alive_ev : Ev undercroftlaw05_alive.f true := by
  have hb : bodyI 1 [0, -1, 64] [] = [1, 3, 0, 1, 128, 1, 0] := by decide
  have he := encode_is 1 [0, -1, 64] [] (fun x hx => by unfold I64; simp at hx; omega) (fun t h => by cases h)
  rw [if_pos (show checkW 1 [0, -1, 64] [] = 0 by decide), hb] at he
  have hl : (sealW [1, 3, 0, 1, 128, 1, 0]).length = 11 := by unfold sealW lowI; rfl
  have ht : (sealW [1, 3, 0, 1, 128, 1, 0]).take 7 = [1, 3, 0, 1, 128, 1, 0] := by unfold sealW; exact List.take_left' rfl
  unfold undercroftlaw05_alive.f
  refine Ev.bind he ?_
  refine Ev.congr (f := fun k => (undercroftplain_SameBytes.f k [1, 3, 0, 1, 128, 1, 0] [1, 3, 0, 1, 128, 1, 0]).bind fun t => some t) (fun k => ?_) ?_
  · dsimp only
    rw [show undercroftlaw05_num.f 0 = some 0 from rfl, Option.bind_some, if_pos rfl, if_pos (by rw [hl]; rfl), if_pos (by rw [hl]; decide), ht]
  · refine Ev.bind (a := true) ⟨100, fun k hk => ?_⟩ (Ev.now _)
    show undercroftplain_SameBytes.f k [1, 3, 0, 1, 128, 1, 0] [1, 3, 0, 1, 128, 1, 0] = some true
    rw [sameBytes_is _ _ k (by show 7 < k; omega) (by show 7 ≤ 9223372036854775807; decide)]
    rfl
theorem sameLists_l0 (a : List (List Int)) (hl : a.length ≤ 4611686018427387904) (hm : ∀ t ∈ a, t.length ≤ 9223372036854775807) : ∀ (d i : Nat), i + d = a.length → Ev (fun k => undercroftplain_SameLists.l0 k a a (i : Int)) true := by
  intro d
  induction d with
  | zero =>
    intro i hi
    refine Ev.step (f := fun _ => some true) (fun k => ?_) (Ev.now _)
    rw [undercroftplain_SameLists.l0, if_neg (by omega)]
  | succ d ih =>
    intro i hi
    have hlt : i < a.length := by omega
    refine Ev.step (f := fun k => (undercroftplain_SameBytes.f k a[i] a[i]).bind fun t => if t = true then undercroftplain_SameLists.l0 k a a ((i + 1 : Nat) : Int) else some false) (fun k => ?_) (Ev.bind (a := true) ⟨(a[i]).length + 1, fun k hk => ?_⟩ (Ev.congr (fun k => if_pos rfl) (ih (i + 1) (by omega))))
    · rw [undercroftplain_SameLists.l0, if_pos (by omega), if_pos (by omega), if_pos (by omega), rdL1_nat a i hlt, wnat (by omega)]
    · show undercroftplain_SameBytes.f k a[i] a[i] = some true
      rw [sameBytes_is _ _ k (by omega) (hm _ (List.getElem_mem hlt)), decide_eq_true rfl]

def joinT (t : List Int) : List Int := ((t.length / 256 : Nat) : Int) :: ((t.length % 256 : Nat) : Int) :: t
def joinI (l : List (List Int)) : List Int := l.flatMap joinT
theorem joinI_len : ∀ (l : List (List Int)) (n : Nat), (∀ t ∈ l, t.length ≤ n) → (joinI l).length ≤ l.length * (n + 2) := by
  intro l n h
  exact flat_len joinT (n + 2) l (fun t ht => by have := h t ht; unfold joinT; simp; omega)
theorem join_l0 (l : List (List Int)) (hl : l.length ≤ 4096) : ∀ (d i : Nat) (acc : List Int), i + d = l.length → acc.length ≤ i * 65537 → Ev (fun k => wire_Join.l0 k acc l (l.length : Int) (i : Int)) (if (l.drop i).any (fun t => decide (65535 < t.length)) = true then ([], 5) else (acc ++ joinI (l.drop i), 0)) := by
  intro d
  induction d with
  | zero =>
    intro i acc hi ha
    rw [List.drop_eq_nil_of_le (by omega)]
    refine Ev.step (f := fun _ => some (acc ++ joinI [], 0)) (fun k => ?_) (Ev.now _)
    rw [wire_Join.l0, if_neg (by omega)]
    unfold joinI
    rw [List.flatMap_nil, List.append_nil]
  | succ d ih =>
    intro i acc hi ha
    have hlt : i < l.length := by omega
    rw [List.drop_eq_getElem_cons hlt, List.any_cons]
    by_cases h : 65535 < (l[i]).length
    · rw [decide_eq_true h, Bool.true_or, if_pos rfl]
      refine Ev.step (f := fun _ => some ([], 5)) (fun k => ?_) (Ev.now _)
      rw [wire_Join.l0, if_pos (by omega), if_pos (by omega), if_pos (by omega), rdL1_nat l i hlt, if_pos (by omega)]
    · rw [decide_eq_false h, Bool.false_or]
      have e : acc ++ joinI (l[i] :: l.drop (i + 1)) = (acc ++ joinT l[i]) ++ joinI (l.drop (i + 1)) := by
        unfold joinI
        rw [List.flatMap_cons, List.append_assoc]
      rw [e]
      have hj : (joinT l[i]).length = (l[i]).length + 2 := by unfold joinT; simp
      refine Ev.step (f := fun k => wire_Join.l0 k (acc ++ joinT l[i]) l (l.length : Int) ((i + 1 : Nat) : Int)) (fun k => ?_) (ih (i + 1) (acc ++ joinT l[i]) (by omega) (by rw [List.length_append, hj, Nat.add_mul]; omega))
      have e1 : (((l[i]).length : Int) / 256) % 256 = (((l[i]).length / 256 : Nat) : Int) := by omega
      have e2 : ((l[i]).length : Int) % 256 = (((l[i]).length % 256 : Nat) : Int) := by omega
      rw [wire_Join.l0, if_pos (by omega), if_pos (by omega), if_pos (by omega), rdL1_nat l i hlt, if_neg (by omega), Option.bind_some, if_pos (by simp; omega), Option.bind_some, if_pos (by simp; omega), e1, e2, wnat (by omega)]
      unfold joinT
      rw [List.append_assoc]
      rfl
theorem join_is (l : List (List Int)) : Ev (fun k => wire_Join.f k l) (if 4096 < l.length then ([], 3) else if l.any (fun t => decide (65535 < t.length)) = true then ([], 5) else (joinI l, 0)) := by
  unfold wire_Join.f
  by_cases h : 4096 < l.length
  · rw [if_pos h]
    exact Ev.congr (f := fun _ => some ([], 3)) (fun k => if_pos (by omega)) (Ev.now _)
  · rw [if_neg h]
    have := join_l0 l (by omega) l.length 0 [] (by omega) (by simp)
    exact Ev.congr (f := fun k => wire_Join.l0 k [] l (l.length : Int) ((0 : Nat) : Int)) (fun k => if_neg (by omega)) this
theorem split_two : ∀ (f : Nat) (acc : List (List Int)) (l : List Int), Oct l → l.length < f → (splitF f acc l).2 = some 8 ∨ ∃ xs : List (List Int), splitF f acc l = (acc ++ xs, none) ∧ l = joinI xs ∧ ∀ t ∈ xs, t.length ≤ 65535 := by
  intro f
  induction f with
  | zero => intro acc l _ h; omega
  | succ f ih =>
    intro acc l ho hf
    match l, ho, hf with
    | [], _, _ => exact .inr ⟨[], by rw [List.append_nil]; rfl, rfl, fun t ht => by cases ht⟩
    | [_], _, _ => exact .inl rfl
    | x :: y :: r, ho, hf =>
      have hx := ho x List.mem_cons_self
      have hy := ho y (List.mem_cons_of_mem _ List.mem_cons_self)
      obtain ⟨n, hn⟩ : ∃ n : Nat, (n : Int) = x * 256 + y := ⟨(x * 256 + y).toNat, by omega⟩
      by_cases h : r.length < n
      · exact .inl (by rw [splitF_short hn h])
      · rw [splitF_step hn h]
        have hor : Oct r := fun z hz => ho z (List.mem_cons_of_mem _ (List.mem_cons_of_mem _ hz))
        rcases ih (acc ++ [r.take n]) (r.drop n) (hor.drop n) (by rw [List.length_drop]; simp only [List.length_cons] at hf; omega) with h1 | ⟨xs, e1, e2, e3⟩
        · exact .inl h1
        · have hl : (r.take n).length = n := by rw [List.length_take]; omega
          refine .inr ⟨r.take n :: xs, by rw [e1, List.append_assoc]; rfl, ?_, fun t ht => ?_⟩
          · unfold joinI joinT at e2 ⊢
            rw [List.flatMap_cons, ← e2, hl, show ((n / 256 : Nat) : Int) = x by omega, show ((n % 256 : Nat) : Int) = y by omega]
            show x :: y :: r = x :: y :: (r.take n ++ r.drop n)
            rw [List.take_append_drop]
          · rcases List.mem_cons.1 ht with h | h
            · rw [h, hl]; omega
            · exact e3 t h
theorem num_id (x : Int) : undercroftlaw05_num.f x = some x := rfl
theorem oct5_of {l : List Int} (h : Oct l) : oct5 l = true := List.all_eq_true.2 (fun x hx => by have := h x hx; simp; omega)
theorem any_no {l : List (List Int)} (h : ∀ t ∈ l, t.length ≤ 65535) : ¬ l.any (fun t => decide (65535 < t.length)) = true := fun h5 => by
  obtain ⟨y, hy, h6⟩ := List.any_eq_true.1 h5
  have := h y hy
  have := of_decide_eq_true h6
  omega
theorem join_oct {l : List (List Int)} (ho : ∀ t ∈ l, Oct t) (h : ∀ t ∈ l, t.length ≤ 65535) : Oct (joinI l) := by
  refine flat_oct joinT l (fun t ht => ?_)
  intro x hx
  have h1 := h t ht
  unfold joinT at hx
  rcases List.mem_cons.1 hx with h | h
  · omega
  · rcases List.mem_cons.1 h with h | h
    · omega
    · exact ho t ht x h
theorem zsum {α : Type} (l : List α) : (l.map fun _ => 0).sum = 0 := by
  induction l with
  | nil => rfl
  | cons x s ih => rw [List.map_cons, List.sum_cons, ih]
theorem bulk_join : ∀ (l : List (List Int)), (joinI l).length = 2 * l.length + (l.map fun t => t.length).sum := by
  intro l
  induction l with
  | nil => rfl
  | cons t s ih =>
    unfold joinI at ih ⊢
    rw [List.flatMap_cons, List.length_append, ih]
    unfold joinT
    simp
    omega

theorem rj_l1 (l : List (List Int)) (hl : l.length ≤ 4096) (h65 : ∀ t ∈ l, t.length ≤ 65535) : ∀ (d i : Nat) (acc : List Int), i + d = l.length → acc.length ≤ i * 65537 → Ev (fun k => undercroftref05_Join.l1 k l acc (i : Int)) (acc ++ joinI (l.drop i), 0) := by
  intro d
  induction d with
  | zero =>
    intro i acc hi ha
    rw [List.drop_eq_nil_of_le (by omega)]
    refine Ev.step (f := fun _ => some (acc, 0)) (fun k => ?_) ?_
    · rw [undercroftref05_Join.l1, if_neg (by omega)]
    · have e : acc ++ joinI [] = acc := by unfold joinI; rw [List.flatMap_nil, List.append_nil]
      rw [e]
      exact Ev.now _
  | succ d ih =>
    intro i acc hi ha
    have hlt : i < l.length := by omega
    have h := h65 _ (List.getElem_mem hlt)
    rw [List.drop_eq_getElem_cons hlt]
    have e : acc ++ joinI (l[i] :: l.drop (i + 1)) = (acc ++ joinT l[i]) ++ joinI (l.drop (i + 1)) := by
      unfold joinI
      rw [List.flatMap_cons, List.append_assoc]
    rw [e]
    have hj : (joinT l[i]).length = (l[i]).length + 2 := by unfold joinT; simp
    refine Ev.step (f := fun k => undercroftref05_Join.l1 k l (acc ++ joinT l[i]) ((i + 1 : Nat) : Int)) (fun k => ?_) (ih (i + 1) (acc ++ joinT l[i]) (by omega) (by rw [List.length_append, hj, Nat.add_mul]; omega))
    have e1 : (((l[i]).length : Int) / 256) % 256 = (((l[i]).length / 256 : Nat) : Int) := by omega
    have e2 : ((l[i]).length : Int) % 256 = (((l[i]).length % 256 : Nat) : Int) := by omega
    rw [undercroftref05_Join.l1, if_pos (by omega), if_pos (by omega), rdL1_nat l i hlt, Option.bind_some, if_pos (by simp; omega), Option.bind_some, if_pos (by simp; omega), e1, e2, wnat (by omega)]
    unfold joinT
    rw [List.append_assoc]
    rfl
theorem rj_l0 (l : List (List Int)) (hl : l.length ≤ 4096) : ∀ (d i : Nat), i + d = l.length → (∀ t ∈ l.take i, t.length ≤ 65535) → Ev (fun k => undercroftref05_Join.l0 k l (i : Int)) (if (l.drop i).any (fun t => decide (65535 < t.length)) = true then ([], 5) else (joinI l, 0)) := by
  intro d
  induction d with
  | zero =>
    intro i hi ha
    rw [List.drop_eq_nil_of_le (by omega)]
    rw [List.take_of_length_le (by omega)] at ha
    refine Ev.step (f := fun k => undercroftref05_Join.l1 k l [] ((0 : Nat) : Int)) (fun k => ?_) ?_
    · rw [undercroftref05_Join.l0, if_neg (by omega)]
      rfl
    · have := rj_l1 l hl ha l.length 0 [] (by omega) (by simp)
      exact this
  | succ d ih =>
    intro i hi ha
    have hlt : i < l.length := by omega
    rw [List.drop_eq_getElem_cons hlt, List.any_cons]
    by_cases h : 65535 < (l[i]).length
    · rw [decide_eq_true h, Bool.true_or, if_pos rfl]
      refine Ev.step (f := fun _ => some ([], 5)) (fun k => ?_) (Ev.now _)
      rw [undercroftref05_Join.l0, if_pos (by omega), if_pos (by omega), rdL1_nat l i hlt, if_pos (by omega)]
    · rw [decide_eq_false h, Bool.false_or]
      refine Ev.step (f := fun k => undercroftref05_Join.l0 k l ((i + 1 : Nat) : Int)) (fun k => ?_) (ih (i + 1) (by omega) (fun t ht => ?_))
      · rw [undercroftref05_Join.l0, if_pos (by omega), if_pos (by omega), rdL1_nat l i hlt, if_neg (by omega), wnat (by omega)]
      · rw [List.take_succ_eq_append_getElem hlt] at ht
        rcases List.mem_append.1 ht with h1 | h1
        · exact ha t h1
        · rw [List.mem_singleton.1 h1]; omega
theorem rjoin_is (l : List (List Int)) : Ev (fun k => undercroftref05_Join.f k l) (if 4096 < l.length then ([], 3) else if l.any (fun t => decide (65535 < t.length)) = true then ([], 5) else (joinI l, 0)) := by
  unfold undercroftref05_Join.f
  by_cases h : 4096 < l.length
  · rw [if_pos h]
    exact Ev.congr (f := fun _ => some ([], 3)) (fun k => if_pos (by omega)) (Ev.now _)
  · rw [if_neg h]
    have := rj_l0 l (by omega) l.length 0 (by omega) (by simp)
    exact Ev.congr (f := fun k => undercroftref05_Join.l0 k l ((0 : Nat) : Int)) (fun k => if_neg (by omega)) this
theorem copyLists_l0 (l : List (List Int)) (hl : l.length ≤ 5864062014634) (h : ∀ t ∈ l, t.length < 140737488355328) : ∀ (d i : Nat) (acc : List (List Int)), i + d = l.length → acc = l.take i → Ev (fun k => undercroftplain_CopyLists.l0 k l acc (i : Int)) l := by
  intro d
  induction d with
  | zero =>
    intro i acc hi ha
    refine Ev.step (f := fun _ => some l) (fun k => ?_) (Ev.now _)
    rw [undercroftplain_CopyLists.l0, if_neg (by omega), ha, List.take_of_length_le (by omega)]
  | succ d ih =>
    intro i acc hi ha
    have hlt : i < l.length := by omega
    refine Ev.step (f := fun k => undercroftplain_CopyLists.l0 k l (acc ++ [l[i]]) ((i + 1 : Nat) : Int)) (fun k => ?_) (ih (i + 1) (acc ++ [l[i]]) (by omega) (by rw [ha, List.take_succ_eq_append_getElem hlt]))
    rw [undercroftplain_CopyLists.l0, if_pos (by omega), if_pos (by omega), rdL1_nat l i hlt, copyBytes_is _ (h _ (List.getElem_mem hlt)), Option.bind_some, if_pos (by rw [ha, List.length_take]; omega), wnat (by omega)]
theorem lists_same (a : List (List Int)) (hl : a.length ≤ 4611686018427387904) (hm : ∀ t ∈ a, t.length ≤ 9223372036854775807) : Ev (fun k => undercroftplain_SameLists.f k a a) true := by
  refine Ev.congr (f := fun k => undercroftplain_SameLists.l0 k a a ((0 : Nat) : Int)) (fun k => ?_) (sameLists_l0 a hl hm a.length 0 (by omega))
  unfold undercroftplain_SameLists.f
  rw [if_pos rfl]
  rfl
theorem bytes_same (a : List Int) (hm : a.length ≤ 9223372036854775807) : Ev (fun k => undercroftplain_SameBytes.f k a a) true := ⟨a.length + 1, fun k hk => by
  show undercroftplain_SameBytes.f k a a = some true
  rw [sameBytes_is a a k (by omega) hm, decide_eq_true rfl]⟩
theorem split_small (y : List Int) (hy : Oct y) (hm : y.length ≤ 2097152) : (splitR (splitF (y.length + 1) [] y)).1.length ≤ 4096 ∧ ∀ t ∈ (splitR (splitF (y.length + 1) [] y)).1, t.length ≤ 65535 := by
  rcases split_two (y.length + 1) [] y hy (by omega) with h | ⟨xs, e1, e2, e3⟩
  · have e : splitR (splitF (y.length + 1) [] y) = ([], 8) := by unfold splitR; rw [h]
    rw [e]
    exact ⟨by simp, fun t ht => by cases ht⟩
  · rw [List.nil_append] at e1
    rw [e1]
    by_cases h : 4096 < xs.length
    · have e : splitR (xs, none) = ([], 3) := by unfold splitR; exact if_pos h
      rw [e]
      exact ⟨by simp, fun t ht => by cases ht⟩
    · have e : splitR (xs, none) = (xs, 0) := by unfold splitR; exact if_neg h
      rw [e]
      exact ⟨by show xs.length ≤ 4096; omega, e3⟩
theorem joinR_small (l : List (List Int)) (h0 : l.length + (l.map fun t => t.length).sum ≤ 1048576) : (if 4096 < l.length then ([], 3) else if l.any (fun t => decide (65535 < t.length)) = true then ([], 5) else (joinI l, (0 : Int))).1.length ≤ 9223372036854775807 := by
  split
  · simp
  · split
    · simp
    · have := bulk_join l
      show (joinI l).length ≤ _
      omega
theorem lists_main (l0 : List (List Int)) (l1 : List Int) (h0 : ∀ t ∈ l0, t.length ≤ 1048576) (h1 : Oct l1) (hb : l0.length + (l0.map fun t => t.length).sum ≤ 1048576) (hb1 : l1.length ≤ 1048576) : ∃ k, undercroftlaw05_WireLists.f k l0 l1 = some true := by
  have hc : Ev (fun k => undercroftplain_CopyLists.f k l0) l0 := copyLists_l0 l0 (by omega) (fun t ht => by have := h0 t ht; omega) l0.length 0 [] (by omega) (by simp)
  have hj := join_is l0
  have hr := rjoin_is l0
  have hsm := joinR_small l0 hb
  generalize (if 4096 < l0.length then ([], 3) else if l0.any (fun t => decide (65535 < t.length)) = true then ([], 5) else (joinI l0, (0 : Int))) = J at hj hr hsm
  have hs : wire_Split.f l1 = some (splitR (splitF (l1.length + 1) [] l1)) := by unfold wire_Split.f; rw [if_pos ⟨oct5_of h1, by omega⟩]
  have hs2 : undercroftref05_Split.f l1 = some (splitR (splitF (l1.length + 1) [] l1)) := by unfold undercroftref05_Split.f; rw [if_pos ⟨oct5_of h1, by omega⟩]
  have hsp := split_small l1 h1 (by omega)
  generalize splitR (splitF (l1.length + 1) [] l1) = T at hs hs2 hsp
  refine Ev.rounds ?_
  unfold undercroftlaw05_WireLists.f
  refine Ev.bind hc ?_
  refine Ev.congr (f := fun k => (wire_Join.f k l0).bind fun bt206 => ((undercroftref05_Join.f k l0).bind fun bt210 => ((undercroftplain_SameBytes.f k bt206.1 bt210.1).bind fun t222 => (if t222 = true then (if bt206.2 = bt210.2 then ((undercroftplain_SameLists.f k T.1 T.1).bind fun t224 => (if t224 = true then ((undercroftplain_SameLists.f k l0 l0).bind fun t226 => (if t226 = true then ((undercroftplain_SameBytes.f k l1 l1).bind fun t227 => (if t227 = true then ((undercroftlaw05_alive.f k).bind fun t228 => (some t228)) else (some false))) else (some false))) else (some false))) else (some false)) else (some false))))) (fun k => ?_) ?_
  · rw [copyBytes_is l1 (by omega), Option.bind_some]
    simp only [hs, hs2, Option.bind_some, num_id, if_true]
  · refine Ev.bind hj (Ev.bind hr (Ev.bind (bytes_same J.1 hsm) ?_))
    refine Ev.congr (fun k => if_pos rfl) (Ev.congr (fun k => if_pos rfl) ?_)
    refine Ev.bind (lists_same T.1 (by have := hsp.1; omega) (fun t ht => by have := hsp.2 t ht; omega)) (Ev.congr (fun k => if_pos rfl) ?_)
    refine Ev.bind (lists_same l0 (by omega) (fun t ht => by have := h0 t ht; omega)) (Ev.congr (fun k => if_pos rfl) ?_)
    refine Ev.bind (bytes_same l1 (by omega)) (Ev.congr (fun k => if_pos rfl) ?_)
    exact Ev.bind alive_ev (Ev.now _)
theorem mem_sum : ∀ (l : List (List Int)), ∀ t ∈ l, t.length ≤ (l.map fun t => t.length).sum := by
  intro l
  induction l with
  | nil => intro t ht; cases ht
  | cons x s ih =>
    intro t ht
    rw [List.map_cons, List.sum_cons]
    rcases List.mem_cons.1 ht with h | h
    · rw [h]; omega
    · have := ih t h; omega
theorem WireLists (l0 : List (List Int)) (l1 : List Int) (h0 : (l0.length * 24 ≤ 140737488351232 ∧ l0.length ≤ maxLen ∧ ∀ y22 ∈ l0, (y22.length * 1 ≤ 140737488351232 ∧ y22.length ≤ maxLen ∧ ∀ y23 ∈ y22, (Lit.int .u8 y23).wf = true))) (h1 : (l1.length * 1 ≤ 140737488351232 ∧ l1.length ≤ maxLen ∧ ∀ y23 ∈ l1, (Lit.int .u8 y23).wf = true)) (hb : (l0.length + (l0.map fun z22 => (z22.length + (z22.map fun z23 => 0).sum)).sum) + (l1.length + (l1.map fun z23 => 0).sum) ≤ 1048576) : ∃ k, undercroftlaw05_WireLists.f k l0 l1 = some true := by
  have e1 : (l0.map fun z22 => (z22.length + (z22.map fun z23 => 0).sum)) = l0.map fun z => z.length := List.map_congr_left (fun z _ => by show z.length + (z.map fun z23 => 0).sum = z.length; rw [zsum, Nat.add_zero])
  rw [e1, zsum] at hb
  exact lists_main l0 l1 (fun t m => by have := mem_sum l0 t m; omega) (Oct.of_wf h1.2.2) (by omega) (by omega)

end Go.Proofs.YtkcianklokikoaaDoor.Pure
