/- Any request as octets, and any octets read as one, are as the page says; what is handed in stays: for every request and every octets, no condition beyond the form's reach. -/
import Derived.Test.YtofflfacfjkikaaDoorPCtex
import Derived.Test.YtofflfacfjkikaaDoorInClientTells
import Derived.Lib.Bytes
import Derived.Laws.Bits64b
namespace Go.Proofs.YtofflfacfjkikaaDoor.Pure
open Go.RowKit Go.Proofs.YtofflfacfjkikaaDoor.PCte Go.Proofs.YtofflfacfjkikaaDoorW.PrintWords Go.Proofs.YtofflfacfjkikaaDoorW.PrintLast Go.Proofs.YtofflfacfjkikaaDoorW.PrintMore
set_option linter.unusedVariables false
set_option linter.unusedSimpArgs false

theorem w_id {x : Int} (h0 : -9223372036854775808 ≤ x) (h1 : x ≤ 9223372036854775807) : wrap64 x = x := by unfold wrap64; omega
theorem wf_i64 {a : Int} (h : (Lit.int .i64 a).wf = true) : -9223372036854775808 ≤ a ∧ a ≤ 9223372036854775807 := by
  simpa [Lit.wf, IntKind.min, IntKind.max, IntKind.signed, IntKind.bits] using h
theorem wf_u8 {a : Int} (h : (Lit.int .u8 a).wf = true) : 0 ≤ a ∧ a ≤ 255 := by
  simpa [Lit.wf, IntKind.min, IntKind.max, IntKind.signed, IntKind.bits] using h
/-- All are octets. -/
def Oct (l : List Int) : Prop := ∀ x ∈ l, 0 ≤ x ∧ x ≤ 255
theorem Oct.of_wf {l : List Int} (h : ∀ x ∈ l, (Lit.int .u8 x).wf = true) : Oct l := fun x hx => wf_u8 (h x hx)
theorem Oct.nil : Oct [] := fun _ h => by cases h
theorem Oct.append {a b : List Int} (ha : Oct a) (hb : Oct b) : Oct (a ++ b) := fun x hx => (List.mem_append.1 hx).elim (ha x) (hb x)
theorem Oct.take {a : List Int} (ha : Oct a) (n : Nat) : Oct (a.take n) := fun x hx => ha x (List.mem_of_mem_take hx)
theorem Oct.drop {a : List Int} (ha : Oct a) (n : Nat) : Oct (a.drop n) := fun x hx => ha x (List.mem_of_mem_drop hx)
theorem rd_nat (l : List Int) (k : Nat) (h : k < l.length) : rd l (k : Int) = l[k] := by
  unfold rd
  simp [List.getD_eq_getElem?_getD, h]

theorem sameBytes_loop (a b : List Int) (hl : a.length = b.length) (hm : a.length ≤ 9223372036854775807) : ∀ (d k i : Nat), i + d = a.length → d < k → a.take i = b.take i →
    undercroftplain_SameBytes.l0 k a b (i : Int) = some (decide (a = b)) := by
  intro d
  induction d with
  | zero =>
    intro k i hi hk ht
    obtain ⟨k, rfl⟩ : ∃ m, k = m + 1 := ⟨k - 1, by omega⟩
    simp only [undercroftplain_SameBytes.l0]
    rw [if_neg (by omega)]
    have : a = b := by
      rw [List.take_of_length_le (by omega), List.take_of_length_le (by omega)] at ht
      exact ht
    rw [decide_eq_true this]
  | succ d ih =>
    intro k i hi hk ht
    obtain ⟨k, rfl⟩ : ∃ m, k = m + 1 := ⟨k - 1, by omega⟩
    simp only [undercroftplain_SameBytes.l0]
    rw [if_pos (by omega), if_pos (by omega), if_pos (by omega), rd_nat a i (by omega), rd_nat b i (by omega)]
    by_cases h : a[i]'(by omega) = b[i]'(by omega)
    · rw [if_pos h, w_id (by omega) (by omega)]
      have := ih k (i + 1) (by omega) (by omega) (by
        rw [List.take_succ_eq_append_getElem (by omega), List.take_succ_eq_append_getElem (by omega), ht, h])
      exact_mod_cast this
    · rw [if_neg h]
      have : a ≠ b := by
        rintro rfl
        exact h rfl
      rw [decide_eq_false this]
theorem sameBytes_is (a b : List Int) (k : Nat) (hk : a.length < k) (hm : a.length ≤ 9223372036854775807) : undercroftplain_SameBytes.f k a b = some (decide (a = b)) := by
  unfold undercroftplain_SameBytes.f
  by_cases hl : a.length = b.length
  · rw [if_pos (by omega)]
    exact sameBytes_loop a b hl hm a.length k 0 (by omega) hk rfl
  · rw [if_neg (by omega)]
    have : a ≠ b := by
      rintro rfl
      exact hl rfl
    rw [decide_eq_false this]

theorem copyBytes_is (a : List Int) (h : a.length < 140737488355328) : undercroftplain_CopyBytes.f a = some a := by
  unfold undercroftplain_CopyBytes.f
  rw [if_pos (by simpa using h)]
  simp

namespace CrcMath
abbrev R := BitVec 32
def poly : R := 0xedb88320#32
def b1 (c : R) : R := (c >>> 1) ^^^ (if c.getLsbD 0 then poly else 0#32)
def bs : Nat → R → R
  | 0, c => c
  | n + 1, c => bs n (b1 c)
theorem b1_xor (a b : R) : b1 (a ^^^ b) = b1 a ^^^ b1 b := by
  unfold b1
  rw [BitVec.ushiftRight_xor_distrib, BitVec.getLsbD_xor]
  cases a.getLsbD 0 <;> cases b.getLsbD 0 <;> simp
  · ac_rfl
  · ac_rfl
  · rw [show a >>> 1 ^^^ poly ^^^ (b >>> 1 ^^^ poly) = (a >>> 1 ^^^ b >>> 1) ^^^ (poly ^^^ poly) by ac_rfl]
    simp
theorem bs_xor (n : Nat) (a b : R) : bs n (a ^^^ b) = bs n a ^^^ bs n b := by
  induction n generalizing a b with
  | zero => rfl
  | succ n ih => rw [bs, b1_xor, ih]; rfl
theorem bs_add (m n : Nat) (c : R) : bs (m + n) c = bs n (bs m c) := by
  induction m generalizing c with
  | zero => simp [bs]
  | succ m ih => rw [Nat.succ_add, bs, ih]; rfl
/-- Bits above the lowest n fall down. -/
theorem b1_even (c : R) (h : c.getLsbD 0 = false) : b1 c = c >>> 1 := by
  unfold b1
  rw [h]
  simp
theorem bs_high (n : Nat) (c : R) (h : ∀ i, i < n → c.getLsbD i = false) : bs n c = c >>> n := by
  induction n generalizing c with
  | zero => simp [bs]
  | succ n ih =>
    rw [bs, b1_even c (h 0 (by omega)), ih, ← BitVec.shiftRight_add]
    · rw [Nat.add_comm]
    · intro i hi
      rw [BitVec.getLsbD_ushiftRight]
      exact h _ (by omega)
/-- Four bits at once: a table of sixteen serves. -/
theorem bs4 (c : R) : bs 4 c = (c >>> 4) ^^^ bs 4 (c &&& 15#32) := by
  have hc : c = (c >>> 4 <<< 4) ^^^ (c &&& 15#32) := by
    apply BitVec.eq_of_getLsbD_eq
    intro i hi
    simp only [BitVec.getLsbD_xor, BitVec.getLsbD_shiftLeft, BitVec.getLsbD_ushiftRight, BitVec.getLsbD_and]
    by_cases h4 : i < 4
    · have : (15#32).getLsbD i = true := by
        rcases i with _ | _ | _ | _ | i <;> first | rfl | omega
      simp [h4, this]
    · have : (15#32).getLsbD i = false := by
        rw [show (15#32) = BitVec.ofNat 32 15 from rfl, BitVec.getLsbD_ofNat]
        have : Nat.testBit 15 i = false := Nat.testBit_lt_two_pow (Nat.lt_of_lt_of_le (by decide : 15 < 2 ^ 4) (Nat.pow_le_pow_right (by decide) (by omega)))
        simp [this]
      rw [this, show 4 + (i - 4) = i by omega]
      simp [h4, hi]
  have h1 : bs 4 (c >>> 4 <<< 4) = c >>> 4 := by
    rw [bs_high]
    · apply BitVec.eq_of_getLsbD_eq
      intro i hi
      simp only [BitVec.getLsbD_shiftLeft, BitVec.getLsbD_ushiftRight]
      by_cases h : 4 + i < 32
      · simp [h]
      · simp [h]
        exact (BitVec.getLsbD_of_ge _ _ (by omega))
    · intro i hi
      simp [BitVec.getLsbD_shiftLeft, hi]
  calc bs 4 c = bs 4 ((c >>> 4 <<< 4) ^^^ (c &&& 15#32)) := by rw [← hc]
    _ = _ := by rw [bs_xor, h1]
/-- An octet more. -/
def step (c : R) (x : BitVec 8) : R := bs 8 (c ^^^ x.setWidth 32)
def run (c : R) (l : List (BitVec 8)) : R := l.foldl step c
/-- Two texts of one length. -/
def mix : List (BitVec 8) → List (BitVec 8) → List (BitVec 8) := List.zipWith (· ^^^ ·)
/-- A register's octets, the lowest first. -/
def low (t : R) : List (BitVec 8) := [t.setWidth 8, (t >>> 8).setWidth 8, (t >>> 16).setWidth 8, (t >>> 24).setWidth 8]
def sum (c : R) (l : List (BitVec 8)) : R := ~~~ run (~~~ c) l
def rest : R := bs 32 0xffffffff#32
end CrcMath

open CrcMath
def reg (c : Int) : R := BitVec.ofInt 32 c
def oct (x : Int) : BitVec 8 := BitVec.ofInt 8 x
def num (r : R) : Int := (r.toNat : Int)
theorem num_range (r : R) : 0 ≤ num r ∧ num r ≤ 4294967295 := by unfold num; have := r.isLt; omega
theorem reg_num (r : R) : reg (num r) = r := by
  unfold reg num
  rw [BitVec.ofInt_natCast]
  simp
theorem num_reg (c : Int) (h0 : 0 ≤ c) (h1 : c ≤ 4294967295) : num (reg c) = c := by
  obtain ⟨n, rfl⟩ := Int.eq_ofNat_of_zero_le h0
  unfold reg num
  rw [BitVec.ofInt_natCast, BitVec.toNat_ofNat, Nat.mod_eq_of_lt (by omega)]
theorem xor_u32 (a b : Int) : Go.bits .xor .u32 a b = num (reg a ^^^ reg b) := by
  show IntKind.u32.wrap _ = _
  rw [IntKind.wrap_u32]
  have := (reg a ^^^ reg b).isLt
  show ((reg a ^^^ reg b).toNat : Int) % 4294967296 = ((reg a ^^^ reg b).toNat : Int)
  omega
theorem and_u32 (a b : Int) : Go.bits .and .u32 a b = num (reg a &&& reg b) := by
  show IntKind.u32.wrap _ = _
  rw [IntKind.wrap_u32]
  have := (reg a &&& reg b).isLt
  show ((reg a &&& reg b).toNat : Int) % 4294967296 = ((reg a &&& reg b).toNat : Int)
  omega
theorem reg_half (r : R) (n : Nat) : reg (num r / (2 ^ n : Nat)) = r >>> n := by
  unfold reg num
  rw [← Int.natCast_ediv, BitVec.ofInt_natCast]
  apply BitVec.eq_of_toNat_eq
  rw [BitVec.toNat_ofNat, BitVec.toNat_ushiftRight, Nat.shiftRight_eq_div_pow]
  exact Nat.mod_eq_of_lt (Nat.lt_of_le_of_lt (Nat.div_le_self _ _) r.isLt)
theorem nstep_is (r : R) : nstep (num r) = num (b1 r) := by
  unfold nstep b1
  rw [xor_u32, and_u32, and_u32, reg_num, reg_num, show num r / 2 = num r / (2 ^ 1 : Nat) by rfl, reg_half]
  congr 2
  by_cases h : r.getLsbD 0 = true
  · have e : r &&& reg 1 = 1#32 := by
      apply BitVec.eq_of_getLsbD_eq
      intro i hi
      rw [BitVec.getLsbD_and, show reg 1 = 1#32 by decide, BitVec.getLsbD_one]
      by_cases h0 : i = 0
      · subst h0; rw [h]; simp
      · simp [h0]
    rw [e, if_pos h]
    decide
  · have h' : r.getLsbD 0 = false := by simpa using h
    have e : r &&& reg 1 = 0#32 := by
      apply BitVec.eq_of_getLsbD_eq
      intro i hi
      rw [BitVec.getLsbD_and, show reg 1 = 1#32 by decide, BitVec.getLsbD_one]
      by_cases h0 : i = 0
      · subst h0; rw [h']; simp
      · simp [h0]
    rw [e, if_neg h]
    decide
theorem bs_out (n : Nat) (r : R) : bs (n + 1) r = b1 (bs n r) := by
  rw [bs_add]; rfl
theorem nibT_is (n : Nat) (r : R) : nibT n (num r) = num (bs n r) := by
  induction n with
  | zero => rfl
  | succ n ih => rw [nibT, ih, nstep_is, bs_out]
theorem hstep_is (r : R) : hstep (num r) = num (bs 4 r) := by
  unfold hstep
  rw [xor_u32, and_u32, reg_num, nibT_is, reg_num, show num r / 16 = num r / (2 ^ 4 : Nat) by rfl, reg_half, show reg 15 = 15#32 by decide, ← bs4]
theorem rstep_is (r : R) (x : Int) (h0 : 0 ≤ x) (h1 : x ≤ 255) : rstep (num r) x = num (CrcMath.step r (oct x)) := by
  unfold rstep CrcMath.step
  rw [xor_u32, reg_num, hstep_is, hstep_is, ← bs_add]
  congr 3
  unfold reg oct
  obtain ⟨n, rfl⟩ := Int.eq_ofNat_of_zero_le h0
  rw [Int.emod_eq_of_lt h0 (by omega), BitVec.ofInt_natCast, BitVec.ofInt_natCast]
  apply BitVec.eq_of_toNat_eq
  simp only [BitVec.toNat_ofNat, BitVec.toNat_setWidth]
  omega
theorem crcI_is (l : List Int) (hl : Oct l) (r : R) : crcI (num r) l = num (run r (l.map oct)) := by
  unfold crcI run
  induction l generalizing r with
  | nil => rfl
  | cons x l ih =>
    rw [List.foldl_cons, List.map_cons, List.foldl_cons, rstep_is r x (hl x (by simp)).1 (hl x (by simp)).2]
    exact ih (fun y hy => hl y (by simp [hy])) _
/-- The sum of octets, as a number. -/
def sumI (c : Int) (l : List Int) : Int := num (sum (reg c) (l.map oct))
theorem xor_ones (r : R) : reg 4294967295 ^^^ r = ~~~ r := by
  apply BitVec.eq_of_getLsbD_eq
  intro i hi
  rw [BitVec.getLsbD_xor, BitVec.getLsbD_not, show reg 4294967295 = BitVec.allOnes 32 by decide, BitVec.getLsbD_allOnes]
  simp [hi]
theorem extend_is (c : Int) (l : List Int) (hl : Oct l) : crc_Extend.f c l = some (sumI c l) := by
  unfold crc_Extend.f sumI sum
  rw [xor_u32, xor_u32, crcI_is _ hl, reg_num, xor_ones, xor_ones]
theorem sum_is (l : List Int) (hl : Oct l) : crc_Sum.f l = some (sumI 0 l) := by
  unfold crc_Sum.f
  rw [extend_is 0 l hl]
  rfl
/-- A number's four octets, the lowest first. -/
def lowI (c : Int) : List Int := [c % 256, c / 256 % 256, c / 65536 % 256, c / 16777216 % 256]
theorem lowI_oct (c : Int) : Oct (lowI c) := by
  intro x hx
  simp [lowI] at hx
  omega
theorem low_is (c : Int) (k : Nat) (hk : 5 ≤ k) : crc_low.f k c = some (lowI c) := by
  obtain ⟨k, rfl⟩ : ∃ m, k = m + 5 := ⟨k - 5, by omega⟩
  unfold crc_low.f
  rw [if_pos (by omega)]
  simp only [Option.bind_some, List.length_replicate]
  have e0 : wrap64 0 = 0 := w_id (by omega) (by omega)
  have e1 : wrap64 1 = 1 := w_id (by omega) (by omega)
  have e2 : wrap64 2 = 2 := w_id (by omega) (by omega)
  have e3 : wrap64 3 = 3 := w_id (by omega) (by omega)
  have e4 : wrap64 4 = 4 := w_id (by omega) (by omega)
  have e8 : wrap64 8 = 8 := w_id (by omega) (by omega)
  have e16 : wrap64 16 = 16 := w_id (by omega) (by omega)
  have e24 : wrap64 24 = 24 := w_id (by omega) (by omega)
  have s0 : shr .u32 c 0 = c := by simp [shr]
  have s1 : shr .u32 c 8 = c / 256 := by simp [shr, IntKind.bits]
  have s2 : shr .u32 c 16 = c / 65536 := by simp [shr, IntKind.bits]
  have s3 : shr .u32 c 24 = c / 16777216 := by simp [shr, IntKind.bits]
  show crc_low.l0 (k + 5) c [0, 0, 0, 0] 4 0 = _
  simp [crc_low.l0, e0, e1, e2, e3, e4, e8, e16, e24, s0, s1, s2, s3, lowI]
theorem seal_is (l : List Int) (hl : Oct l) (k : Nat) (hk : 5 ≤ k) (hm : l.length + 4 < 140737488355328) : crc_Seal.f k l = some (l ++ lowI (sumI 0 l)) := by
  unfold crc_Seal.f
  rw [sum_is l hl]
  simp only [Option.bind_some]
  rw [low_is _ k hk]
  simp only [Option.bind_some]
  unfold slices_Concat_byte_byte.f
  rw [if_pos (by simp [lowI]; omega)]
  simp
theorem equal_is (a b : List Int) (ha : Oct a) (hb : Oct b) : bytes_Equal.f a b = some (decide (a = b)) := by
  unfold bytes_Equal.f
  rw [Lib.strOfNums_toList, Lib.strOfNums_toList]
  congr 1
  by_cases h : a = b
  · subst h; simp
  · rw [decide_eq_false h]
    apply beq_eq_false_iff_ne.2
    intro e
    apply h
    unfold Lib.bytesOf at e
    apply List.ext_getElem
    · have := congrArg List.length e
      simpa using this
    · intro i h1 h2
      have := congrArg (fun l => l[i]?) e
      simp only [List.getElem?_map, List.getElem?_eq_getElem h1, List.getElem?_eq_getElem h2, Option.map_some, Option.some.injEq] at this
      have p := ha _ (List.getElem_mem h1)
      have q := hb _ (List.getElem_mem h2)
      have e2 := congrArg UInt8.toNat this
      simp only [UInt8.toNat_ofNat'] at e2
      omega
theorem open_short (y : List Int) (k : Nat) (h : y.length < 4) : crc_Open.f k y = some ([], 8) := by
  unfold crc_Open.f
  rw [if_pos (by omega)]
theorem open_is (y : List Int) (hy : Oct y) (k : Nat) (hk : 5 ≤ k) (h4 : 4 ≤ y.length) (hm : y.length < 140737488355328) :
    crc_Open.f k y = if y.drop (y.length - 4) = lowI (sumI 0 (y.take (y.length - 4))) then some (y.take (y.length - 4), 0) else some ([], 21) := by
  unfold crc_Open.f
  rw [if_neg (by omega), w_id (by omega) (by omega), if_pos (by omega), if_pos (by omega)]
  have e : ((y.length : Int) - 4).toNat = y.length - 4 := by omega
  rw [e, sum_is _ (hy.take _)]
  simp only [Option.bind_some]
  rw [low_is _ k hk]
  simp only [Option.bind_some]
  rw [equal_is _ _ (hy.drop _) (lowI_oct _)]
  simp only [Option.bind_some]
  by_cases h : y.drop (y.length - 4) = lowI (sumI 0 (y.take (y.length - 4)))
  · rw [if_pos h, if_pos (decide_eq_true h)]
    unfold bytes_Clone.f
    rw [if_pos (by rw [List.length_take]; omega)]
    rfl
  · rw [if_neg h, if_neg (by simpa using h)]
theorem ref_bits (x1 : List Int) (x5 : Int) : ∀ (d k i : Nat) (r : R), i + d = 8 → d < k →
    undercroftref02_Extend.l1 k (num r) x1 x5 (i : Int) = undercroftref02_Extend.l0 (k - d - 1) (num (bs d r)) x1 (wrap64 (x5 + 1)) := by
  intro d
  induction d with
  | zero =>
    intro k i r hi hk
    obtain ⟨k, rfl⟩ : ∃ m, k = m + 1 := ⟨k - 1, by omega⟩
    simp only [undercroftref02_Extend.l1]
    rw [if_neg (by omega)]
    simp [bs]
  | succ d ih =>
    intro k i r hi hk
    obtain ⟨k, rfl⟩ : ∃ m, k = m + 1 := ⟨k - 1, by omega⟩
    simp only [undercroftref02_Extend.l1]
    rw [if_pos (by omega), and_u32, reg_num]
    have hw : wrap64 ((i : Int) + 1) = ((i + 1 : Nat) : Int) := by rw [w_id (by omega) (by omega)]; omega
    have hh2 : reg (num r / (2 : Int)) = r >>> 1 := reg_half r 1
    have hh : num r / (2 : Int) = num (r >>> 1) := by
      have hr := num_range r
      rw [← hh2, num_reg _ (by omega) (by omega)]
    have key : ∀ r2, r2 = b1 r → undercroftref02_Extend.l1 k (num r2) x1 x5 (wrap64 ((i : Int) + 1)) = undercroftref02_Extend.l0 (k + 1 - (d + 1) - 1) (num (bs (d + 1) r)) x1 (wrap64 (x5 + 1)) := by
      rintro r2 rfl
      rw [hw, ih k (i + 1) (b1 r) (by omega) (by omega)]
      rw [show k + 1 - (d + 1) - 1 = k - d - 1 by omega]
      rfl
    by_cases h : r.getLsbD 0 = true
    · have e : r &&& reg 1 = 1#32 := by
        apply BitVec.eq_of_getLsbD_eq
        intro i hi
        rw [BitVec.getLsbD_and, show reg 1 = 1#32 by decide, BitVec.getLsbD_one]
        by_cases h0 : i = 0
        · subst h0; rw [h]; simp
        · simp [h0]
      rw [e, if_pos (by decide), xor_u32, hh2]
      apply key
      unfold b1
      rw [if_pos h]
      rfl
    · have h' : r.getLsbD 0 = false := by simpa using h
      have e : r &&& reg 1 = 0#32 := by
        apply BitVec.eq_of_getLsbD_eq
        intro i hi
        rw [BitVec.getLsbD_and, show reg 1 = 1#32 by decide, BitVec.getLsbD_one]
        by_cases h0 : i = 0
        · subst h0; rw [h']; simp
        · simp [h0]
      rw [e, if_neg (by decide), hh]
      apply key
      unfold b1
      rw [if_neg h]
      simp
theorem ref_loop (l : List Int) (hl : Oct l) (hm : l.length ≤ 9223372036854775806) : ∀ (d k i : Nat) (r : R), i + d = l.length → 10 * d < k →
    undercroftref02_Extend.l0 k (num r) l (i : Int) = some (num (~~~ run r ((l.drop i).map oct))) := by
  intro d
  induction d with
  | zero =>
    intro k i r hi hk
    obtain ⟨k, rfl⟩ : ∃ m, k = m + 1 := ⟨k - 1, by omega⟩
    simp only [undercroftref02_Extend.l0]
    rw [if_neg (by omega), List.drop_of_length_le (by omega), xor_u32, reg_num, xor_ones]
    rfl
  | succ d ih =>
    intro k i r hi hk
    obtain ⟨k, rfl⟩ : ∃ m, k = m + 1 := ⟨k - 1, by omega⟩
    simp only [undercroftref02_Extend.l0]
    have hlt : i < l.length := by omega
    rw [if_pos (by omega), if_pos (by omega), rd_nat l i hlt]
    have hx := hl l[i] (List.getElem_mem hlt)
    have e : Go.bits .xor .u32 (num r) (l[i] % 4294967296) = num (r ^^^ (oct l[i]).setWidth 32) := by
      rw [xor_u32, reg_num]
      congr 2
      unfold reg oct
      obtain ⟨n, hn⟩ := Int.eq_ofNat_of_zero_le hx.1
      rw [hn]
      rw [Int.emod_eq_of_lt (by omega) (by omega)]
      rw [BitVec.ofInt_natCast, BitVec.ofInt_natCast]
      apply BitVec.eq_of_toNat_eq
      simp only [BitVec.toNat_ofNat, BitVec.toNat_setWidth]
      omega
    have h8 := ref_bits l (i : Int) 8 k 0 (r ^^^ (oct l[i]).setWidth 32) (by omega) (by omega)
    rw [e]
    rw [show ((0 : Nat) : Int) = 0 from rfl] at h8
    rw [h8, w_id (by omega) (by omega)]
    have := ih (k - 8 - 1) (i + 1) (bs 8 (r ^^^ (oct l[i]).setWidth 32)) (by omega) (by omega)
    rw [show ((i : Int) + 1) = ((i + 1 : Nat) : Int) by omega, this]
    rw [List.drop_eq_getElem_cons hlt]
    rfl
theorem ref_extend_is (c : Int) (l : List Int) (hl : Oct l) (hm : l.length ≤ 9223372036854775806) (k : Nat) (hk : 10 * l.length < k) : undercroftref02_Extend.f k c l = some (sumI c l) := by
  unfold undercroftref02_Extend.f
  rw [xor_u32, xor_ones]
  have := ref_loop l hl hm l.length k 0 (~~~ reg c) (by omega) hk
  rw [show ((0 : Nat) : Int) = 0 from rfl] at this
  rw [this]
  simp [sumI, sum]
theorem ref_sum_is (l : List Int) (hl : Oct l) (hm : l.length ≤ 9223372036854775806) (k : Nat) (hk : 10 * l.length < k) : undercroftref02_Sum.f k l = some (sumI 0 l) := by
  unfold undercroftref02_Sum.f
  rw [ref_extend_is 0 l hl hm k hk]
  rfl

theorem copied_is (a : List Int) (h : a.length < 140737488355328) : undercroftref02_Copied.f a = some a := by
  unfold undercroftref02_Copied.f
  rw [if_pos (by simpa using h)]
  simp

theorem ref_seal_is (l : List Int) (hl : Oct l) (hm : l.length + 4 < 140737488355328) (k : Nat) (hk : 10 * l.length < k) : undercroftref02_Seal.f k l = some (l ++ lowI (sumI 0 l)) := by
  unfold undercroftref02_Seal.f
  rw [copied_is l (by omega)]
  simp only [Option.bind_some]
  rw [ref_sum_is l hl (by omega) k hk]
  simp only [Option.bind_some, undercroftref02_Low.f]
  rw [if_pos (by simpa using hm)]
  rfl

theorem ref_open_short (y : List Int) (k : Nat) (h : y.length < 4) : undercroftref02_Open.f k y = some ([], 8) := by
  unfold undercroftref02_Open.f
  rw [if_pos (by omega)]
theorem ref_open_loop (y c : List Int) (n : Nat) (hc : c.length = 4) (hn : n + 4 = y.length) (hm : y.length < 140737488355328) : ∀ (d k i : Nat), i + d = 4 → d < k → (y.drop n).take i = c.take i →
    undercroftref02_Open.l0 k y (n : Int) c (i : Int) = if y.drop n = c then some (y.take n, 0) else some ([], 21) := by
  intro d
  induction d with
  | zero =>
    intro k i hi hk he
    obtain ⟨k, rfl⟩ : ∃ m, k = m + 1 := ⟨k - 1, by omega⟩
    simp only [undercroftref02_Open.l0]
    rw [if_neg (by omega), if_pos (by omega), if_pos (by omega), Int.toNat_natCast, copied_is _ (by rw [List.length_take]; omega)]
    rw [List.take_of_length_le (by rw [List.length_drop]; omega), List.take_of_length_le (by omega)] at he
    rw [if_pos he]
    rfl
  | succ d ih =>
    intro k i hi hk he
    obtain ⟨k, rfl⟩ : ∃ m, k = m + 1 := ⟨k - 1, by omega⟩
    simp only [undercroftref02_Open.l0]
    have hw : wrap64 ((n : Int) + (i : Int)) = ((n + i : Nat) : Int) := by rw [w_id (by omega) (by omega)]; omega
    rw [if_pos (by omega), hw, if_pos (by omega), if_pos (by omega), if_pos (by omega), if_pos (by omega), rd_nat y (n + i) (by omega), rd_nat c i (by omega)]
    by_cases h : y[n + i]'(by omega) = c[i]'(by omega)
    · rw [if_pos h, w_id (by omega) (by omega)]
      have := ih k (i + 1) (by omega) (by omega) (by
        rw [List.take_succ_eq_append_getElem (by rw [List.length_drop]; omega), List.take_succ_eq_append_getElem (by omega), he, List.getElem_drop, h])
      exact_mod_cast this
    · rw [if_neg h, if_neg]
      intro e
      apply h
      have h2 : (y.drop n)[i]? = c[i]? := by rw [e]
      rw [List.getElem?_drop, List.getElem?_eq_getElem (by omega), List.getElem?_eq_getElem (by omega)] at h2
      exact Option.some.inj h2
theorem ref_open_is (y : List Int) (hy : Oct y) (k : Nat) (hk : 10 * y.length + 10 < k) (h4 : 4 ≤ y.length) (hm : y.length < 140737488355328) :
    undercroftref02_Open.f k y = if y.drop (y.length - 4) = lowI (sumI 0 (y.take (y.length - 4))) then some (y.take (y.length - 4), 0) else some ([], 21) := by
  unfold undercroftref02_Open.f
  rw [if_neg (by omega), w_id (by omega) (by omega), if_pos (by omega), if_pos (by omega)]
  have e : ((y.length : Int) - 4).toNat = y.length - 4 := by omega
  have e2 : ((y.length : Int) - 4) = ((y.length - 4 : Nat) : Int) := by omega
  rw [e, ref_sum_is _ (hy.take _) (by rw [List.length_take]; omega) k (by rw [List.length_take]; omega), e2]
  simp only [Option.bind_some, undercroftref02_Low.f]
  exact ref_open_loop y (lowI (sumI 0 (y.take (y.length - 4)))) (y.length - 4) rfl (by omega) hm 4 k 0 (by omega) (by omega) (by simp)

/-- A number in groups of 7 bits. -/
def encF : Nat → Nat → List Int
  | 0, m => [(m : Int)]
  | f + 1, m => if m ≤ 127 then [(m : Int)] else ((m % 128 + 128 : Nat) : Int) :: encF f (m / 128)
theorem or_128 : ∀ v : Nat, v < 256 → Go.bits .or .u8 (v : Int) 128 = ((v % 128 + 128 : Nat) : Int) := by decide +kernel
theorem and_127 : ∀ v : Nat, v < 256 → Go.bits .and .i64 (v : Int) 127 = ((v % 128 : Nat) : Int) := by decide +kernel
theorem groups_ev : ∀ (f m : Nat) (b : List Int), m < 128 ^ (f + 1) → b.length + f < 140737488355328 → Ev (fun k => wire_groups.l0 k b (m : Int)) (b ++ encF f m) := by
  intro f
  induction f with
  | zero =>
    intro m b hm hb
    have hm' : m < 128 := hm
    refine Ev.step (f := fun _ => some (b ++ [(m : Int)])) (fun k => ?_) (Ev.now _)
    rw [wire_groups.l0, if_neg (by omega), if_pos (by omega), show (m : Int) % 256 = (m : Int) by omega]
  | succ f ih =>
    intro m b hm hb
    by_cases h : m ≤ 127
    · rw [encF, if_pos h]
      refine Ev.step (f := fun _ => some (b ++ [(m : Int)])) (fun k => ?_) (Ev.now _)
      rw [wire_groups.l0, if_neg (by omega), if_pos (by omega), show (m : Int) % 256 = (m : Int) by omega]
    · have h2 : m / 128 < 128 ^ (f + 1) := by
        refine Nat.div_lt_of_lt_mul ?_
        rw [Nat.mul_comm]
        exact hm
      have e : b ++ encF (f + 1) m = (b ++ [((m % 128 + 128 : Nat) : Int)]) ++ encF f (m / 128) := by rw [encF, if_neg h, List.append_assoc]; rfl
      rw [e]
      refine Ev.step (f := fun k => wire_groups.l0 k (b ++ [((m % 128 + 128 : Nat) : Int)]) ((m / 128 : Nat) : Int)) (fun k => ?_) (ih (m / 128) _ h2 (by rw [List.length_append, List.length_singleton]; omega))
      have e1 : (m : Int) % 256 = ((m % 256 : Nat) : Int) := by omega
      have e2 : m % 256 % 128 + 128 = m % 128 + 128 := by omega
      rw [wire_groups.l0, if_pos (by omega), if_pos (by omega), e1, or_128 _ (by omega), e2]
      rfl
theorem encF_len : ∀ (f m : Nat), (encF f m).length ≤ f + 1 := by
  intro f
  induction f with
  | zero => intro m; exact Nat.le_refl _
  | succ f ih =>
    intro m
    rw [encF]
    split
    · simp
    · rw [List.length_cons]; have := ih (m / 128); omega
theorem encF_oct : ∀ (f m : Nat), m < 128 ^ (f + 1) → Oct (encF f m) := by
  intro f
  induction f with
  | zero =>
    intro m hm x hx
    have hm' : m < 128 := hm
    rw [encF, List.mem_singleton] at hx
    omega
  | succ f ih =>
    intro m hm
    rw [encF]
    split
    · intro x hx
      rw [List.mem_singleton] at hx
      omega
    · intro x hx
      rcases List.mem_cons.1 hx with h | h
      · omega
      · exact ih (m / 128) (by refine Nat.div_lt_of_lt_mul ?_; rw [Nat.mul_comm]; exact hm) x h
theorem gstep_is (N c i : Nat) (hc : c < 256) (hi : i ≤ 9) (hN : N < 2 ^ (7 * i)) (hX : (c % 128) * 2 ^ (7 * i) < 18446744073709551616) : gstep (N : Int) (c : Int) i = ((N + (c % 128) * 2 ^ (7 * i) : Nat) : Int) := by
  have hP : 2 ^ (7 * i) ≤ 9223372036854775808 := by
    have : 2 ^ (7 * i) ≤ 2 ^ 63 := Nat.pow_le_pow_right (by decide) (by omega)
    exact this
  unfold gstep
  rw [and_127 c hc]
  have e1 : IntKind.u64.wrap ((c % 128 : Nat) : Int) = ((c % 128 : Nat) : Int) := by rw [IntKind.wrap_u64]; omega
  have e2 : (((c % 128 : Nat) : Int) * 2 ^ (7 * i)) = (((c % 128) * 2 ^ (7 * i) : Nat) : Int) := by rw [Int.natCast_mul, Int.natCast_pow]; rfl
  rw [e1, e2]
  have e4 : N ||| (c % 128) * 2 ^ (7 * i) = N + (c % 128) * 2 ^ (7 * i) := by
    have := Nat.two_pow_add_eq_or_of_lt hN (c % 128)
    rw [Nat.or_comm, Nat.mul_comm, ← this, Nat.add_comm]
  generalize (c % 128) * 2 ^ (7 * i) = X at *
  have e3 : IntKind.u64.wrap (X : Int) = (X : Int) := by rw [IntKind.wrap_u64]; omega
  rw [e3, bits_or_u64_nat N X (by omega) hX, e4]
/-- A number with its sign. -/
def zN (n : Int) : Nat := if 0 ≤ n then (2 * n).toNat else (-2 * n - 1).toNat
theorem x0_i64 (x : Int) (h0 : -9223372036854775808 ≤ x) (h1 : x ≤ 9223372036854775807) : Go.bits .xor .i64 x 0 = x := by
  show IntKind.i64.wrap ((BitVec.ofInt 64 x ^^^ BitVec.ofInt 64 0).toNat : Int) = x
  have e : BitVec.ofInt 64 0 = 0#64 := rfl
  rw [e, BitVec.xor_zero, BitVec.toNat_ofInt, IntKind.wrap_i64]
  omega
theorem x1_i64 (x : Int) (h0 : -9223372036854775808 ≤ x) (h1 : x ≤ 9223372036854775807) : Go.bits .xor .i64 x (-1) = -x - 1 := by
  show IntKind.i64.wrap ((BitVec.ofInt 64 x ^^^ BitVec.ofInt 64 (-1)).toNat : Int) = -x - 1
  have e : BitVec.ofInt 64 (-1) = BitVec.allOnes 64 := by decide
  rw [e, BitVec.xor_allOnes, BitVec.toNat_not, BitVec.toNat_ofInt, IntKind.wrap_i64]
  omega
theorem z_is (n : Int) (h0 : -9223372036854775808 ≤ n) (h1 : n ≤ 9223372036854775807) : IntKind.u64.wrap (Go.bits .xor .i64 (wrap64 (n * 2)) (n / 9223372036854775808)) = ((zN n : Nat) : Int) := by
  have hw : -9223372036854775808 ≤ wrap64 (n * 2) ∧ wrap64 (n * 2) ≤ 9223372036854775807 := by unfold wrap64; omega
  unfold zN
  by_cases h : 0 ≤ n
  · rw [if_pos h, show n / 9223372036854775808 = 0 by omega, x0_i64 _ hw.1 hw.2, IntKind.wrap_u64]
    unfold wrap64
    omega
  · rw [if_neg h, show n / 9223372036854775808 = -1 by omega, x1_i64 _ hw.1 hw.2, IntKind.wrap_u64]
    unfold wrap64
    omega
theorem zN_lt (n : Int) (h0 : -9223372036854775808 ≤ n) (h1 : n ≤ 9223372036854775807) : zN n < 18446744073709551616 := by
  unfold zN
  split <;> omega
theorem unz_is (n : Int) (h0 : -9223372036854775808 ≤ n) (h1 : n ≤ 9223372036854775807) : unz ((zN n : Nat) : Int) = n := by
  have hlt := zN_lt n h0 h1
  have ha : Go.bits .and .u64 ((zN n : Nat) : Int) 1 = ((zN n % 2 : Nat) : Int) := by
    have h := bits_and_u64_nat (zN n) 1 hlt (by decide)
    rw [Nat.and_one_is_mod] at h
    exact h
  unfold unz
  rw [ha]
  by_cases h : 0 ≤ n
  · have e : ((zN n : Nat) : Int) = 2 * n := by unfold zN; rw [if_pos h]; omega
    have e1 : ((zN n % 2 : Nat) : Int) = 0 := by omega
    have e2 : wrap64 (((zN n : Nat) : Int) / 2) = n := by rw [e]; unfold wrap64; omega
    rw [e1, e2, show wrap64 (-(wrap64 0)) = 0 by unfold wrap64; omega, x0_i64 n h0 h1]
  · have e : ((zN n : Nat) : Int) = -2 * n - 1 := by unfold zN; rw [if_neg h]; omega
    have e1 : ((zN n % 2 : Nat) : Int) = 1 := by omega
    have e2 : wrap64 (((zN n : Nat) : Int) / 2) = -n - 1 := by rw [e]; unfold wrap64; omega
    rw [e1, e2, show wrap64 (-(wrap64 1)) = -1 by unfold wrap64; omega, x1_i64 _ (by omega) (by omega)]
    omega

def encN (n : Int) : List Int := encF 9 (zN n)
def encT (t : List Int) : List Int := encF 9 t.length ++ t
def sealW (l : List Int) : List Int := l ++ lowI (sumI 0 l)
def bodyI (kind : Int) (nums : List Int) (texts : List (List Int)) : List Int := [kind, (nums.length : Int)] ++ nums.flatMap encN ++ [(texts.length : Int)] ++ texts.flatMap encT
def checkW (kind : Int) (nums : List Int) (texts : List (List Int)) : Int := if kind < 0 ∨ 255 < kind then 22 else if 64 < nums.length ∨ 64 < texts.length then 3 else if texts.any (fun t => decide (4096 < t.length)) = true then 5 else 0
def I64 (n : Int) : Prop := -9223372036854775808 ≤ n ∧ n ≤ 9223372036854775807
theorem wnat {i : Nat} (h : i ≤ 4611686018427387904) : wrap64 ((i : Int) + 1) = ((i + 1 : Nat) : Int) := by unfold wrap64; omega
theorem rdL1_nat (l : List (List Int)) (i : Nat) (h : i < l.length) : rd_L1 l (i : Int) = l[i] := by
  unfold rd_L1
  simp [List.getD_eq_getElem?_getD, h]
theorem check_l0 (texts : List (List Int)) (hl : texts.length ≤ 64) : ∀ (d i : Nat), i + d = texts.length → Ev (fun k => wire_Check.l0 k texts (texts.length : Int) (i : Int)) (if (texts.drop i).any (fun t => decide (4096 < t.length)) = true then 5 else 0) := by
  intro d
  induction d with
  | zero =>
    intro i hi
    rw [List.drop_eq_nil_of_le (by omega)]
    refine Ev.step (f := fun _ => some 0) (fun k => ?_) (Ev.now _)
    rw [wire_Check.l0, if_neg (by omega)]
  | succ d ih =>
    intro i hi
    have hlt : i < texts.length := by omega
    rw [List.drop_eq_getElem_cons hlt, List.any_cons]
    by_cases h : 4096 < (texts[i]).length
    · rw [decide_eq_true h, Bool.true_or, if_pos rfl]
      refine Ev.step (f := fun _ => some 5) (fun k => ?_) (Ev.now _)
      rw [wire_Check.l0, if_pos (by omega), if_pos (by omega), if_pos (by omega), rdL1_nat texts i hlt, if_pos (by omega)]
    · rw [decide_eq_false h, Bool.false_or]
      refine Ev.step (f := fun k => wire_Check.l0 k texts (texts.length : Int) ((i + 1 : Nat) : Int)) (fun k => ?_) (ih (i + 1) (by omega))
      rw [wire_Check.l0, if_pos (by omega), if_pos (by omega), if_pos (by omega), rdL1_nat texts i hlt, if_neg (by omega), wnat (by omega)]
theorem check_is (kind : Int) (nums : List Int) (texts : List (List Int)) : Ev (fun k => wire_Check.f k kind nums texts) (checkW kind nums texts) := by
  have hj1 : ∀ b : Bool, (b = true ↔ 64 < nums.length ∨ 64 < texts.length) → Ev (fun k => wire_Check.j1 k b kind nums texts) (if 64 < nums.length ∨ 64 < texts.length then 3 else if texts.any (fun t => decide (4096 < t.length)) = true then 5 else 0) := by
    intro b hb
    by_cases h : 64 < nums.length ∨ 64 < texts.length
    · rw [if_pos h]
      refine Ev.step (f := fun _ => some 3) (fun k => ?_) (Ev.now _)
      rw [wire_Check.j1, if_pos (hb.2 h)]
    · rw [if_neg h]
      refine Ev.step (f := fun k => wire_Check.l0 k texts (texts.length : Int) ((0 : Nat) : Int)) (fun k => ?_) (check_l0 texts (by omega) texts.length 0 (by omega))
      rw [wire_Check.j1, if_neg (fun e => h (hb.1 e))]
      rfl
  have hj0 : ∀ b : Bool, (b = true ↔ kind < 0 ∨ 255 < kind) → Ev (fun k => wire_Check.j0 k b kind nums texts) (checkW kind nums texts) := by
    intro b hb
    unfold checkW
    by_cases h : kind < 0 ∨ 255 < kind
    · rw [if_pos h]
      refine Ev.step (f := fun _ => some 22) (fun k => ?_) (Ev.now _)
      rw [wire_Check.j0, if_pos (hb.2 h)]
    · rw [if_neg h]
      by_cases h2 : 64 < nums.length
      · refine Ev.step (f := fun k => wire_Check.j1 k true kind nums texts) (fun k => ?_) (hj1 true ⟨fun _ => .inl h2, fun _ => rfl⟩)
        rw [wire_Check.j0, if_neg (fun e => h (hb.1 e)), if_pos (by omega)]
      · refine Ev.step (f := fun k => wire_Check.j1 k (decide ((texts.length : Int) > 64)) kind nums texts) (fun k => ?_) (hj1 _ ⟨fun e => .inr (by have := of_decide_eq_true e; omega), fun e => decide_eq_true (by omega)⟩)
        rw [wire_Check.j0, if_neg (fun e => h (hb.1 e)), if_neg (by omega)]
  by_cases h : kind < 0
  · refine Ev.congr (f := fun k => wire_Check.j0 k true kind nums texts) (fun k => ?_) (hj0 true ⟨fun _ => .inl h, fun _ => rfl⟩)
    unfold wire_Check.f
    rw [if_pos h]
  · refine Ev.congr (f := fun k => wire_Check.j0 k (decide (kind > 255)) kind nums texts) (fun k => ?_) (hj0 _ ⟨fun e => .inr (by have := of_decide_eq_true e; omega), fun e => decide_eq_true (by omega)⟩)
    unfold wire_Check.f
    rw [if_neg h]
theorem check_zero {kind : Int} {nums : List Int} {texts : List (List Int)} (h : checkW kind nums texts = 0) : 0 ≤ kind ∧ kind ≤ 255 ∧ nums.length ≤ 64 ∧ texts.length ≤ 64 ∧ ∀ t ∈ texts, t.length ≤ 4096 := by
  unfold checkW at h
  split at h
  · omega
  · split at h
    · omega
    · split at h
      · omega
      · rename_i h1 h2 h3
        refine ⟨by omega, by omega, by omega, by omega, fun t ht => ?_⟩
        rcases Nat.lt_or_ge 4096 t.length with h4 | h4
        · exact absurd (List.any_eq_true.2 ⟨t, ht, decide_eq_true h4⟩) h3
        · exact h4
theorem flat_len {α : Type} (f : α → List Int) (n : Nat) : ∀ (l : List α), (∀ x ∈ l, (f x).length ≤ n) → (l.flatMap f).length ≤ l.length * n := by
  intro l
  induction l with
  | nil => intro _; simp
  | cons x r ih =>
    intro h
    have h1 := h x List.mem_cons_self
    have h2 := ih (fun y hy => h y (List.mem_cons_of_mem _ hy))
    rw [List.flatMap_cons, List.length_append, List.length_cons, Nat.add_mul]
    omega
theorem flat_oct {α : Type} (f : α → List Int) : ∀ (l : List α), (∀ x ∈ l, Oct (f x)) → Oct (l.flatMap f) := by
  intro l h x hx
  obtain ⟨y, hy, hxy⟩ := List.mem_flatMap.1 hx
  exact h y hy x hxy
theorem encN_len (n : Int) : (encN n).length ≤ 10 := encF_len 9 _
theorem pow128 : (128 : Nat) ^ (9 + 1) = 1180591620717411303424 := by decide
theorem encN_oct (n : Int) (h : I64 n) : Oct (encN n) := encF_oct 9 _ (by have := zN_lt n h.1 h.2; rw [pow128]; omega)
theorem enc_l1 (texts : List (List Int)) (hl : texts.length ≤ 64) (ht : ∀ t ∈ texts, t.length ≤ 4096 ∧ Oct t) : ∀ (d i : Nat) (b : List Int), i + d = texts.length → Oct b → b.length + d * 4106 ≤ 1000000 → Ev (fun k => wire_Encode.l1 k b texts (texts.length : Int) (i : Int)) (sealW (b ++ (texts.drop i).flatMap encT), 0) := by
  intro d
  induction d with
  | zero =>
    intro i b hi hb hlen
    rw [List.drop_eq_nil_of_le (by omega), List.flatMap_nil, List.append_nil]
    refine Ev.step (f := fun k => (crc_Seal.f k b).bind fun t => some (t, 0)) (fun k => ?_) (Ev.bind (a := sealW b) ⟨5, fun k hk => seal_is b hb k hk (by omega)⟩ (Ev.now _))
    rw [wire_Encode.l1, if_neg (by omega)]
  | succ d ih =>
    intro i b hi hb hlen
    have hlt : i < texts.length := by omega
    have h1 := ht _ (List.getElem_mem hlt)
    have e : b ++ (texts.drop i).flatMap encT = (b ++ encF 9 (texts[i]).length ++ texts[i]) ++ (texts.drop (i + 1)).flatMap encT := by
      rw [List.drop_eq_getElem_cons hlt, List.flatMap_cons, encT, List.append_assoc, List.append_assoc, List.append_assoc]
    rw [e]
    have hlen2 := encF_len 9 (texts[i]).length
    have hg := groups_ev 9 (texts[i]).length b (by rw [pow128]; omega) (by omega)
    refine Ev.step (f := fun k => (wire_groups.f k b ((texts[i]).length : Int)).bind fun t139 => if t139.length + (texts[i]).length < 140737488355328 then wire_Encode.l1 k (t139 ++ texts[i]) texts (texts.length : Int) ((i + 1 : Nat) : Int) else none) (fun k => ?_) (Ev.bind (a := b ++ encF 9 (texts[i]).length) hg ?_)
    · have hw : IntKind.u64.wrap ((texts[i]).length : Int) = ((texts[i]).length : Int) := by rw [IntKind.wrap_u64]; omega
      rw [wire_Encode.l1, if_pos (by omega), if_pos (by omega), if_pos (by omega), rdL1_nat texts i hlt, hw, wnat (by omega)]
    · refine Ev.congr (f := fun k => wire_Encode.l1 k (b ++ encF 9 (texts[i]).length ++ texts[i]) texts (texts.length : Int) ((i + 1 : Nat) : Int)) (fun k => if_pos (by rw [List.length_append]; omega)) (ih (i + 1) _ (by omega) ((hb.append (encF_oct 9 (texts[i]).length (by rw [pow128]; omega))).append h1.2) (by rw [List.length_append, List.length_append]; omega))
theorem enc_l0 (kind : Int) (nums : List Int) (texts : List (List Int)) (hn : ∀ x ∈ nums, I64 x) (hl : nums.length ≤ 64) (ht : texts.length ≤ 64) (R : List Int × Int) : ∀ (d i : Nat) (b : List Int), i + d = nums.length → b.length + d * 10 ≤ 100000 → Ev (fun k => wire_Encode.l1 k (b ++ (nums.drop i).flatMap encN ++ [(texts.length : Int)]) texts (texts.length : Int) ((0 : Nat) : Int)) R → Ev (fun k => wire_Encode.l0 k b nums (nums.length : Int) (i : Int) kind nums texts) R := by
  intro d
  induction d with
  | zero =>
    intro i b hi hlen hnext
    rw [List.drop_eq_nil_of_le (by omega), List.flatMap_nil, List.append_nil] at hnext
    refine Ev.step (f := fun k => wire_Encode.l1 k (b ++ [(texts.length : Int)]) texts (texts.length : Int) ((0 : Nat) : Int)) (fun k => ?_) hnext
    rw [wire_Encode.l0, if_neg (by omega), if_pos (by omega), show (texts.length : Int) % 256 = (texts.length : Int) by omega]
    rfl
  | succ d ih =>
    intro i b hi hlen hnext
    have hlt : i < nums.length := by omega
    have h1 := hn _ (List.getElem_mem hlt)
    have e : b ++ (nums.drop i).flatMap encN = (b ++ encN nums[i]) ++ (nums.drop (i + 1)).flatMap encN := by
      rw [List.drop_eq_getElem_cons hlt, List.flatMap_cons, List.append_assoc]
    rw [e] at hnext
    have hz := zN_lt nums[i] h1.1 h1.2
    have hlen2 := encN_len nums[i]
    have hg := groups_ev 9 (zN nums[i]) b (by rw [pow128]; omega) (by omega)
    refine Ev.step (f := fun k => (wire_groups.f k b ((zN nums[i] : Nat) : Int)).bind fun t132 => wire_Encode.l0 k t132 nums (nums.length : Int) ((i + 1 : Nat) : Int) kind nums texts) (fun k => ?_) (Ev.bind (a := b ++ encN nums[i]) hg (ih (i + 1) _ (by omega) (by rw [List.length_append]; omega) hnext))
    rw [wire_Encode.l0, if_pos (by omega), if_pos (by omega), if_pos (by omega), rd_nat nums i hlt, z_is _ h1.1 h1.2, wnat (by omega)]
theorem encode_is (kind : Int) (nums : List Int) (texts : List (List Int)) (hn : ∀ x ∈ nums, I64 x) (ht : ∀ t ∈ texts, Oct t) : Ev (fun k => wire_Encode.f k kind nums texts) (if checkW kind nums texts = 0 then (sealW (bodyI kind nums texts), 0) else ([], checkW kind nums texts)) := by
  unfold wire_Encode.f
  refine Ev.bind (check_is kind nums texts) ?_
  by_cases h : checkW kind nums texts = 0
  · obtain ⟨h0, h1, h2, h3, h4⟩ := check_zero h
    rw [if_pos h]
    have e1 := enc_l1 texts h3 (fun t m => ⟨h4 t m, ht t m⟩) texts.length 0 ([kind, (nums.length : Int)] ++ nums.flatMap encN ++ [(texts.length : Int)]) (by omega) (by
      refine Oct.append (Oct.append ?_ (flat_oct _ _ (fun x hx => encN_oct x (hn x hx)))) ?_
      · intro x hx
        simp at hx
        omega
      · intro x hx
        simp at hx
        omega) (by
      have := flat_len encN 10 nums (fun x _ => encN_len x)
      simp only [List.length_append, List.length_cons, List.length_nil]
      omega)
    have e0 := enc_l0 kind nums texts hn h2 h3 _ nums.length 0 [kind, (nums.length : Int)] (by omega) (by simp; omega) e1
    refine Ev.congr (f := fun k => wire_Encode.l0 k [kind, (nums.length : Int)] nums (nums.length : Int) ((0 : Nat) : Int) kind nums texts) (fun k => ?_) e0
    rw [if_pos h, show kind % 256 = kind by omega, show (nums.length : Int) % 256 = (nums.length : Int) by omega]
    rfl
  · rw [if_neg h]
    exact Ev.congr (f := fun _ => some ([], checkW kind nums texts)) (fun k => if_neg h) (Ev.now _)
theorem oct5_of {l : List Int} (h : Oct l) : oct5 l = true := List.all_eq_true.2 (fun x hx => by have := h x hx; simp; omega)
theorem groups_inv : ∀ (l : List Int) (i N : Nat) (m : Int) (r : List Int), Oct l → i ≤ 9 → N < 2 ^ (7 * i) → groupsI i (N : Int) l = ((m, none), r) → ∃ M : Nat, l = encF (9 - i) M ++ r ∧ m = ((N + M * 2 ^ (7 * i) : Nat) : Int) ∧ N + M * 2 ^ (7 * i) < 18446744073709551616 ∧ (0 < i → 0 < M) := by
  intro l
  induction l with
  | nil => intro i N m r _ _ _ h; simp [groupsI] at h
  | cons c s ih =>
    intro i N m r ho hi hN h
    have hc := ho c List.mem_cons_self
    have hos : Oct s := fun x hx => ho x (List.mem_cons_of_mem _ hx)
    by_cases hE : (i = 9 ∧ 1 < c) ∨ (0 < i ∧ c = 0)
    · rw [groupsI_err hE] at h
      simp at h
    obtain ⟨C, rfl⟩ : ∃ C : Nat, c = (C : Int) := ⟨c.toNat, by omega⟩
    have h9 : i = 9 → C ≤ 1 := fun e => by
      rcases Nat.lt_or_ge 1 C with h1 | h1
      · exact absurd (.inl ⟨e, by omega⟩) hE
      · exact h1
    have hP9 : i = 9 → 2 ^ (7 * i) = 9223372036854775808 := by rintro rfl; decide
    have hP8 : i ≤ 8 → 2 ^ (7 * i) ≤ 72057594037927936 := fun h => by
      have : 2 ^ (7 * i) ≤ 2 ^ 56 := Nat.pow_le_pow_right (by decide) (by omega)
      exact this
    have h0 : 0 < i → 0 < C := fun e => by
      rcases Nat.eq_zero_or_pos C with h1 | h1
      · exact absurd (.inr ⟨e, by omega⟩) hE
      · exact h1
    by_cases h8 : (C : Int) < 128
    · rw [groupsI_end hE h8] at h
      have hb : C * 2 ^ (7 * i) ≤ 127 * 2 ^ (7 * i) := Nat.mul_le_mul_right _ (by omega)
      have hX : N + C * 2 ^ (7 * i) < 18446744073709551616 := by
        by_cases h99 : i = 9
        · have h1 := h9 h99
          have h2 := hP9 h99
          have hb2 : C * 2 ^ (7 * i) ≤ 1 * 2 ^ (7 * i) := Nat.mul_le_mul_right _ h1
          omega
        · have := hP8 (by omega)
          omega
      have hs := gstep_is N C i (by omega) hi hN (by rw [show C % 128 = C by omega]; omega)
      rw [show C % 128 = C by omega] at hs
      rw [hs] at h
      simp only [Prod.mk.injEq, and_true] at h
      refine ⟨C, ?_, h.1.symm, hX, h0⟩
      rw [← h.2]
      have e : encF (9 - i) C = [(C : Int)] := by
        cases hf : 9 - i with
        | zero => rfl
        | succ f => rw [encF, if_pos (by omega)]
      rw [e]
      rfl
    · rw [groupsI_on hE h8] at h
      have hi8 : i ≤ 8 := by
        by_cases h99 : i = 9
        · have := h9 h99; omega
        · omega
      have hP := hP8 hi8
      have hP1 : 2 ^ (7 * (i + 1)) = 128 * 2 ^ (7 * i) := by rw [Nat.mul_add, Nat.pow_add, Nat.mul_comm]
      have hb : (C % 128) * 2 ^ (7 * i) ≤ 127 * 2 ^ (7 * i) := Nat.mul_le_mul_right _ (by omega)
      have hs := gstep_is N C i (by omega) hi hN (by omega)
      rw [hs] at h
      obtain ⟨M, e1, e2, e3, e4⟩ := ih (i + 1) (N + (C % 128) * 2 ^ (7 * i)) m r hos (by omega) (by rw [hP1]; omega) h
      have hM := e4 (by omega)
      have hsum : (C % 128) * 2 ^ (7 * i) + M * 2 ^ (7 * (i + 1)) = (128 * M + C % 128) * 2 ^ (7 * i) := by
        rw [hP1, Nat.add_mul, Nat.mul_comm 128 M, Nat.mul_assoc, Nat.add_comm]
      have hsum2 : N + (C % 128) * 2 ^ (7 * i) + M * 2 ^ (7 * (i + 1)) = N + (128 * M + C % 128) * 2 ^ (7 * i) := by rw [Nat.add_assoc, hsum]
      rw [hsum2] at e2 e3
      refine ⟨128 * M + C % 128, ?_, e2, e3, fun _ => by omega⟩
      rw [e1, show 9 - i = (9 - (i + 1)) + 1 by omega, encF, if_neg (by omega), show (128 * M + C % 128) % 128 + 128 = C by omega, show (128 * M + C % 128) / 128 = M by omega]
      rfl
theorem groups_inv0 (l : List Int) (m : Int) (r : List Int) (ho : Oct l) (h : groupsI 0 0 l = ((m, none), r)) : ∃ M : Nat, l = encF 9 M ++ r ∧ m = (M : Int) ∧ M < 18446744073709551616 := by
  obtain ⟨M, e1, e2, e3, _⟩ := groups_inv l 0 0 m r ho (by omega) (by decide) h
  rw [show 2 ^ (7 * 0) = 1 from rfl, Nat.mul_one, Nat.zero_add] at e2 e3
  exact ⟨M, e1, e2, e3⟩
theorem unz_inv (M : Nat) (h : M < 18446744073709551616) : I64 (unz (M : Int)) ∧ zN (unz (M : Int)) = M := by
  by_cases h2 : M % 2 = 0
  · have hn : I64 ((M / 2 : Nat) : Int) := by unfold I64; omega
    have hz : zN ((M / 2 : Nat) : Int) = M := by unfold zN; rw [if_pos (by omega)]; omega
    have hu := unz_is ((M / 2 : Nat) : Int) hn.1 hn.2
    rw [hz] at hu
    rw [hu]
    exact ⟨hn, hz⟩
  · have hn : I64 (-((M / 2 : Nat) : Int) - 1) := by unfold I64; omega
    have hz : zN (-((M / 2 : Nat) : Int) - 1) = M := by unfold zN; rw [if_neg (by omega)]; omega
    have hu := unz_is (-((M / 2 : Nat) : Int) - 1) hn.1 hn.2
    rw [hz] at hu
    rw [hu]
    exact ⟨hn, hz⟩
theorem Oct.of_app {a b : List Int} (h : Oct (a ++ b)) : Oct b := fun x hx => h x (List.mem_append_right a hx)
theorem nums_inv : ∀ (d : Nat) (acc l ns r : List Int), Oct l → numsLoop d acc l = ((ns, none), r) → ∃ xs : List Int, xs.length = d ∧ ns = acc ++ xs ∧ l = xs.flatMap encN ++ r ∧ ∀ x ∈ xs, I64 x := by
  intro d
  induction d with
  | zero =>
    intro acc l ns r _ h
    rw [numsLoop] at h
    simp only [Prod.mk.injEq, and_true] at h
    exact ⟨[], rfl, by rw [List.append_nil]; exact h.1.symm, by rw [h.2]; rfl, fun x hx => by cases hx⟩
  | succ d ih =>
    intro acc l ns r ho h
    rw [numsLoop] at h
    rcases hg : groupsI 0 0 l with ⟨⟨m, er⟩, l2⟩
    rw [hg] at h
    cases er with
    | some c => simp at h
    | none =>
      rw [if_pos rfl] at h
      obtain ⟨M, e1, rfl, hM⟩ := groups_inv0 l m l2 ho hg
      obtain ⟨hI, hz⟩ := unz_inv M hM
      obtain ⟨xs, x1, x2, x3, x4⟩ := ih _ l2 ns r (by rw [e1] at ho; exact ho.of_app) h
      refine ⟨unz (M : Int) :: xs, by rw [List.length_cons, x1], by rw [x2, List.append_assoc]; rfl, ?_, fun x hx => ?_⟩
      · rw [List.flatMap_cons, List.append_assoc, ← x3, e1]
        unfold encN
        rw [hz]
      · rcases List.mem_cons.1 hx with h | h
        · rw [h]; exact hI
        · exact x4 x h
theorem text_inv (l t r : List Int) (ho : Oct l) (h : textI l = ((t, none), r)) : l = encT t ++ r ∧ t.length ≤ 4096 := by
  unfold textI at h
  rcases hg : groupsI 0 0 l with ⟨⟨m, er⟩, l2⟩
  rw [hg] at h
  dsimp only at h
  cases er with
  | some c => simp at h
  | none =>
    rw [if_pos rfl] at h
    obtain ⟨M, e1, rfl, hM⟩ := groups_inv0 l m l2 ho hg
    by_cases hb : 4096 < (M : Int)
    · rw [if_pos hb] at h; simp at h
    · rw [if_neg hb, Int.toNat_natCast] at h
      unfold takeI at h
      by_cases hl : l2.length < M
      · rw [if_pos hl] at h; simp at h
      · rw [if_neg hl] at h
        simp only [Prod.mk.injEq, and_true] at h
        obtain ⟨rfl, rfl⟩ := h
        have hlen : (l2.take M).length = M := by rw [List.length_take]; omega
        refine ⟨?_, by omega⟩
        unfold encT
        rw [hlen, List.append_assoc, List.take_append_drop]
        exact e1
theorem texts_inv : ∀ (d : Nat) (acc : List (List Int)) (l : List Int) (ts : List (List Int)) (r : List Int), Oct l → textsLoop d acc l = ((ts, none), r) → ∃ xs : List (List Int), xs.length = d ∧ ts = acc ++ xs ∧ l = xs.flatMap encT ++ r ∧ ∀ t ∈ xs, t.length ≤ 4096 ∧ Oct t := by
  intro d
  induction d with
  | zero =>
    intro acc l ns r _ h
    rw [textsLoop] at h
    simp only [Prod.mk.injEq, and_true] at h
    exact ⟨[], rfl, by rw [List.append_nil]; exact h.1.symm, by rw [h.2]; rfl, fun x hx => by cases hx⟩
  | succ d ih =>
    intro acc l ts r ho h
    rw [textsLoop] at h
    rcases hg : textI l with ⟨⟨t, er⟩, l2⟩
    rw [hg] at h
    cases er with
    | some c => simp at h
    | none =>
      rw [if_pos rfl] at h
      obtain ⟨e1, e2⟩ := text_inv l t l2 ho hg
      have hot : Oct t := fun x hx => ho x (by rw [e1]; exact List.mem_append_left _ (by unfold encT; exact List.mem_append_right _ hx))
      obtain ⟨xs, x1, x2, x3, x4⟩ := ih _ l2 ts r (by rw [e1] at ho; exact ho.of_app) h
      refine ⟨t :: xs, by rw [List.length_cons, x1], by rw [x2, List.append_assoc]; rfl, by rw [List.flatMap_cons, List.append_assoc, ← x3, e1], fun y hy => ?_⟩
      rcases List.mem_cons.1 hy with h | h
      · rw [h]; exact ⟨e2, hot⟩
      · exact x4 y h
theorem count_inv (l r : List Int) (n : Int) (h : countI 64 l = ((n, none), r)) : l = n :: r ∧ n ≤ 64 := by
  have hle := countI_le h
  refine ⟨?_, hle⟩
  unfold countI at h
  split at h
  · simp at h
  · cases l with
    | nil => simp [octetI] at h
    | cons x s =>
      simp only [octetI, Prod.mk.injEq, and_true] at h
      rw [h.1, h.2]
theorem numsI_inv (l ns r : List Int) (ho : Oct l) (h : numsI l = ((ns, none), r)) : l = (ns.length : Int) :: (ns.flatMap encN ++ r) ∧ ns.length ≤ 64 ∧ ∀ x ∈ ns, I64 x := by
  unfold numsI at h
  rcases hc : countI 64 l with ⟨⟨n, er⟩, l2⟩
  rw [hc] at h
  unfold numsGo at h
  cases er with
  | some c => simp at h
  | none =>
    rw [if_pos rfl] at h
    obtain ⟨e1, e2⟩ := count_inv l l2 n hc
    have hn := ho n (by rw [e1]; exact List.mem_cons_self)
    obtain ⟨xs, x1, x2, x3, x4⟩ := nums_inv _ _ l2 ns r (fun x hx => ho x (by rw [e1]; exact List.mem_cons_of_mem _ hx)) h
    rw [List.nil_append] at x2
    subst x2
    dsimp only at x1
    refine ⟨?_, by omega, x4⟩
    rw [e1, ← x3, show ((ns.length : Nat) : Int) = n by omega]
theorem textsI_inv (l : List Int) (ts : List (List Int)) (r : List Int) (ho : Oct l) (h : textsI l = ((ts, none), r)) : l = (ts.length : Int) :: (ts.flatMap encT ++ r) ∧ ts.length ≤ 64 ∧ ∀ t ∈ ts, t.length ≤ 4096 ∧ Oct t := by
  unfold textsI at h
  rcases hc : countI 64 l with ⟨⟨n, er⟩, l2⟩
  rw [hc] at h
  unfold textsGo at h
  cases er with
  | some c => simp at h
  | none =>
    rw [if_pos rfl] at h
    obtain ⟨e1, e2⟩ := count_inv l l2 n hc
    have hn := ho n (by rw [e1]; exact List.mem_cons_self)
    obtain ⟨xs, x1, x2, x3, x4⟩ := texts_inv _ _ l2 ts r (fun x hx => ho x (by rw [e1]; exact List.mem_cons_of_mem _ hx)) h
    rw [List.nil_append] at x2
    subst x2
    dsimp only at x1
    refine ⟨?_, by omega, x4⟩
    rw [e1, ← x3, show ((ts.length : Nat) : Int) = n by omega]
theorem octet_inv {q l1 : List Int} {x : Int} (h : octetI q = ((x, none), l1)) : q = x :: l1 := by
  cases q with
  | nil => simp [octetI] at h
  | cons y s =>
    simp only [octetI, Prod.mk.injEq, and_true] at h
    rw [h.1, h.2]
theorem octet_bad {q l1 : List Int} {x c : Int} (h : octetI q = ((x, some c), l1)) : c = 8 := by
  cases q with
  | nil => simp [octetI] at h; omega
  | cons y s => simp [octetI] at h
theorem rec_inv (q : List Int) (ho : Oct q) (k : Int) (n : List Int) (t : List (List Int)) (h : recI q = .good k n t) : q = bodyI k n t ∧ checkW k n t = 0 ∧ (∀ x ∈ n, I64 x) ∧ ∀ y ∈ t, Oct y := by
  unfold recI at h
  rcases h1 : octetI q with ⟨⟨x, e1⟩, l1⟩
  rw [h1] at h
  cases e1 with
  | some c => simp at h
  | none =>
    simp only at h
    obtain rfl := octet_inv h1
    have hx := ho x List.mem_cons_self
    have ho1 : Oct l1 := fun y hy => ho y (List.mem_cons_of_mem _ hy)
    rcases h2 : numsI l1 with ⟨⟨ns, e2⟩, l2⟩
    rw [h2] at h
    cases e2 with
    | some c => simp at h
    | none =>
      simp only at h
      obtain ⟨a1, a2, a3⟩ := numsI_inv l1 ns l2 ho1 h2
      have ho2 : Oct l2 := fun y hy => ho1 y (by rw [a1]; exact List.mem_cons_of_mem _ (List.mem_append_right _ hy))
      rcases h3 : textsI l2 with ⟨⟨ts, e3⟩, l3⟩
      rw [h3] at h
      cases e3 with
      | some c => simp at h
      | none =>
        simp only at h
        obtain ⟨b1, b2, b3⟩ := textsI_inv l2 ts l3 ho2 h3
        by_cases h4 : 0 < l3.length
        · rw [if_pos h4] at h; cases h
        · rw [if_neg h4] at h
          have hl3 : l3 = [] := List.eq_nil_of_length_eq_zero (by omega)
          injection h with c1 c2 c3
          subst c1 c2 c3
          refine ⟨?_, ?_, a3, fun y hy => (b3 y hy).2⟩
          · unfold bodyI
            rw [a1, b1, hl3]
            simp
          · unfold checkW
            rw [if_neg (by omega), if_neg (by omega), if_neg]
            intro h5
            obtain ⟨y, hy, h6⟩ := List.any_eq_true.1 h5
            have := (b3 y hy).1
            have := of_decide_eq_true h6
            omega
theorem groups_bad : ∀ (l : List Int) (i : Nat) (n : Int) (c : Int), (groupsI i n l).1.2 = some c → c ≠ 0 := by
  intro l
  induction l with
  | nil => intro i n c h; simp [groupsI] at h; omega
  | cons x s ih =>
    intro i n c h
    rw [groupsI] at h
    split at h
    · simp at h; omega
    · split at h
      · simp at h
      · exact ih _ _ c h
theorem count_bad (l : List Int) (m c : Int) (h : (countI m l).1.2 = some c) : c ≠ 0 := by
  unfold countI at h
  split at h
  · simp at h; omega
  · cases l with
    | nil => simp [octetI] at h; omega
    | cons x s => simp [octetI] at h
theorem nums_bad : ∀ (d : Nat) (acc l : List Int) (c : Int), (numsLoop d acc l).1.2 = some c → c ≠ 0 := by
  intro d
  induction d with
  | zero => intro acc l c h; simp [numsLoop] at h
  | succ d ih =>
    intro acc l c h
    rw [numsLoop] at h
    split at h
    · exact ih _ _ c h
    · exact groups_bad l 0 0 c h
theorem text_bad (l : List Int) (c : Int) (h : (textI l).1.2 = some c) : c ≠ 0 := by
  unfold textI at h
  split at h
  · split at h
    · simp at h; omega
    · unfold takeI at h
      split at h
      · simp at h; omega
      · simp at h
  · exact groups_bad l 0 0 c h
theorem texts_bad : ∀ (d : Nat) (acc : List (List Int)) (l : List Int) (c : Int), (textsLoop d acc l).1.2 = some c → c ≠ 0 := by
  intro d
  induction d with
  | zero => intro acc l c h; simp [textsLoop] at h
  | succ d ih =>
    intro acc l c h
    rw [textsLoop] at h
    split at h
    · exact ih _ _ c h
    · exact text_bad l c h
theorem rec_bad_ne (q : List Int) (c : Int) (h : recI q = .bad c) : c ≠ 0 := by
  unfold recI at h
  rcases h1 : octetI q with ⟨⟨x, e1⟩, l1⟩
  rw [h1] at h
  cases e1 with
  | some c1 =>
    simp only at h
    injection h with h
    have := octet_bad h1
    omega
  | none =>
    simp only at h
    rcases h2 : numsI l1 with ⟨⟨ns, e2⟩, l2⟩
    rw [h2] at h
    cases e2 with
    | some c1 =>
      simp only at h
      injection h with h
      subst h
      have e : (numsI l1).1.2 = some c1 := by rw [h2]
      unfold numsI numsGo at e
      split at e
      · exact nums_bad _ _ _ c1 e
      · exact count_bad _ _ c1 e
    | none =>
      simp only at h
      rcases h3 : textsI l2 with ⟨⟨ts, e3⟩, l3⟩
      rw [h3] at h
      cases e3 with
      | some c1 =>
        simp only at h
        injection h with h
        subst h
        have e : (textsI l2).1.2 = some c1 := by rw [h3]
        unfold textsI textsGo at e
        split at e
        · exact texts_bad _ _ _ c1 e
        · exact count_bad _ _ c1 e
      | none =>
        simp only at h
        split at h
        · injection h with h; omega
        · cases h

def decI (y : List Int) : Int × List Int × List (List Int) × Int :=
  if y.length < 4 then (0, [], [], 8) else if y.drop (y.length - 4) = lowI (sumI 0 (y.take (y.length - 4))) then (match recI (y.take (y.length - 4)) with | .good k n t => (k, n, t, 0) | .bad c => (0, [], [], c)) else (0, [], [], 21)
theorem decode_is (y : List Int) (hy : Oct y) (hm : y.length < 140737488355328) : Ev (fun k => wire_Decode.f k y) (decI y) := by
  unfold wire_Decode.f decI
  by_cases h4 : y.length < 4
  · rw [if_pos h4]
    refine Ev.bind (a := ([], 8)) ⟨0, fun k _ => open_short y k h4⟩ ?_
    exact Ev.congr (f := fun _ => some (0, [], [], 8)) (fun k => if_neg (show ¬ (([] : List Int), (8 : Int)).2 = 0 by decide)) (Ev.now _)
  · rw [if_neg h4]
    have hop := fun k hk => open_is y hy k hk (by omega) hm
    by_cases hs : y.drop (y.length - 4) = lowI (sumI 0 (y.take (y.length - 4)))
    · rw [if_pos hs]
      refine Ev.bind (a := (y.take (y.length - 4), 0)) ⟨5, fun k hk => by show crc_Open.f k y = _; rw [hop k hk, if_pos hs]⟩ ?_
      cases hr : recI (y.take (y.length - 4)) with
      | good kk n t =>
        refine Ev.congr (f := fun _ => some (kk, n, t, 0)) (fun k => ?_) (Ev.now _)
        dsimp only
        rw [if_pos rfl, if_pos (oct5_of (hy.take _))]
      | bad c =>
        refine Ev.congr (f := fun _ => some (0, [], [], c)) (fun k => ?_) (Ev.now _)
        dsimp only
        rw [if_pos rfl, if_pos (oct5_of (hy.take _))]
    · rw [if_neg hs]
      refine Ev.bind (a := ([], 21)) ⟨5, fun k hk => by show crc_Open.f k y = _; rw [hop k hk, if_neg hs]⟩ ?_
      exact Ev.congr (f := fun _ => some (0, [], [], 21)) (fun k => if_neg (show ¬ (([] : List Int), (21 : Int)).2 = 0 by decide)) (Ev.now _)
/-- What is read is built again; what is not read has a code, and is no record. -/
theorem dec_two (y : List Int) (hy : Oct y) : (∃ c, c ≠ 0 ∧ decI y = (0, [], [], c)) ∨ (∃ k n t, decI y = (k, n, t, 0) ∧ y = sealW (bodyI k n t) ∧ checkW k n t = 0 ∧ (∀ x ∈ n, I64 x) ∧ ∀ z ∈ t, Oct z) := by
  unfold decI
  by_cases h4 : y.length < 4
  · exact .inl ⟨8, by decide, if_pos h4⟩
  · rw [if_neg h4]
    by_cases hs : y.drop (y.length - 4) = lowI (sumI 0 (y.take (y.length - 4)))
    · rw [if_pos hs]
      cases hr : recI (y.take (y.length - 4)) with
      | good k n t =>
        obtain ⟨e1, e2, e3, e4⟩ := rec_inv _ (hy.take _) k n t hr
        refine .inr ⟨k, n, t, rfl, ?_, e2, e3, e4⟩
        rw [← e1]
        unfold sealW
        rw [← hs, List.take_append_drop]
      | bad c => exact .inl ⟨c, rec_bad_ne _ c hr, rfl⟩
    · exact .inl ⟨21, by decide, if_neg hs⟩

abbrev SC := S86
/-- The reference's row for the program, and back. -/
theorem rdC (l : List SC) (i : Nat) (h : i < l.length) : rd_T86 l (i : Int) = l[i] := by
  unfold rd_T86
  rw [Int.toNat_natCast, List.getD_eq_getElem?_getD, List.getElem?_eq_getElem h]; rfl
/-- May a session ask under a number? -/
def whoOk (s n : Int) : Bool := decide (1 ≤ s) && decide (s ≤ 2147483647) && decide (1 ≤ n) && decide (n ≤ 1099511627776)
theorem may_is (s n : Int) : client_may.f s n = some (whoOk s n) := by
  unfold client_may.f whoOk
  by_cases h1 : s ≥ 1
  · rw [if_pos h1]
    by_cases h2 : s ≤ 2147483647
    · rw [if_pos h2]
      by_cases h3 : n ≥ 1
      · rw [if_pos h3]; simp [show (1 : Int) ≤ s from h1, h2, show (1 : Int) ≤ n from h3]
      · rw [if_neg h3]; simp [show ¬ (1 : Int) ≤ n from h3]
    · rw [if_neg h2]; simp [h2]
  · rw [if_neg h1]; simp [show ¬ (1 : Int) ≤ s from h1]
def stepOk (l : List SC) (i : Nat) : Bool := whoOk (l.getD i z86).f0 (l.getD i z86).f1 && decide ((l.getD i z86).f2.length ≤ 4096) && (i == 0 || decide ((l.getD (i - 1) z86).f0 < (l.getD i z86).f0))
theorem getD_lt (l : List SC) (i : Nat) (h : i < l.length) : l.getD i z86 = l[i] := by
  simp [List.getD_eq_getElem?_getD, h]
theorem clcheck_loop (l : List SC) (hl : l.length ≤ 140737488351232) : ∀ (d i : Nat), i + d = l.length → Ev (fun k => client_Check.l0 k l l (l.length : Int) (i : Int)) (if (List.range' i d).all (fun i => decide (i < 64) && stepOk l i) = true then 0 else 9) := by
  intro d
  induction d with
  | zero =>
    intro i hi
    refine Ev.step (f := fun _ => some 0) (fun k => ?_) (by simp; exact Ev.now _)
    simp only [client_Check.l0]
    rw [if_neg (by omega)]
  | succ d ih =>
    intro i hi
    rw [List.range'_succ, List.all_cons]
    have hlt : i < l.length := by omega
    have hx := rdC l i hlt
    have hst : stepOk l i = (whoOk l[i].f0 l[i].f1 && decide (l[i].f2.length ≤ 4096) && (i == 0 || decide ((l.getD (i - 1) z86).f0 < l[i].f0))) := by unfold stepOk; rw [getD_lt l i hlt]
    have bad : ∀ (b : Bool), b = false → Ev (fun _ => some (9 : Int)) (if (b && (List.range' (i + 1) d).all (fun i => decide (i < 64) && stepOk l i)) = true then 0 else 9) := fun b hb => by
      rw [hb, Bool.false_and, if_neg (by decide)]; exact Ev.now _
    by_cases h64 : i < 64
    case neg =>
      refine Ev.step (f := fun _ => some 9) (fun k => ?_) (bad _ (by simp [h64]))
      simp only [client_Check.l0]
      rw [if_pos (by omega), if_pos (by omega), if_pos (by omega), if_pos (by omega)]
    cases hw : whoOk l[i].f0 l[i].f1 with
    | false =>
      refine Ev.step (f := fun _ => some 9) (fun k => ?_) (bad _ (by rw [hst, hw]; simp))
      simp only [client_Check.l0]
      rw [if_pos (by omega), if_pos (by omega), if_pos (by omega), if_neg (by omega), hx, may_is, hw]; rfl
    | true =>
      by_cases hlen : l[i].f2.length ≤ 4096
      case neg =>
        refine Ev.step (f := fun _ => some 9) (fun k => ?_) (bad _ (by rw [hst, hw]; simp [hlen]))
        simp only [client_Check.l0]
        rw [if_pos (by omega), if_pos (by omega), if_pos (by omega), if_neg (by omega), hx, may_is, hw]
        simp only [Option.bind_some]
        rw [if_pos trivial, if_pos (by omega)]
      by_cases h0 : i = 0
      · subst h0
        have e : (decide (0 < 64) && stepOk l 0) = true := by rw [hst, hw]; simp [hlen]
        rw [e, Bool.true_and]
        refine Ev.step (f := fun k => client_Check.l0 k l l (l.length : Int) ((0 + 1 : Nat) : Int)) (fun k => ?_) (ih 1 (by omega))
        simp only [client_Check.l0]
        rw [if_pos (by omega), if_pos (by omega), if_pos (by omega), if_neg (by omega), hx, may_is, hw]
        simp only [Option.bind_some]
        rw [if_pos trivial, if_neg (by omega), if_neg (by omega), w_id (by omega) (by omega)]
        rfl
      · have hp := rdC l (i - 1) (by omega)
        have e1 : ((i - 1 : Nat) : Int) = (i : Int) - 1 := by omega
        rw [e1] at hp
        have hg := getD_lt l (i - 1) (by omega)
        by_cases hlt2 : l[i - 1].f0 < l[i].f0
        · have e : (decide (i < 64) && stepOk l i) = true := by rw [hst, hw, hg]; simp [hlen, h64, hlt2]
          rw [e, Bool.true_and]
          refine Ev.step (f := fun k => client_Check.l0 k l l (l.length : Int) ((i + 1 : Nat) : Int)) (fun k => ?_) (ih (i + 1) (by omega))
          simp only [client_Check.l0]
          rw [if_pos (by omega), if_pos (by omega), if_pos (by omega), if_neg (by omega), hx, may_is, hw]
          simp only [Option.bind_some]
          rw [if_pos trivial, if_neg (by omega), if_pos (by omega), w_id (by omega) (by omega), if_pos (by omega), if_pos (by omega), hp, if_neg (by omega), w_id (by omega) (by omega)]
          rfl
        · refine Ev.step (f := fun _ => some 9) (fun k => ?_) (bad _ (by rw [hst, hw, hg]; simp [hlen, h64, hlt2, h0]))
          simp only [client_Check.l0]
          rw [if_pos (by omega), if_pos (by omega), if_pos (by omega), if_neg (by omega), hx, may_is, hw]
          simp only [Option.bind_some]
          rw [if_pos trivial, if_neg (by omega), if_pos (by omega), w_id (by omega) (by omega), if_pos (by omega), if_pos (by omega), hp, if_pos (by omega)]
def Rising (l : List SC) : Prop := l.Pairwise (fun a b => a.f0 < b.f0)
/-- May a table be? -/
def Good (l : List SC) : Prop := l.length ≤ 64 ∧ (∀ x ∈ l, whoOk x.f0 x.f1 = true ∧ x.f2.length ≤ 4096) ∧ Rising l
instance (l : List SC) : Decidable (Good l) := by unfold Good Rising; infer_instance
def checkI (l : List SC) : Int := if Good l then 0 else 9
theorem good_iff (l : List SC) : (List.range l.length).all (fun i => decide (i < 64) && stepOk l i) = true ↔ Good l := by
  unfold Good Rising
  rw [List.all_eq_true]
  constructor
  · intro h
    have hs : ∀ i, i < l.length → i < 64 ∧ stepOk l i = true := fun i hi => by
      have := h i (List.mem_range.2 hi)
      simpa using this
    refine ⟨?_, fun x hx => ?_, ?_⟩
    · rcases Nat.lt_or_ge 64 l.length with h | h
      · have := (hs 64 h).1; omega
      · exact h
    · obtain ⟨i, hi, rfl⟩ := List.getElem_of_mem hx
      have := (hs i hi).2
      simp only [stepOk, Bool.and_eq_true, getD_lt l i hi, decide_eq_true_eq] at this
      exact ⟨this.1.1, this.1.2⟩
    · rw [List.pairwise_iff_getElem]
      have adj : ∀ i (hi : i + 1 < l.length), (l[i]'(by omega)).f0 < l[i + 1].f0 := fun i hi => by
        have := (hs (i + 1) hi).2
        simp only [stepOk, Bool.and_eq_true, getD_lt l (i + 1) hi, Nat.add_sub_cancel, getD_lt l i (by omega)] at this
        simpa using this.2
      intro i j hi hj hij
      obtain ⟨d, rfl⟩ : ∃ d, j = i + 1 + d := ⟨j - i - 1, by omega⟩
      clear hij
      induction d with
      | zero => exact adj i hj
      | succ d ih => exact Int.lt_trans (ih (by omega)) (adj (i + 1 + d) hj)
  · rintro ⟨h0, h1, h2⟩ i hi
    have hi := List.mem_range.1 hi
    have h64 : i < 64 := by omega
    simp only [stepOk, Bool.and_eq_true, getD_lt l i hi, decide_eq_true_eq]
    refine ⟨h64, ⟨(h1 _ (List.getElem_mem hi)).1, (h1 _ (List.getElem_mem hi)).2⟩, ?_⟩
    by_cases h0 : i = 0
    · simp [h0]
    · rw [getD_lt l (i - 1) (by omega)]
      have := (List.pairwise_iff_getElem.1 h2) (i - 1) i (by omega) hi (by omega)
      simp [this]
theorem checkI_is (l : List SC) : (if (List.range' 0 l.length).all (fun i => decide (i < 64) && stepOk l i) = true then (0 : Int) else 9) = checkI l := by
  unfold checkI
  have := good_iff l
  rw [List.range_eq_range'] at this
  by_cases h : (List.range' 0 l.length).all (fun i => decide (i < 64) && stepOk l i) = true
  · rw [if_pos h, if_pos (this.1 h)]
  · rw [if_neg h, if_neg (fun g => h (this.2 g))]
theorem cl_check (l : List SC) (hl : l.length ≤ 140737488351232) : Ev (fun k => client_Check.f k l) (checkI l) := by
  rw [← checkI_is l]
  exact clcheck_loop l hl l.length 0 (by omega)
/-- What lies ahead of a session, what does not, and what lies behind it. -/
def lo (l : List SC) (s : Int) : List SC := l.filter fun y => decide (y.f0 < s)
def hi (l : List SC) (s : Int) : List SC := l.filter fun y => !decide (y.f0 < s)
def fnd (l : List SC) (s : Int) : Option SC := l.find? fun y => y.f0 == s
theorem lo_cons (y : SC) (l : List SC) (s : Int) : lo (y :: l) s = if y.f0 < s then y :: lo l s else lo l s := by
  unfold lo; rw [List.filter_cons]; by_cases h : y.f0 < s <;> simp [h]
theorem hi_cons (y : SC) (l : List SC) (s : Int) : hi (y :: l) s = if y.f0 < s then hi l s else y :: hi l s := by
  unfold hi; rw [List.filter_cons]; by_cases h : y.f0 < s <;> simp [h]
theorem lo_none {l : List SC} {s : Int} (h : ∀ x ∈ l, s ≤ x.f0) : lo l s = [] := by
  unfold lo; rw [List.filter_eq_nil_iff]; intro x hx; have := h x hx; simp; omega
theorem hi_all {l : List SC} {s : Int} (h : ∀ x ∈ l, s ≤ x.f0) : hi l s = l := by
  unfold hi; rw [List.filter_eq_self]; intro x hx; have := h x hx; simp; omega
theorem fnd_none {l : List SC} {s : Int} (h : ∀ x ∈ l, s < x.f0) : fnd l s = none := by
  unfold fnd; rw [List.find?_eq_none]; intro x hx; have := h x hx; simp; omega
theorem fnd_cons (y : SC) (l : List SC) (s : Int) : fnd (y :: l) s = if y.f0 = s then some y else fnd l s := by
  unfold fnd
  rw [List.find?_cons]
  by_cases h : y.f0 = s
  · simp [h]
  · have e : (y.f0 == s) = false := by simpa using h
    rw [e, if_neg h]
theorem split_at (s : Int) : ∀ (l : List SC), Rising l → l = lo l s ++ hi l s
  | [], _ => rfl
  | y :: r, h => by
    have h' := List.pairwise_cons.1 h
    have ih := split_at s r h'.2
    rw [lo_cons, hi_cons]
    by_cases hy : y.f0 < s
    · rw [if_pos hy, if_pos hy, List.cons_append, ← ih]
    · rw [if_neg hy, if_neg hy]
      have ha : ∀ x ∈ r, s ≤ x.f0 := fun x hx => by have := h'.1 x hx; omega
      rw [lo_none ha, hi_all ha]; rfl
theorem hi_head (s : Int) : ∀ (l : List SC), Rising l → fnd l s = match hi l s with | [] => none | y :: _ => if y.f0 = s then some y else none
  | [], _ => rfl
  | y :: r, h => by
    have h' := List.pairwise_cons.1 h
    have ih := hi_head s r h'.2
    rw [fnd_cons, hi_cons]
    by_cases hy : y.f0 < s
    · rw [if_pos hy, if_neg (by omega), ih]
    · rw [if_neg hy]
      by_cases e : y.f0 = s
      · simp [e]
      · have ha : ∀ x ∈ r, s < x.f0 := fun x hx => by have := h'.1 x hx; omega
        rw [if_neg e, fnd_none ha]; simp [e]
def isI (l : List SC) (s : Int) : Bool := (fnd l s).isSome
/-- What a number is to a session; what it was told. -/
def whatI (l : List SC) (s n : Int) : Int := match fnd l s with | none => 0 | some y => if y.f1 = n then 1 else if y.f1 > n then 2 else 0
def replyI (l : List SC) (s n : Int) : List Int := match fnd l s with | none => [] | some y => if y.f1 = n then y.f2 else []
def behind (l : List SC) (s : Int) : List SC := if isI l s = true then (hi l s).drop 1 else hi l s
theorem bs_spec (p : Nat → Bool) (n : Nat) (hmono : ∀ a b, a ≤ b → b < n → p b = true → p a = true) : ∀ (f i j : Nat), i ≤ j → j ≤ n → j - i < f → (∀ h, h < i → p h = true) → (∀ h, j ≤ h → h < n → p h = false) →
    bsI p f i j ≤ n ∧ (∀ h, h < bsI p f i j → p h = true) ∧ (∀ h, bsI p f i j ≤ h → h < n → p h = false)
  | 0, _, _, _, _, hf, _, _ => by omega
  | f + 1, i, j, hij, hjn, hf, h1, h2 => by
    unfold bsI
    by_cases hlt : i < j
    · rw [if_pos hlt]
      by_cases hp : p ((i + j) / 2) = true
      · rw [if_pos hp]
        exact bs_spec p n hmono f _ j (by omega) hjn (by omega) (fun h hh => hmono h ((i + j) / 2) (by omega) (by omega) hp) h2
      · rw [if_neg hp]
        refine bs_spec p n hmono f i _ (by omega) (by omega) (by omega) h1 (fun h hh hn => ?_)
        cases hc : p h with
        | false => rfl
        | true => exact absurd (hmono ((i + j) / 2) h hh hn hc) hp
    · rw [if_neg hlt]
      exact ⟨by omega, h1, fun h hh hn => h2 h (by omega) hn⟩
theorem cmpI_neg (a b : Int) : decide (cmpI a b < 0) = decide (a < b) := by
  unfold cmpI
  by_cases h : a < b
  · simp [h]
  · by_cases h2 : a > b <;> simp [h, h2]
theorem cmpI_zero (a b : Int) : (cmpI a b == 0) = (a == b) := by
  unfold cmpI
  by_cases h : a < b
  · have : a ≠ b := by omega
    simp [h, this]
  · by_cases h2 : a > b
    · have : a ≠ b := by omega
      simp [h, h2, this]
    · have : a = b := by omega
      simp [this]
theorem find_is (l : List SC) (s n : Int) (hg : Good l) : client_find.f l s n = some (((lo l s).length : Int), isI l s, whatI l s n) := by
  have hs := split_at s l hg.2.2
  have hlen : l.length = (lo l s).length + (hi l s).length := by rw [← List.length_append, ← hs]
  have hp : ∀ h, h < l.length → lessAt l s h = decide (h < (lo l s).length) := fun h hh => by
    unfold lessAt
    rw [rdC l h hh, cmpI_neg]
    by_cases hlt : h < (lo l s).length
    · have e : l[h] = (lo l s)[h] := by rw [List.getElem_of_eq hs, List.getElem_append_left hlt]
      have hm : l[h] ∈ lo l s := by rw [e]; exact List.getElem_mem hlt
      have := (List.mem_filter.1 hm).2
      rw [this]; simp [hlt]
    · have e : l[h] = (hi l s)[h - (lo l s).length]'(by omega) := by rw [List.getElem_of_eq hs, List.getElem_append_right (by omega)]
      have hm : l[h] ∈ hi l s := by rw [e]; exact List.getElem_mem _
      have := (List.mem_filter.1 hm).2
      have e2 : decide (l[h].f0 < s) = false := by simpa using this
      rw [e2]; simp [hlt]
  have hb := bs_spec (lessAt l s) l.length (fun a b hab hbn hpb => by
    rw [hp b hbn] at hpb
    rw [hp a (by omega)]
    have := of_decide_eq_true hpb
    exact decide_eq_true (by omega)) (l.length + 1) 0 l.length (by omega) (by omega) (by omega) (fun h hh => by omega) (fun h h1 h2 => by omega)
  have hR : bsI (lessAt l s) (l.length + 1) 0 l.length = (lo l s).length := by
    obtain ⟨b1, b2, b3⟩ := hb
    rcases Nat.lt_trichotomy (bsI (lessAt l s) (l.length + 1) 0 l.length) (lo l s).length with h | h | h
    · have := b3 _ (Nat.le_refl _) (by omega)
      rw [hp _ (by omega)] at this
      have := of_decide_eq_false this
      omega
    · exact h
    · have := b2 _ h
      rw [hp _ (by omega)] at this
      have := of_decide_eq_true this
      omega
  have hf := hi_head s l hg.2.2
  unfold client_find.f
  rw [if_pos (by have := hg.1; omega), hR]
  have hfa : foundAt l s (lo l s).length = isI l s := by
    unfold foundAt isI
    cases hh : hi l s with
    | nil => rw [hh] at hlen hf; rw [if_neg (by simp at hlen; omega), hf]; rfl
    | cons y r =>
      rw [hh] at hlen hf
      have hlt : (lo l s).length < l.length := by simp at hlen; omega
      have e : l[(lo l s).length] = y := by rw [List.getElem_of_eq hs, List.getElem_append_right (by omega)]; simp [hh]
      rw [if_pos hlt, rdC l _ hlt, e, cmpI_zero, hf]
      by_cases h : y.f0 = s <;> simp [h]
  rw [hfa]
  congr 3
  unfold isI whatI
  cases hh : hi l s with
  | nil => rw [hh] at hf; rw [hf]; rfl
  | cons y r =>
    rw [hh] at hlen hf
    have hlt : (lo l s).length < l.length := by simp at hlen; omega
    have e : l[(lo l s).length] = y := by rw [List.getElem_of_eq hs, List.getElem_append_right (by omega)]; simp [hh]
    rw [rdC l _ hlt, e, hf]
    by_cases h : y.f0 = s <;> simp [h]
def askI (l : List SC) (s n : Int) : Int × List Int × Int := if Good l then (if whoOk s n = true then (whatI l s n, replyI l s n, 0) else (0, [], 4)) else (0, [], 9)
def doneI (l : List SC) (s n : Int) (r : List Int) : List SC × Int := if Good l then (if whoOk s n = true then (if r.length ≤ 4096 then (if whatI l s n = 0 then (if isI l s = false ∧ 64 ≤ l.length then ([], 51) else (lo l s ++ [⟨s, n, r⟩] ++ behind l s, 0)) else ([], 81)) else ([], 5)) else ([], 4)) else ([], 9)
theorem asked_is (l : List SC) (s n : Int) (hl : l.length ≤ 140737488351232) : Ev (fun k => client_asked.f k l s n) (if Good l then (if whoOk s n = true then 0 else 4) else 9) := by
  unfold client_asked.f
  refine Ev.bind (cl_check l hl) ?_
  unfold checkI
  by_cases hg : Good l
  · simp only [if_pos hg, if_true]
    rw [may_is]
    simp only [Option.bind_some]
    cases whoOk s n <;> exact Ev.now _
  · simp only [if_neg hg]
    rw [if_neg (by decide)]
    exact Ev.now _
theorem at_lo {l : List SC} {s : Int} (hg : Rising l) {y : SC} (hy : fnd l s = some y) : ∃ h : (lo l s).length < l.length, l[(lo l s).length] = y := by
  have hs := split_at s l hg
  have hf := hi_head s l hg
  have hlen : l.length = (lo l s).length + (hi l s).length := by rw [← List.length_append, ← hs]
  cases hh : hi l s with
  | nil => rw [hh, hy] at hf; cases hf
  | cons z r =>
    rw [hh, hy] at hf
    rw [hh] at hlen
    have hlt : (lo l s).length < l.length := by simp at hlen; omega
    have e : l[(lo l s).length] = z := by rw [List.getElem_of_eq hs, List.getElem_append_right (by omega)]; simp [hh]
    by_cases h : z.f0 = s
    · simp [h] at hf
      exact ⟨hlt, by rw [e, hf]⟩
    · simp [h] at hf
theorem fnd_mem {l : List SC} {s : Int} {y : SC} (h : fnd l s = some y) : y ∈ l ∧ y.f0 = s := by
  unfold fnd at h
  exact ⟨List.mem_of_find?_eq_some h, by have := List.find?_some h; simpa using this⟩
theorem cl_ask (l : List SC) (s n : Int) (hl : l.length ≤ 140737488351232) : Ev (fun k => client_Ask.f k l s n) (askI l s n) := by
  unfold client_Ask.f
  refine Ev.bind (asked_is l s n hl) ?_
  unfold askI
  by_cases hg : Good l
  · simp only [if_pos hg]
    cases hw : whoOk s n with
    | false => simp; exact Ev.now _
    | true =>
      simp only [if_true]
      rw [find_is l s n hg]
      simp only [Option.bind_some]
      by_cases h1 : whatI l s n = 1
      · rw [if_pos h1]
        cases hy : fnd l s with
        | none => unfold whatI at h1; rw [hy] at h1; cases h1
        | some y =>
          obtain ⟨hlt, he⟩ := at_lo hg.2.2 hy
          have hyn : y.f1 = n := by
            unfold whatI at h1
            rw [hy] at h1
            simp only at h1
            by_cases h : y.f1 = n
            · exact h
            · rw [if_neg h] at h1
              by_cases h2 : y.f1 > n
              · rw [if_pos h2] at h1; cases h1
              · rw [if_neg h2] at h1; cases h1
          have hr : replyI l s n = y.f2 := by unfold replyI; rw [hy]; simp [hyn]
          have hb := (hg.2.1 y (fnd_mem hy).1).2
          rw [if_pos (by omega), if_pos (by omega), rdC l _ hlt, he, hr]
          unfold bytes_Clone.f
          rw [if_pos (by omega)]
          exact Ev.now _
      · have hr : replyI l s n = [] := by
          unfold replyI
          unfold whatI at h1
          cases hy : fnd l s with
          | none => rfl
          | some y =>
            rw [hy] at h1
            simp only at h1 ⊢
            by_cases h : y.f1 = n
            · rw [if_pos h] at h1; exact absurd rfl h1
            · rw [if_neg h]
        rw [if_neg h1, hr]
        exact Ev.now _
  · simp only [if_neg hg]
    rw [if_neg (by decide)]
    exact Ev.now _
theorem lo_len (l : List SC) (s : Int) : (lo l s).length ≤ l.length := List.length_filter_le _ _
theorem take_lo {l : List SC} (s : Int) (h : Rising l) : l.take (lo l s).length = lo l s := by
  have hs := split_at s l h
  generalize lo l s = A at *
  generalize hi l s = B at *
  subst hs
  exact List.take_left
theorem drop_lo {l : List SC} (s : Int) (h : Rising l) : l.drop (lo l s).length = hi l s := by
  have hs := split_at s l h
  generalize lo l s = A at *
  generalize hi l s = B at *
  subst hs
  exact List.drop_left
theorem set_mid {α : Type} (l : List α) (i : Nat) (x : α) (h : i < l.length) : l.set i x = l.take i ++ [x] ++ (l.drop i).drop 1 := by
  rw [List.drop_drop, List.set_eq_take_append_cons_drop, if_pos h]
  simp [Nat.add_comm]
theorem cl_done (l : List SC) (s n : Int) (r : List Int) (hl : l.length ≤ 140737488351232) : Ev (fun k => client_Done.f k l s n r) (doneI l s n r) := by
  unfold client_Done.f
  refine Ev.bind (asked_is l s n hl) ?_
  unfold doneI
  by_cases hg : Good l
  · simp only [if_pos hg]
    cases hw : whoOk s n with
    | false => simp; exact Ev.now _
    | true =>
      simp only [if_true]
      by_cases hr : r.length ≤ 4096
      case neg => rw [if_neg hr, if_neg hr]; exact Ev.now _
      rw [if_pos hr, if_pos hr, find_is l s n hg]
      simp only [Option.bind_some]
      by_cases h0 : whatI l s n = 0
      case neg => rw [if_neg h0, if_neg h0]; exact Ev.now _
      rw [if_pos h0, if_pos h0]
      have hall : (l.all fun x => decide (x.f2.length ≤ 4096)) = true := by
        rw [List.all_eq_true]; intro x hx; simpa using (hg.2.1 x hx).2
      rw [if_pos hall]
      have hlo := lo_len l s
      cases hi_ : isI l s with
      | true =>
        rw [if_pos rfl, if_neg (show ¬ (true = false ∧ 64 ≤ l.length) by simp)]
        cases hy : fnd l s with
        | none => unfold isI at hi_; rw [hy] at hi_; cases hi_
        | some y =>
          obtain ⟨hlt, he⟩ := at_lo hg.2.2 hy
          rw [if_pos ⟨by omega, by omega, hg.1⟩, Int.toNat_natCast, set_mid l _ _ hlt, take_lo s hg.2.2, drop_lo s hg.2.2]
          unfold behind
          rw [if_pos hi_]
          exact Ev.now _
      | false =>
        rw [if_neg (by decide)]
        by_cases h64 : 64 ≤ l.length
        · rw [if_pos h64, if_pos (show false = false ∧ 64 ≤ l.length from ⟨rfl, h64⟩)]; exact Ev.now _
        · rw [if_neg h64, if_neg (show ¬ (false = false ∧ 64 ≤ l.length) from fun h => h64 h.2), if_pos ⟨by omega, by omega⟩, Int.toNat_natCast, take_lo s hg.2.2, drop_lo s hg.2.2]
          unfold behind
          rw [if_neg (by rw [hi_]; decide)]
          exact Ev.now _
  · simp only [if_neg hg]
    rw [if_neg (by decide)]
    exact Ev.now _
theorem alive_is : Ev undercroftlaw20_alive.f true := by
  have h1 : doneI [] 1 5 [120] = ([⟨1, 5, [120]⟩], 0) := by kernel_rfl
  have a1 : askI [⟨1, 5, [120]⟩] 1 5 = (1, [120], 0) := by kernel_rfl
  have a2 : askI [⟨1, 5, [120]⟩] 1 4 = (2, [], 0) := by kernel_rfl
  have a3 : askI [⟨1, 5, [120]⟩] 1 6 = (0, [], 0) := by kernel_rfl
  have a4 : askI [⟨1, 5, [120]⟩] 2 1 = (0, [], 0) := by kernel_rfl
  have d1 := cl_done [] 1 5 [120] (by simp)
  have c1 := cl_ask [⟨1, 5, [120]⟩] 1 5 (by simp)
  have c2 := cl_ask [⟨1, 5, [120]⟩] 1 4 (by simp)
  have c3 := cl_ask [⟨1, 5, [120]⟩] 1 6 (by simp)
  have c4 := cl_ask [⟨1, 5, [120]⟩] 2 1 (by simp)
  rw [h1] at d1; rw [a1] at c1; rw [a2] at c2; rw [a3] at c3; rw [a4] at c4
  unfold undercroftlaw20_alive.f
  refine Ev.bind d1 (Ev.bind c1 (Ev.bind c2 (Ev.bind c3 (Ev.bind c4 ?_))))
  refine Ev.congr (f := fun _ => some true) (fun k => ?_) (Ev.now _)
  exact if_pos ⟨rfl, rfl, rfl, rfl, rfl, rfl, rfl, rfl⟩

theorem csame (a : List Int) (hm : a.length ≤ 9223372036854775807) : Ev (fun k => undercroftplain_SameBytes.f k a a) true := ⟨a.length + 1, fun k hk => by
  show undercroftplain_SameBytes.f k a a = some true
  rw [sameBytes_is a a k (by omega) hm, decide_eq_true rfl]⟩
theorem cchk (s n : Int) (op : List Int) (h : op.length ≤ 200) : checkW 8 [s, n] [op] = 0 := by
  unfold checkW
  rw [if_neg (by omega), if_neg (by simp), if_neg (by simp; omega)]
theorem two_i64 {s n : Int} (hs : I64 s) (hn : I64 n) : ∀ x ∈ [s, n], I64 x := fun x hx => by
  rcases List.mem_cons.1 hx with h | h
  · rw [h]; exact hs
  · rw [List.mem_singleton.1 h]; exact hn
theorem one_oct {op : List Int} (ho : Oct op) : ∀ t ∈ [op], Oct t := fun t ht => by rw [List.mem_singleton.1 ht]; exact ho
theorem cenc_is (s n : Int) (op : List Int) (hs : I64 s) (hn : I64 n) (ho : Oct op) : Ev (fun k => client_Encode.f k s n op) (if whoOk s n = true then (if 200 < op.length then ([], 5) else (sealW (bodyI 8 [s, n] [op]), 0)) else ([], 4)) := by
  unfold client_Encode.f
  by_cases h : whoOk s n = true
  · rw [if_pos h]
    by_cases h2 : 200 < op.length
    · rw [if_pos h2]
      exact Ev.congr (f := fun _ => some ([], 5)) (fun k => by rw [may_is, h, Option.bind_some, if_pos rfl, if_pos (by omega)]) (Ev.now _)
    · rw [if_neg h2]
      have hc := cchk s n op (by omega)
      have he := encode_is 8 [s, n] [op] (two_i64 hs hn) (one_oct ho)
      rw [if_pos hc] at he
      refine Ev.congr (f := fun k => (wire_Encode.f k 8 [s, n] [op]).bind fun bt => some (bt.1, bt.2)) (fun k => ?_) (Ev.bind he (Ev.now _))
      rw [may_is, h, Option.bind_some, if_pos rfl, if_neg (by omega)]
  · rw [if_neg h]
    exact Ev.congr (f := fun _ => some ([], 4)) (fun k => by rw [may_is, Bool.eq_false_iff.2 h, Option.bind_some, if_neg (by decide)]) (Ev.now _)
theorem cenc_len (s n : Int) (op : List Int) (h : op.length ≤ 200) : (sealW (bodyI 8 [s, n] [op])).length ≤ 256 := by
  have h1 := encN_len s
  have h2 := encN_len n
  have h3 := encF_len 9 op.length
  unfold sealW bodyI encT lowI
  simp only [List.flatMap_cons, List.flatMap_nil, List.length_append, List.length_cons, List.length_nil, List.append_nil]
  omega
def codeC (s n : Int) (op : List Int) : Int := if whoOk s n = true then (if 200 < op.length then 5 else 0) else 4
theorem cj0_is (s n : Int) (op : List Int) (hs : I64 s) (hn : I64 n) (ho : Oct op) : Ev (fun k => client_Decode.j0 k false 8 [s, n] [op]) (if codeC s n op = 0 then (s, n, op, 0) else (0, 0, [], codeC s n op)) := by
  have he := cenc_is s n op hs hn ho
  have e2 : (if whoOk s n = true then (if 200 < op.length then (([] : List Int), (5 : Int)) else (sealW (bodyI 8 [s, n] [op]), 0)) else ([], 4)).2 = codeC s n op := by
    unfold codeC
    split
    · split <;> rfl
    · rfl
  generalize (if whoOk s n = true then (if 200 < op.length then (([] : List Int), (5 : Int)) else (sealW (bodyI 8 [s, n] [op]), 0)) else ([], 4)) = E at he e2
  refine Ev.step (f := fun k => (client_Encode.f k s n op).bind fun bt182 => (if bt182.2 = 0 then (some (s, n, op, 0)) else (some (0, 0, ([] : List Int), bt182.2)))) (fun k => ?_) (Ev.bind he ?_)
  · rw [client_Decode.j0, if_neg (by decide), if_pos (show (0 : Int) < (([s, n].length : Nat) : Int) by simp), if_pos (show (1 : Int) < (([s, n].length : Nat) : Int) by simp), if_pos (show (0 : Int) < (([op].length : Nat) : Int) by simp)]
    rfl
  · by_cases h : codeC s n op = 0
    · rw [if_pos h]
      exact Ev.congr (f := fun _ => some (s, n, op, 0)) (fun k => if_pos (by rw [e2]; exact h)) (Ev.now _)
    · rw [if_neg h]
      exact Ev.congr (f := fun _ => some (0, 0, [], codeC s n op)) (fun k => by show (if E.2 = 0 then _ else _) = _; rw [e2, if_neg h]) (Ev.now _)
theorem cj0_bad (k0 : Int) (n : List Int) (t : List (List Int)) : Ev (fun k => client_Decode.j0 k true k0 n t) (0, 0, [], 3) :=
  Ev.step (f := fun _ => some (0, 0, [], 3)) (fun k => by rw [client_Decode.j0, if_pos rfl]) (Ev.now _)
theorem code_zero {s n : Int} {op : List Int} (h : codeC s n op = 0) : whoOk s n = true ∧ op.length ≤ 200 := by
  unfold codeC at h
  split at h
  · split at h
    · cases h
    · exact ⟨by assumption, by omega⟩
  · cases h
theorem or128_v : ∀ v : Nat, v < 128 → Go.bits .or .u64 (v : Int) 128 = ((v + 128 : Nat) : Int) := by decide +kernel
theorem or128_u64 (m : Nat) (h : m < 18446744073709551616) : (Go.bits .or .u64 (Go.bits .and .u64 (m : Int) 127) 128) % 256 = ((m % 128 + 128 : Nat) : Int) := by
  have ha : Go.bits .and .u64 (m : Int) 127 = ((m % 128 : Nat) : Int) := by
    have h1 := bits_and_u64_nat m 127 h (by decide)
    rw [show (127 : Nat) = 2 ^ 7 - 1 from rfl, Nat.and_two_pow_sub_one_eq_mod] at h1
    exact h1
  rw [ha, or128_v _ (by omega)]
  omega
theorem rgroups_ev : ∀ (f m : Nat) (b : List Int), m < 128 ^ (f + 1) → m < 18446744073709551616 → b.length + f < 140737488355328 → Ev (fun k => undercroftref05_groups.l0 k (m : Int) b) (b ++ encF f m) := by
  intro f
  induction f with
  | zero =>
    intro m b hm h64 hb
    have hm' : m < 128 := hm
    refine Ev.step (f := fun _ => some (b ++ [(m : Int)])) (fun k => ?_) (Ev.now _)
    rw [undercroftref05_groups.l0, if_neg (by omega), if_pos (by omega), show (m : Int) % 256 = (m : Int) by omega]
  | succ f ih =>
    intro m b hm h64 hb
    by_cases h : m ≤ 127
    · rw [encF, if_pos h]
      refine Ev.step (f := fun _ => some (b ++ [(m : Int)])) (fun k => ?_) (Ev.now _)
      rw [undercroftref05_groups.l0, if_neg (by omega), if_pos (by omega), show (m : Int) % 256 = (m : Int) by omega]
    · have h2 : m / 128 < 128 ^ (f + 1) := by
        refine Nat.div_lt_of_lt_mul ?_
        rw [Nat.mul_comm]
        exact hm
      have e : b ++ encF (f + 1) m = (b ++ [((m % 128 + 128 : Nat) : Int)]) ++ encF f (m / 128) := by rw [encF, if_neg h, List.append_assoc]; rfl
      rw [e]
      refine Ev.step (f := fun k => undercroftref05_groups.l0 k ((m / 128 : Nat) : Int) (b ++ [((m % 128 + 128 : Nat) : Int)])) (fun k => ?_) (ih (m / 128) _ h2 (by omega) (by rw [List.length_append, List.length_singleton]; omega))
      rw [undercroftref05_groups.l0, if_pos (by omega), if_pos (by omega), or128_u64 m h64]
      rfl
theorem xnot_u64 (v : Int) (h0 : 0 ≤ v) (h1 : v ≤ 18446744073709551615) : Go.bits .xor .u64 18446744073709551615 v = 18446744073709551615 - v := by
  show IntKind.u64.wrap ((BitVec.ofInt 64 18446744073709551615 ^^^ BitVec.ofInt 64 v).toNat : Int) = _
  have e : BitVec.ofInt 64 18446744073709551615 = BitVec.allOnes 64 := by decide
  rw [e, BitVec.xor_comm, BitVec.xor_allOnes, BitVec.toNat_not, BitVec.toNat_ofInt, IntKind.wrap_u64]
  omega
theorem folded_is (n : Int) (h : I64 n) : undercroftref05_folded.f n = some ((zN n : Nat) : Int) := by
  have h0 := h.1
  have h1 := h.2
  unfold undercroftref05_folded.f zN
  by_cases hn : n < 0
  · rw [if_pos hn, if_neg (by omega)]
    have e : IntKind.u64.wrap (IntKind.u64.wrap n * 2) = 2 * n + 18446744073709551616 := by rw [IntKind.wrap_u64, IntKind.wrap_u64]; omega
    rw [e, xnot_u64 _ (by omega) (by omega)]
    congr 1
    omega
  · rw [if_neg hn, if_pos (by omega)]
    have e : IntKind.u64.wrap (IntKind.u64.wrap n * 2) = 2 * n := by rw [IntKind.wrap_u64, IntKind.wrap_u64]; omega
    rw [e]
    congr 1
    omega
theorem renc_l1 (kind : Int) (nums : List Int) (texts : List (List Int)) (hl : texts.length ≤ 64) (ht : ∀ t ∈ texts, t.length ≤ 4096 ∧ Oct t) : ∀ (d i : Nat) (b : List Int), i + d = texts.length → Oct b → b.length + d * 4106 ≤ 1000000 → Ev (fun k => undercroftref05_Encode.l1 k b (i : Int) kind nums texts) (sealW (b ++ (texts.drop i).flatMap encT), 0) := by
  intro d
  induction d with
  | zero =>
    intro i b hi hb hlen
    rw [List.drop_eq_nil_of_le (by omega), List.flatMap_nil, List.append_nil]
    refine Ev.step (f := fun k => (undercroftref02_Seal.f k b).bind fun t => some (t, 0)) (fun k => ?_) (Ev.bind (a := sealW b) ⟨10 * b.length + 1, fun k hk => ref_seal_is b hb (by omega) k (by omega)⟩ (Ev.now _))
    rw [undercroftref05_Encode.l1, if_neg (by omega)]
  | succ d ih =>
    intro i b hi hb hlen
    have hlt : i < texts.length := by omega
    have h1 := ht _ (List.getElem_mem hlt)
    have e : b ++ (texts.drop i).flatMap encT = (b ++ encF 9 (texts[i]).length ++ texts[i]) ++ (texts.drop (i + 1)).flatMap encT := by
      rw [List.drop_eq_getElem_cons hlt, List.flatMap_cons, encT, List.append_assoc, List.append_assoc, List.append_assoc]
    rw [e]
    have hlen2 := encF_len 9 (texts[i]).length
    have hg := rgroups_ev 9 (texts[i]).length [] (by rw [pow128]; omega) (by omega) (by simp)
    rw [List.nil_append] at hg
    refine Ev.step (f := fun k => (undercroftref05_groups.l0 k ((texts[i]).length : Int) []).bind fun t => if b.length + t.length < 140737488355328 then ((some (b ++ t : List Int)).bind fun y => (if y.length + (texts[i]).length < 140737488355328 then undercroftref05_Encode.l1 k (y ++ texts[i]) ((i + 1 : Nat) : Int) kind nums texts else none)) else none) (fun k => ?_) (Ev.bind (a := encF 9 (texts[i]).length) hg ?_)
    · have hw : IntKind.u64.wrap ((texts[i]).length : Int) = ((texts[i]).length : Int) := by rw [IntKind.wrap_u64]; omega
      rw [undercroftref05_Encode.l1, if_pos (by omega), if_pos (by omega), rdL1_nat texts i hlt, hw, wnat (by omega)]
      rfl
    · refine Ev.congr (f := fun k => undercroftref05_Encode.l1 k (b ++ encF 9 (texts[i]).length ++ texts[i]) ((i + 1 : Nat) : Int) kind nums texts) (fun k => ?_) (ih (i + 1) _ (by omega) ((hb.append (encF_oct 9 (texts[i]).length (by rw [pow128]; omega))).append h1.2) (by rw [List.length_append, List.length_append]; omega))
      rw [if_pos (by omega), Option.bind_some, if_pos (by rw [List.length_append]; omega)]
theorem renc_l0 (kind : Int) (nums : List Int) (texts : List (List Int)) (hn : ∀ x ∈ nums, I64 x) (hl : nums.length ≤ 64) (ht : texts.length ≤ 64) (R : List Int × Int) : ∀ (d i : Nat) (b : List Int), i + d = nums.length → b.length + d * 10 ≤ 100000 → Ev (fun k => undercroftref05_Encode.l1 k (b ++ (nums.drop i).flatMap encN ++ [(texts.length : Int)]) ((0 : Nat) : Int) kind nums texts) R → Ev (fun k => undercroftref05_Encode.l0 k b (i : Int) kind nums texts) R := by
  intro d
  induction d with
  | zero =>
    intro i b hi hlen hnext
    rw [List.drop_eq_nil_of_le (by omega), List.flatMap_nil, List.append_nil] at hnext
    refine Ev.step (f := fun k => undercroftref05_Encode.l1 k (b ++ [(texts.length : Int)]) ((0 : Nat) : Int) kind nums texts) (fun k => ?_) hnext
    rw [undercroftref05_Encode.l0, if_neg (by omega), if_pos (by omega), show (texts.length : Int) % 256 = (texts.length : Int) by omega]
    rfl
  | succ d ih =>
    intro i b hi hlen hnext
    have hlt : i < nums.length := by omega
    have h1 := hn _ (List.getElem_mem hlt)
    have e : b ++ (nums.drop i).flatMap encN = (b ++ encN nums[i]) ++ (nums.drop (i + 1)).flatMap encN := by
      rw [List.drop_eq_getElem_cons hlt, List.flatMap_cons, List.append_assoc]
    rw [e] at hnext
    have hz := zN_lt nums[i] h1.1 h1.2
    have hlen2 := encN_len nums[i]
    have hg := rgroups_ev 9 (zN nums[i]) [] (by rw [pow128]; omega) (by omega) (by simp)
    rw [List.nil_append] at hg
    refine Ev.step (f := fun k => (undercroftref05_groups.l0 k ((zN nums[i] : Nat) : Int) []).bind fun t => if b.length + t.length < 140737488355328 then undercroftref05_Encode.l0 k (b ++ t) ((i + 1 : Nat) : Int) kind nums texts else none) (fun k => ?_) (Ev.bind (a := encN nums[i]) hg ?_)
    · rw [undercroftref05_Encode.l0, if_pos (by omega), if_pos (by omega), rd_nat nums i hlt, folded_is _ h1, wnat (by omega)]
      rfl
    · exact Ev.congr (f := fun k => undercroftref05_Encode.l0 k (b ++ encN nums[i]) ((i + 1 : Nat) : Int) kind nums texts) (fun k => if_pos (by omega)) (ih (i + 1) _ (by omega) (by rw [List.length_append]; omega) hnext)
theorem rcheck_is (s n : Int) (op : List Int) (h : op.length ≤ 200) : Ev (fun k => undercroftref05_Check.f k 8 [s, n] [op]) 0 := by
  refine Ev.congr (f := fun k => undercroftref05_Check.j0 k false 8 [s, n] [op]) (fun k => by unfold undercroftref05_Check.f; rw [if_neg (by decide)]; rfl) ?_
  refine Ev.step (f := fun k => undercroftref05_Check.l0 k 0 8 [s, n] [op]) (fun k => ?_) ?_
  · rw [undercroftref05_Check.j0, if_neg (by decide), if_neg (show ¬ (([s, n].length : Nat) : Int) > 64 by simp), if_neg (show ¬ (([op].length : Nat) : Int) > 64 by simp)]
  refine Ev.step (f := fun k => undercroftref05_Check.l0 k 1 8 [s, n] [op]) (fun k => ?_) ?_
  · rw [undercroftref05_Check.l0, if_pos (show (0 : Int) < (([op].length : Nat) : Int) by simp), if_pos (by decide), if_neg (show ¬ ((rd_L1 [op] 0).length : Int) > 4096 by show ¬ (op.length : Int) > 4096; omega), show wrap64 ((0 : Int) + 1) = 1 by unfold wrap64; omega]
  refine Ev.step (f := fun _ => some 0) (fun k => ?_) (Ev.now _)
  rw [undercroftref05_Check.l0, if_neg (show ¬ (1 : Int) < (([op].length : Nat) : Int) by simp)]
theorem rencode_is (s n : Int) (op : List Int) (hs : I64 s) (hn : I64 n) (ho : Oct op) (h : op.length ≤ 200) : Ev (fun k => undercroftref05_Encode.f k 8 [s, n] [op]) (sealW (bodyI 8 [s, n] [op]), 0) := by
  unfold undercroftref05_Encode.f
  refine Ev.bind (rcheck_is s n op h) ?_
  have hn2 := two_i64 hs hn
  have e1 := renc_l1 8 [s, n] [op] (by simp) (fun t m => ⟨by rw [List.mem_singleton.1 m]; omega, one_oct ho t m⟩) 1 0 ([8, 2] ++ [s, n].flatMap encN ++ [(([op].length : Nat) : Int)]) (by simp) (by
    refine Oct.append (Oct.append ?_ (flat_oct _ _ (fun x hx => encN_oct x (hn2 x hx)))) ?_
    · intro x hx
      simp at hx
      omega
    · intro x hx
      simp at hx
      omega) (by
    have := flat_len encN 10 [s, n] (fun x _ => encN_len x)
    simp only [List.length_append, List.length_cons, List.length_nil] at this ⊢
    omega)
  have e0 := renc_l0 8 [s, n] [op] hn2 (by simp) (by simp) _ 2 0 [8, 2] (by simp) (by simp) e1
  exact Ev.congr (f := fun k => undercroftref05_Encode.l0 k [8, 2] ((0 : Nat) : Int) 8 [s, n] [op]) (fun k => by rw [if_pos rfl]; rfl) e0
theorem rwho_is (s n : Int) : undercroftref20_who.f s n = some (whoOk s n) := by
  unfold undercroftref20_who.f whoOk
  repeat' split
  all_goals simp [*]
  all_goals omega
theorem rcenc_is (s n : Int) (op : List Int) (hs : I64 s) (hn : I64 n) (ho : Oct op) : Ev (fun k => undercroftref20_Encode.f k s n op) (if whoOk s n = true then (if 200 < op.length then ([], 5) else (sealW (bodyI 8 [s, n] [op]), 0)) else ([], 4)) := by
  unfold undercroftref20_Encode.f
  by_cases h : whoOk s n = true
  · rw [if_pos h]
    by_cases h2 : 200 < op.length
    · rw [if_pos h2]
      exact Ev.congr (f := fun _ => some ([], 5)) (fun k => by rw [rwho_is, h, Option.bind_some, if_pos rfl, if_pos (by omega)]) (Ev.now _)
    · rw [if_neg h2]
      have he := rencode_is s n op hs hn ho (by omega)
      refine Ev.congr (f := fun k => (undercroftref05_Encode.f k 8 [s, n] [op]).bind fun bt => some (bt.1, bt.2)) (fun k => ?_) (Ev.bind he (Ev.now _))
      rw [rwho_is, h, Option.bind_some, if_pos rfl, if_neg (by omega)]
  · rw [if_neg h]
    exact Ev.congr (f := fun _ => some ([], 4)) (fun k => by rw [rwho_is, Bool.eq_false_iff.2 h, Option.bind_some, if_neg (by decide)]) (Ev.now _)
theorem rdecode_is (y : List Int) (hy : Oct y) (hm : y.length < 140737488355328) : Ev (fun k => undercroftref05_Decode.f k y) (decI y) := by
  unfold undercroftref05_Decode.f decI
  by_cases h4 : y.length < 4
  · rw [if_pos h4]
    refine Ev.bind (a := ([], 8)) ⟨0, fun k _ => ref_open_short y k h4⟩ ?_
    exact Ev.congr (f := fun _ => some (0, [], [], 8)) (fun k => if_neg (show ¬ (([] : List Int), (8 : Int)).2 = 0 by decide)) (Ev.now _)
  · rw [if_neg h4]
    have hop := fun k hk => ref_open_is y hy k hk (by omega) hm
    have hlt : (y.take (y.length - 4)).length ≤ 140737488355328 := by rw [List.length_take]; omega
    by_cases hs : y.drop (y.length - 4) = lowI (sumI 0 (y.take (y.length - 4)))
    · rw [if_pos hs]
      refine Ev.bind (a := (y.take (y.length - 4), 0)) ⟨10 * y.length + 11, fun k hk => by show undercroftref02_Open.f k y = _; rw [hop k (by omega), if_pos hs]⟩ ?_
      cases hr : recI (y.take (y.length - 4)) with
      | good kk n t =>
        refine Ev.congr (f := fun _ => some (kk, n, t, 0)) (fun k => ?_) (Ev.now _)
        dsimp only
        rw [if_pos rfl, if_pos ⟨oct5_of (hy.take _), hlt⟩]
        rfl
      | bad c =>
        refine Ev.congr (f := fun _ => some (0, [], [], c)) (fun k => ?_) (Ev.now _)
        dsimp only
        rw [if_pos rfl, if_pos ⟨oct5_of (hy.take _), hlt⟩]
        rfl
    · rw [if_neg hs]
      refine Ev.bind (a := ([], 21)) ⟨10 * y.length + 11, fun k hk => by show undercroftref02_Open.f k y = _; rw [hop k (by omega), if_neg hs]⟩ ?_
      exact Ev.congr (f := fun _ => some (0, [], [], 21)) (fun k => if_neg (show ¬ (([] : List Int), (21 : Int)).2 = 0 by decide)) (Ev.now _)
theorem rj0_is (s n : Int) (op : List Int) (hs : I64 s) (hn : I64 n) (ho : Oct op) : Ev (fun k => undercroftref20_Decode.j0 k false 8 [s, n] [op]) (if codeC s n op = 0 then (s, n, op, 0) else (0, 0, [], codeC s n op)) := by
  have he := rcenc_is s n op hs hn ho
  have e2 : (if whoOk s n = true then (if 200 < op.length then (([] : List Int), (5 : Int)) else (sealW (bodyI 8 [s, n] [op]), 0)) else ([], 4)).2 = codeC s n op := by
    unfold codeC
    split
    · split <;> rfl
    · rfl
  generalize (if whoOk s n = true then (if 200 < op.length then (([] : List Int), (5 : Int)) else (sealW (bodyI 8 [s, n] [op]), 0)) else ([], 4)) = E at he e2
  refine Ev.step (f := fun k => (undercroftref20_Encode.f k s n op).bind fun bt182 => (if bt182.2 = 0 then (some (s, n, op, 0)) else (some (0, 0, ([] : List Int), bt182.2)))) (fun k => ?_) (Ev.bind he ?_)
  · rw [undercroftref20_Decode.j0, if_neg (by decide), if_pos (show (0 : Int) < (([s, n].length : Nat) : Int) by simp), if_pos (show (1 : Int) < (([s, n].length : Nat) : Int) by simp), if_pos (show (0 : Int) < (([op].length : Nat) : Int) by simp)]
    rfl
  · by_cases h : codeC s n op = 0
    · rw [if_pos h]
      exact Ev.congr (f := fun _ => some (s, n, op, 0)) (fun k => if_pos (by rw [e2]; exact h)) (Ev.now _)
    · rw [if_neg h]
      exact Ev.congr (f := fun _ => some (0, 0, [], codeC s n op)) (fun k => by show (if E.2 = 0 then _ else _) = _; rw [e2, if_neg h]) (Ev.now _)
theorem rj0_bad (k0 : Int) (n : List Int) (t : List (List Int)) : Ev (fun k => undercroftref20_Decode.j0 k true k0 n t) (0, 0, [], 3) :=
  Ev.step (f := fun _ => some (0, 0, [], 3)) (fun k => by rw [undercroftref20_Decode.j0, if_pos rfl]) (Ev.now _)
/-- Both read the same. -/
theorem both_dec (y : List Int) (hy : Oct y) (hm : y.length < 140737488355328) : ∃ R : Int × Int × List Int × Int, Ev (fun k => client_Decode.f k y) R ∧ Ev (fun k => undercroftref20_Decode.f k y) R ∧ R.2.2.1.length ≤ 200 := by
  have hd := decode_is y hy hm
  have hr := rdecode_is y hy hm
  unfold client_Decode.f undercroftref20_Decode.f
  rcases dec_two y hy with ⟨c, hc, he⟩ | ⟨k, n, t, he, hy2, hc, hn, ht⟩
  · rw [he] at hd hr
    exact ⟨(0, 0, [], c), Ev.bind hd (Ev.congr (f := fun _ => some (0, 0, [], c)) (fun k => if_neg hc) (Ev.now _)), Ev.bind hr (Ev.congr (f := fun _ => some (0, 0, [], c)) (fun k => if_neg hc) (Ev.now _)), Nat.zero_le _⟩
  · rw [he] at hd hr
    by_cases hk : k = 8
    · subst hk
      by_cases h2 : n.length = 2
      · by_cases h1 : t.length = 1
        · obtain ⟨a, b, rfl⟩ : ∃ a b, n = [a, b] := by
            match n, h2 with
            | [a, b], _ => exact ⟨a, b, rfl⟩
          obtain ⟨op, rfl⟩ := List.length_eq_one_iff.1 h1
          have ha := hn a (by simp)
          have hb := hn b (by simp)
          have ho := ht op (by simp)
          refine ⟨_, Ev.bind hd (Ev.congr (f := fun k => client_Decode.j0 k false 8 [a, b] [op]) (fun k => ?_) (cj0_is a b op ha hb ho)), Ev.bind hr (Ev.congr (f := fun k => undercroftref20_Decode.j0 k false 8 [a, b] [op]) (fun k => ?_) (rj0_is a b op ha hb ho)), ?_⟩
          · dsimp only
            rw [if_pos rfl, if_pos rfl, if_pos (by rfl)]
            rfl
          · dsimp only
            rw [if_pos rfl, if_pos rfl, if_pos (by rfl)]
            rfl
          · by_cases hz : codeC a b op = 0
            · rw [if_pos hz]
              exact (code_zero hz).2
            · rw [if_neg hz]
              exact Nat.zero_le _
        · refine ⟨(0, 0, [], 3), Ev.bind hd (Ev.congr (f := fun k => client_Decode.j0 k true 8 n t) (fun k => ?_) (cj0_bad _ _ _)), Ev.bind hr (Ev.congr (f := fun k => undercroftref20_Decode.j0 k true 8 n t) (fun k => ?_) (rj0_bad _ _ _)), Nat.zero_le _⟩
          · dsimp only
            rw [if_pos rfl, if_pos rfl, if_pos (by omega), show ((t.length : Int) != 1) = true from bne_iff_ne.2 (by omega)]
          · dsimp only
            rw [if_pos rfl, if_pos rfl, if_pos (by omega), show ((t.length : Int) != 1) = true from bne_iff_ne.2 (by omega)]
      · refine ⟨(0, 0, [], 3), Ev.bind hd (Ev.congr (f := fun k => client_Decode.j0 k true 8 n t) (fun k => ?_) (cj0_bad _ _ _)), Ev.bind hr (Ev.congr (f := fun k => undercroftref20_Decode.j0 k true 8 n t) (fun k => ?_) (rj0_bad _ _ _)), Nat.zero_le _⟩
        · dsimp only
          rw [if_pos rfl, if_pos rfl, if_neg (by omega)]
        · dsimp only
          rw [if_pos rfl, if_pos rfl, if_neg (by omega)]
    · refine ⟨(0, 0, [], 22), Ev.bind hd (Ev.congr (f := fun _ => some (0, 0, [], 22)) (fun k' => ?_) (Ev.now _)), Ev.bind hr (Ev.congr (f := fun _ => some (0, 0, [], 22)) (fun k' => ?_) (Ev.now _)), Nat.zero_le _⟩
      · dsimp only
        rw [if_pos rfl, if_neg hk]
      · dsimp only
        rw [if_pos rfl, if_neg hk]

theorem ClientTells (l0 : S24) (l1 : List Int) (h0 : ok24 l0) (h1 : (l1.length * 1 ≤ 140737488351232 ∧ l1.length ≤ maxLen ∧ ∀ y22 ∈ l1, (Lit.int .u8 y22).wf = true)) : ∃ k, undercroftlaw20_ClientTells.f k l0.f0 l0.f1 l0.f2 l1 = some true := by
  have hs : I64 l0.f0 := wf_i64 h0.1
  have hn : I64 l0.f1 := wf_i64 h0.2.1
  have ho : Oct l0.f2 := Oct.of_wf h0.2.2.2.2
  have hy : Oct l1 := Oct.of_wf h1.2.2
  have hl0 : l0.f2.length < 140737488355328 := by have := h0.2.2.1; omega
  have hl1 : l1.length < 140737488355328 := by have := h1.1; omega
  have he := cenc_is l0.f0 l0.f1 l0.f2 hs hn ho
  have hr := rcenc_is l0.f0 l0.f1 l0.f2 hs hn ho
  have hel : (if whoOk l0.f0 l0.f1 = true then (if 200 < l0.f2.length then (([] : List Int), (5 : Int)) else (sealW (bodyI 8 [l0.f0, l0.f1] [l0.f2]), 0)) else ([], 4)).1.length ≤ 256 := by
    split
    · split
      · exact Nat.zero_le _
      · exact cenc_len _ _ _ (by omega)
    · exact Nat.zero_le _
  obtain ⟨R, hd, hq, hR⟩ := both_dec l1 hy hl1
  generalize (if whoOk l0.f0 l0.f1 = true then (if 200 < l0.f2.length then (([] : List Int), (5 : Int)) else (sealW (bodyI 8 [l0.f0, l0.f1] [l0.f2]), 0)) else ([], 4)) = E at he hr hel
  refine Ev.rounds ?_
  unfold undercroftlaw20_ClientTells.f
  refine Ev.bind (a := l0.f2) ⟨0, fun k _ => copyBytes_is l0.f2 (by omega)⟩ ?_
  refine Ev.bind (a := l1) ⟨0, fun k _ => copyBytes_is l1 (by omega)⟩ ?_
  refine Ev.bind he ?_
  refine Ev.bind hr ?_
  refine Ev.bind hd ?_
  refine Ev.bind hq ?_
  refine Ev.congr (f := fun k => (undercroftplain_SameBytes.f k E.1 E.1).bind fun t1 => (undercroftplain_SameBytes.f k R.2.2.1 R.2.2.1).bind fun t2 => (undercroftplain_SameBytes.f k l0.f2 l0.f2).bind fun t3 => (undercroftplain_SameBytes.f k l1 l1).bind fun t4 => (undercroftlaw20_alive.f k).bind fun t5 => if t1 = true ∧ t2 = true ∧ t3 = true ∧ t4 = true ∧ t5 = true then some true else none) (fun k => if_pos ⟨rfl, rfl, rfl, rfl⟩) ?_
  refine Ev.bind (csame E.1 (by omega)) ?_
  refine Ev.bind (csame R.2.2.1 (by omega)) ?_
  refine Ev.bind (csame l0.f2 (by omega)) ?_
  refine Ev.bind (csame l1 (by omega)) ?_
  refine Ev.bind alive_is ?_
  exact Ev.congr (f := fun _ => some true) (fun k => if_pos ⟨rfl, rfl, rfl, rfl, rfl⟩) (Ev.now _)

end Go.Proofs.YtofflfacfjkikaaDoor.Pure
