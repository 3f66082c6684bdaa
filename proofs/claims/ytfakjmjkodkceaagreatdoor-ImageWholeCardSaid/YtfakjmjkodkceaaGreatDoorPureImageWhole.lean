/- With one record less, or with one record twice, the records of a file system are no file system: for every file system and every place, no condition beyond the form's reach. -/
import Derived.Test.YtfakjmjkodkceaaGreatDoorPImwx
import Derived.Test.YtfakjmjkodkceaaGreatDoorInImageWhole
import Derived.Lib.Bytes
import Derived.Lib.IndexLaws
import Derived.Laws.Bits64b
namespace Go.Proofs.YtfakjmjkodkceaaGreatDoor.Pure
open Go.RowKit Go.Proofs.YtfakjmjkodkceaaGreatDoor.PImw Go.Proofs.YtfakjmjkodkceaaGreatDoorW.PrintWords Go.Proofs.YtfakjmjkodkceaaGreatDoorW.PrintLast Go.Proofs.YtfakjmjkodkceaaGreatDoorW.PrintMore
set_option linter.unusedVariables false
set_option linter.unusedSimpArgs false

theorem w_id {x : Int} (h0 : -9223372036854775808 ≤ x) (h1 : x ≤ 9223372036854775807) : wrap64 x = x := by unfold wrap64; omega
theorem wf_i64 {a : Int} (h : (Lit.int .i64 a).wf = true) : -9223372036854775808 ≤ a ∧ a ≤ 9223372036854775807 := by
 simpa [Lit.wf, IntKind.min, IntKind.max, IntKind.signed, IntKind.bits] using h
theorem wf_u8 {a : Int} (h : (Lit.int .u8 a).wf = true) : 0 ≤ a ∧ a ≤ 255 := by
 simpa [Lit.wf, IntKind.min, IntKind.max, IntKind.signed, IntKind.bits] using h
/-- All are octets. -/
def Oct (l : List Int) : Prop := ∀ x ∈ l, 0 ≤ x ∧ x ≤ 255
theorem Oct.of_wf {l : List Int} (h : ∀ x ∈ l, (Lit.int .u8 x).wf = true) : Oct l := fun x hx => wf_u8 (h x hx)
theorem Oct.nil : Oct [] := fun _ h => by cases h
theorem Oct.append {a b : List Int} (ha : Oct a) (hb : Oct b) : Oct (a ++ b) := fun x hx => (List.mem_append.1 hx).elim (ha x) (hb x)
theorem Oct.take {a : List Int} (ha : Oct a) (n : Nat) : Oct (a.take n) := fun x hx => ha x (List.mem_of_mem_take hx)
theorem Oct.drop {a : List Int} (ha : Oct a) (n : Nat) : Oct (a.drop n) := fun x hx => ha x (List.mem_of_mem_drop hx)
theorem rd_nat (l : List Int) (k : Nat) (h : k < l.length) : rd l (k : Int) = l[k] := by
 unfold rd
 simp [List.getD_eq_getElem?_getD, h]

theorem copyBytes_is (a : List Int) (h : a.length < 140737488355328) : undercroftplain_CopyBytes.f a = some a := by
 unfold undercroftplain_CopyBytes.f
 rw [if_pos (by simpa using h)]
 simp

namespace CrcMath
abbrev R := BitVec 32
def poly : R := 0xedb88320#32
def b1 (c : R) : R := (c >>> 1) ^^^ (if c.getLsbD 0 then poly else 0#32)
def bs : Nat → R → R
 | 0, c => c
 | n + 1, c => bs n (b1 c)
theorem b1_xor (a b : R) : b1 (a ^^^ b) = b1 a ^^^ b1 b := by
 unfold b1
 rw [BitVec.ushiftRight_xor_distrib, BitVec.getLsbD_xor]
 cases a.getLsbD 0 <;> cases b.getLsbD 0 <;> simp
 ·ac_rfl
 ·ac_rfl
 ·rw [show a >>> 1 ^^^ poly ^^^ (b >>> 1 ^^^ poly) = (a >>> 1 ^^^ b >>> 1) ^^^ (poly ^^^ poly) by ac_rfl]
  simp
theorem bs_xor (n : Nat) (a b : R) : bs n (a ^^^ b) = bs n a ^^^ bs n b := by
 induction n generalizing a b with
 | zero => rfl
 | succ n ih => rw [bs, b1_xor, ih]; rfl
theorem bs_add (m n : Nat) (c : R) : bs (m + n) c = bs n (bs m c) := by
 induction m generalizing c with
 | zero => simp [bs]
 | succ m ih => rw [Nat.succ_add, bs, ih]; rfl
/-- Bits above the lowest n fall down. -/
theorem b1_even (c : R) (h : c.getLsbD 0 = false) : b1 c = c >>> 1 := by
 unfold b1
 rw [h]
 simp
theorem bs_high (n : Nat) (c : R) (h : ∀ i, i < n → c.getLsbD i = false) : bs n c = c >>> n := by
 induction n generalizing c with
 | zero => simp [bs]
 | succ n ih =>
  rw [bs, b1_even c (h 0 (by omega)), ih, ← BitVec.shiftRight_add]
  ·rw [Nat.add_comm]
  ·intro i hi
   rw [BitVec.getLsbD_ushiftRight]
   exact h _ (by omega)
/-- Four bits at once: a table of sixteen serves. -/
theorem bs4 (c : R) : bs 4 c = (c >>> 4) ^^^ bs 4 (c &&& 15#32) := by
 have hc : c = (c >>> 4 <<< 4) ^^^ (c &&& 15#32) := by
  apply BitVec.eq_of_getLsbD_eq
  intro i hi
  simp only [BitVec.getLsbD_xor, BitVec.getLsbD_shiftLeft, BitVec.getLsbD_ushiftRight, BitVec.getLsbD_and]
  by_cases h4 : i < 4
  ·have : (15#32).getLsbD i = true := by
    rcases i with _ | _ | _ | _ | i <;> first | rfl | omega
   simp [h4, this]
  ·have : (15#32).getLsbD i = false := by
    rw [show (15#32) = BitVec.ofNat 32 15 from rfl, BitVec.getLsbD_ofNat]
    have : Nat.testBit 15 i = false := Nat.testBit_lt_two_pow (Nat.lt_of_lt_of_le (by decide : 15 < 2 ^ 4) (Nat.pow_le_pow_right (by decide) (by omega)))
    simp [this]
   rw [this, show 4 + (i - 4) = i by omega]
   simp [h4, hi]
 have h1 : bs 4 (c >>> 4 <<< 4) = c >>> 4 := by
  rw [bs_high]
  ·apply BitVec.eq_of_getLsbD_eq
   intro i hi
   simp only [BitVec.getLsbD_shiftLeft, BitVec.getLsbD_ushiftRight]
   by_cases h : 4 + i < 32
   ·simp [h]
   ·simp [h]
    exact (BitVec.getLsbD_of_ge _ _ (by omega))
  ·intro i hi
   simp [BitVec.getLsbD_shiftLeft, hi]
 calc bs 4 c = bs 4 ((c >>> 4 <<< 4) ^^^ (c &&& 15#32)) := by rw [← hc]
  _ = _ := by rw [bs_xor, h1]
/-- An octet more. -/
def step (c : R) (x : BitVec 8) : R := bs 8 (c ^^^ x.setWidth 32)
def run (c : R) (l : List (BitVec 8)) : R := l.foldl step c
/-- Two texts of one length. -/
def mix : List (BitVec 8) → List (BitVec 8) → List (BitVec 8) := List.zipWith (· ^^^ ·)
/-- A register's octets, the lowest first. -/
def low (t : R) : List (BitVec 8) := [t.setWidth 8, (t >>> 8).setWidth 8, (t >>> 16).setWidth 8, (t >>> 24).setWidth 8]
def sum (c : R) (l : List (BitVec 8)) : R := ~~~ run (~~~ c) l
def rest : R := bs 32 0xffffffff#32
end CrcMath

open CrcMath
def reg (c : Int) : R := BitVec.ofInt 32 c
def oct (x : Int) : BitVec 8 := BitVec.ofInt 8 x
def num (r : R) : Int := (r.toNat : Int)
theorem reg_num (r : R) : reg (num r) = r := by
 unfold reg num
 rw [BitVec.ofInt_natCast]
 simp
theorem xor_u32 (a b : Int) : Go.bits .xor .u32 a b = num (reg a ^^^ reg b) := by
 show IntKind.u32.wrap _ = _
 rw [IntKind.wrap_u32]
 have := (reg a ^^^ reg b).isLt
 show ((reg a ^^^ reg b).toNat : Int) % 4294967296 = ((reg a ^^^ reg b).toNat : Int)
 omega
theorem and_u32 (a b : Int) : Go.bits .and .u32 a b = num (reg a &&& reg b) := by
 show IntKind.u32.wrap _ = _
 rw [IntKind.wrap_u32]
 have := (reg a &&& reg b).isLt
 show ((reg a &&& reg b).toNat : Int) % 4294967296 = ((reg a &&& reg b).toNat : Int)
 omega
theorem reg_half (r : R) (n : Nat) : reg (num r / (2 ^ n : Nat)) = r >>> n := by
 unfold reg num
 rw [← Int.natCast_ediv, BitVec.ofInt_natCast]
 apply BitVec.eq_of_toNat_eq
 rw [BitVec.toNat_ofNat, BitVec.toNat_ushiftRight, Nat.shiftRight_eq_div_pow]
 exact Nat.mod_eq_of_lt (Nat.lt_of_le_of_lt (Nat.div_le_self _ _) r.isLt)
theorem nstep_is (r : R) : nstep (num r) = num (b1 r) := by
 unfold nstep b1
 rw [xor_u32, and_u32, and_u32, reg_num, reg_num, show num r / 2 = num r / (2 ^ 1 : Nat) by rfl, reg_half]
 congr 2
 by_cases h : r.getLsbD 0 = true
 ·have e : r &&& reg 1 = 1#32 := by
   apply BitVec.eq_of_getLsbD_eq
   intro i hi
   rw [BitVec.getLsbD_and, show reg 1 = 1#32 by decide, BitVec.getLsbD_one]
   by_cases h0 : i = 0
   ·subst h0; rw [h]; simp
   ·simp [h0]
  rw [e, if_pos h]
  decide
 ·have h' : r.getLsbD 0 = false := by simpa using h
  have e : r &&& reg 1 = 0#32 := by
   apply BitVec.eq_of_getLsbD_eq
   intro i hi
   rw [BitVec.getLsbD_and, show reg 1 = 1#32 by decide, BitVec.getLsbD_one]
   by_cases h0 : i = 0
   ·subst h0; rw [h']; simp
   ·simp [h0]
  rw [e, if_neg h]
  decide
theorem bs_out (n : Nat) (r : R) : bs (n + 1) r = b1 (bs n r) := by
 rw [bs_add]; rfl
theorem nibT_is (n : Nat) (r : R) : nibT n (num r) = num (bs n r) := by
 induction n with
 | zero => rfl
 | succ n ih => rw [nibT, ih, nstep_is, bs_out]
theorem hstep_is (r : R) : hstep (num r) = num (bs 4 r) := by
 unfold hstep
 rw [xor_u32, and_u32, reg_num, nibT_is, reg_num, show num r / 16 = num r / (2 ^ 4 : Nat) by rfl, reg_half, show reg 15 = 15#32 by decide, ← bs4]
theorem rstep_is (r : R) (x : Int) (h0 : 0 ≤ x) (h1 : x ≤ 255) : rstep (num r) x = num (CrcMath.step r (oct x)) := by
 unfold rstep CrcMath.step
 rw [xor_u32, reg_num, hstep_is, hstep_is, ← bs_add]
 congr 3
 unfold reg oct
 obtain ⟨n, rfl⟩ := Int.eq_ofNat_of_zero_le h0
 rw [Int.emod_eq_of_lt h0 (by omega), BitVec.ofInt_natCast, BitVec.ofInt_natCast]
 apply BitVec.eq_of_toNat_eq
 simp only [BitVec.toNat_ofNat, BitVec.toNat_setWidth]
 omega
theorem crcI_is (l : List Int) (hl : Oct l) (r : R) : crcI (num r) l = num (run r (l.map oct)) := by
 unfold crcI run
 induction l generalizing r with
 | nil => rfl
 | cons x l ih =>
  rw [List.foldl_cons, List.map_cons, List.foldl_cons, rstep_is r x (hl x (by simp)).1 (hl x (by simp)).2]
  exact ih (fun y hy => hl y (by simp [hy])) _
/-- The sum of octets, as a number. -/
def sumI (c : Int) (l : List Int) : Int := num (sum (reg c) (l.map oct))
theorem xor_ones (r : R) : reg 4294967295 ^^^ r = ~~~ r := by
 apply BitVec.eq_of_getLsbD_eq
 intro i hi
 rw [BitVec.getLsbD_xor, BitVec.getLsbD_not, show reg 4294967295 = BitVec.allOnes 32 by decide, BitVec.getLsbD_allOnes]
 simp [hi]
theorem extend_is (c : Int) (l : List Int) (hl : Oct l) : crc_Extend.f c l = some (sumI c l) := by
 unfold crc_Extend.f sumI sum
 rw [xor_u32, xor_u32, crcI_is _ hl, reg_num, xor_ones, xor_ones]
theorem sum_is (l : List Int) (hl : Oct l) : crc_Sum.f l = some (sumI 0 l) := by
 unfold crc_Sum.f
 rw [extend_is 0 l hl]
 rfl
/-- A number's four octets, the lowest first. -/
def lowI (c : Int) : List Int := [c % 256, c / 256 % 256, c / 65536 % 256, c / 16777216 % 256]
theorem lowI_oct (c : Int) : Oct (lowI c) := by
 intro x hx
 simp [lowI] at hx
 omega
theorem low_is (c : Int) (k : Nat) (hk : 5 ≤ k) : crc_low.f k c = some (lowI c) := by
 obtain ⟨k, rfl⟩ : ∃ m, k = m + 5 := ⟨k - 5, by omega⟩
 unfold crc_low.f
 rw [if_pos (by omega)]
 simp only [Option.bind_some, List.length_replicate]
 have e0 : wrap64 0 = 0 := w_id (by omega) (by omega)
 have e1 : wrap64 1 = 1 := w_id (by omega) (by omega)
 have e2 : wrap64 2 = 2 := w_id (by omega) (by omega)
 have e3 : wrap64 3 = 3 := w_id (by omega) (by omega)
 have e4 : wrap64 4 = 4 := w_id (by omega) (by omega)
 have e8 : wrap64 8 = 8 := w_id (by omega) (by omega)
 have e16 : wrap64 16 = 16 := w_id (by omega) (by omega)
 have e24 : wrap64 24 = 24 := w_id (by omega) (by omega)
 have s0 : shr .u32 c 0 = c := by simp [shr]
 have s1 : shr .u32 c 8 = c / 256 := by simp [shr, IntKind.bits]
 have s2 : shr .u32 c 16 = c / 65536 := by simp [shr, IntKind.bits]
 have s3 : shr .u32 c 24 = c / 16777216 := by simp [shr, IntKind.bits]
 show crc_low.l0 (k + 5) c [0, 0, 0, 0] 4 0 = _
 simp [crc_low.l0, e0, e1, e2, e3, e4, e8, e16, e24, s0, s1, s2, s3, lowI]
theorem seal_is (l : List Int) (hl : Oct l) (k : Nat) (hk : 5 ≤ k) (hm : l.length + 4 < 140737488355328) : crc_Seal.f k l = some (l ++ lowI (sumI 0 l)) := by
 unfold crc_Seal.f
 rw [sum_is l hl]
 simp only [Option.bind_some]
 rw [low_is _ k hk]
 simp only [Option.bind_some]
 unfold slices_Concat_byte_byte.f
 rw [if_pos (by simp [lowI]; omega)]
 simp
theorem equal_is (a b : List Int) (ha : Oct a) (hb : Oct b) : bytes_Equal.f a b = some (decide (a = b)) := by
 unfold bytes_Equal.f
 rw [Lib.strOfNums_toList, Lib.strOfNums_toList]
 congr 1
 by_cases h : a = b
 ·subst h; simp
 ·rw [decide_eq_false h]
  apply beq_eq_false_iff_ne.2
  intro e
  apply h
  unfold Lib.bytesOf at e
  apply List.ext_getElem
  ·have := congrArg List.length e
   simpa using this
  ·intro i h1 h2
   have := congrArg (fun l => l[i]?) e
   simp only [List.getElem?_map, List.getElem?_eq_getElem h1, List.getElem?_eq_getElem h2, Option.map_some, Option.some.injEq] at this
   have p := ha _ (List.getElem_mem h1)
   have q := hb _ (List.getElem_mem h2)
   have e2 := congrArg UInt8.toNat this
   simp only [UInt8.toNat_ofNat'] at e2
   omega
theorem open_is (y : List Int) (hy : Oct y) (k : Nat) (hk : 5 ≤ k) (h4 : 4 ≤ y.length) (hm : y.length < 140737488355328) :
  crc_Open.f k y = if y.drop (y.length - 4) = lowI (sumI 0 (y.take (y.length - 4))) then some (y.take (y.length - 4), 0) else some ([], 21) := by
 unfold crc_Open.f
 rw [if_neg (by omega), w_id (by omega) (by omega), if_pos (by omega), if_pos (by omega)]
 have e : ((y.length : Int) - 4).toNat = y.length - 4 := by omega
 rw [e, sum_is _ (hy.take _)]
 simp only [Option.bind_some]
 rw [low_is _ k hk]
 simp only [Option.bind_some]
 rw [equal_is _ _ (hy.drop _) (lowI_oct _)]
 simp only [Option.bind_some]
 by_cases h : y.drop (y.length - 4) = lowI (sumI 0 (y.take (y.length - 4)))
 ·rw [if_pos h, if_pos (decide_eq_true h)]
  unfold bytes_Clone.f
  rw [if_pos (by rw [List.length_take]; omega)]
  rfl
 ·rw [if_neg h, if_neg (by simpa using h)]
theorem open_sealed (l : List Int) (hl : Oct l) (k : Nat) (hk : 5 ≤ k) (hm : l.length + 4 < 140737488355328) : crc_Open.f k (l ++ lowI (sumI 0 l)) = some (l, 0) := by
 have e : (l ++ lowI (sumI 0 l)).length - 4 = l.length := by simp [lowI]
 rw [open_is _ (hl.append (lowI_oct _)) k hk (by simp [lowI]) (by simp [lowI]; try omega), e]
 simp

/-! #### directories and files of layer 12 -/
theorem less_trans : ∀ {a b c : List UInt8}, Op.bytesLess a b = true → Op.bytesLess b c = true → Op.bytesLess a c = true
 | _, _, [], _, h => by simp [Op.bytesLess] at h
 | [], _, z :: c, _, _ => rfl
 | x :: a, [], _, h, _ => by simp [Op.bytesLess] at h
 | x :: a, y :: b, z :: c, h, k => by
  simp only [Op.bytesLess, Bool.or_eq_true, Bool.and_eq_true, decide_eq_true_eq, beq_iff_eq, UInt8.lt_iff_toNat_lt] at h k ⊢
  rcases h with h | ⟨rfl, h⟩
  ·rcases k with k | ⟨rfl, k⟩
   ·exact .inl (by omega)
   ·exact .inl h
  ·rcases k with k | ⟨rfl, k⟩
   ·exact .inl k
   ·exact .inr ⟨rfl, less_trans h k⟩
theorem size_toList (s : ByteArray) : s.toList.length = s.size := by rw [Lib.toList_data]; exact data_length s
/-- May a name be? -/
def nameOk (s : ByteArray) : Bool := decide (1 ≤ s.size) && decide (s.size ≤ 16) && !(s.toList == [46]) && !(s.toList == [46, 46]) && !(s.toList.contains 47) && !(s.toList.contains 0)
def nameI (s : ByteArray) : Int := if nameOk s = true then 0 else 106
theorem contains_is (s : ByteArray) (c : UInt8) : strings_Contains.f s ⟨#[c]⟩ = some (s.toList.contains c) := by
 show some (decide (0 ≤ Lib.indexByte s.data.toList c)) = _
 rw [Lib.toList_data]
 congr 1
 have hge := Lib.indexByte_ge s.data.toList c
 by_cases h : Lib.indexByte s.data.toList c = -1
 ·have hn := Lib.indexByte_none h
  have : s.data.toList.contains c = false := by
   rw [Bool.eq_false_iff]
   intro hc
   have := List.mem_of_elem_eq_true hc
   obtain ⟨k, hk, e⟩ := List.getElem_of_mem this
   exact hn k (by rw [List.getElem?_eq_getElem hk, e])
  rw [this, h]; rfl
 ·obtain ⟨o, ho⟩ : ∃ o : Nat, Lib.indexByte s.data.toList c = o := ⟨(Lib.indexByte s.data.toList c).toNat, by omega⟩
  have hs := (Lib.indexByte_some ho).1
  have : s.data.toList.contains c = true := List.elem_eq_true_of_mem (List.mem_of_getElem? hs)
  rw [this, ho]
  simp
theorem dir_name (s : ByteArray) : dir_Name.f s = some (nameI s) := by
 unfold dir_Name.f nameI
 have hz := size_toList s
 by_cases h1 : s.toList = []
 ·rw [if_pos h1, if_neg]
  rw [h1] at hz
  simp at hz
  simp [nameOk, ← hz]
 rw [if_neg h1]
 have h1' : 1 ≤ s.size := by
  rcases Nat.eq_zero_or_pos s.size with h | h
  ·rw [h] at hz; exact absurd (List.eq_nil_of_length_eq_zero hz) h1
  ·exact h
 by_cases h2 : s.toList = [46]
 ·rw [if_pos h2, if_neg]; simp [nameOk, h2]
 rw [if_neg h2]
 by_cases h3 : s.toList = [46, 46]
 ·rw [if_pos h3, if_neg]; simp [nameOk, h3]
 rw [if_neg h3]
 by_cases h4 : (s.size : Int) > 16
 ·rw [if_pos h4, if_neg]
  have : ¬ s.size ≤ 16 := by omega
  simp [nameOk, this]
 rw [if_neg h4, contains_is, contains_is]
 have h4' : s.size ≤ 16 := by omega
 simp only [Option.bind_some]
 have e2 : (s.toList == [46]) = false := by simpa using h2
 have e3 : (s.toList == [46, 46]) = false := by simpa using h3
 cases h5 : s.toList.contains 47 <;> cases h6 : s.toList.contains 0 <;> simp only [nameOk, h1', h4', e2, e3, h5, h6, decide_true, Bool.not_false, Bool.not_true, Bool.and_true, Bool.and_false, Bool.true_and, Bool.false_and, if_true, if_false, Bool.false_eq_true, Bool.or_true, Bool.or_false, Bool.true_or, Bool.false_or, Option.bind_some]
/-- May an entry be? -/
def entOk (s : ByteArray) (n : Int) : Bool := nameOk s && decide (1 ≤ n) && decide (n ≤ 2147483647)
theorem dir_may (s : ByteArray) (n : Int) : dir_Entry_may.f s n = some (entOk s n) := by
 unfold dir_Entry_may.f entOk
 rw [dir_name]
 simp only [Option.bind_some, nameI]
 cases nameOk s with
 | false => rfl
 | true =>
  rw [if_pos rfl, if_pos rfl]
  by_cases h : n ≥ 1
  ·rw [if_pos h]; simp [show (1 : Int) ≤ n from h]
  ·rw [if_neg h]; simp [show ¬ (1 : Int) ≤ n from h]
abbrev SR := S101
/-- The reference's entry for the program. -/
def toE (x : SR) : S88 := ⟨x.f0, x.f1⟩
theorem rdE (l : List SR) (i : Nat) : rd_T88 (l.map toE) (i : Int) = toE (l.getD i z101) := by
 unfold rd_T88
 rw [Int.toNat_natCast]
 simp only [List.getD_eq_getElem?_getD, List.getElem?_map]
 cases l[i]? <;> rfl
theorem rdR (l : List SR) (i : Nat) : rd_T101 l (i : Int) = l.getD i z101 := by
 unfold rd_T101
 rw [Int.toNat_natCast]
theorem getD_lt (l : List SR) (i : Nat) (h : i < l.length) : l.getD i z101 = l[i] := by
 simp [List.getD_eq_getElem?_getD, h]
def stepOk (l : List SR) (i : Nat) : Bool := entOk (l.getD i z101).f0 (l.getD i z101).f1 && (i == 0 || Op.bytesLess (l.getD (i - 1) z101).f0.toList (l.getD i z101).f0.toList)
theorem dircheck_loop (l : List SR) (hl : l.length ≤ 63) : ∀ (d i : Nat), i + d = l.length → Ev (fun k => dir_Check.l0 k (l.map toE) (l.map toE) (l.length : Int) (i : Int)) (if (List.range' i d).all (stepOk l) = true then 0 else 9) := by
 intro d
 induction d with
 | zero =>
  intro i hi
  refine Ev.step (f := fun _ => some 0) (fun k => ?_) (by simp; exact Ev.now _)
  simp only [dir_Check.l0]
  rw [if_neg (by omega)]
 | succ d ih =>
  intro i hi
  rw [List.range'_succ, List.all_cons]
  have hlm : (l.map toE).length = l.length := by simp
  have hm : dir_Entry_may.f (rd_T88 (l.map toE) (i : Int)).f0 (rd_T88 (l.map toE) (i : Int)).f1 = some (entOk (l.getD i z101).f0 (l.getD i z101).f1) := by rw [rdE]; exact dir_may _ _
  cases he : entOk (l.getD i z101).f0 (l.getD i z101).f1 with
  | false =>
   have hst : stepOk l i = false := by unfold stepOk; rw [he]; rfl
   rw [hst, Bool.false_and, if_neg (by decide)]
   refine Ev.step (f := fun _ => some 9) (fun k => ?_) (Ev.now _)
   simp only [dir_Check.l0]
   rw [if_pos (by omega), if_pos (by omega), if_pos (by omega), hm, he]; rfl
  | true =>
   by_cases h0 : i = 0
   ·subst h0
    have hst : stepOk l 0 = true := by unfold stepOk; rw [he]; rfl
    rw [hst, Bool.true_and]
    refine Ev.step (f := fun k => dir_Check.l0 k (l.map toE) (l.map toE) (l.length : Int) ((0 + 1 : Nat) : Int)) (fun k => ?_) (ih 1 (by omega))
    simp only [dir_Check.l0]
    rw [if_pos (by omega), if_pos (by omega), if_pos (by omega), hm, he]
    simp only [Option.bind_some]
    rw [if_pos trivial, if_neg (by omega), w_id (by omega) (by omega)]
    rfl
   ·have hp := rdE l (i - 1)
    have e1 : ((i - 1 : Nat) : Int) = (i : Int) - 1 := by omega
    rw [e1] at hp
    have hbl : Op.bytesLess (rd_T88 (l.map toE) ((i : Int) - 1)).f0.toList (rd_T88 (l.map toE) (i : Int)).f0.toList = Op.bytesLess (l.getD (i - 1) z101).f0.toList (l.getD i z101).f0.toList := by rw [hp, rdE]; rfl
    have h00 : (i == 0) = false := by simpa using h0
    cases hb : Op.bytesLess (l.getD (i - 1) z101).f0.toList (l.getD i z101).f0.toList with
    | true =>
     have hst : stepOk l i = true := by unfold stepOk; rw [he, hb, h00]; rfl
     rw [hst, Bool.true_and]
     rw [hb] at hbl
     refine Ev.step (f := fun k => dir_Check.l0 k (l.map toE) (l.map toE) (l.length : Int) ((i + 1 : Nat) : Int)) (fun k => ?_) (ih (i + 1) (by omega))
     simp only [dir_Check.l0]
     rw [if_pos (by omega), if_pos (by omega), if_pos (by omega), hm, he]
     simp only [Option.bind_some]
     rw [if_pos trivial, if_pos (by omega), w_id (by omega) (by omega), if_pos (by omega), if_pos (by omega), if_pos hbl, w_id (by omega) (by omega)]
     rfl
    | false =>
     have hst : stepOk l i = false := by unfold stepOk; rw [he, hb, h00]; rfl
     rw [hst, Bool.false_and, if_neg (by decide)]
     rw [hb] at hbl
     refine Ev.step (f := fun _ => some 9) (fun k => ?_) (Ev.now _)
     simp only [dir_Check.l0]
     rw [if_pos (by omega), if_pos (by omega), if_pos (by omega), hm, he]
     simp only [Option.bind_some]
     rw [if_pos trivial, if_pos (by omega), w_id (by omega) (by omega), if_pos (by omega), if_pos (by omega), if_neg (by rw [hbl]; decide)]
/-- May entries be? -/
def Good (l : List SR) : Prop := l.length ≤ 63 ∧ (∀ x ∈ l, entOk x.f0 x.f1 = true) ∧ l.Pairwise (fun a b => Op.bytesLess a.f0.toList b.f0.toList = true)
instance (l : List SR) : Decidable (Good l) := by unfold Good; infer_instance
def checkI (l : List SR) : Int := if Good l then 0 else 9
theorem good_iff (l : List SR) : (l.length ≤ 63 ∧ (List.range l.length).all (stepOk l) = true) ↔ Good l := by
 unfold Good
 refine and_congr_right fun _ => ?_
 rw [List.all_eq_true]
 constructor
 ·intro h
  have hs : ∀ i, i < l.length → stepOk l i = true := fun i hi => h i (List.mem_range.2 hi)
  refine ⟨fun x hx => ?_, ?_⟩
  ·obtain ⟨i, hi, rfl⟩ := List.getElem_of_mem hx
   have := hs i hi
   simp only [stepOk, Bool.and_eq_true, getD_lt l i hi] at this
   exact this.1
  ·rw [List.pairwise_iff_getElem]
   have adj : ∀ i (hi : i + 1 < l.length), Op.bytesLess (l[i]'(by omega)).f0.toList l[i + 1].f0.toList = true := fun i hi => by
    have := hs (i + 1) hi
    simp only [stepOk, Bool.and_eq_true, getD_lt l (i + 1) hi, Nat.add_sub_cancel, getD_lt l i (by omega)] at this
    simpa using this.2
   intro i j hi hj hij
   obtain ⟨d, rfl⟩ : ∃ d, j = i + 1 + d := ⟨j - i - 1, by omega⟩
   clear hij
   induction d with
   | zero => exact adj i hj
   | succ d ih => exact less_trans (ih (by omega)) (adj (i + 1 + d) hj)
 ·rintro ⟨h1, h2⟩ i hi
  have hi := List.mem_range.1 hi
  simp only [stepOk, Bool.and_eq_true, getD_lt l i hi]
  refine ⟨h1 _ (List.getElem_mem hi), ?_⟩
  by_cases h0 : i = 0
  ·simp [h0]
  ·rw [getD_lt l (i - 1) (by omega), (List.pairwise_iff_getElem.1 h2) (i - 1) i (by omega) hi (by omega)]
   simp
theorem checkI_is (l : List SR) (hl : l.length ≤ 63) : (if (List.range' 0 l.length).all (stepOk l) = true then (0 : Int) else 9) = checkI l := by
 unfold checkI
 have := good_iff l
 rw [List.range_eq_range'] at this
 by_cases h : (List.range' 0 l.length).all (stepOk l) = true
 ·rw [if_pos h, if_pos (this.1 ⟨hl, h⟩)]
 ·rw [if_neg h, if_neg (fun g => h (this.2 g).2)]
theorem dir_check (l : List SR) : Ev (fun k => dir_Check.f k (l.map toE)) (checkI l) := by
 by_cases hl : l.length ≤ 63
 ·rw [← checkI_is l hl]
  refine Ev.congr (fun k => ?_) (dircheck_loop l hl l.length 0 (by omega))
  unfold dir_Check.f
  simp only [List.length_map]
  rw [if_neg (by omega)]
  rfl
 ·have : checkI l = 9 := by unfold checkI; rw [if_neg (fun g => hl g.1)]
  rw [this]
  refine Ev.congr (f := fun _ => some 9) (fun k => ?_) (Ev.now _)
  unfold dir_Check.f
  simp only [List.length_map]
  rw [if_pos (by omega)]
def hi (l : List SR) (n : ByteArray) : List SR := l.filter fun y => !Op.bytesLess y.f0.toList n.toList
theorem of_loop (l : List SR) (hl : l.length * 24 ≤ 140737488351232) : ∀ (d i : Nat), i + d = l.length → Ev (fun k => undercroftlaw08_Of.l0 k l ((l.take i).map toE) (i : Int)) (l.map toE) := by
 intro d
 induction d with
 | zero =>
  intro i hi
  rw [List.take_of_length_le (by omega)]
  refine Ev.step (f := fun _ => some (l.map toE)) (fun k => ?_) (Ev.now _)
  simp only [undercroftlaw08_Of.l0]
  rw [if_neg (by omega)]
 | succ d ih =>
  intro i hi
  have hlt : i < l.length := by omega
  have hx := rdR l i
  rw [getD_lt l i hlt] at hx
  refine Ev.step (f := fun k => undercroftlaw08_Of.l0 k l ((l.take (i + 1)).map toE) ((i + 1 : Nat) : Int)) (fun k => ?_) (ih (i + 1) (by omega))
  simp only [undercroftlaw08_Of.l0]
  rw [if_pos (by omega), if_pos (by omega), if_pos (by simp; omega), hx, w_id (by omega) (by omega), List.take_succ_eq_append_getElem hlt, List.map_append]
  rfl
theorem of_is (l : List SR) (hl : l.length * 24 ≤ 140737488351232) : Ev (fun k => undercroftlaw08_Of.f k l) (l.map toE) := of_loop l hl l.length 0 (by omega)
theorem good_nil : Good [] := ⟨by simp, (fun x hx => by cases hx), List.Pairwise.nil⟩
/-- All entries' octets. -/
def encR (l : List SR) : List Int := encA (l.map toE)
def encI (l : List SR) : List Int × Int := if Good l then (encR l, 0) else ([], 9)
theorem ent_size {l : List SR} (h : Good l) {x : SR} (hx : x ∈ l) : x.f0.size ≤ 16 ∧ 1 ≤ x.f1 ∧ x.f1 ≤ 2147483647 := by
 have := h.2.1 x hx
 simp only [entOk, nameOk, Bool.and_eq_true, decide_eq_true_eq] at this
 exact ⟨this.1.1.1.1.1.1.2, this.1.2, this.2⟩
theorem good_enc {l : List SR} (h : Good l) : encOk (l.map toE) = true := by
 simp only [encOk, Bool.and_eq_true, decide_eq_true_eq, List.all_eq_true, List.length_map]
 refine ⟨h.1, fun y hy => ?_⟩
 obtain ⟨x, hx, rfl⟩ := List.mem_map.1 hy
 have := ent_size h hx
 exact ⟨⟨this.1, this.2.1⟩, this.2.2⟩
theorem dir_enc (l : List SR) : Ev (fun k => dir_Encode.f k (l.map toE)) (encI l) := by
 unfold dir_Encode.f
 refine Ev.bind (dir_check l) ?_
 unfold checkI encI
 by_cases h : Good l
 ·simp only [if_pos h, if_true, good_enc h]; exact Ev.now _
 ·simp only [if_neg h]; rw [if_neg (by decide)]; exact Ev.now _
/-! #### which files may be -/
/-- Whether a block may not be there: behind one of place 'last', in a file of n blocks. -/
theorem encR_oct {l : List SR} (hl : ∀ x ∈ l, x.f0.size ≤ 16) : Oct (encR l) := by
 intro y hy
 unfold encR encA at hy
 obtain ⟨e, he, hy⟩ := List.mem_flatMap.1 hy
 obtain ⟨x, hx, rfl⟩ := List.mem_map.1 he
 have hs := hl x hx
 have hy : y = (x.f0.size : Int) ∨ y ∈ bytesOf x.f0 ∨ y ∈ octI x.f1 4 := by
  have : y ∈ (x.f0.size : Int) :: (bytesOf x.f0 ++ octI x.f1 4) := hy
  simpa using this
 rcases hy with rfl | hy | hy
 ·omega
 ·unfold bytesOf at hy
  obtain ⟨b, _, rfl⟩ := List.mem_map.1 hy
  have := b.toNat_lt
  omega
 ·unfold octI at hy
  obtain ⟨i, _, rfl⟩ := List.mem_map.1 hy
  omega
def badB (n sz last : Int) (b : S100) : Bool := decide (b.f0 ≤ last) || (decide (b.f0 ≥ n) || (!decide ((b.f1.length : Int) = 32) || (zeroI b.f1 || (decide (sz - 32 * b.f0 < 32) && !zeroI (b.f1.drop (sz - 32 * b.f0).toNat)))))
def checkL (n sz : Int) : Int → List S100 → Int
 | _, [] => 0
 | last, b :: r => if badB n sz last b = true then 9 else checkL n sz b.f0 r
def checkF (sz : Int) (l : List S100) : Int := if sz < 0 then 9 else if 2432 < sz then 9 else checkL ((sz + 31) / 32) sz (-1) l
theorem blocks_is {sz : Int} : ∃ n m e, blockmap_Blocks.f sz = some (n, m, e) ∧ (e = 0 → 0 ≤ sz ∧ sz ≤ 2432 ∧ n = (sz + 31) / 32) ∧ (e ≠ 0 → sz < 0 ∧ e = 4 ∨ 2432 < sz ∧ e = 107) := by
 unfold blockmap_Blocks.f
 by_cases h1 : sz < 0
 ·rw [if_pos h1]
  exact ⟨0, 0, 4, rfl, fun h => by omega, fun _ => .inl ⟨h1, rfl⟩⟩
 ·rw [if_neg h1]
  by_cases h2 : sz > 2432
  ·rw [if_pos h2]
   exact ⟨0, 0, 107, rfl, fun h => by omega, fun _ => .inr ⟨h2, rfl⟩⟩
  ·rw [if_neg h2]
   have hu : ∀ x y : Int, 0 ≤ x → x ≤ 2432 → (y = 32 ∨ y = 8) → blockmap_up.f x y = some ((x + y - 1) / y) := by
    intro x y hx1 hx2 hy
    unfold blockmap_up.f
    rw [if_neg (by omega)]
    have e1 : wrap64 (x + y) = x + y := by unfold wrap64; omega
    rw [e1]
    have e2 : wrap64 (x + y - 1) = x + y - 1 := by unfold wrap64; omega
    rw [e2, Int.tdiv_eq_ediv_of_nonneg (by omega)]
    have e3 : wrap64 ((x + y - 1) / y) = (x + y - 1) / y := by
     rcases hy with rfl | rfl
     ·unfold wrap64; omega
     ·unfold wrap64; omega
    rw [e3]
   have e0 : (sz + 32 - 1) / 32 = (sz + 31) / 32 := by congr 1; omega
   rw [hu sz 32 (by omega) (by omega) (.inl rfl), e0]
   show ∃ n m e, (if (sz + 31) / 32 > 12 then _ else _) = _ ∧ _
   by_cases h3 : (sz + 31) / 32 > 12
   ·rw [if_pos h3]
    have e4 : wrap64 ((sz + 31) / 32 - 12) = (sz + 31) / 32 - 12 := by unfold wrap64; omega
    rw [e4, hu _ 8 (by omega) (by omega) (.inr rfl)]
    exact ⟨_, _, 0, rfl, fun _ => ⟨by omega, by omega, rfl⟩, fun h => absurd rfl h⟩
   ·rw [if_neg h3]
    by_cases h4 : (sz + 31) / 32 > 4
    ·rw [if_pos h4]
     exact ⟨_, _, 0, rfl, fun _ => ⟨by omega, by omega, rfl⟩, fun h => absurd rfl h⟩
    ·rw [if_neg h4]
     exact ⟨_, _, 0, rfl, fun _ => ⟨by omega, by omega, rfl⟩, fun h => absurd rfl h⟩
theorem fcheck_l0 {n sz : Int} {l : List S100} (hsz : 0 ≤ sz ∧ sz ≤ 2432) (hn : n ≤ 76) (hnn : 32 * n ≤ sz + 31) (hmax : l.length ≤ 9223372036854775807) : ∀ (d k j : Nat) (last : Int), l.length - j = d → 2 * d + 1 ≤ k → j ≤ l.length → -1 ≤ last →
  file_Check.l0 k n last l (l.length : Int) (j : Int) sz l = some (checkL n sz last (l.drop j)) := by
 intro d
 induction d with
 | zero =>
  intro k j last hd hk hj hl
  obtain ⟨k, rfl⟩ : ∃ m, k = m + 1 := ⟨k - 1, by omega⟩
  have hjl : j = l.length := by omega
  subst hjl
  simp only [file_Check.l0]
  rw [if_neg (by omega), List.drop_length]
  rfl
 | succ d ih =>
  intro k j last hd hk hj hl
  obtain ⟨k, rfl⟩ : ∃ m, k = m + 1 + 1 := ⟨k - 2, by omega⟩
  have hjl : j < l.length := by omega
  have hrd : rd_T100 l (j : Int) = l[j] := by
   unfold rd_T100
   rw [Int.toNat_natCast, List.getD_eq_getElem?_getD, List.getElem?_eq_getElem hjl]
   rfl
  have hdr : l.drop j = l[j] :: l.drop (j + 1) := List.drop_eq_getElem_cons hjl
  have hw : wrap64 ((j : Int) + 1) = ((j + 1 : Nat) : Int) := by unfold wrap64; omega
  rw [hdr]
  have hj1 : ∀ z : Bool, file_Check.j1 (k + 1) n l (l.length : Int) (j : Int) z sz l l[j].f0 l[j].f1 = if z = true then some 9 else (if (wrap64 (sz - (wrap64 (32 * l[j].f0)))) < 32 then (if 0 ≤ (wrap64 (sz - (wrap64 (32 * l[j].f0)))) then (if (wrap64 (sz - (wrap64 (32 * l[j].f0)))) ≤ (l[j].f1.length : Int) then ((file_zero.f (l[j].f1.drop ((wrap64 (sz - (wrap64 (32 * l[j].f0)))) : Int).toNat)).bind fun t123 => (if t123 = true then (file_Check.l0 k n l[j].f0 l (l.length : Int) (wrap64 ((j : Int) + 1)) sz l) else (some 9))) else (none)) else (none)) else (file_Check.l0 k n l[j].f0 l (l.length : Int) (wrap64 ((j : Int) + 1)) sz l)) := fun z => by
   simp only [file_Check.j1]
  have hl0 : file_Check.l0 (k + 1 + 1) n last l (l.length : Int) (j : Int) sz l = (if l[j].f0 ≤ last then (file_Check.j1 (k + 1) n l (l.length : Int) (j : Int) true sz l l[j].f0 l[j].f1) else (if l[j].f0 ≥ n then (file_Check.j1 (k + 1) n l (l.length : Int) (j : Int) true sz l l[j].f0 l[j].f1) else (if ((l[j].f1).length : Int) = 32 then ((file_zero.f (l[j].f1)).bind fun t121 => (file_Check.j1 (k + 1) n l (l.length : Int) (j : Int) t121 sz l l[j].f0 l[j].f1)) else (file_Check.j1 (k + 1) n l (l.length : Int) (j : Int) true sz l l[j].f0 l[j].f1)))) := by
   simp only [file_Check.l0]
   rw [if_pos (by omega), if_pos (by omega), if_pos (by omega), hrd]
  rw [hl0]
  unfold checkL
  generalize l[j] = b at *
  obtain ⟨b0, b1⟩ := b
  simp only at hj1 ⊢
  unfold badB
  simp only
  by_cases c1 : b0 ≤ last
  ·rw [if_pos c1, hj1, if_pos rfl, if_pos (by simp [c1])]
  ·rw [if_neg c1]
   by_cases c2 : b0 ≥ n
   ·rw [if_pos c2, hj1, if_pos rfl, if_pos (by simp [c2])]
   ·rw [if_neg c2]
    by_cases c3 : (b1.length : Int) = 32
    ·rw [if_pos c3]
     have e1 : wrap64 (32 * b0) = 32 * b0 := by unfold wrap64; omega
     have e2 : wrap64 (sz - 32 * b0) = sz - 32 * b0 := by unfold wrap64; omega
     show (file_Check.j1 (k + 1) n l (l.length : Int) (j : Int) (zeroI b1) sz l b0 b1) = _
     rw [hj1, e1, e2, hw]
     by_cases c4 : zeroI b1 = true
     ·rw [if_pos c4, if_pos (by simp [c4])]
     ·rw [if_neg c4]
      have ih1 := ih k (j + 1) b0 (by omega) (by omega) (by omega) (by omega)
      by_cases c5 : sz - 32 * b0 < 32
      ·rw [if_pos c5]
       by_cases c6 : 0 ≤ sz - 32 * b0
       ·rw [if_pos c6, if_pos (by omega)]
        show (if zeroI (b1.drop (sz - 32 * b0).toNat) = true then _ else _) = _
        by_cases c7 : zeroI (b1.drop (sz - 32 * b0).toNat) = true
        ·rw [if_pos c7, ih1, if_neg (by simp [c1, c2, c3, c4, c5, c7])]
        ·rw [if_neg c7, if_pos (by simp [c5, c7])]
       ·exfalso; omega
      ·rw [if_neg c5, ih1, if_neg (by simp [c1, c2, c3, c4, c5])]
    ·rw [if_neg c3, hj1, if_pos rfl, if_pos (by simp [c3])]
theorem check_ev (sz : Int) (l : List S100) (hmax : l.length ≤ 9223372036854775807) : ∀ k, 2 * l.length + 1 ≤ k → file_Check.f k sz l = some (checkF sz l) := by
 intro k hk
 unfold file_Check.f
 obtain ⟨n, m, e, h1, h2, h3⟩ := blocks_is (sz := sz)
 rw [h1]
 show (if e = 0 then file_Check.l0 k n (-1) l (l.length : Int) 0 sz l else some 9) = _
 unfold checkF
 by_cases he : e = 0
 ·obtain ⟨a, b, c⟩ := h2 he
  rw [if_pos he, if_neg (by omega), if_neg (by omega), ← c]
  exact fcheck_l0 (n := n) ⟨a, b⟩ (by omega) (by omega) hmax l.length k 0 (-1) (by omega) hk (Nat.zero_le _) (by omega)
 ·rw [if_neg he]
  rcases h3 he with ⟨a, _⟩ | ⟨a, _⟩
  ·rw [if_pos a]
  ·by_cases h0 : sz < 0
   ·rw [if_pos h0]
   ·rw [if_neg h0, if_pos a]
theorem badB_not {n sz last : Int} {b : S100} (h : badB n sz last b = false) : last < b.f0 ∧ b.f0 < n ∧ b.f1.length = 32 ∧ zeroI b.f1 = false ∧ (sz - 32 * b.f0 < 32 → zeroI (b.f1.drop (sz - 32 * b.f0).toNat) = true) := by
 unfold badB at h
 simp only [Bool.or_eq_false_iff, decide_eq_false_iff_not, Bool.not_eq_false', decide_eq_true_eq, Bool.and_eq_false_iff] at h
 obtain ⟨h1, h2, h3, h4, h5⟩ := h
 refine ⟨by omega, by omega, by omega, h4, fun h6 => ?_⟩
 rcases h5 with h5 | h5
 ·exact absurd h6 h5
 ·exact h5
theorem checkL_good {n sz : Int} : ∀ {l : List S100} {last : Int}, -1 ≤ last → checkL n sz last l = 0 → (∀ b ∈ l, last < b.f0 ∧ b.f0 < n ∧ b.f1.length = 32 ∧ zeroI b.f1 = false ∧ (sz - 32 * b.f0 < 32 → zeroI (b.f1.drop (sz - 32 * b.f0).toNat) = true)) ∧ l.Pairwise (fun a b => a.f0 < b.f0)
 | [], _, _, _ => ⟨fun b hb => (by cases hb), List.Pairwise.nil⟩
 | b :: r, last, hl, h => by
  unfold checkL at h
  cases hb : badB n sz last b with
  | true => rw [hb, if_pos rfl] at h; cases h
  | false =>
   rw [hb, if_neg (by decide)] at h
   obtain ⟨h1, h2⟩ := badB_not hb
   obtain ⟨i1, i2⟩ := checkL_good (by omega) h
   refine ⟨fun c hc => ?_, List.pairwise_cons.2 ⟨fun c hc => (i1 c hc).1, i2⟩⟩
   rcases List.mem_cons.1 hc with rfl | hc
   ·exact ⟨h1, h2⟩
   ·obtain ⟨j1, j2⟩ := i1 c hc
    exact ⟨by omega, j2⟩
theorem inc_len : ∀ {l : List S100} {lo hi : Nat}, l.Pairwise (fun a b => a.f0 < b.f0) → (∀ b ∈ l, (lo : Int) ≤ b.f0 ∧ b.f0 < (hi : Int)) → l.length ≤ hi - lo
 | [], _, _, _, _ => Nat.zero_le _
 | b :: r, lo, hi, hp, hb => by
  obtain ⟨h1, h2⟩ := List.pairwise_cons.1 hp
  obtain ⟨h3, h4⟩ := hb b List.mem_cons_self
  obtain ⟨q, hq⟩ : ∃ q : Nat, b.f0 = (q : Int) := ⟨b.f0.toNat, by omega⟩
  have ih := inc_len (lo := q + 1) (hi := hi) h2 (fun c hc => ⟨by have := h1 c hc; omega, (hb c (List.mem_cons_of_mem _ hc)).2⟩)
  simp only [List.length_cons]
  omega
/-- What a file that may be is like. -/
theorem check_good {sz : Int} {l : List S100} (h : checkF sz l = 0) : (0 ≤ sz ∧ sz ≤ 2432) ∧ l.length ≤ 76 ∧ (∀ b ∈ l, 0 ≤ b.f0 ∧ b.f0 < 76 ∧ b.f1.length = 32) := by
 unfold checkF at h
 by_cases h1 : sz < 0
 ·rw [if_pos h1] at h; cases h
 ·rw [if_neg h1] at h
  by_cases h2 : 2432 < sz
  ·rw [if_pos h2] at h; cases h
  ·rw [if_neg h2] at h
   obtain ⟨i1, i2⟩ := checkL_good (by omega) h
   have h3 : ∀ b ∈ l, 0 ≤ b.f0 ∧ b.f0 < 76 ∧ b.f1.length = 32 := fun b hb => by
    obtain ⟨a, b', c, _⟩ := i1 b hb
    exact ⟨by omega, by omega, c⟩
   have h4 := inc_len (lo := 0) (hi := 76) i2 (fun b hb => ⟨(h3 b hb).1, (h3 b hb).2.1⟩)
   exact ⟨⟨by omega, by omega⟩, h4, h3⟩
def t39 (x : S102) : S100 := ⟨x.f0, x.f1⟩
theorem rd57 (l : List S102) (j : Nat) (h : j < l.length) : rd_T102 l (j : Int) = l[j] := by
 unfold rd_T102
 rw [Int.toNat_natCast, List.getD_eq_getElem?_getD, List.getElem?_eq_getElem h]
 rfl
theorem take_snoc {α : Type} (l : List α) (j : Nat) (h : j < l.length) : l.take (j + 1) = l.take j ++ [l[j]] := by rw [List.take_add_one, List.getElem?_eq_getElem h]; rfl
theorem law_of_loop {sz : Int} {l : List S102} (h1 : l.length ≤ 4398046510976) (h2 : ∀ b ∈ l, b.f1.length ≤ 140737488351232) : ∀ (d j : Nat), l.length - j = d → j ≤ l.length →
  Ev (fun k => undercroftlaw07_Of.l0 k (j : Int) sz l sz ((l.take j).map t39)) (sz, l.map t39) := by
 intro d
 induction d with
 | zero =>
  intro j hd hj
  refine Ev.step (f := fun _ => some (sz, l.map t39)) (fun k => ?_) (Ev.now _)
  simp only [undercroftlaw07_Of.l0]
  rw [if_neg (by omega), List.take_of_length_le (by omega)]
 | succ d ih =>
  intro j hd hj
  have hlt : j < l.length := by omega
  refine Ev.step (f := fun k => undercroftlaw07_Of.l0 k ((j + 1 : Nat) : Int) sz l sz ((l.take (j + 1)).map t39)) (fun k => ?_) (ih (j + 1) (by omega) (by omega))
  simp only [undercroftlaw07_Of.l0]
  rw [if_pos (by omega), if_pos (by omega), rd57 l j hlt, copyBytes_is _ (by have := h2 _ (List.getElem_mem hlt); omega)]
  show (if ((l.take j).map t39).length < 4398046511104 then _ else _) = _
  rw [if_pos (by rw [List.length_map, List.length_take]; omega), w_id (by omega) (by omega), take_snoc l j hlt, List.map_append]
  rfl
theorem law_of {sz : Int} {l : List S102} (h1 : l.length ≤ 4398046510976) (h2 : ∀ b ∈ l, b.f1.length ≤ 140737488351232) : Ev (fun k => undercroftlaw07_Of.f k sz l) (sz, l.map t39) :=
 Ev.congr (fun _ => rfl) (law_of_loop h1 h2 l.length 0 (by omega) (Nat.zero_le _))

/-- A number in groups of 7 bits. -/
def encF : Nat → Nat → List Int
 | 0, m => [(m : Int)]
 | f + 1, m => if m ≤ 127 then [(m : Int)] else ((m % 128 + 128 : Nat) : Int) :: encF f (m / 128)
theorem or_128 : ∀ v : Nat, v < 256 → Go.bits .or .u8 (v : Int) 128 = ((v % 128 + 128 : Nat) : Int) := by decide +kernel
theorem and_127 : ∀ v : Nat, v < 256 → Go.bits .and .i64 (v : Int) 127 = ((v % 128 : Nat) : Int) := by decide +kernel
theorem groups_ev : ∀ (f m : Nat) (b : List Int), m < 128 ^ (f + 1) → b.length + f < 140737488355328 → Ev (fun k => wire_groups.l0 k b (m : Int)) (b ++ encF f m) := by
 intro f
 induction f with
 | zero =>
  intro m b hm hb
  have hm' : m < 128 := hm
  refine Ev.step (f := fun _ => some (b ++ [(m : Int)])) (fun k => ?_) (Ev.now _)
  rw [wire_groups.l0, if_neg (by omega), if_pos (by omega), show (m : Int) % 256 = (m : Int) by omega]
 | succ f ih =>
  intro m b hm hb
  by_cases h : m ≤ 127
  ·rw [encF, if_pos h]
   refine Ev.step (f := fun _ => some (b ++ [(m : Int)])) (fun k => ?_) (Ev.now _)
   rw [wire_groups.l0, if_neg (by omega), if_pos (by omega), show (m : Int) % 256 = (m : Int) by omega]
  ·have h2 : m / 128 < 128 ^ (f + 1) := by
    refine Nat.div_lt_of_lt_mul ?_
    rw [Nat.mul_comm]
    exact hm
   have e : b ++ encF (f + 1) m = (b ++ [((m % 128 + 128 : Nat) : Int)]) ++ encF f (m / 128) := by rw [encF, if_neg h, List.append_assoc]; rfl
   rw [e]
   refine Ev.step (f := fun k => wire_groups.l0 k (b ++ [((m % 128 + 128 : Nat) : Int)]) ((m / 128 : Nat) : Int)) (fun k => ?_) (ih (m / 128) _ h2 (by rw [List.length_append, List.length_singleton]; omega))
   have e1 : (m : Int) % 256 = ((m % 256 : Nat) : Int) := by omega
   have e2 : m % 256 % 128 + 128 = m % 128 + 128 := by omega
   rw [wire_groups.l0, if_pos (by omega), if_pos (by omega), e1, or_128 _ (by omega), e2]
   rfl
theorem encF_len : ∀ (f m : Nat), (encF f m).length ≤ f + 1 := by
 intro f
 induction f with
 | zero => intro m; exact Nat.le_refl _
 | succ f ih =>
  intro m
  rw [encF]
  split
  ·simp
  ·rw [List.length_cons]; have := ih (m / 128); omega
theorem encF_oct : ∀ (f m : Nat), m < 128 ^ (f + 1) → Oct (encF f m) := by
 intro f
 induction f with
 | zero =>
  intro m hm x hx
  have hm' : m < 128 := hm
  rw [encF, List.mem_singleton] at hx
  omega
 | succ f ih =>
  intro m hm
  rw [encF]
  split
  ·intro x hx
   rw [List.mem_singleton] at hx
   omega
  ·intro x hx
   rcases List.mem_cons.1 hx with h | h
   ·omega
   ·exact ih (m / 128) (by refine Nat.div_lt_of_lt_mul ?_; rw [Nat.mul_comm]; exact hm) x h
theorem gstep_is (N c i : Nat) (hc : c < 256) (hi : i ≤ 9) (hN : N < 2 ^ (7 * i)) (hX : (c % 128) * 2 ^ (7 * i) < 18446744073709551616) : gstep (N : Int) (c : Int) i = ((N + (c % 128) * 2 ^ (7 * i) : Nat) : Int) := by
 have hP : 2 ^ (7 * i) ≤ 9223372036854775808 := by
  have : 2 ^ (7 * i) ≤ 2 ^ 63 := Nat.pow_le_pow_right (by decide) (by omega)
  exact this
 unfold gstep
 rw [and_127 c hc]
 have e1 : IntKind.u64.wrap ((c % 128 : Nat) : Int) = ((c % 128 : Nat) : Int) := by rw [IntKind.wrap_u64]; omega
 have e2 : (((c % 128 : Nat) : Int) * 2 ^ (7 * i)) = (((c % 128) * 2 ^ (7 * i) : Nat) : Int) := by rw [Int.natCast_mul, Int.natCast_pow]; rfl
 rw [e1, e2]
 have e4 : N ||| (c % 128) * 2 ^ (7 * i) = N + (c % 128) * 2 ^ (7 * i) := by
  have := Nat.two_pow_add_eq_or_of_lt hN (c % 128)
  rw [Nat.or_comm, Nat.mul_comm, ← this, Nat.add_comm]
 generalize (c % 128) * 2 ^ (7 * i) = X at *
 have e3 : IntKind.u64.wrap (X : Int) = (X : Int) := by rw [IntKind.wrap_u64]; omega
 rw [e3, bits_or_u64_nat N X (by omega) hX, e4]
theorem groups_dec : ∀ (f i N m : Nat) (r : List Int), i + f = 9 → N < 2 ^ (7 * i) → m < 128 ^ (f + 1) → N + m * 2 ^ (7 * i) < 18446744073709551616 → (0 < i → 0 < m) → groupsI i (N : Int) (encF f m ++ r) = ((((N + m * 2 ^ (7 * i) : Nat) : Int), none), r) := by
 intro f
 induction f with
 | zero =>
  intro i N m r hi hN hm hX h0
  have hm' : m < 128 := hm
  have hi9 : i = 9 := by omega
  have h1 : m ≤ 1 := by
   rw [hi9] at hX
   have e : 2 ^ (7 * 9) = 9223372036854775808 := by decide
   rw [e] at hX
   omega
  have hs := gstep_is N m i (by omega) (by omega) hN (by rw [show m % 128 = m by omega]; omega)
  rw [show m % 128 = m by omega] at hs
  rw [encF, List.singleton_append, groupsI_end (by omega) (by omega), hs]
 | succ f ih =>
  intro i N m r hi hN hm hX h0
  by_cases h : m ≤ 127
  ·have hs := gstep_is N m i (by omega) (by omega) hN (by rw [show m % 128 = m by omega]; omega)
   rw [show m % 128 = m by omega] at hs
   rw [encF, if_pos h, List.singleton_append, groupsI_end (by omega) (by omega), hs]
  ·obtain ⟨q, hq⟩ : ∃ q, q = m / 128 := ⟨_, rfl⟩
   obtain ⟨s, hs⟩ : ∃ s, s = m % 128 := ⟨_, rfl⟩
   have hms : m = 128 * q + s := by omega
   have hP : 2 ^ (7 * (i + 1)) = 128 * 2 ^ (7 * i) := by rw [Nat.mul_add, Nat.pow_add, Nat.mul_comm]
   have hq1 : q < 128 ^ (f + 1) := by
    rw [hq]
    refine Nat.div_lt_of_lt_mul ?_
    rw [Nat.mul_comm]
    exact hm
   have hsum : s * 2 ^ (7 * i) + q * (128 * 2 ^ (7 * i)) = m * 2 ^ (7 * i) := by
    rw [hms, Nat.add_mul, Nat.mul_comm 128 q, Nat.mul_assoc, Nat.add_comm]
   have hs127 : s * 2 ^ (7 * i) ≤ 127 * 2 ^ (7 * i) := Nat.mul_le_mul_right _ (by omega)
   have hg := gstep_is N (s + 128) i (by omega) (by omega) hN (by rw [show (s + 128) % 128 = s by omega]; omega)
   rw [show (s + 128) % 128 = s by omega] at hg
   have hi2 := ih (i + 1) (N + s * 2 ^ (7 * i)) q r (by omega) (by rw [hP]; omega) hq1 (by rw [hP]; omega) (fun _ => by omega)
   rw [encF, if_neg h, ← hs, ← hq, List.cons_append, groupsI_on (by omega) (by omega), hg, hi2, hP]
   congr 3
   omega
/-- A number with its sign. -/
def zN (n : Int) : Nat := if 0 ≤ n then (2 * n).toNat else (-2 * n - 1).toNat
theorem x0_i64 (x : Int) (h0 : -9223372036854775808 ≤ x) (h1 : x ≤ 9223372036854775807) : Go.bits .xor .i64 x 0 = x := by
 show IntKind.i64.wrap ((BitVec.ofInt 64 x ^^^ BitVec.ofInt 64 0).toNat : Int) = x
 have e : BitVec.ofInt 64 0 = 0#64 := rfl
 rw [e, BitVec.xor_zero, BitVec.toNat_ofInt, IntKind.wrap_i64]
 omega
theorem x1_i64 (x : Int) (h0 : -9223372036854775808 ≤ x) (h1 : x ≤ 9223372036854775807) : Go.bits .xor .i64 x (-1) = -x - 1 := by
 show IntKind.i64.wrap ((BitVec.ofInt 64 x ^^^ BitVec.ofInt 64 (-1)).toNat : Int) = -x - 1
 have e : BitVec.ofInt 64 (-1) = BitVec.allOnes 64 := by decide
 rw [e, BitVec.xor_allOnes, BitVec.toNat_not, BitVec.toNat_ofInt, IntKind.wrap_i64]
 omega
theorem z_is (n : Int) (h0 : -9223372036854775808 ≤ n) (h1 : n ≤ 9223372036854775807) : IntKind.u64.wrap (Go.bits .xor .i64 (wrap64 (n * 2)) (n / 9223372036854775808)) = ((zN n : Nat) : Int) := by
 have hw : -9223372036854775808 ≤ wrap64 (n * 2) ∧ wrap64 (n * 2) ≤ 9223372036854775807 := by unfold wrap64; omega
 unfold zN
 by_cases h : 0 ≤ n
 ·rw [if_pos h, show n / 9223372036854775808 = 0 by omega, x0_i64 _ hw.1 hw.2, IntKind.wrap_u64]
  unfold wrap64
  omega
 ·rw [if_neg h, show n / 9223372036854775808 = -1 by omega, x1_i64 _ hw.1 hw.2, IntKind.wrap_u64]
  unfold wrap64
  omega
theorem zN_lt (n : Int) (h0 : -9223372036854775808 ≤ n) (h1 : n ≤ 9223372036854775807) : zN n < 18446744073709551616 := by
 unfold zN
 split <;> omega
theorem unz_is (n : Int) (h0 : -9223372036854775808 ≤ n) (h1 : n ≤ 9223372036854775807) : unz ((zN n : Nat) : Int) = n := by
 have hlt := zN_lt n h0 h1
 have ha : Go.bits .and .u64 ((zN n : Nat) : Int) 1 = ((zN n % 2 : Nat) : Int) := by
  have h := bits_and_u64_nat (zN n) 1 hlt (by decide)
  rw [Nat.and_one_is_mod] at h
  exact h
 unfold unz
 rw [ha]
 by_cases h : 0 ≤ n
 ·have e : ((zN n : Nat) : Int) = 2 * n := by unfold zN; rw [if_pos h]; omega
  have e1 : ((zN n % 2 : Nat) : Int) = 0 := by omega
  have e2 : wrap64 (((zN n : Nat) : Int) / 2) = n := by rw [e]; unfold wrap64; omega
  rw [e1, e2, show wrap64 (-(wrap64 0)) = 0 by unfold wrap64; omega, x0_i64 n h0 h1]
 ·have e : ((zN n : Nat) : Int) = -2 * n - 1 := by unfold zN; rw [if_neg h]; omega
  have e1 : ((zN n % 2 : Nat) : Int) = 1 := by omega
  have e2 : wrap64 (((zN n : Nat) : Int) / 2) = -n - 1 := by rw [e]; unfold wrap64; omega
  rw [e1, e2, show wrap64 (-(wrap64 1)) = -1 by unfold wrap64; omega, x1_i64 _ (by omega) (by omega)]
  omega
def encN (n : Int) : List Int := encF 9 (zN n)
def encT (t : List Int) : List Int := encF 9 t.length ++ t
def sealW (l : List Int) : List Int := l ++ lowI (sumI 0 l)
def bodyI (kind : Int) (nums : List Int) (texts : List (List Int)) : List Int := [kind, (nums.length : Int)] ++ nums.flatMap encN ++ [(texts.length : Int)] ++ texts.flatMap encT
def checkW (kind : Int) (nums : List Int) (texts : List (List Int)) : Int := if kind < 0 ∨ 255 < kind then 22 else if 64 < nums.length ∨ 64 < texts.length then 3 else if texts.any (fun t => decide (4096 < t.length)) = true then 5 else 0
def I64 (n : Int) : Prop := -9223372036854775808 ≤ n ∧ n ≤ 9223372036854775807
theorem wnat {i : Nat} (h : i ≤ 4611686018427387904) : wrap64 ((i : Int) + 1) = ((i + 1 : Nat) : Int) := by unfold wrap64; omega
theorem rdL1_nat (l : List (List Int)) (i : Nat) (h : i < l.length) : rd_L5 l (i : Int) = l[i] := by
 unfold rd_L5
 simp [List.getD_eq_getElem?_getD, h]
theorem check_l0 (texts : List (List Int)) (hl : texts.length ≤ 64) : ∀ (d i : Nat), i + d = texts.length → Ev (fun k => wire_Check.l0 k texts (texts.length : Int) (i : Int)) (if (texts.drop i).any (fun t => decide (4096 < t.length)) = true then 5 else 0) := by
 intro d
 induction d with
 | zero =>
  intro i hi
  rw [List.drop_eq_nil_of_le (by omega)]
  refine Ev.step (f := fun _ => some 0) (fun k => ?_) (Ev.now _)
  rw [wire_Check.l0, if_neg (by omega)]
 | succ d ih =>
  intro i hi
  have hlt : i < texts.length := by omega
  rw [List.drop_eq_getElem_cons hlt, List.any_cons]
  by_cases h : 4096 < (texts[i]).length
  ·rw [decide_eq_true h, Bool.true_or, if_pos rfl]
   refine Ev.step (f := fun _ => some 5) (fun k => ?_) (Ev.now _)
   rw [wire_Check.l0, if_pos (by omega), if_pos (by omega), if_pos (by omega), rdL1_nat texts i hlt, if_pos (by omega)]
  ·rw [decide_eq_false h, Bool.false_or]
   refine Ev.step (f := fun k => wire_Check.l0 k texts (texts.length : Int) ((i + 1 : Nat) : Int)) (fun k => ?_) (ih (i + 1) (by omega))
   rw [wire_Check.l0, if_pos (by omega), if_pos (by omega), if_pos (by omega), rdL1_nat texts i hlt, if_neg (by omega), wnat (by omega)]
theorem check_is (kind : Int) (nums : List Int) (texts : List (List Int)) : Ev (fun k => wire_Check.f k kind nums texts) (checkW kind nums texts) := by
 have hj1 : ∀ b : Bool, (b = true ↔ 64 < nums.length ∨ 64 < texts.length) → Ev (fun k => wire_Check.j1 k b kind nums texts) (if 64 < nums.length ∨ 64 < texts.length then 3 else if texts.any (fun t => decide (4096 < t.length)) = true then 5 else 0) := by
  intro b hb
  by_cases h : 64 < nums.length ∨ 64 < texts.length
  ·rw [if_pos h]
   refine Ev.step (f := fun _ => some 3) (fun k => ?_) (Ev.now _)
   rw [wire_Check.j1, if_pos (hb.2 h)]
  ·rw [if_neg h]
   refine Ev.step (f := fun k => wire_Check.l0 k texts (texts.length : Int) ((0 : Nat) : Int)) (fun k => ?_) (check_l0 texts (by omega) texts.length 0 (by omega))
   rw [wire_Check.j1, if_neg (fun e => h (hb.1 e))]
   rfl
 have hj0 : ∀ b : Bool, (b = true ↔ kind < 0 ∨ 255 < kind) → Ev (fun k => wire_Check.j0 k b kind nums texts) (checkW kind nums texts) := by
  intro b hb
  unfold checkW
  by_cases h : kind < 0 ∨ 255 < kind
  ·rw [if_pos h]
   refine Ev.step (f := fun _ => some 22) (fun k => ?_) (Ev.now _)
   rw [wire_Check.j0, if_pos (hb.2 h)]
  ·rw [if_neg h]
   by_cases h2 : 64 < nums.length
   ·refine Ev.step (f := fun k => wire_Check.j1 k true kind nums texts) (fun k => ?_) (hj1 true ⟨fun _ => .inl h2, fun _ => rfl⟩)
    rw [wire_Check.j0, if_neg (fun e => h (hb.1 e)), if_pos (by omega)]
   ·refine Ev.step (f := fun k => wire_Check.j1 k (decide ((texts.length : Int) > 64)) kind nums texts) (fun k => ?_) (hj1 _ ⟨fun e => .inr (by have := of_decide_eq_true e; omega), fun e => decide_eq_true (by omega)⟩)
    rw [wire_Check.j0, if_neg (fun e => h (hb.1 e)), if_neg (by omega)]
 by_cases h : kind < 0
 ·refine Ev.congr (f := fun k => wire_Check.j0 k true kind nums texts) (fun k => ?_) (hj0 true ⟨fun _ => .inl h, fun _ => rfl⟩)
  unfold wire_Check.f
  rw [if_pos h]
 ·refine Ev.congr (f := fun k => wire_Check.j0 k (decide (kind > 255)) kind nums texts) (fun k => ?_) (hj0 _ ⟨fun e => .inr (by have := of_decide_eq_true e; omega), fun e => decide_eq_true (by omega)⟩)
  unfold wire_Check.f
  rw [if_neg h]
theorem check_zero {kind : Int} {nums : List Int} {texts : List (List Int)} (h : checkW kind nums texts = 0) : 0 ≤ kind ∧ kind ≤ 255 ∧ nums.length ≤ 64 ∧ texts.length ≤ 64 ∧ ∀ t ∈ texts, t.length ≤ 4096 := by
 unfold checkW at h
 split at h
 ·omega
 ·split at h
  ·omega
  ·split at h
   ·omega
   ·rename_i h1 h2 h3
    refine ⟨by omega, by omega, by omega, by omega, fun t ht => ?_⟩
    rcases Nat.lt_or_ge 4096 t.length with h4 | h4
    ·exact absurd (List.any_eq_true.2 ⟨t, ht, decide_eq_true h4⟩) h3
    ·exact h4
theorem flat_len {α : Type} (f : α → List Int) (n : Nat) : ∀ (l : List α), (∀ x ∈ l, (f x).length ≤ n) → (l.flatMap f).length ≤ l.length * n := by
 intro l
 induction l with
 | nil => intro _; simp
 | cons x r ih =>
  intro h
  have h1 := h x List.mem_cons_self
  have h2 := ih (fun y hy => h y (List.mem_cons_of_mem _ hy))
  rw [List.flatMap_cons, List.length_append, List.length_cons, Nat.add_mul]
  omega
theorem flat_oct {α : Type} (f : α → List Int) : ∀ (l : List α), (∀ x ∈ l, Oct (f x)) → Oct (l.flatMap f) := by
 intro l h x hx
 obtain ⟨y, hy, hxy⟩ := List.mem_flatMap.1 hx
 exact h y hy x hxy
theorem encN_len (n : Int) : (encN n).length ≤ 10 := encF_len 9 _
theorem encT_len (t : List Int) (h : t.length ≤ 4096) : (encT t).length ≤ 4106 := by
 unfold encT
 rw [List.length_append]
 have := encF_len 9 t.length
 omega
theorem pow128 : (128 : Nat) ^ (9 + 1) = 1180591620717411303424 := by decide
theorem encN_oct (n : Int) (h : I64 n) : Oct (encN n) := encF_oct 9 _ (by have := zN_lt n h.1 h.2; rw [pow128]; omega)
theorem encT_oct (t : List Int) (h : t.length ≤ 4096) (ho : Oct t) : Oct (encT t) := (encF_oct 9 _ (by rw [pow128]; omega)).append ho
theorem enc_l1 (texts : List (List Int)) (hl : texts.length ≤ 64) (ht : ∀ t ∈ texts, t.length ≤ 4096 ∧ Oct t) : ∀ (d i : Nat) (b : List Int), i + d = texts.length → Oct b → b.length + d * 4106 ≤ 1000000 → Ev (fun k => wire_Encode.l1 k b texts (texts.length : Int) (i : Int)) (sealW (b ++ (texts.drop i).flatMap encT), 0) := by
 intro d
 induction d with
 | zero =>
  intro i b hi hb hlen
  rw [List.drop_eq_nil_of_le (by omega), List.flatMap_nil, List.append_nil]
  refine Ev.step (f := fun k => (crc_Seal.f k b).bind fun t => some (t, 0)) (fun k => ?_) (Ev.bind (a := sealW b) ⟨5, fun k hk => seal_is b hb k hk (by omega)⟩ (Ev.now _))
  rw [wire_Encode.l1, if_neg (by omega)]
 | succ d ih =>
  intro i b hi hb hlen
  have hlt : i < texts.length := by omega
  have h1 := ht _ (List.getElem_mem hlt)
  have e : b ++ (texts.drop i).flatMap encT = (b ++ encF 9 (texts[i]).length ++ texts[i]) ++ (texts.drop (i + 1)).flatMap encT := by
   rw [List.drop_eq_getElem_cons hlt, List.flatMap_cons, encT, List.append_assoc, List.append_assoc, List.append_assoc]
  rw [e]
  have hlen2 := encF_len 9 (texts[i]).length
  have hg := groups_ev 9 (texts[i]).length b (by rw [pow128]; omega) (by omega)
  refine Ev.step (f := fun k => (wire_groups.f k b ((texts[i]).length : Int)).bind fun t139 => if t139.length + (texts[i]).length < 140737488355328 then wire_Encode.l1 k (t139 ++ texts[i]) texts (texts.length : Int) ((i + 1 : Nat) : Int) else none) (fun k => ?_) (Ev.bind (a := b ++ encF 9 (texts[i]).length) hg ?_)
  ·have hw : IntKind.u64.wrap ((texts[i]).length : Int) = ((texts[i]).length : Int) := by rw [IntKind.wrap_u64]; omega
   rw [wire_Encode.l1, if_pos (by omega), if_pos (by omega), if_pos (by omega), rdL1_nat texts i hlt, hw, wnat (by omega)]
  ·refine Ev.congr (f := fun k => wire_Encode.l1 k (b ++ encF 9 (texts[i]).length ++ texts[i]) texts (texts.length : Int) ((i + 1 : Nat) : Int)) (fun k => if_pos (by rw [List.length_append]; omega)) (ih (i + 1) _ (by omega) ((hb.append (encF_oct 9 (texts[i]).length (by rw [pow128]; omega))).append h1.2) (by rw [List.length_append, List.length_append]; omega))
theorem enc_l0 (kind : Int) (nums : List Int) (texts : List (List Int)) (hn : ∀ x ∈ nums, I64 x) (hl : nums.length ≤ 64) (ht : texts.length ≤ 64) (R : List Int × Int) : ∀ (d i : Nat) (b : List Int), i + d = nums.length → b.length + d * 10 ≤ 100000 → Ev (fun k => wire_Encode.l1 k (b ++ (nums.drop i).flatMap encN ++ [(texts.length : Int)]) texts (texts.length : Int) ((0 : Nat) : Int)) R → Ev (fun k => wire_Encode.l0 k b nums (nums.length : Int) (i : Int) kind nums texts) R := by
 intro d
 induction d with
 | zero =>
  intro i b hi hlen hnext
  rw [List.drop_eq_nil_of_le (by omega), List.flatMap_nil, List.append_nil] at hnext
  refine Ev.step (f := fun k => wire_Encode.l1 k (b ++ [(texts.length : Int)]) texts (texts.length : Int) ((0 : Nat) : Int)) (fun k => ?_) hnext
  rw [wire_Encode.l0, if_neg (by omega), if_pos (by omega), show (texts.length : Int) % 256 = (texts.length : Int) by omega]
  rfl
 | succ d ih =>
  intro i b hi hlen hnext
  have hlt : i < nums.length := by omega
  have h1 := hn _ (List.getElem_mem hlt)
  have e : b ++ (nums.drop i).flatMap encN = (b ++ encN nums[i]) ++ (nums.drop (i + 1)).flatMap encN := by
   rw [List.drop_eq_getElem_cons hlt, List.flatMap_cons, List.append_assoc]
  rw [e] at hnext
  have hz := zN_lt nums[i] h1.1 h1.2
  have hlen2 := encN_len nums[i]
  have hg := groups_ev 9 (zN nums[i]) b (by rw [pow128]; omega) (by omega)
  refine Ev.step (f := fun k => (wire_groups.f k b ((zN nums[i] : Nat) : Int)).bind fun t132 => wire_Encode.l0 k t132 nums (nums.length : Int) ((i + 1 : Nat) : Int) kind nums texts) (fun k => ?_) (Ev.bind (a := b ++ encN nums[i]) hg (ih (i + 1) _ (by omega) (by rw [List.length_append]; omega) hnext))
  rw [wire_Encode.l0, if_pos (by omega), if_pos (by omega), if_pos (by omega), rd_nat nums i hlt, z_is _ h1.1 h1.2, wnat (by omega)]
theorem body_oct {kind : Int} {nums : List Int} {texts : List (List Int)} (hk : 0 ≤ kind ∧ kind ≤ 255) (hn : ∀ x ∈ nums, I64 x) (hl : nums.length ≤ 64) (hl2 : texts.length ≤ 64) (ht : ∀ t ∈ texts, t.length ≤ 4096 ∧ Oct t) : Oct (bodyI kind nums texts) := by
 refine Oct.append (Oct.append (Oct.append ?_ (flat_oct _ _ (fun x hx => encN_oct x (hn x hx)))) ?_) (flat_oct _ _ (fun t h => encT_oct t (ht t h).1 (ht t h).2))
 ·intro x hx
  simp at hx
  omega
 ·intro x hx
  simp at hx
  omega
theorem body_len {kind : Int} {nums : List Int} {texts : List (List Int)} (hl : nums.length ≤ 64) (hl2 : texts.length ≤ 64) (ht : ∀ t ∈ texts, t.length ≤ 4096) : (bodyI kind nums texts).length ≤ 300000 := by
 have h1 := flat_len encN 10 nums (fun x _ => encN_len x)
 have h2 := flat_len encT 4106 texts (fun t h => encT_len t (ht t h))
 unfold bodyI
 simp only [List.length_append, List.length_cons, List.length_nil]
 omega
theorem encode_is (kind : Int) (nums : List Int) (texts : List (List Int)) (hn : ∀ x ∈ nums, I64 x) (ht : ∀ t ∈ texts, Oct t) : Ev (fun k => wire_Encode.f k kind nums texts) (if checkW kind nums texts = 0 then (sealW (bodyI kind nums texts), 0) else ([], checkW kind nums texts)) := by
 unfold wire_Encode.f
 refine Ev.bind (check_is kind nums texts) ?_
 by_cases h : checkW kind nums texts = 0
 ·obtain ⟨h0, h1, h2, h3, h4⟩ := check_zero h
  rw [if_pos h]
  have e1 := enc_l1 texts h3 (fun t m => ⟨h4 t m, ht t m⟩) texts.length 0 ([kind, (nums.length : Int)] ++ nums.flatMap encN ++ [(texts.length : Int)]) (by omega) (by
   refine Oct.append (Oct.append ?_ (flat_oct _ _ (fun x hx => encN_oct x (hn x hx)))) ?_
   ·intro x hx
    simp at hx
    omega
   ·intro x hx
    simp at hx
    omega) (by
   have := flat_len encN 10 nums (fun x _ => encN_len x)
   simp only [List.length_append, List.length_cons, List.length_nil]
   omega)
  have e0 := enc_l0 kind nums texts hn h2 h3 _ nums.length 0 [kind, (nums.length : Int)] (by omega) (by simp; omega) e1
  refine Ev.congr (f := fun k => wire_Encode.l0 k [kind, (nums.length : Int)] nums (nums.length : Int) ((0 : Nat) : Int) kind nums texts) (fun k => ?_) e0
  rw [if_pos h, show kind % 256 = kind by omega, show (nums.length : Int) % 256 = (nums.length : Int) by omega]
  rfl
 ·rw [if_neg h]
  exact Ev.congr (f := fun _ => some ([], checkW kind nums texts)) (fun k => if_neg h) (Ev.now _)
theorem groupsI_enc (m : Nat) (r : List Int) (h : m < 18446744073709551616) : groupsI 0 0 (encF 9 m ++ r) = (((m : Int), none), r) := by
 have := groups_dec 9 0 0 m r (by omega) (by decide) (by rw [pow128]; omega) (by rw [show 2 ^ (7 * 0) = 1 from rfl]; omega) (fun h => absurd h (by decide))
 rw [show 2 ^ (7 * 0) = 1 from rfl, Nat.mul_one, Nat.zero_add] at this
 exact this
theorem nums_dec : ∀ (nums acc r : List Int), (∀ x ∈ nums, I64 x) → numsLoop nums.length acc (nums.flatMap encN ++ r) = ((acc ++ nums, none), r) := by
 intro nums
 induction nums with
 | nil => intro acc r _; rw [List.append_nil]; rfl
 | cons x s ih =>
  intro acc r h
  have h1 := h x List.mem_cons_self
  have hg := groupsI_enc (zN x) (s.flatMap encN ++ r) (zN_lt x h1.1 h1.2)
  rw [List.flatMap_cons, List.append_assoc, List.length_cons, numsLoop]
  unfold encN at hg ⊢
  rw [hg, if_pos rfl, unz_is x h1.1 h1.2]
  have := ih (acc ++ [x]) r (fun y hy => h y (List.mem_cons_of_mem _ hy))
  unfold encN at this
  rw [this, List.append_assoc]
  rfl
theorem text_dec (t r : List Int) (h : t.length ≤ 4096) : textI (encT t ++ r) = ((t, none), r) := by
 have hg := groupsI_enc t.length (t ++ r) (by omega)
 unfold textI encT
 rw [List.append_assoc, hg]
 dsimp only
 rw [if_pos rfl, if_neg (by omega), Int.toNat_natCast]
 unfold takeI
 rw [if_neg (by rw [List.length_append]; omega), List.take_left', List.drop_left'] <;> rfl
theorem texts_dec : ∀ (texts acc : List (List Int)) (r : List Int), (∀ t ∈ texts, t.length ≤ 4096) → textsLoop texts.length acc (texts.flatMap encT ++ r) = ((acc ++ texts, none), r) := by
 intro texts
 induction texts with
 | nil => intro acc r _; rw [List.append_nil]; rfl
 | cons x s ih =>
  intro acc r h
  rw [List.flatMap_cons, List.append_assoc, List.length_cons, textsLoop, text_dec x _ (h x List.mem_cons_self), if_pos rfl, ih _ r (fun y hy => h y (List.mem_cons_of_mem _ hy)), List.append_assoc]
  rfl
theorem count_dec (n : Nat) (r : List Int) (h : n ≤ 64) : countI 64 ((n : Int) :: r) = (((n : Int), none), r) := by
 unfold countI
 rw [if_neg (fun e => by have h2 := e.2; simp only [octetI] at h2; omega)]
 rfl
theorem rec_dec (kind : Int) (nums : List Int) (texts : List (List Int)) (hn : ∀ x ∈ nums, I64 x) (h1 : nums.length ≤ 64) (h2 : texts.length ≤ 64) (ht : ∀ t ∈ texts, t.length ≤ 4096) : recI (bodyI kind nums texts) = .good kind nums texts := by
 have e : bodyI kind nums texts = kind :: (nums.length : Int) :: (nums.flatMap encN ++ ((texts.length : Int) :: (texts.flatMap encT ++ []))) := by
  unfold bodyI
  simp
 have n1 : numsI ((nums.length : Int) :: (nums.flatMap encN ++ ((texts.length : Int) :: (texts.flatMap encT ++ [])))) = ((nums, none), (texts.length : Int) :: (texts.flatMap encT ++ [])) := by
  unfold numsI
  rw [count_dec _ _ h1]
  show numsGo none ((nums.length : Int)).toNat [] _ = _
  unfold numsGo
  rw [if_pos rfl, Int.toNat_natCast, nums_dec nums [] _ hn]
  rfl
 have n2 : textsI ((texts.length : Int) :: (texts.flatMap encT ++ [])) = ((texts, none), []) := by
  unfold textsI
  rw [count_dec _ _ h2]
  show textsGo none ((texts.length : Int)).toNat [] _ = _
  unfold textsGo
  rw [if_pos rfl, Int.toNat_natCast, texts_dec texts [] _ ht]
  rfl
 rw [e]
 unfold recI
 simp only [octetI, n1, n2]
 rfl
theorem oct5_of {l : List Int} (h : Oct l) : oct5 l = true := List.all_eq_true.2 (fun x hx => by have := h x hx; simp; omega)
theorem decode_sealed (kind : Int) (nums : List Int) (texts : List (List Int)) (hn : ∀ x ∈ nums, I64 x) (ht : ∀ t ∈ texts, Oct t) (hc : checkW kind nums texts = 0) : Ev (fun k => wire_Decode.f k (sealW (bodyI kind nums texts))) (kind, nums, texts, 0) := by
 obtain ⟨h0, h1, h2, h3, h4⟩ := check_zero hc
 have ho := body_oct (kind := kind) ⟨h0, h1⟩ hn h2 h3 (fun t m => ⟨h4 t m, ht t m⟩)
 have hl := body_len (kind := kind) h2 h3 h4
 unfold wire_Decode.f
 refine Ev.bind (a := (bodyI kind nums texts, 0)) ⟨5, fun k hk => open_sealed _ ho k hk (by omega)⟩ ?_
 refine Ev.congr (f := fun _ => some (kind, nums, texts, 0)) (fun k => ?_) (Ev.now _)
 simp only [if_pos trivial]
 rw [if_pos (oct5_of ho), rec_dec kind nums texts hn h2 h3 h4]
theorem copyLists_l0 (l : List (List Int)) (hl : l.length ≤ 5864062014634) (h : ∀ t ∈ l, t.length < 140737488355328) : ∀ (d i : Nat) (acc : List (List Int)), i + d = l.length → acc = l.take i → Ev (fun k => undercroftplain_CopyLists.l0 k l acc (i : Int)) l := by
 intro d
 induction d with
 | zero =>
  intro i acc hi ha
  refine Ev.step (f := fun _ => some l) (fun k => ?_) (Ev.now _)
  rw [undercroftplain_CopyLists.l0, if_neg (by omega), ha, List.take_of_length_le (by omega)]
 | succ d ih =>
  intro i acc hi ha
  have hlt : i < l.length := by omega
  refine Ev.step (f := fun k => undercroftplain_CopyLists.l0 k l (acc ++ [l[i]]) ((i + 1 : Nat) : Int)) (fun k => ?_) (ih (i + 1) (acc ++ [l[i]]) (by omega) (by rw [ha, List.take_succ_eq_append_getElem hlt]))
  rw [undercroftplain_CopyLists.l0, if_pos (by omega), if_pos (by omega), rdL1_nat l i hlt, copyBytes_is _ (h _ (List.getElem_mem hlt)), Option.bind_some, if_pos (by rw [ha, List.length_take]; omega), wnat (by omega)]
theorem lowI_len (c : Int) : (lowI c).length = 4 := rfl

/-! #### a file system of the page's as one of the code's -/
def tN (x : S62) : S55 := ⟨x.f0, x.f1, x.f2, x.f3.map toE, ⟨x.f4.f0, x.f4.f1.map t39⟩⟩
theorem rd62 (l : List S62) (j : Nat) (h : j < l.length) : rd_T62 l (j : Int) = l[j] := by
 unfold rd_T62
 rw [Int.toNat_natCast, List.getD_eq_getElem?_getD, List.getElem?_eq_getElem h]; rfl
theorem rd55 (l : List S55) (j : Nat) (h : j < l.length) : rd_T55 l (j : Int) = l[j] := by
 unfold rd_T55
 rw [Int.toNat_natCast, List.getD_eq_getElem?_getD, List.getElem?_eq_getElem h]; rfl
theorem rd100 (l : List S100) (j : Nat) (h : j < l.length) : rd_T100 l (j : Int) = l[j] := by
 unfold rd_T100
 rw [Int.toNat_natCast, List.getD_eq_getElem?_getD, List.getElem?_eq_getElem h]; rfl
/-- What lies within the form's reach. -/
structure In10 (l : List S62) : Prop where
 len : l.length * 80 ≤ 140737488351232
 ents : ∀ x ∈ l, x.f3.length * 24 ≤ 140737488351232
 blks : ∀ x ∈ l, x.f4.f1.length ≤ 4398046510976
 data : ∀ x ∈ l, ∀ b ∈ x.f4.f1, b.f1.length ≤ 140737488351232
 oct : ∀ x ∈ l, ∀ b ∈ x.f4.f1, Oct b.f1
 nums : ∀ x ∈ l, I64 x.f0 ∧ I64 x.f2 ∧ I64 x.f4.f0
 inos : ∀ x ∈ l, ∀ e ∈ x.f3, (Lit.int .i64 e.f1).wf = true
 ino : ∀ x ∈ l, (Lit.int .i64 x.f0).wf = true
theorem of10_loop {l : List S62} {n : Int} (h : In10 l) : ∀ (d j : Nat), l.length - j = d → j ≤ l.length → Ev (fun k => undercroftlaw10_Of.l0 k (j : Int) l n ((l.take j).map tN) n) (l.map tN, n) := by
 intro d
 induction d with
 | zero =>
  intro j hd hj
  have e : j = l.length := by omega
  subst e
  refine Ev.step (f := fun _ => some (l.map tN, n)) (fun k => ?_) (Ev.now _)
  rw [undercroftlaw10_Of.l0, if_neg (Int.lt_irrefl _), List.take_length]
 | succ d ih =>
  intro j hd hj
  have hlt : j < l.length := by omega
  have hm := List.getElem_mem hlt
  have h5 : ((l.take j).map tN).length < 1759218604441 := by rw [List.length_map, List.length_take]; have := h.len; omega
  refine Ev.step (f := fun k => (undercroftlaw08_Of.f k (l[j]).f3).bind fun t => (undercroftlaw07_Of.f k (l[j]).f4.f0 (l[j]).f4.f1).bind fun q => undercroftlaw10_Of.l0 k ((j + 1 : Nat) : Int) l n ((l.take j).map tN ++ [(⟨(l[j]).f0, (l[j]).f1, (l[j]).f2, t, (⟨q.1, q.2⟩ : S53)⟩ : S55)]) n) (fun k => ?_) ?_
  ·rw [undercroftlaw10_Of.l0, if_pos (by omega), if_pos (by omega), rd62 l j hlt]
   simp only [if_pos h5]
   rw [wnat (by have := h.len; omega)]
  ·refine Ev.bind (of_is _ (h.ents _ hm)) (Ev.bind (law_of (h.blks _ hm) (h.data _ hm)) ?_)
   have e : (l.take j).map tN ++ [(⟨(l[j]).f0, (l[j]).f1, (l[j]).f2, (l[j]).f3.map toE, (⟨(l[j]).f4.f0, (l[j]).f4.f1.map t39⟩ : S53)⟩ : S55)] = (l.take (j + 1)).map tN := by
    rw [take_snoc l j hlt, List.map_append]; rfl
   rw [e]
   exact ih (j + 1) (by omega) (by omega)
theorem of10 {l : List S62} {n : Int} (h : In10 l) : Ev (fun k => undercroftlaw10_Of.f k l n) (l.map tN, n) := of10_loop h l.length 0 rfl (Nat.zero_le _)
/-! #### the check is whole -/
theorem fcheck_ev (sz : Int) (l : List S102) (h : l.length ≤ 4398046510976) : Ev (fun k => file_Check.f k sz (l.map t39)) (checkF sz (l.map t39)) :=
 ⟨2 * (l.map t39).length + 1, fun k hk => check_ev sz (l.map t39) (by rw [List.length_map]; omega) k hk⟩
theorem mays_ev (Z : Int → Int) : ∀ l : List S62, (∀ x ∈ l, x.f4.f1.length ≤ 4398046510976) → ∃ b, Ev (fun k => maysN k Z (l.map tN)) b ∧ (b = true → ∀ x ∈ l, checkI x.f3 = 0 ∧ checkF x.f4.f0 (x.f4.f1.map t39) = 0)
 | [], _ => ⟨true, Ev.now _, fun _ x hx => by cases hx⟩
 | nd :: r, h => by
  obtain ⟨b, hb, hb2⟩ := mays_ev Z r (fun x hx => h x (List.mem_cons_of_mem _ hx))
  have hd := dir_check nd.f3
  have hf := fcheck_ev nd.f4.f0 nd.f4.f1 (h nd List.mem_cons_self)
  by_cases hm : mayN (checkI nd.f3) (checkF nd.f4.f0 (nd.f4.f1.map t39)) (tN nd) (Z nd.f0) = true
  ·refine ⟨b, ?_, fun hbt x hx => ?_⟩
   ·show Ev (fun k => (dir_Check.f k (nd.f3.map toE)).bind fun cd => (file_Check.f k nd.f4.f0 (nd.f4.f1.map t39)).bind fun cf => if mayN cd cf (tN nd) (Z nd.f0) = true then maysN k Z (r.map tN) else some false) b
    refine Ev.bind hd (Ev.bind hf ?_)
    simp only [if_pos hm]
    exact hb
   ·rcases List.mem_cons.1 hx with rfl | hx
    ·unfold mayN at hm
     by_cases hc : checkI x.f3 ≠ 0 ∨ checkF x.f4.f0 (x.f4.f1.map t39) ≠ 0 ∨ (tN x).f2 ≠ Z x.f0
     ·rw [if_pos hc] at hm; cases hm
     ·refine ⟨?_, ?_⟩
      ·exact Classical.byContradiction fun h => hc (.inl h)
      ·exact Classical.byContradiction fun h => hc (.inr (.inl h))
    ·exact hb2 hbt x hx
  ·refine ⟨false, ?_, fun h => by cases h⟩
   show Ev (fun k => (dir_Check.f k (nd.f3.map toE)).bind fun cd => (file_Check.f k nd.f4.f0 (nd.f4.f1.map t39)).bind fun cf => if mayN cd cf (tN nd) (Z nd.f0) = true then maysN k Z (r.map tN) else some false) false
   refine Ev.bind hd (Ev.bind hf ?_)
   simp only [if_neg hm]
   exact Ev.now _
theorem bsN_false (p : Nat → Bool) : ∀ f i j, j - i < f → (∀ h, i ≤ h → h < j → p h = false) → bsN p f i j = i
 | 0, i, j, hf, _ => rfl
 | f + 1, i, j, hf, hp => by
  unfold bsN
  by_cases hij : i < j
  ·rw [if_pos hij, if_neg (by rw [hp _ (by omega) (by omega)]; decide)]
   exact bsN_false p f i _ (by omega) (fun h h1 h2 => hp h h1 (by omega))
  ·rw [if_neg hij]
theorem rises_first {l : List S55} {n : Int} (h : ∀ j, j < l.length → okN l n j = true) : ∀ j, j < l.length → (rd_T55 l 0).f0 ≤ (rd_T55 l (j : Int)).f0
 | 0, _ => Int.le_refl _
 | j + 1, hj => by
  have h1 := rises_first h j (by omega)
  have h2 := h (j + 1) hj
  unfold okN at h2
  rw [Bool.and_eq_true, Bool.and_eq_true] at h2
  have h3 := h2.1.2
  rw [decide_eq_false (by omega), Bool.false_or, decide_eq_true_eq] at h3
  have e : ((j + 1 - 1 : Nat) : Int) = (j : Int) := rfl
  rw [e] at h3
  omega
theorem isN_one {l : List S55} {n : Int} (h0 : l.length ≠ 0) (h1 : (rd_T55 l 0).f0 = 1) (h : ∀ j, j < l.length → okN l n j = true) : isN l 1 = true := by
 have hp : placeN l 1 = 0 := by
  unfold placeN
  refine bsN_false _ _ _ _ (by omega) (fun j _ hj => ?_)
  unfold lessN cmpN
  have := rises_first h j hj
  rw [h1] at this
  rw [decide_eq_false_iff_not]
  split
  ·omega
  ·split <;> decide
 unfold isN foundN
 rw [hp, if_pos (by omega)]
 show (cmpN (rd_T55 l 0).f0 1 == 0) = true
 rw [h1]; rfl
theorem wfN_of {l : List S62} (h : In10 l) : wfN (l.map tN) = true := by
 unfold wfN
 rw [List.all_eq_true]
 intro y hy
 obtain ⟨x, hx, rfl⟩ := List.mem_map.1 hy
 rw [Bool.and_eq_true]
 refine ⟨h.ino x hx, ?_⟩
 rw [List.all_eq_true]
 intro e he
 obtain ⟨z, hz, rfl⟩ := List.mem_map.1 he
 exact h.inos x hx z hz
theorem check_ev10 {l : List S62} {n : Int} (h : In10 l) : ∃ e, Ev (fun k => fs_Check.f k (l.map tN) n) e ∧ (e = 0 → l.length ≠ 0 ∧ l.length ≤ 128 ∧ ∀ x ∈ l, checkI x.f3 = 0 ∧ checkF x.f4.f0 (x.f4.f1.map t39) = 0) := by
 have bad : ∀ {g : Nat → Option Int}, (∀ k, g k = some 9) → ∃ e, Ev g e ∧ (e = 0 → l.length ≠ 0 ∧ l.length ≤ 128 ∧ ∀ x ∈ l, checkI x.f3 = 0 ∧ checkF x.f4.f0 (x.f4.f1.map t39) = 0) :=
  fun hg => ⟨9, ⟨0, fun k _ => hg k⟩, fun h => absurd h (by decide)⟩
 unfold fs_Check.f
 by_cases h1 : n ≤ 1
 ·exact bad (fun k => by rw [if_pos h1])
 by_cases h2 : n > 2147483647
 ·exact bad (fun k => by rw [if_neg h1, if_pos h2])
 by_cases h3 : (l.map tN).length = 0
 ·exact bad (fun k => by rw [if_neg h1, if_neg h2, if_pos h3])
 by_cases h4 : (l.map tN).length > 128
 ·exact bad (fun k => by rw [if_neg h1, if_neg h2, if_neg h3, if_pos h4])
 by_cases h5 : (rd_T55 (l.map tN) 0).f0 ≠ 1
 ·exact bad (fun k => by rw [if_neg h1, if_neg h2, if_neg h3, if_neg h4, if_pos h5])
 by_cases h6 : (List.range (l.map tN).length).all (okN (l.map tN) n) = true
 case neg => exact bad (fun k => by rw [if_neg h1, if_neg h2, if_neg h3, if_neg h4, if_neg h5, if_pos (wfN_of h)]; unfold restN; rw [if_neg h6])
 have hone := isN_one h3 (by simpa using h5) (fun j hj => List.all_eq_true.1 h6 j (List.mem_range.2 hj))
 obtain ⟨b, hb, hb2⟩ := mays_ev (linksN (l.map tN)) l h.blks
 refine ⟨if b = true then endN (l.map tN) else 9, ?_, fun he => ?_⟩
 ·refine Ev.congr (f := fun k => (maysN k (linksN (l.map tN)) (l.map tN)).bind fun b => some (if b = true then endN (l.map tN) else 9)) (fun k => ?_) (Ev.bind hb (Ev.now _))
  rw [if_neg h1, if_neg h2, if_neg h3, if_neg h4, if_neg h5, if_pos (wfN_of h)]
  unfold restN
  rw [if_pos h6, if_pos hone]
 ·rw [List.length_map] at h3 h4
  refine ⟨h3, by omega, ?_⟩
  by_cases hbt : b = true
  ·exact hb2 hbt
  ·rw [if_neg hbt] at he
   exact absurd he (by decide)
/-! #### records -/
theorem sealed_ev (kind : Int) (nums : List Int) (texts : List (List Int)) (hn : ∀ x ∈ nums, I64 x) (ht : ∀ t ∈ texts, Oct t) : Ev (fun k => image_sealed.f k kind nums texts) (if checkW kind nums texts = 0 then sealW (bodyI kind nums texts) else []) := by
 unfold image_sealed.f
 refine Ev.bind (encode_is kind nums texts hn ht) ?_
 by_cases hc : checkW kind nums texts = 0
 ·simp only [if_pos hc]; exact Ev.now _
 ·simp only [if_neg hc]; exact Ev.now _
theorem sealed_len (kind : Int) (nums : List Int) (texts : List (List Int)) : (if checkW kind nums texts = 0 then sealW (bodyI kind nums texts) else []).length ≤ 300004 := by
 by_cases hc : checkW kind nums texts = 0
 ·rw [if_pos hc]
  obtain ⟨_, _, h1, h2, h3⟩ := check_zero hc
  have := body_len (kind := kind) h1 h2 h3
  unfold sealW
  rw [List.length_append, lowI_len]; omega
 ·rw [if_neg hc]; exact Nat.zero_le _
theorem rec_loop (x3 : Int) (x4 : List Int) (bl : List S100) (a0 : Int) (a1 : Bool) (a2 : Int) (es : List S88) (a4 : Int) (h4 : Oct x4) (hn : ∀ x ∈ [a0, x3, a2, a4], I64 x) (hb : bl.length ≤ 76) (hd : ∀ b ∈ bl, b.f1.length = 32 ∧ Oct b.f1) :
  ∀ (d j : Nat) (b : List Int), j + d = bl.length → Oct b → b.length + d * 33 ≤ 100000 → ∃ r, Ev (fun k => image_record.l0 k x3 x4 b bl (bl.length : Int) (j : Int) a0 a1 a2 es a4 bl) r ∧ r.length ≤ 300004 := by
 intro d
 induction d with
 | zero =>
  intro j b hj ho hl
  refine ⟨_, ?_, sealed_len 1 [a0, x3, a2, a4] [x4, b]⟩
  refine Ev.step (f := fun k => (image_sealed.f k 1 [a0, x3, a2, a4] [x4, b]).bind fun t => some t) (fun k => ?_) (Ev.bind (sealed_ev _ _ _ hn (fun t ht => ?_)) (Ev.now _))
  ·rw [image_record.l0, if_neg (by omega)]
  ·rcases List.mem_cons.1 ht with rfl | ht
   ·exact h4
   ·rw [List.mem_singleton.1 ht]; exact ho
 | succ d ih =>
  intro j b hj ho hl
  have hlt : j < bl.length := by omega
  obtain ⟨h32, h8⟩ := hd _ (List.getElem_mem hlt)
  have ho2 : Oct (b ++ [(bl[j]).f0 % 256] ++ (bl[j]).f1) := (ho.append (fun x hx => by rw [List.mem_singleton.1 hx]; omega)).append h8
  obtain ⟨r, hr, hr2⟩ := ih (j + 1) (b ++ [(bl[j]).f0 % 256] ++ (bl[j]).f1) (by omega) ho2 (by rw [List.length_append, List.length_append, h32]; simp only [List.length_cons, List.length_nil]; omega)
  refine ⟨r, Ev.step (fun k => ?_) hr, hr2⟩
  rw [image_record.l0, if_pos (by omega), if_pos (by omega), if_pos (by omega), rd100 bl j hlt, if_pos (by omega)]
  simp only [Option.bind_some]
  rw [if_pos (by rw [List.length_append, h32]; simp only [List.length_cons, List.length_nil]; omega), wnat (by omega)]
theorem record_ev {x : S62} (h1 : checkI x.f3 = 0) (h2 : checkF x.f4.f0 (x.f4.f1.map t39) = 0) (hn : I64 x.f0 ∧ I64 x.f2 ∧ I64 x.f4.f0) (ho : ∀ b ∈ x.f4.f1, Oct b.f1) : ∃ r, Ev (fun k => image_record.f k (tN x).f0 (tN x).f1 (tN x).f2 (tN x).f3 (tN x).f4.f0 (tN x).f4.f1) r ∧ r.length ≤ 300004 := by
 have hg : Good x.f3 := by
  unfold checkI at h1
  exact Classical.byContradiction fun h => by rw [if_neg h] at h1; exact absurd h1 (by decide)
 obtain ⟨_, hb, hbl⟩ := check_good h2
 have henc : Ev (fun k => dir_Encode.f k (x.f3.map toE)) (encR x.f3, 0) := by have := dir_enc x.f3; unfold encI at this; rwa [if_pos hg] at this
 have hd : ∀ b ∈ x.f4.f1.map t39, b.f1.length = 32 ∧ Oct b.f1 := fun b hb' => by
  refine ⟨(hbl b hb').2.2, ?_⟩
  obtain ⟨y, hy, rfl⟩ := List.mem_map.1 hb'
  exact ho y hy
 have key : ∀ x3 : Int, I64 x3 → ∃ r, Ev (fun k => image_record.j0 k x3 x.f0 x.f1 x.f2 (x.f3.map toE) x.f4.f0 (x.f4.f1.map t39)) r ∧ r.length ≤ 300004 := fun x3 h3 => by
  obtain ⟨r, hr, hr2⟩ := rec_loop x3 (encR x.f3) (x.f4.f1.map t39) x.f0 x.f1 x.f2 (x.f3.map toE) x.f4.f0 (encR_oct (fun x hx => (ent_size hg hx).1)) (fun y hy => by
   simp only [List.mem_cons, List.mem_nil_iff, or_false] at hy
   rcases hy with rfl | rfl | rfl | rfl
   ·exact hn.1
   ·exact h3
   ·exact hn.2.1
   ·exact hn.2.2) hb hd (x.f4.f1.map t39).length 0 [] (by omega) Oct.nil (by simp only [List.length_nil]; omega)
  exact ⟨r, Ev.step (f := fun k => (dir_Encode.f k (x.f3.map toE)).bind fun q => image_record.l0 k x3 q.1 [] (x.f4.f1.map t39) ((x.f4.f1.map t39).length : Int) 0 x.f0 x.f1 x.f2 (x.f3.map toE) x.f4.f0 (x.f4.f1.map t39)) (fun k => by rw [image_record.j0]) (Ev.bind henc hr), hr2⟩
 show ∃ r, Ev (fun k => image_record.f k x.f0 x.f1 x.f2 (x.f3.map toE) x.f4.f0 (x.f4.f1.map t39)) r ∧ r.length ≤ 300004
 unfold image_record.f
 cases hx1 : x.f1 with
 | true =>
  obtain ⟨r, hr, h⟩ := key (0 + 1) ⟨by decide, by decide⟩
  rw [hx1] at hr
  exact ⟨r, Ev.congr (fun k => if_pos rfl) hr, h⟩
 | false =>
  obtain ⟨r, hr, h⟩ := key 0 ⟨by decide, by decide⟩
  rw [hx1] at hr
  exact ⟨r, Ev.congr (fun k => if_neg (by decide)) hr, h⟩
/-- The first record. -/
def headW (n : Int) (m : Nat) : List Int := sealW (bodyI 0 [n, (m : Int)] [])
theorem headW_check (n : Int) (m : Nat) : checkW 0 [n, (m : Int)] [] = 0 := by
 unfold checkW
 rw [if_neg (by omega), if_neg (by simp), if_neg (by simp)]
theorem two64 {n : Int} {m : Nat} (hn : I64 n) (hm : m ≤ 4611686018427387904) : ∀ x ∈ [n, (m : Int)], I64 x := fun x hx => by
 simp only [List.mem_cons, List.mem_nil_iff, or_false] at hx
 rcases hx with rfl | rfl
 ·exact hn
 ·exact ⟨by omega, by omega⟩
theorem headW_len (n : Int) (m : Nat) : (headW n m).length ≤ 300004 := by
 have := sealed_len 0 [n, (m : Int)] []
 rwa [if_pos (headW_check n m)] at this
theorem enc_loop {L : List S55} (hl : L.length ≤ 128) (hr : ∀ x ∈ L, ∃ r, Ev (fun k => image_record.f k x.f0 x.f1 x.f2 x.f3 x.f4.f0 x.f4.f1) r ∧ r.length ≤ 300004) :
  ∀ (d j : Nat) (acc : List (List Int)), j + d = L.length → acc.length ≤ j + 1 → (∀ t ∈ acc, t.length ≤ 300004) → ∃ rs, Ev (fun k => image_Encode.l0 k acc L (L.length : Int) (j : Int)) (acc ++ rs, 0) ∧ rs.length = d ∧ ∀ t ∈ rs, t.length ≤ 300004 := by
 intro d
 induction d with
 | zero =>
  intro j acc hj ha ht
  refine ⟨[], ?_, rfl, fun t h => by cases h⟩
  refine Ev.step (f := fun _ => some (acc ++ [], 0)) (fun k => ?_) (Ev.now _)
  rw [image_Encode.l0, if_neg (by omega), List.append_nil]
 | succ d ih =>
  intro j acc hj ha ht
  have hlt : j < L.length := by omega
  obtain ⟨r, h1, h2⟩ := hr _ (List.getElem_mem hlt)
  obtain ⟨rs, h3, h4, h5⟩ := ih (j + 1) (acc ++ [r]) (by omega) (by rw [List.length_append]; simp only [List.length_cons, List.length_nil]; omega) (fun t h => by
   rcases List.mem_append.1 h with h | h
   ·exact ht t h
   ·rw [List.mem_singleton.1 h]; exact h2)
  refine ⟨r :: rs, ?_, by rw [List.length_cons, h4], fun t h => ?_⟩
  ·rw [show acc ++ r :: rs = acc ++ [r] ++ rs by simp]
   refine Ev.step (f := fun k => (image_record.f k (L[j]).f0 (L[j]).f1 (L[j]).f2 (L[j]).f3 (L[j]).f4.f0 (L[j]).f4.f1).bind fun t => image_Encode.l0 k (acc ++ [t]) L (L.length : Int) ((j + 1 : Nat) : Int)) (fun k => ?_) (Ev.bind h1 h3)
   rw [image_Encode.l0, if_pos (by omega), if_pos (by omega), if_pos (by omega), rd55 L j hlt]
   simp only [if_pos (show acc.length < 5864062014805 by omega)]
   rw [wnat (by omega)]
  ·rcases List.mem_cons.1 h with rfl | h
   ·exact h2
   ·exact h5 t h
theorem encode_ev {l : List S62} {n : Int} (h : In10 l) (hn : I64 n) : ∃ q e, Ev (fun k => image_Encode.f k (l.map tN) n) (q, e) ∧ ((e ≠ 0 ∧ q = []) ∨ (e = 0 ∧ ∃ rs, q = headW n l.length :: rs ∧ rs.length = l.length ∧ 1 ≤ l.length ∧ l.length ≤ 128 ∧ ∀ t ∈ q, t.length ≤ 300004)) := by
 obtain ⟨e, he, hgood⟩ := check_ev10 (n := n) h
 by_cases h0 : e = 0
 ·obtain ⟨h1, h2, h3⟩ := hgood h0
  subst h0
  have hL : (l.map tN).length = l.length := List.length_map _
  obtain ⟨rs, hrs, hlen, hall⟩ := enc_loop (L := l.map tN) (by omega) (fun y hy => by
   obtain ⟨x, hx, rfl⟩ := List.mem_map.1 hy
   exact record_ev (h3 x hx).1 (h3 x hx).2 (h.nums x hx) (h.oct x hx)) (l.map tN).length 0 [headW n l.length] (by omega) (by simp) (fun t ht => by rw [List.mem_singleton.1 ht]; exact headW_len _ _)
  refine ⟨headW n l.length :: rs, 0, ?_, .inr ⟨rfl, rs, rfl, by omega, by omega, h2, fun t ht => ?_⟩⟩
  ·unfold image_Encode.f
   refine Ev.bind he ?_
   simp only [if_pos]
   have hs := sealed_ev 0 [n, ((l.map tN).length : Int)] [] (by rw [hL]; exact two64 hn (by omega)) (fun t ht => by cases ht)
   rw [hL, if_pos (headW_check n l.length)] at hs
   rw [hL]
   refine Ev.bind hs ?_
   rw [hL] at hrs
   exact hrs
  ·rcases List.mem_cons.1 ht with rfl | ht
   ·exact headW_len _ _
   ·exact hall t ht
 ·refine ⟨[], e, ?_, .inl ⟨h0, rfl⟩⟩
  unfold image_Encode.f
  refine Ev.bind he ?_
  simp only [if_neg h0]
  exact Ev.now _
theorem head_ev {n : Int} {m : Nat} (hn : I64 n) (hm : m ≤ 4611686018427387904) (rest : List (List Int)) : Ev (fun k => image_head.f k (headW n m :: rest) 2) ([n, (m : Int)], rest, 0) := by
 have ho : Ev (fun k => image_opened.f k (headW n m) 0 2 0) (0, [n, (m : Int)], [], 0) := by
  unfold image_opened.f
  refine Ev.bind (decode_sealed 0 [n, (m : Int)] [] (two64 hn hm) (fun t ht => by cases ht) (headW_check n m)) ?_
  exact Ev.now _
 unfold image_head.f
 refine Ev.congr (f := fun k => (image_opened.f k (headW n m) 0 2 0).bind fun q => if q.2.2.2 = 0 then some (q.2.1, rest, 0) else none) (fun k => ?_) (Ev.bind ho (Ev.congr (fun k => if_pos rfl) (Ev.now _)))
 rw [if_pos (by simp only [List.length_cons]; omega), if_pos (by simp only [List.length_cons]; omega), if_pos (by simp only [List.length_cons]; omega)]
 rfl
theorem decode_count {n : Int} {m : Nat} (hn : I64 n) (hm : m ≤ 4611686018427387904) (rest : List (List Int)) (h : rest.length ≠ m) : Ev (fun k => image_Decode.f k (headW n m :: rest)) ([], 0, 3) := by
 unfold image_Decode.f
 refine Ev.bind (head_ev hn hm rest) ?_
 refine Ev.congr (f := fun _ => some ([], 0, 3)) (fun k => ?_) (Ev.now _)
 simp only
 rw [if_pos trivial, if_pos (by simp), if_neg (by show ¬ ((m : Int) = (rest.length : Int)); omega)]

/-! #### the page's example -/
theorem w01 : wrap64 ((0 : Int) + 1) = 1 := (w_id (by decide) (by decide)).trans rfl
def rootN : S62 := ⟨1, true, 0, [], ⟨0, []⟩⟩
theorem root_check : Ev (fun k => fs_Check.f k [tN rootN] 2) 0 := by
 have hd : Ev (fun k => dir_Check.f k (([] : List SR).map toE)) 0 := by
  have := dir_check []
  unfold checkI at this
  rwa [if_pos good_nil] at this
 have hf : Ev (fun k => file_Check.f k 0 (([] : List S102).map t39)) 0 := fcheck_ev 0 [] (by decide)
 have hm : Ev (fun k => maysN k (linksN [tN rootN]) [tN rootN]) true := by
  show Ev (fun k => (dir_Check.f k (([] : List SR).map toE)).bind fun cd => (file_Check.f k 0 (([] : List S102).map t39)).bind fun cf => if mayN cd cf (tN rootN) (linksN [tN rootN] 1) = true then some true else some false) true
  refine Ev.bind hd (Ev.bind hf ?_)
  exact Ev.now _
 unfold fs_Check.f restN
 refine Ev.congr (f := fun k => (maysN k (linksN [tN rootN]) [tN rootN]).bind fun b => some (if b = true then endN [tN rootN] else 9)) (fun k => ?_) (Ev.bind hm (Ev.now _))
 rw [if_neg (by decide), if_neg (by decide), if_neg (by decide), if_neg (by decide), if_neg (by decide), if_pos (by decide), if_pos (by decide), if_pos (by decide)]
def rootW : List Int := sealW (bodyI 1 [1, 1, 0, 0] [[], []])
theorem root_nums : ∀ x ∈ [(1 : Int), 1, 0, 0], I64 x := fun x hx => by
 simp only [List.mem_cons, List.mem_nil_iff, or_false] at hx
 rcases hx with rfl | rfl | rfl | rfl <;> exact ⟨by decide, by decide⟩
theorem root_texts : ∀ t ∈ [([] : List Int), []], Oct t := fun t ht => by
 simp only [List.mem_cons, List.mem_nil_iff, or_false, or_self] at ht
 rw [ht]; exact Oct.nil
theorem rootW_check : checkW 1 [1, 1, 0, 0] [[], []] = 0 := by decide
theorem root_record : Ev (fun k => image_record.f k 1 true 0 [] 0 []) rootW := by
 have hs := sealed_ev 1 [1, 1, 0, 0] [[], []] root_nums root_texts
 rw [if_pos rootW_check] at hs
 have hl : Ev (fun k => image_record.l0 k (0 + 1) [] [] [] 0 0 1 true 0 [] 0 []) rootW :=
  Ev.step (f := fun k => (image_sealed.f k 1 [1, 1, 0, 0] [[], []]).bind fun t => some t) (fun k => by rw [image_record.l0, if_neg (by decide)]; rfl) (Ev.bind hs (Ev.now _))
 have he : Ev (fun k => dir_Encode.f k []) ([], 0) := by
  have := dir_enc []
  unfold encI at this
  rw [if_pos good_nil] at this
  exact this
 have hj : Ev (fun k => image_record.j0 k (0 + 1) 1 true 0 [] 0 []) rootW :=
  Ev.step (f := fun k => (dir_Encode.f k []).bind fun q => image_record.l0 k (0 + 1) q.1 [] [] 0 0 1 true 0 [] 0 []) (fun k => by rw [image_record.j0]; rfl) (Ev.bind he hl)
 unfold image_record.f
 exact Ev.congr (fun k => if_pos rfl) hj
theorem root_encode : Ev (fun k => image_Encode.f k [tN rootN] 2) ([headW 2 1, rootW], 0) := by
 unfold image_Encode.f
 refine Ev.bind root_check ?_
 have hs := sealed_ev 0 [2, ((1 : Nat) : Int)] [] (two64 ⟨by decide, by decide⟩ (by decide)) (fun t ht => by cases ht)
 rw [if_pos (headW_check 2 1)] at hs
 refine Ev.congr (f := fun k => (image_sealed.f k 0 [2, ((1 : Nat) : Int)] []).bind fun t => image_Encode.l0 k [t] [tN rootN] 1 0) (fun k => by rw [if_pos rfl]; rfl) (Ev.bind hs ?_)
 refine Ev.step (f := fun k => (image_record.f k 1 true 0 [] 0 []).bind fun t => image_Encode.l0 k [sealW (bodyI 0 [2, ((1 : Nat) : Int)] []), t] [tN rootN] 1 1) (fun k => ?_) (Ev.bind root_record ?_)
 ·rw [image_Encode.l0, if_pos (by decide), if_pos (by decide), if_pos (by decide)]
  simp only [if_pos (show [sealW (bodyI 0 [2, ((1 : Nat) : Int)] [])].length < 5864062014805 from (by show 1 < 5864062014805; decide)), w01]
  rfl
 ·refine Ev.step (f := fun _ => some ([headW 2 1, rootW], 0)) (fun k => ?_) (Ev.now _)
  rw [image_Encode.l0, if_neg (by decide)]
  rfl
theorem root_node : Ev (fun k => image_node.f k rootW) (1, true, 0, [], 0, [], 0) := by
 have ho : Ev (fun k => image_opened.f k rootW 1 4 2) (1, [1, 1, 0, 0], [[], []], 0) := by
  unfold image_opened.f
  refine Ev.bind (decode_sealed 1 [1, 1, 0, 0] [[], []] root_nums root_texts rootW_check) ?_
  exact Ev.now _
 have hd : Ev (fun k => dir_Decode.f k []) ([], 0) := by
  unfold dir_Decode.f
  have hc : Ev (fun k => dir_Check.f k (([] : List SR).map toE)) 0 := by
   have := dir_check []
   unfold checkI at this
   rwa [if_pos good_nil] at this
  refine Ev.step (f := fun k => (dir_Check.f k (([] : List SR).map toE)).bind fun t => if t = 0 then some ([], 0) else some ([], t)) (fun k => ?_) (Ev.bind hc (Ev.congr (fun k => if_pos rfl) (Ev.now _)))
  rw [dir_Decode.l0, if_neg (by decide)]
  rfl
 unfold image_node.f
 refine Ev.bind ho ?_
 refine Ev.congr (f := fun k => (dir_Decode.f k []).bind fun d => if d.2 = 0 ∧ ([] : List Int).length = 0 then some (1, true, 0, d.1, 0, [], 0) else none) (fun k => ?_) (Ev.bind hd ?_)
 ·rw [if_pos ⟨rfl, rfl, rfl, .inr rfl⟩]; rfl
 ·refine Ev.congr (fun k => ?_) (Ev.now _)
  rw [if_pos ⟨rfl, rfl⟩]
theorem root_decode : Ev (fun k => image_Decode.f k [headW 2 1, rootW]) ([tN rootN], 2, 0) := by
 unfold image_Decode.f
 refine Ev.bind (head_ev (m := 1) ⟨by decide, by decide⟩ (by decide) [rootW]) ?_
 have hc : Ev (fun k => image_checked.f k [tN rootN] 2) ([tN rootN], 2, 0) := by
  unfold image_checked.f
  exact Ev.bind root_check (Ev.now _)
 have hl1 : Ev (fun k => image_Decode.l0 k [rootW] 1 1 [tN rootN] 2) ([tN rootN], 2, 0) :=
  Ev.step (f := fun k => (image_checked.f k [tN rootN] 2).bind fun q => some (q.1, q.2.1, q.2.2)) (fun k => by rw [image_Decode.l0, if_neg (by decide)]) (Ev.bind hc (Ev.now _))
 have hl0 : Ev (fun k => image_Decode.l0 k [rootW] 1 0 [] 2) ([tN rootN], 2, 0) := by
  refine Ev.step (f := fun k => (image_node.f k rootW).bind fun bt => if bt.2.2.2.2.2.2 = 0 then (if ([] : List S55).length < 1759218604441 then image_Decode.l0 k [rootW] 1 1 ([] ++ [(⟨bt.1, bt.2.1, bt.2.2.1, bt.2.2.2.1, (⟨bt.2.2.2.2.1, bt.2.2.2.2.2.1⟩ : S53)⟩ : S55)]) 2 else none) else none) (fun k => ?_) (Ev.bind root_node ?_)
  ·rw [image_Decode.l0, if_pos (by decide), if_pos (by decide), if_pos (by decide), w01]
   rfl
  ·refine Ev.congr (fun k => ?_) hl1
   rw [if_pos rfl, if_pos (by decide)]
   rfl
 refine Ev.congr (f := fun k => image_Decode.l0 k [rootW] 1 0 [] 2) (fun k => ?_) hl0
 simp only
 rw [if_pos trivial, if_pos (by simp), if_pos (show rd [2, ((1 : Nat) : Int)] 1 = (([rootW].length : Nat) : Int) from rfl), if_pos (by simp)]
 rfl
theorem alive12 : Ev (fun k => undercroftlaw12_alive.f k) true := by
 unfold undercroftlaw12_alive.f
 refine Ev.bind (a := ([tN rootN], 2)) (Ev.now _) ?_
 refine Ev.bind root_encode ?_
 refine Ev.bind root_decode ?_
 refine Ev.bind (a := (0 : Int)) (Ev.now _) ?_
 refine Ev.bind (a := (0 : Int)) (Ev.now _) ?_
 refine Ev.congr (f := fun _ => some true) (fun k => ?_) (Ev.now _)
 rw [if_pos (show wrap64 ((0 : Int) + 0) = 0 from (w_id (by decide) (by decide)).trans rfl), if_pos (show (([headW 2 1, rootW].length : Nat) : Int) = 2 from rfl), if_pos (show (([tN rootN].length : Nat) : Int) = 1 from rfl)]
 rfl

theorem at_is {m : Nat} (h1 : 1 ≤ m) (h2 : m ≤ 128) (a : Int) : ∃ p : Nat, wrap64 (1 + (Int.tmod (wrap64 ((wrap64 ((Int.tmod a (wrap64 (((m + 1 : Nat) : Int) - 1))) + ((m + 1 : Nat) : Int))) - 1)) (wrap64 (((m + 1 : Nat) : Int) - 1)))) = (p : Int) ∧ 1 ≤ p ∧ p ≤ m := by
 have e0 : wrap64 (((m + 1 : Nat) : Int) - 1) = (m : Int) := by rw [w_id (by omega) (by omega)]; omega
 rw [e0]
 have hm : (0 : Int) < (m : Int) := by omega
 have b1 : -(m : Int) < Int.tmod a m := by
  have := Int.lt_tmod_of_pos a hm
  omega
 have b2 : Int.tmod a m < (m : Int) := Int.tmod_lt_of_pos a hm
 generalize Int.tmod a m = r at b1 b2 ⊢
 rw [w_id (x := r + ((m + 1 : Nat) : Int)) (by omega) (by omega), w_id (x := r + ((m + 1 : Nat) : Int) - 1) (by omega) (by omega)]
 have c1 : 0 ≤ Int.tmod (r + ((m + 1 : Nat) : Int) - 1) m := Int.tmod_nonneg _ (by omega)
 have c2 : Int.tmod (r + ((m + 1 : Nat) : Int) - 1) m < (m : Int) := Int.tmod_lt_of_pos _ hm
 generalize Int.tmod (r + ((m + 1 : Nat) : Int) - 1) m = s at c1 c2 ⊢
 rw [w_id (x := 1 + s) (by omega) (by omega)]
 exact ⟨(1 + s).toNat, by omega, by omega, by omega⟩
theorem in10_of {l : List S62} (h : l.length * 80 ≤ 140737488351232 ∧ l.length ≤ maxLen ∧ ∀ x ∈ l, ok62 x) : In10 l where
 len := h.1
 ents := fun x hx => (h.2.2 x hx).2.2.2.1.1
 blks := fun x hx => by have := (h.2.2 x hx).2.2.2.2.2.1; omega
 data := fun x hx b hb => by have := ((h.2.2 x hx).2.2.2.2.2.2.2 b hb).2.1; omega
 oct := fun x hx b hb => Oct.of_wf ((h.2.2 x hx).2.2.2.2.2.2.2 b hb).2.2.2
 nums := fun x hx => ⟨wf_i64 (h.2.2 x hx).1, wf_i64 (h.2.2 x hx).2.2.1, wf_i64 (h.2.2 x hx).2.2.2.2.1⟩
 inos := fun x hx e he => ((h.2.2 x hx).2.2.2.1.2.2 e he).2
 ino := fun x hx => (h.2.2 x hx).1
theorem ImageWhole (l0 : S24) (l1 : Int) (h0 : ok24 l0) (h1 : (Lit.int .i64 l1).wf = true) : ∃ k, undercroftlaw12_ImageWhole.f k l0.f0 l0.f1 l1 = some true := by
 obtain ⟨l, n⟩ := l0
 obtain ⟨hl, hn⟩ := h0
 have hin : In10 l := in10_of hl
 have hn64 : I64 n := wf_i64 hn
 refine Ev.rounds (g := fun k => undercroftlaw12_ImageWhole.f k l n l1) ?_
 unfold undercroftlaw12_ImageWhole.f
 refine Ev.bind alive12 ?_
 refine Ev.congr (fun k => if_pos rfl) ?_
 refine Ev.bind (of10 hin) ?_
 obtain ⟨q, e, hq, hcase⟩ := encode_ev hin hn64
 refine Ev.bind hq ?_
 refine Ev.bind (a := e) (Ev.now _) ?_
 rcases hcase with ⟨he, rfl⟩ | ⟨rfl, rs, rfl, hrs, hm1, hm2, hall⟩
 ·refine Ev.congr (fun k => if_neg he) ?_
  exact Ev.step (f := fun _ => some true) (fun k => by rw [undercroftlaw12_ImageWhole.j0, if_pos rfl]; rfl) (Ev.now _)
 ·refine Ev.congr (fun k => if_pos rfl) ?_
  have hlen : (headW n l.length :: rs).length = l.length + 1 := by rw [List.length_cons, hrs]
  have hd2 : decide (((headW n l.length :: rs).length : Int) < 2) = false := by rw [hlen]; exact decide_eq_false (by omega)
  show Ev (fun k => undercroftlaw12_ImageWhole.j0 k l1 (headW n l.length :: rs) (decide (((headW n l.length :: rs).length : Int) < 2))) true
  rw [hd2]
  obtain ⟨p, hp, hp1, hp2⟩ := at_is hm1 hm2 l1
  obtain ⟨m, hm⟩ : ∃ m, m = l.length := ⟨_, rfl⟩
  obtain ⟨q, hq2⟩ : ∃ q, q = headW n l.length :: rs := ⟨_, rfl⟩
  rw [← hq2] at hlen ⊢
  rw [← hlen] at hp
  have hp1' : wrap64 ((p : Int) + 1) = ((p + 1 : Nat) : Int) := wnat (by omega)
  have hw1 : ¬ wrap64 ((q.length : Int) - 1) = 0 := by rw [hlen, w_id (by omega) (by omega)]; omega
  refine Ev.step (f := fun k => (image_Decode.f k (q.take p ++ q.drop (p + 1))).bind fun a => (undercroftplain_CopyLists.f k q).bind fun t => if t.length < 5864062014805 then ((image_Decode.f k (t ++ [rd_L5 q (p : Int)])).bind fun b => (undercroftlaw12_num.f a.2.2).bind fun u => if u = 3 then ((undercroftlaw12_num.f b.2.2).bind fun v => if v = 3 then some ((wrap64 ((a.1.length : Int) + (b.1.length : Int))) == 0) else none) else none) else none) (fun k => ?_) ?_
  ·rw [undercroftlaw12_ImageWhole.j0, if_neg (by decide), if_neg hw1, hp, hp1', if_pos (by omega), if_pos (by omega), Option.bind_some, if_pos (by rw [Int.toNat_natCast, List.length_take]; simp only [List.length_nil]; omega), Option.bind_some, if_pos (by omega), if_pos (by omega), Option.bind_some, Int.toNat_natCast, Int.toNat_natCast, List.nil_append, if_pos (by rw [List.length_take, List.length_drop]; omega)]
   have hlt : ((p : Int) < (q.length : Int)) := by omega
   simp only [if_pos hlt]
  ·have e1 : q.take p ++ q.drop (p + 1) = headW n l.length :: (rs.take (p - 1) ++ rs.drop p) := by
    rw [hq2, List.drop_succ_cons]
    obtain ⟨p', rfl⟩ : ∃ p', p = p' + 1 := ⟨p - 1, by omega⟩
    rw [List.take_succ_cons]; rfl
   rw [e1]
   refine Ev.bind (decode_count hn64 (by omega) _ (by rw [List.length_append, List.length_take, List.length_drop]; omega)) ?_
   have hcl : Ev (fun k => undercroftplain_CopyLists.f k q) q := copyLists_l0 q (by omega) (fun t ht => by have := hall t (by rw [← hq2]; exact ht); omega) q.length 0 [] (by omega) rfl
   refine Ev.bind hcl ?_
   refine Ev.congr (fun k => if_pos (by omega)) ?_
   have e2 : q ++ [rd_L5 q (p : Int)] = headW n l.length :: (rs ++ [rd_L5 q (p : Int)]) := by rw [hq2]; rfl
   rw [e2]
   refine Ev.bind (decode_count hn64 (by omega) _ (by rw [List.length_append]; simp only [List.length_cons, List.length_nil]; omega)) ?_
   refine Ev.bind (a := (3 : Int)) (Ev.now _) ?_
   refine Ev.congr (fun k => if_pos rfl) ?_
   refine Ev.bind (a := (3 : Int)) (Ev.now _) ?_
   refine Ev.congr (f := fun _ => some true) (fun k => ?_) (Ev.now _)
   rw [if_pos rfl, show wrap64 (((([] : List S55).length : Nat) : Int) + ((([] : List S55).length : Nat) : Int)) = 0 from (w_id (by decide) (by decide)).trans rfl]
   rfl

end Go.Proofs.YtfakjmjkodkceaaGreatDoor.Pure
