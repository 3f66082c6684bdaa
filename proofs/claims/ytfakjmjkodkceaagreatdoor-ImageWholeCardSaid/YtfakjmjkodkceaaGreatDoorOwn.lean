/- Small words of this session for its own contracts: '^x' of unsigned numbers as the walk is to spell it. -/
import Derived.Laws.Unary
import Derived.Laws.Strings
import Derived.Laws.Entries
namespace Go.Proofs.YtfakjmjkodkceaaGreatDoor.Own
theorem unary_not_u32 (n : Int) : Op.unary .xor (.int .u32 n) = Op.intBits .xor .u32 4294967295 n := rfl
theorem unary_not_u64 (n : Int) : Op.unary .xor (.int .u64 n) = Op.intBits .xor .u64 18446744073709551615 n := rfl
theorem unary_not_u8 (n : Int) : Op.unary .xor (.int .u8 n) = Op.intBits .xor .u8 255 n := rfl
theorem u8_wrap_ (x : Int) : IntKind.u8.wrap x = x % 256 := by simp [IntKind.wrap, IntKind.bits, IntKind.signed]
theorem bytesLess_total : ∀ x y : List UInt8, (Op.bytesLess x y || x == y) = !Op.bytesLess y x
  | [], [] => by simp [Op.bytesLess]
  | [], b :: y => by simp [Op.bytesLess]
  | a :: x, [] => by simp [Op.bytesLess]
  | a :: x, b :: y => by
    have ih := bytesLess_total x y
    simp only [Op.bytesLess]
    rcases Nat.lt_trichotomy a.toNat b.toNat with h | h | h
    · have h1 : a < b := h
      have h2 : ¬ b < a := fun h3 => by have : b.toNat < a.toNat := h3; omega
      have h3 : (b == a) = false := by simp; rintro rfl; omega
      simp [h1, h2, h3]
    · obtain rfl : a = b := UInt8.toNat_inj.1 h
      have h1 : ¬ a < a := fun h3 => by have : a.toNat < a.toNat := h3; omega
      simp only [h1, decide_false, Bool.false_or, beq_self_eq_true, Bool.true_and]
      rw [← ih]
      congr 1
      rw [Bool.eq_iff_iff]; simp
    · have h1 : b < a := h
      have h2 : ¬ a < b := fun h3 => by have : a.toNat < b.toNat := h3; omega
      have h3 : (a == b) = false := by simp; rintro rfl; omega
      have h4 : (a :: x == b :: y) = false := by simp; rintro rfl; omega
      simp [h1, h2, h3, h4]
theorem string_leq_ (t : TypeId) (a b : ByteArray) : binOp .leq t (.string a) (.string b) = pure (.bool (!Op.bytesLess b.toList a.toList)) := by
  rw [← bytesLess_total]; simp [binOp, Op.stringOp]
theorem string_gtr_ (t : TypeId) (a b : ByteArray) : binOp .gtr t (.string a) (.string b) = pure (.bool (Op.bytesLess b.toList a.toList)) := by
  have h := bytesLess_total a.toList b.toList
  simp [binOp, Op.stringOp, h]
theorem string_geq_ (t : TypeId) (a b : ByteArray) : binOp .geq t (.string a) (.string b) = pure (.bool (!Op.bytesLess a.toList b.toList)) := by
  simp [binOp, Op.stringOp]
end Go.Proofs.YtfakjmjkodkceaaGreatDoor.Own
