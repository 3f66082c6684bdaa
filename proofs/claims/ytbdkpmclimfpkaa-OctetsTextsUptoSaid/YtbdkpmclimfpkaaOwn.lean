/- Small words of this session for its own contracts: '^x' of unsigned numbers as the walk is to spell it. -/
import Derived.Laws.Unary
import Derived.Laws.Entries
namespace Go.Proofs.Ytbdkpmclimfpkaa.Own
theorem unary_not_u32 (n : Int) : Op.unary .xor (.int .u32 n) = Op.intBits .xor .u32 4294967295 n := rfl
theorem unary_not_u64 (n : Int) : Op.unary .xor (.int .u64 n) = Op.intBits .xor .u64 18446744073709551615 n := rfl
theorem unary_not_u8 (n : Int) : Op.unary .xor (.int .u8 n) = Op.intBits .xor .u8 255 n := rfl
theorem u8_wrap_ (x : Int) : IntKind.u8.wrap x = x % 256 := by simp [IntKind.wrap, IntKind.bits, IntKind.signed]
end Go.Proofs.Ytbdkpmclimfpkaa.Own
