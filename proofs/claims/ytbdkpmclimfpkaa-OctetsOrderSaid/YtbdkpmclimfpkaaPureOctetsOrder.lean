/- Of two numbers, put as wide, the lesser one's octets come first: for every pair of numbers and every width. -/
import Derived.Test.YtbdkpmclimfpkaaPOctetsOrderx2
import Derived.Lib.Bytes
namespace Go.Proofs.Ytbdkpmclimfpkaa.Pure
open Go.RowKit Go.Proofs.Ytbdkpmclimfpkaa.POctetsOrder Go.Proofs.YtbdkpmclimfpkaaW.PrintWords Go.Proofs.YtbdkpmclimfpkaaW.PrintLast Go.Proofs.YtbdkpmclimfpkaaW.PrintMore
set_option linter.unusedVariables false
set_option linter.unusedSimpArgs false

theorem w_id {x : Int} (h0 : -9223372036854775808 ≤ x) (h1 : x ≤ 9223372036854775807) : wrap64 x = x := by unfold wrap64; omega
theorem wf_i64 {a : Int} (h : (Lit.int .i64 a).wf = true) : -9223372036854775808 ≤ a ∧ a ≤ 9223372036854775807 := by
  simpa [Lit.wf, IntKind.min, IntKind.max, IntKind.signed, IntKind.bits] using h
theorem wf_u8 {a : Int} (h : (Lit.int .u8 a).wf = true) : 0 ≤ a ∧ a ≤ 255 := by
  simpa [Lit.wf, IntKind.min, IntKind.max, IntKind.signed, IntKind.bits] using h
theorem wf_u32 {a : Int} (h : (Lit.int .u32 a).wf = true) : 0 ≤ a ∧ a ≤ 4294967295 := by
  simpa [Lit.wf, IntKind.min, IntKind.max, IntKind.signed, IntKind.bits] using h
theorem wf_u64 {a : Int} (h : (Lit.int .u64 a).wf = true) : 0 ≤ a ∧ a ≤ 18446744073709551615 := by
  simpa [Lit.wf, IntKind.min, IntKind.max, IntKind.signed, IntKind.bits] using h
/-- All are octets. -/
def Oct (l : List Int) : Prop := ∀ x ∈ l, 0 ≤ x ∧ x ≤ 255
theorem Oct.of_wf {l : List Int} (h : ∀ x ∈ l, (Lit.int .u8 x).wf = true) : Oct l := fun x hx => wf_u8 (h x hx)
theorem Oct.nil : Oct [] := fun _ h => by cases h
theorem Oct.append {a b : List Int} (ha : Oct a) (hb : Oct b) : Oct (a ++ b) := fun x hx => (List.mem_append.1 hx).elim (ha x) (hb x)
theorem Oct.take {a : List Int} (ha : Oct a) (n : Nat) : Oct (a.take n) := fun x hx => ha x (List.mem_of_mem_take hx)
theorem Oct.drop {a : List Int} (ha : Oct a) (n : Nat) : Oct (a.drop n) := fun x hx => ha x (List.mem_of_mem_drop hx)
theorem rd_nat (l : List Int) (k : Nat) (h : k < l.length) : rd l (k : Int) = l[k] := by
  unfold rd
  simp [List.getD_eq_getElem?_getD, h]

theorem sameBytes_loop (a b : List Int) (hl : a.length = b.length) (hm : a.length ≤ 9223372036854775807) : ∀ (d k i : Nat), i + d = a.length → d < k → a.take i = b.take i →
    undercroftplain_SameBytes.l0 k a b (i : Int) = some (decide (a = b)) := by
  intro d
  induction d with
  | zero =>
    intro k i hi hk ht
    obtain ⟨k, rfl⟩ : ∃ m, k = m + 1 := ⟨k - 1, by omega⟩
    simp only [undercroftplain_SameBytes.l0]
    rw [if_neg (by omega)]
    have : a = b := by
      rw [List.take_of_length_le (by omega), List.take_of_length_le (by omega)] at ht
      exact ht
    rw [decide_eq_true this]
  | succ d ih =>
    intro k i hi hk ht
    obtain ⟨k, rfl⟩ : ∃ m, k = m + 1 := ⟨k - 1, by omega⟩
    simp only [undercroftplain_SameBytes.l0]
    rw [if_pos (by omega), if_pos (by omega), if_pos (by omega), rd_nat a i (by omega), rd_nat b i (by omega)]
    by_cases h : a[i]'(by omega) = b[i]'(by omega)
    · rw [if_pos h, w_id (by omega) (by omega)]
      have := ih k (i + 1) (by omega) (by omega) (by
        rw [List.take_succ_eq_append_getElem (by omega), List.take_succ_eq_append_getElem (by omega), ht, h])
      exact_mod_cast this
    · rw [if_neg h]
      have : a ≠ b := by
        rintro rfl
        exact h rfl
      rw [decide_eq_false this]
theorem sameBytes_is (a b : List Int) (k : Nat) (hk : a.length < k) (hm : a.length ≤ 9223372036854775807) : undercroftplain_SameBytes.f k a b = some (decide (a = b)) := by
  unfold undercroftplain_SameBytes.f
  by_cases hl : a.length = b.length
  · rw [if_pos (by omega)]
    exact sameBytes_loop a b hl hm a.length k 0 (by omega) hk rfl
  · rw [if_neg (by omega)]
    have : a ≠ b := by
      rintro rfl
      exact hl rfl
    rw [decide_eq_false this]

theorem alive01_is (k : Nat) (hk : 4 ≤ k) : undercroftlaw01_alive.f k = some true := by
  unfold undercroftlaw01_alive.f undercroftlaw01_num.f
  have h1 : octets_Put.f 258 3 = some ([0, 1, 2], 0) := by kernel_rfl
  have h2 : octets_Unhex.f (⟨#[48, 97, 70]⟩ : ByteArray) = some ([], 8) := by kernel_rfl
  have h3 : octets_Decimal.f (-7) = some (⟨#[45, 55]⟩ : ByteArray) := by kernel_rfl
  rw [h1, h2, h3]
  simp only [Option.bind_some, if_true]
  rw [sameBytes_is [0, 1, 2] [0, 1, 2] k (by simp; omega) (by simp)]
  have h4 : (⟨#[45, 55]⟩ : ByteArray).toList = ([45, 55] : List UInt8) := by decide +kernel
  simp [h4]

theorem pow_pos_o (i : Nat) : (0 : Int) < 256 ^ i := Int.pow_pos (by decide)
theorem octI_succ (n : Int) (s : Nat) : octI n (s + 1) = (n / 256 ^ s % 256) :: octI n s := by
  unfold octI
  rw [List.range_succ_eq_map, List.map_cons, List.map_map]
  congr 1
  refine List.map_congr_left fun i hi => ?_
  simp only [List.mem_range] at hi
  show n / 256 ^ (s + 1 - 1 - (i + 1)) % 256 = _
  rw [show s + 1 - 1 - (i + 1) = s - 1 - i by omega]
theorem octI_mod (n m : Int) (s : Nat) (h : (m - n) % 256 ^ s = 0) : octI n s = octI m s := by
  unfold octI
  refine List.map_congr_left fun i hi => ?_
  simp only [List.mem_range] at hi
  obtain ⟨j, hj⟩ : ∃ j, s = (s - 1 - i) + 1 + j := ⟨i, by omega⟩
  generalize s - 1 - i = e at *
  have hm : m = n + 256 ^ s * ((m - n) / 256 ^ s) := by
    have := Int.mul_ediv_add_emod (m - n) (256 ^ s)
    omega
  generalize (m - n) / 256 ^ s = q at *
  rw [hm, hj, Int.pow_add, Int.pow_succ]
  have e1 : (256 : Int) ^ e * 256 * 256 ^ j * q = 256 ^ e * (256 * (256 ^ j * q)) := by
    simp only [Int.mul_assoc]
  rw [e1, Int.add_mul_ediv_left _ _ (Int.ne_of_gt (pow_pos_o e))]
  omega
theorem needI_pow (n : Int) (s : Nat) (h0 : 0 ≤ n) (h1 : n ≤ 18446744073709551615) (h : needI n ≤ (s : Int)) : n < 256 ^ s := by
  have hp : ∀ j : Nat, j ≤ s → (256 : Int) ^ j ≤ 256 ^ s := fun j hj => by
    obtain ⟨d, hd⟩ := Nat.exists_eq_add_of_le hj
    rw [hd, Int.pow_add]
    have h1 := pow_pos_o d
    have h2 := Int.mul_le_mul_of_nonneg_left (show (1 : Int) ≤ 256 ^ d by omega) (Int.le_of_lt (pow_pos_o j))
    rw [Int.mul_one] at h2
    exact h2
  have p0 : (256 : Int) ^ 0 = 1 := by decide
  have p1 : (256 : Int) ^ 1 = 256 := by decide
  have p2 : (256 : Int) ^ 2 = 65536 := by decide
  have p3 : (256 : Int) ^ 3 = 16777216 := by decide
  have p4 : (256 : Int) ^ 4 = 4294967296 := by decide
  have p5 : (256 : Int) ^ 5 = 1099511627776 := by decide
  have p6 : (256 : Int) ^ 6 = 281474976710656 := by decide
  have p7 : (256 : Int) ^ 7 = 72057594037927936 := by decide
  have p8 : (256 : Int) ^ 8 = 18446744073709551616 := by decide
  unfold needI at h
  repeat' split at h
  · have := hp 0 (by omega); omega
  · have := hp 1 (by omega); omega
  · have := hp 2 (by omega); omega
  · have := hp 3 (by omega); omega
  · have := hp 4 (by omega); omega
  · have := hp 5 (by omega); omega
  · have := hp 6 (by omega); omega
  · have := hp 7 (by omega); omega
  · have := hp 8 (by omega); omega
theorem u8_lt (a b : Int) (h0 : 0 ≤ a) (h1 : a < 256) (h2 : 0 ≤ b) (h3 : b < 256) : decide (UInt8.ofNat a.toNat < UInt8.ofNat b.toNat) = decide (a < b) := by
  have : UInt8.ofNat a.toNat < UInt8.ofNat b.toNat ↔ a < b := by
    rw [UInt8.lt_iff_toNat_lt]
    simp only [UInt8.toNat_ofNat']
    omega
  simp [this]
theorem u8_eq (a b : Int) (h0 : 0 ≤ a) (h1 : a < 256) (h2 : 0 ≤ b) (h3 : b < 256) : (UInt8.ofNat a.toNat == UInt8.ofNat b.toNat) = decide (a = b) := by
  have : UInt8.ofNat a.toNat = UInt8.ofNat b.toNat ↔ a = b := by
    rw [← UInt8.toNat_inj]
    simp only [UInt8.toNat_ofNat']
    omega
  rw [Bool.eq_iff_iff]
  simp [this]
theorem less_is : ∀ (s : Nat) (a b : Int), 0 ≤ a → a < 256 ^ s → 0 ≤ b → b < 256 ^ s →
    Op.bytesLess ((octI a s).map fun n => UInt8.ofNat n.toNat) ((octI b s).map fun n => UInt8.ofNat n.toNat) = decide (a < b) := by
  intro s
  induction s with
  | zero =>
    intro a b h0 h1 h2 h3
    have e : (256 : Int) ^ 0 = 1 := by decide
    rw [e] at h1 h3
    rw [show octI a 0 = [] from rfl, show octI b 0 = [] from rfl]
    simp [Op.bytesLess]
    omega
  | succ s ih =>
    intro a b h0 h1 h2 h3
    have hp := pow_pos_o s
    have ha := Int.mul_ediv_add_emod a (256 ^ s)
    have hb := Int.mul_ediv_add_emod b (256 ^ s)
    have ra := Int.emod_nonneg a (Int.ne_of_gt hp)
    have rb := Int.emod_nonneg b (Int.ne_of_gt hp)
    have la := Int.emod_lt_of_pos a hp
    have lb := Int.emod_lt_of_pos b hp
    rw [Int.pow_succ] at h1 h3
    have qa : a / 256 ^ s < 256 := Int.ediv_lt_of_lt_mul hp (by rw [Int.mul_comm]; exact h1)
    have qb : b / 256 ^ s < 256 := Int.ediv_lt_of_lt_mul hp (by rw [Int.mul_comm]; exact h3)
    have qa0 : 0 ≤ a / 256 ^ s := Int.ediv_nonneg h0 (Int.le_of_lt hp)
    have qb0 : 0 ≤ b / 256 ^ s := Int.ediv_nonneg h2 (Int.le_of_lt hp)
    have ea : octI a s = octI (a % 256 ^ s) s := (octI_mod _ _ s (by rw [show a % 256 ^ s - a = 256 ^ s * (-(a / 256 ^ s)) by rw [Int.mul_neg]; omega]; exact Int.mul_emod_right _ _))
    have eb : octI b s = octI (b % 256 ^ s) s := (octI_mod _ _ s (by rw [show b % 256 ^ s - b = 256 ^ s * (-(b / 256 ^ s)) by rw [Int.mul_neg]; omega]; exact Int.mul_emod_right _ _))
    rw [octI_succ, octI_succ, List.map_cons, List.map_cons]
    simp only [Op.bytesLess]
    rw [ea, eb, ih _ _ ra la rb lb, Int.emod_eq_of_lt qa0 qa, Int.emod_eq_of_lt qb0 qb, u8_lt _ _ qa0 qa qb0 qb, u8_eq _ _ qa0 qa qb0 qb]
    generalize hA : a / 256 ^ s = A at *
    generalize hB : b / 256 ^ s = B at *
    generalize a % 256 ^ s = x at *
    generalize b % 256 ^ s = y at *
    generalize (256 : Int) ^ s = P at *
    rw [Bool.eq_iff_iff]
    simp only [Bool.or_eq_true, Bool.and_eq_true, decide_eq_true_eq]
    constructor
    · rintro (h | ⟨rfl, h⟩)
      · have : P * (A + 1) ≤ P * B := Int.mul_le_mul_of_nonneg_left (by omega) (by omega)
        rw [Int.mul_add] at this
        omega
      · omega
    · intro h
      rcases Int.lt_trichotomy A B with h5 | h5 | h5
      · exact .inl h5
      · subst h5
        exact .inr ⟨rfl, by omega⟩
      · have : P * (B + 1) ≤ P * A := Int.mul_le_mul_of_nonneg_left (by omega) (by omega)
        rw [Int.mul_add] at this
        omega
theorem OctetsOrder : undercroftlaw01_OctetsOrder.Pure := by
  intro a b s ha hb hs
  obtain ⟨a0, a1⟩ := wf_u64 ha
  obtain ⟨b0, b1⟩ := wf_u64 hb
  refine ⟨100, ?_⟩
  unfold undercroftlaw01_OctetsOrder.f undercroftlaw01_num.f
  rw [alive01_is _ (by omega)]
  simp only [Option.bind_some, if_true]
  unfold octets_Put.f
  rw [if_pos (show 0 ≤ a ∧ a ≤ 18446744073709551615 from ⟨a0, a1⟩), if_pos (show 0 ≤ b ∧ b ≤ 18446744073709551615 from ⟨b0, b1⟩)]
  by_cases h : s < 0 ∨ 64 < s
  · rw [if_pos h, if_pos h]
    simp
  · rw [if_neg h, if_neg h]
    by_cases h1 : s < needI a
    · rw [if_pos h1]
      by_cases h2 : s < needI b
      · rw [if_pos h2]; simp
      · rw [if_neg h2]; simp
    · rw [if_neg h1]
      by_cases h2 : s < needI b
      · rw [if_pos h2]; simp
      · rw [if_neg h2]
        simp only [Option.bind_some, if_true]
        have := less_is s.toNat a b a0 (needI_pow a _ a0 a1 (by omega)) b0 (needI_pow b _ b0 b1 (by omega))
        rw [Lib.strOfNums_toList, Lib.strOfNums_toList]
        simp only [Lib.bytesOf]
        rw [this]
        simp

end Go.Proofs.Ytbdkpmclimfpkaa.Pure
