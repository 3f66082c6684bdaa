/- The digits of a number, read one by one, are the number; its opposite has the same ones: for every number. -/
import Derived.Test.YtbdkpmclimfpkaaPOctetsDigitsx3
import Derived.Lib.Bytes
namespace Go.Proofs.Ytbdkpmclimfpkaa.Pure
open Go.RowKit Go.Proofs.Ytbdkpmclimfpkaa.POctetsDigits Go.Proofs.YtbdkpmclimfpkaaW.PrintWords Go.Proofs.YtbdkpmclimfpkaaW.PrintLast Go.Proofs.YtbdkpmclimfpkaaW.PrintMore
set_option linter.unusedVariables false
set_option linter.unusedSimpArgs false

theorem w_id {x : Int} (h0 : -9223372036854775808 ≤ x) (h1 : x ≤ 9223372036854775807) : wrap64 x = x := by unfold wrap64; omega
theorem wf_i64 {a : Int} (h : (Lit.int .i64 a).wf = true) : -9223372036854775808 ≤ a ∧ a ≤ 9223372036854775807 := by
  simpa [Lit.wf, IntKind.min, IntKind.max, IntKind.signed, IntKind.bits] using h
theorem wf_u8 {a : Int} (h : (Lit.int .u8 a).wf = true) : 0 ≤ a ∧ a ≤ 255 := by
  simpa [Lit.wf, IntKind.min, IntKind.max, IntKind.signed, IntKind.bits] using h
theorem wf_u32 {a : Int} (h : (Lit.int .u32 a).wf = true) : 0 ≤ a ∧ a ≤ 4294967295 := by
  simpa [Lit.wf, IntKind.min, IntKind.max, IntKind.signed, IntKind.bits] using h
theorem wf_u64 {a : Int} (h : (Lit.int .u64 a).wf = true) : 0 ≤ a ∧ a ≤ 18446744073709551615 := by
  simpa [Lit.wf, IntKind.min, IntKind.max, IntKind.signed, IntKind.bits] using h
/-- All are octets. -/
def Oct (l : List Int) : Prop := ∀ x ∈ l, 0 ≤ x ∧ x ≤ 255
theorem Oct.of_wf {l : List Int} (h : ∀ x ∈ l, (Lit.int .u8 x).wf = true) : Oct l := fun x hx => wf_u8 (h x hx)
theorem Oct.nil : Oct [] := fun _ h => by cases h
theorem Oct.append {a b : List Int} (ha : Oct a) (hb : Oct b) : Oct (a ++ b) := fun x hx => (List.mem_append.1 hx).elim (ha x) (hb x)
theorem Oct.take {a : List Int} (ha : Oct a) (n : Nat) : Oct (a.take n) := fun x hx => ha x (List.mem_of_mem_take hx)
theorem Oct.drop {a : List Int} (ha : Oct a) (n : Nat) : Oct (a.drop n) := fun x hx => ha x (List.mem_of_mem_drop hx)
theorem rd_nat (l : List Int) (k : Nat) (h : k < l.length) : rd l (k : Int) = l[k] := by
  unfold rd
  simp [List.getD_eq_getElem?_getD, h]

theorem sameBytes_loop (a b : List Int) (hl : a.length = b.length) (hm : a.length ≤ 9223372036854775807) : ∀ (d k i : Nat), i + d = a.length → d < k → a.take i = b.take i →
    undercroftplain_SameBytes.l0 k a b (i : Int) = some (decide (a = b)) := by
  intro d
  induction d with
  | zero =>
    intro k i hi hk ht
    obtain ⟨k, rfl⟩ : ∃ m, k = m + 1 := ⟨k - 1, by omega⟩
    simp only [undercroftplain_SameBytes.l0]
    rw [if_neg (by omega)]
    have : a = b := by
      rw [List.take_of_length_le (by omega), List.take_of_length_le (by omega)] at ht
      exact ht
    rw [decide_eq_true this]
  | succ d ih =>
    intro k i hi hk ht
    obtain ⟨k, rfl⟩ : ∃ m, k = m + 1 := ⟨k - 1, by omega⟩
    simp only [undercroftplain_SameBytes.l0]
    rw [if_pos (by omega), if_pos (by omega), if_pos (by omega), rd_nat a i (by omega), rd_nat b i (by omega)]
    by_cases h : a[i]'(by omega) = b[i]'(by omega)
    · rw [if_pos h, w_id (by omega) (by omega)]
      have := ih k (i + 1) (by omega) (by omega) (by
        rw [List.take_succ_eq_append_getElem (by omega), List.take_succ_eq_append_getElem (by omega), ht, h])
      exact_mod_cast this
    · rw [if_neg h]
      have : a ≠ b := by
        rintro rfl
        exact h rfl
      rw [decide_eq_false this]
theorem sameBytes_is (a b : List Int) (k : Nat) (hk : a.length < k) (hm : a.length ≤ 9223372036854775807) : undercroftplain_SameBytes.f k a b = some (decide (a = b)) := by
  unfold undercroftplain_SameBytes.f
  by_cases hl : a.length = b.length
  · rw [if_pos (by omega)]
    exact sameBytes_loop a b hl hm a.length k 0 (by omega) hk rfl
  · rw [if_neg (by omega)]
    have : a ≠ b := by
      rintro rfl
      exact hl rfl
    rw [decide_eq_false this]

theorem alive01_is (k : Nat) (hk : 4 ≤ k) : undercroftlaw01_alive.f k = some true := by
  unfold undercroftlaw01_alive.f undercroftlaw01_num.f
  have h1 : octets_Put.f 258 3 = some ([0, 1, 2], 0) := by kernel_rfl
  have h2 : octets_Unhex.f (⟨#[48, 97, 70]⟩ : ByteArray) = some ([], 8) := by kernel_rfl
  have h3 : octets_Decimal.f (-7) = some (⟨#[45, 55]⟩ : ByteArray) := by kernel_rfl
  rw [h1, h2, h3]
  simp only [Option.bind_some, if_true]
  rw [sameBytes_is [0, 1, 2] [0, 1, 2] k (by simp; omega) (by simp)]
  have h4 : (⟨#[45, 55]⟩ : ByteArray).toList = ([45, 55] : List UInt8) := by decide +kernel
  simp [h4]

theorem ndF_spec : ∀ (f m : Nat), m < 10 ^ (f + 1) → 1 ≤ ndF f m ∧ ndF f m ≤ f + 1 ∧ m < 10 ^ ndF f m ∧ (ndF f m = 1 ∨ 10 ^ (ndF f m - 1) ≤ m) := by
  intro f
  induction f with
  | zero => intro m h; exact ⟨Nat.le_refl _, Nat.le_refl _, h, .inl rfl⟩
  | succ f ih =>
    intro m h
    unfold ndF
    by_cases h1 : m < 10
    · rw [if_pos h1]; exact ⟨Nat.le_refl _, by omega, by simpa using h1, .inl rfl⟩
    · rw [if_neg h1]
      obtain ⟨a, b, c, d⟩ := ih (m / 10) (by rw [Nat.pow_succ] at h; omega)
      refine ⟨by omega, by omega, ?_, .inr ?_⟩
      · rw [Nat.pow_succ]; omega
      · rw [Nat.add_sub_cancel]
        rcases d with d | d
        · rw [d]; simp; omega
        · obtain ⟨j, hj⟩ : ∃ j, ndF f (m / 10) = j + 1 := ⟨ndF f (m / 10) - 1, by omega⟩
          rw [hj] at d ⊢
          rw [Nat.add_sub_cancel] at d
          rw [Nat.pow_succ]; omega
theorem bt_str (xs : List Int) (i : Nat) (h : i < xs.length) (h0 : 0 ≤ xs[i]) (h1 : xs[i] ≤ 255) : bt (strOfNums xs) (i : Int) = xs[i] := by
  unfold bt
  have hs : i < (strOfNums xs).size := by rw [strOfNums_size]; exact h
  simp only [Int.toNat_natCast]
  rw [dif_pos hs]
  have e : (strOfNums xs)[i] = UInt8.ofNat (xs[i]).toNat := by
    show (strOfNums xs).data[i] = _
    simp [strOfNums]
  rw [e]
  simp only [UInt8.toNat_ofNat']
  omega
theorem digI_range (m p : Nat) : 48 ≤ digI m p ∧ digI m p ≤ 57 := by unfold digI; omega
theorem dig_step (D e : Nat) : 10 * (D / 10 ^ (e + 1)) + D / 10 ^ e % 10 = D / 10 ^ e := by
  rw [Nat.pow_succ, ← Nat.div_div_eq_div_mul]
  omega
theorem w64u (x : Int) : IntKind.u64.wrap x = x % 18446744073709551616 := by simp [IntKind.wrap, IntKind.bits, IntKind.signed]
theorem digits_loop (n : Int) (s : ByteArray) (at_ D nd : Nat) (hD : D ≤ 9223372036854775808) (hsz : s.size = at_ + nd) (hat : at_ ≤ 1) (hnd : nd ≤ 20) (hb : ∀ i, i < nd → bt s ((at_ + i : Nat) : Int) = digI D (nd - 1 - i))
    (hfin : ∀ k, undercroftlaw01_OctetsDigits.l0 (k + 1) n s (D : Int) ((at_ + nd : Nat) : Int) = some true) : ∀ (d k i : Nat), i + d = nd → d < k → undercroftlaw01_OctetsDigits.l0 k n s ((D / 10 ^ (nd - i) : Nat) : Int) ((at_ + i : Nat) : Int) = some true := by
  intro d
  induction d with
  | zero =>
    intro k i hi hk
    obtain ⟨k, rfl⟩ : ∃ m, k = m + 1 := ⟨k - 1, by omega⟩
    obtain rfl : i = nd := by omega
    have e : D / 10 ^ (i - i) = D := by simp
    rw [e]
    exact hfin k
  | succ d ih =>
    intro k i hi hk
    obtain ⟨k, rfl⟩ : ∃ m, k = m + 1 := ⟨k - 1, by omega⟩
    have h3 := ih k (i + 1) (by omega) (by omega)
    have h4 := hb i (by omega)
    have h5 := digI_range D (nd - 1 - i)
    have h6 := dig_step D (nd - 1 - i)
    have h7 : digI D (nd - 1 - i) = 48 + ((D / 10 ^ (nd - 1 - i) % 10 : Nat) : Int) := rfl
    have h8 : D / 10 ^ (nd - 1 - i) ≤ D := Nat.div_le_self _ _
    rw [show nd - 1 - i + 1 = nd - i by omega] at h6
    rw [show nd - (i + 1) = nd - 1 - i by omega] at h3
    simp only [undercroftlaw01_OctetsDigits.l0]
    rw [if_pos (by omega), if_pos (by omega), h4]
    generalize digI D (nd - 1 - i) = c at *
    generalize D / 10 ^ (nd - 1 - i) = q at *
    generalize D / 10 ^ (nd - i) = p at *
    have w1 : IntKind.u64.wrap (10 * (p : Int)) = 10 * (p : Int) := by rw [w64u]; omega
    have w2 : (c - 48) % 256 = c - 48 := by omega
    have w3 : IntKind.u64.wrap (10 * (p : Int) + (c - 48)) = (q : Int) := by rw [w64u]; omega
    have w4 : wrap64 (((at_ + i : Nat) : Int) + 1) = ((at_ + (i + 1) : Nat) : Int) := by rw [w_id (by omega) (by omega)]; omega
    rw [if_neg (by omega), if_neg (by omega), w1, w2, w3, w4]
    exact h3
theorem toList_data' (b : ByteArray) : b.toList = b.data.toList := Lib.toList_data b
theorem OctetsDigits : undercroftlaw01_OctetsDigits.Pure := by
  intro n hn
  obtain ⟨h0, h1⟩ := wf_i64 hn
  refine ⟨100, ?_⟩
  unfold undercroftlaw01_OctetsDigits.f
  rw [alive01_is _ (by omega)]
  simp only [Option.bind_some, if_true]
  have hdec : ∀ x : Int, -9223372036854775808 ≤ x → x ≤ 9223372036854775807 → octets_Decimal.f x = some (strOfNums (decI x)) := fun x a b => by
    unfold octets_Decimal.f
    rw [if_pos ⟨a, b⟩]
  obtain ⟨hm1, hm2⟩ := u64_mag n h0 h1
  rw [hdec n h0 h1]
  simp only [Option.bind_some]
  obtain ⟨D, hD⟩ : ∃ D, D = n.natAbs := ⟨_, rfl⟩
  obtain ⟨s1, s2, s3, s4⟩ := ndF_spec 20 D (by have : (10 : Nat) ^ 21 = 1000000000000000000000 := by decide
                                               omega)
  have hlen : (digsI D (ndF 20 D)).length = ndF 20 D := digsI_length _ _
  have hnd20 : ndF 20 D ≤ 20 := by
    rcases s4 with h | h
    · omega
    · rcases Nat.lt_or_ge 20 (ndF 20 D) with h2 | h2
      · obtain rfl_ : ndF 20 D = 21 := by omega
        rw [rfl_] at h
        have : (10 : Nat) ^ 20 = 100000000000000000000 := by decide
        omega
      · exact h2
  have hget : ∀ i (h : i < (digsI D (ndF 20 D)).length), (digsI D (ndF 20 D))[i] = digI D (ndF 20 D - 1 - i) := fun i h => by simp [digsI]
  have hlead : ndF 20 D ≠ 1 → digI D (ndF 20 D - 1) ≠ 48 := fun hne => by
    have h2 := s4.resolve_left hne
    have h3 : 0 < D / 10 ^ (ndF 20 D - 1) := Nat.div_pos h2 (Nat.pow_pos (by decide))
    have h4 : D / 10 ^ (ndF 20 D - 1) < 10 := by
      refine Nat.div_lt_of_lt_mul ?_
      rw [← Nat.pow_succ, show (ndF 20 D - 1).succ = ndF 20 D by omega]
      exact s3
    unfold digI
    omega
  generalize hnd : ndF 20 D = nd at *
  have hz : D / 10 ^ (nd - 0) = 0 := Nat.div_eq_of_lt s3
  by_cases hneg : n < 0
  · rw [if_pos hneg]
    have hd : decI n = 45 :: digsI D nd := by unfold decI; rw [← hD, hnd, if_pos hneg]; rfl
    have hsz : (strOfNums (decI n)).size = 1 + nd := by rw [strOfNums_size, hd, List.length_cons, hlen]; omega
    have b0 : bt (strOfNums (decI n)) 0 = 45 := by
      rw [hd]
      exact bt_str (45 :: digsI D nd) 0 (by simp) (by simp) (by simp)
    have hb : ∀ i, i < nd → bt (strOfNums (decI n)) ((1 + i : Nat) : Int) = digI D (nd - 1 - i) := fun i hi => by
      have hr := digI_range D (nd - 1 - i)
      have e : (45 :: digsI D nd)[1 + i]'(by rw [List.length_cons, hlen]; omega) = digI D (nd - 1 - i) := by
        rw [← hget i (by omega)]
        simp [Nat.add_comm 1 i]
      rw [hd, bt_str (45 :: digsI D nd) (1 + i) (by rw [List.length_cons, hlen]; omega) (by rw [e]; omega) (by rw [e]; omega), e]
    generalize strOfNums (decI n) = s at *
    have hfin : ∀ k, undercroftlaw01_OctetsDigits.l0 (k + 1) n s (D : Int) ((1 + nd : Nat) : Int) = some true := fun k => by
      simp only [undercroftlaw01_OctetsDigits.l0]
      rw [if_neg (by omega), if_pos hneg, hm1 hneg, hD]
      simp
    have hl := digits_loop n s 1 D nd (by omega) hsz (by omega) hnd20 hb hfin nd
    rw [show (100 : Nat) = 97 + 1 + 1 + 1 from rfl]
    simp only [undercroftlaw01_OctetsDigits.j0]
    rw [if_neg (by omega), if_pos hneg, if_pos (by omega), if_pos b0, w_id (x := 1 + 1) (by omega) (by omega)]
    have hl2 := hl 98 0 (by omega) (by omega)
    rw [hz] at hl2
    by_cases h9 : nd = 1
    · rw [if_neg (by omega)]
      simp only [undercroftlaw01_OctetsDigits.j1]
      simpa using hl2
    · rw [if_pos (by omega), if_pos (by omega), if_pos (by omega)]
      have hb0 := hb 0 (by omega)
      have hq := hlead h9
      have e : bt s 1 = digI D (nd - 1) := hb0
      rw [e]
      have e2 : (digI D (nd - 1) == 48) = false := by simpa using hq
      rw [e2]
      simp only [undercroftlaw01_OctetsDigits.j1]
      simpa using hl2
  · rw [if_neg hneg]
    have hd : decI n = digsI D nd := by unfold decI; rw [← hD, hnd, if_neg hneg]; rfl
    have hsz : (strOfNums (decI n)).size = 0 + nd := by rw [strOfNums_size, hd, hlen]; omega
    have hb : ∀ i, i < nd → bt (strOfNums (decI n)) ((0 + i : Nat) : Int) = digI D (nd - 1 - i) := fun i hi => by
      have hr := digI_range D (nd - 1 - i)
      have e := hget i (by omega)
      rw [hd, Nat.zero_add, bt_str (digsI D nd) i (by omega) (by rw [e]; omega) (by rw [e]; omega), e]
    have hfin : ∀ k, undercroftlaw01_OctetsDigits.l0 (k + 1) n (strOfNums (decI n)) (D : Int) ((0 + nd : Nat) : Int) = some true := fun k => by
      simp only [undercroftlaw01_OctetsDigits.l0]
      rw [if_neg (by omega), if_neg hneg, hm2 hneg, hD, if_pos rfl]
      by_cases hz0 : n = 0
      · rw [if_pos hz0]
      · rw [if_neg hz0, w_id (by omega) (by omega), hdec (-n) (by omega) (by omega)]
        simp only [Option.bind_some]
        rw [if_pos (by omega)]
        have e : decI (-n) = 45 :: decI n := by
          rw [hd]; unfold decI
          rw [Int.natAbs_neg, ← hD, hnd, if_pos (by omega)]; rfl
        rw [e, toList_data', toList_data']
        simp [strOfNums, ByteArray.data_append]
    generalize strOfNums (decI n) = s at *
    have hl := digits_loop n s 0 D nd (by omega) hsz (by omega) hnd20 hb hfin nd
    rw [show (100 : Nat) = 97 + 1 + 1 + 1 from rfl]
    simp only [undercroftlaw01_OctetsDigits.j0]
    rw [if_neg (by omega), if_neg hneg, w_id (x := 0 + 1) (by omega) (by omega)]
    have hl2 := hl 98 0 (by omega) (by omega)
    rw [hz] at hl2
    by_cases h9 : nd = 1
    · rw [if_neg (by omega)]
      simp only [undercroftlaw01_OctetsDigits.j1]
      simpa using hl2
    · rw [if_pos (by omega), if_pos (by omega), if_pos (by omega)]
      have hb0 := hb 0 (by omega)
      have hq := hlead h9
      have e : bt s 0 = digI D (nd - 1) := hb0
      rw [e]
      have e2 : (digI D (nd - 1) == 48) = false := by simpa using hq
      rw [e2]
      simp only [undercroftlaw01_OctetsDigits.j1]
      simpa using hl2

end Go.Proofs.Ytbdkpmclimfpkaa.Pure
