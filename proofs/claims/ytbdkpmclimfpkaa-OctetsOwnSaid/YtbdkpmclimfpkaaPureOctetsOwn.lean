/- What Put and Unhex answer is its holder's: for every number and every text within the form's reach. -/
import Derived.Test.YtbdkpmclimfpkaaPOctetsOwnx4
namespace Go.Proofs.Ytbdkpmclimfpkaa.Pure
open Go.RowKit Go.Proofs.Ytbdkpmclimfpkaa.POctetsOwn Go.Proofs.YtbdkpmclimfpkaaW.PrintWords Go.Proofs.YtbdkpmclimfpkaaW.PrintLast Go.Proofs.YtbdkpmclimfpkaaW.PrintMore
set_option linter.unusedVariables false
set_option linter.unusedSimpArgs false

theorem w_id {x : Int} (h0 : -9223372036854775808 ≤ x) (h1 : x ≤ 9223372036854775807) : wrap64 x = x := by unfold wrap64; omega
theorem wf_i64 {a : Int} (h : (Lit.int .i64 a).wf = true) : -9223372036854775808 ≤ a ∧ a ≤ 9223372036854775807 := by
  simpa [Lit.wf, IntKind.min, IntKind.max, IntKind.signed, IntKind.bits] using h
theorem wf_u8 {a : Int} (h : (Lit.int .u8 a).wf = true) : 0 ≤ a ∧ a ≤ 255 := by
  simpa [Lit.wf, IntKind.min, IntKind.max, IntKind.signed, IntKind.bits] using h
theorem wf_u32 {a : Int} (h : (Lit.int .u32 a).wf = true) : 0 ≤ a ∧ a ≤ 4294967295 := by
  simpa [Lit.wf, IntKind.min, IntKind.max, IntKind.signed, IntKind.bits] using h
theorem wf_u64 {a : Int} (h : (Lit.int .u64 a).wf = true) : 0 ≤ a ∧ a ≤ 18446744073709551615 := by
  simpa [Lit.wf, IntKind.min, IntKind.max, IntKind.signed, IntKind.bits] using h
/-- All are octets. -/
def Oct (l : List Int) : Prop := ∀ x ∈ l, 0 ≤ x ∧ x ≤ 255
theorem Oct.of_wf {l : List Int} (h : ∀ x ∈ l, (Lit.int .u8 x).wf = true) : Oct l := fun x hx => wf_u8 (h x hx)
theorem Oct.nil : Oct [] := fun _ h => by cases h
theorem Oct.append {a b : List Int} (ha : Oct a) (hb : Oct b) : Oct (a ++ b) := fun x hx => (List.mem_append.1 hx).elim (ha x) (hb x)
theorem Oct.take {a : List Int} (ha : Oct a) (n : Nat) : Oct (a.take n) := fun x hx => ha x (List.mem_of_mem_take hx)
theorem Oct.drop {a : List Int} (ha : Oct a) (n : Nat) : Oct (a.drop n) := fun x hx => ha x (List.mem_of_mem_drop hx)
theorem rd_nat (l : List Int) (k : Nat) (h : k < l.length) : rd l (k : Int) = l[k] := by
  unfold rd
  simp [List.getD_eq_getElem?_getD, h]

theorem sameBytes_loop (a b : List Int) (hl : a.length = b.length) (hm : a.length ≤ 9223372036854775807) : ∀ (d k i : Nat), i + d = a.length → d < k → a.take i = b.take i →
    undercroftplain_SameBytes.l0 k a b (i : Int) = some (decide (a = b)) := by
  intro d
  induction d with
  | zero =>
    intro k i hi hk ht
    obtain ⟨k, rfl⟩ : ∃ m, k = m + 1 := ⟨k - 1, by omega⟩
    simp only [undercroftplain_SameBytes.l0]
    rw [if_neg (by omega)]
    have : a = b := by
      rw [List.take_of_length_le (by omega), List.take_of_length_le (by omega)] at ht
      exact ht
    rw [decide_eq_true this]
  | succ d ih =>
    intro k i hi hk ht
    obtain ⟨k, rfl⟩ : ∃ m, k = m + 1 := ⟨k - 1, by omega⟩
    simp only [undercroftplain_SameBytes.l0]
    rw [if_pos (by omega), if_pos (by omega), if_pos (by omega), rd_nat a i (by omega), rd_nat b i (by omega)]
    by_cases h : a[i]'(by omega) = b[i]'(by omega)
    · rw [if_pos h, w_id (by omega) (by omega)]
      have := ih k (i + 1) (by omega) (by omega) (by
        rw [List.take_succ_eq_append_getElem (by omega), List.take_succ_eq_append_getElem (by omega), ht, h])
      exact_mod_cast this
    · rw [if_neg h]
      have : a ≠ b := by
        rintro rfl
        exact h rfl
      rw [decide_eq_false this]
theorem sameBytes_is (a b : List Int) (k : Nat) (hk : a.length < k) (hm : a.length ≤ 9223372036854775807) : undercroftplain_SameBytes.f k a b = some (decide (a = b)) := by
  unfold undercroftplain_SameBytes.f
  by_cases hl : a.length = b.length
  · rw [if_pos (by omega)]
    exact sameBytes_loop a b hl hm a.length k 0 (by omega) hk rfl
  · rw [if_neg (by omega)]
    have : a ≠ b := by
      rintro rfl
      exact hl rfl
    rw [decide_eq_false this]

theorem spoil_loop (n : Nat) (hm : n ≤ 9223372036854775806) : ∀ (d k i : Nat) (a : List Int), a.length = n → i + d = n → d < k → ∃ b, undercroftplain_Spoil.l0 k a (i : Int) = some b ∧ b.length = n := by
  intro d
  induction d with
  | zero =>
    intro k i a ha hi hk
    obtain ⟨k, rfl⟩ : ∃ m, k = m + 1 := ⟨k - 1, by omega⟩
    simp only [undercroftplain_Spoil.l0]
    rw [if_neg (by omega)]
    exact ⟨a, rfl, ha⟩
  | succ d ih =>
    intro k i a ha hi hk
    obtain ⟨k, rfl⟩ : ∃ m, k = m + 1 := ⟨k - 1, by omega⟩
    simp only [undercroftplain_Spoil.l0]
    rw [if_pos (by omega), if_pos (by omega), w_id (by omega) (by omega)]
    obtain ⟨b, hb, hl⟩ := ih k (i + 1) (a.set i (Go.bits .xor .u8 (rd a (i : Int)) 85)) (by simpa using ha) (by omega) (by omega)
    exact ⟨b, by exact_mod_cast hb, hl⟩
theorem spoil_is (a : List Int) (k : Nat) (hk : a.length < k) (hm : a.length ≤ 9223372036854775806) : ∃ b, undercroftplain_Spoil.f k a = some b := by
  obtain ⟨b, hb, _⟩ := spoil_loop a.length hm a.length k 0 a rfl (by omega) hk
  exact ⟨b, hb⟩

theorem alive01_is (k : Nat) (hk : 4 ≤ k) : undercroftlaw01_alive.f k = some true := by
  unfold undercroftlaw01_alive.f undercroftlaw01_num.f
  have h1 : octets_Put.f 258 3 = some ([0, 1, 2], 0) := by kernel_rfl
  have h2 : octets_Unhex.f (⟨#[48, 97, 70]⟩ : ByteArray) = some ([], 8) := by kernel_rfl
  have h3 : octets_Decimal.f (-7) = some (⟨#[45, 55]⟩ : ByteArray) := by kernel_rfl
  rw [h1, h2, h3]
  simp only [Option.bind_some, if_true]
  rw [sameBytes_is [0, 1, 2] [0, 1, 2] k (by simp; omega) (by simp)]
  have h4 : (⟨#[45, 55]⟩ : ByteArray).toList = ([45, 55] : List UInt8) := by decide +kernel
  simp [h4]

theorem w64_tdiv (n : Int) (h0 : 0 ≤ n) (h1 : n ≤ 18446744073709551615) : IntKind.u64.wrap (Int.tdiv n 256) = n / 256 := by
  rw [Int.tdiv_eq_ediv_of_nonneg h0]
  simp [IntKind.wrap, IntKind.bits, IntKind.signed]
  omega
theorem needI_cases (n : Int) : (n < 1 ∧ needI n = 0) ∨ (1 ≤ n ∧ n < 256 ∧ needI n = 1) ∨ (256 ≤ n ∧ n < 65536 ∧ needI n = 2) ∨ (65536 ≤ n ∧ n < 16777216 ∧ needI n = 3) ∨ (16777216 ≤ n ∧ n < 4294967296 ∧ needI n = 4) ∨ (4294967296 ≤ n ∧ n < 1099511627776 ∧ needI n = 5) ∨ (1099511627776 ≤ n ∧ n < 281474976710656 ∧ needI n = 6) ∨ (281474976710656 ≤ n ∧ n < 72057594037927936 ∧ needI n = 7) ∨ (72057594037927936 ≤ n ∧ needI n = 8) := by
  unfold needI
  repeat' split
  all_goals omega
theorem needI_step (n : Int) (h0 : 0 < n) (h1 : n ≤ 18446744073709551615) : needI n = needI (n / 256) + 1 := by
  rcases needI_cases n with h | h | h | h | h | h | h | h | h <;> rcases needI_cases (n / 256) with k | k | k | k | k | k | k | k | k <;> omega
theorem needI_range (n : Int) (h0 : 0 ≤ n) : 0 ≤ needI n ∧ needI n ≤ 8 := by
  unfold needI
  repeat' split
  all_goals omega
theorem needI_zero (n : Int) (h0 : 0 ≤ n) : needI n = 0 → n = 0 := by
  unfold needI
  repeat' split
  all_goals omega
theorem refNeed_loop : ∀ (j : Nat) (k : Nat) (n x : Int), j < k → 0 ≤ n → n ≤ 18446744073709551615 → needI n = (j : Int) → 0 ≤ x → x + j ≤ 100 → undercroftref01_Need.l0 k n x = some (x + j) := by
  intro j
  induction j with
  | zero =>
    intro k n x hk h0 h1 hj hx0 hx1
    obtain ⟨k, rfl⟩ : ∃ m, k = m + 1 := ⟨k - 1, by omega⟩
    simp only [undercroftref01_Need.l0]
    have := needI_zero n h0 (by simpa using hj)
    rw [if_neg (by omega)]
    simp
  | succ j ih =>
    intro k n x hk h0 h1 hj hx0 hx1
    obtain ⟨k, rfl⟩ : ∃ m, k = m + 1 := ⟨k - 1, by omega⟩
    simp only [undercroftref01_Need.l0]
    have hn : 0 < n := by
      rcases Int.lt_or_le 0 n with h | h
      · exact h
      · obtain rfl : n = 0 := by omega
        have e : needI 0 = 0 := by decide
        rw [e] at hj; omega
    have hs := needI_step n hn h1
    have hr := needI_range n h0
    rw [if_pos hn, w64_tdiv n h0 h1, w_id (by omega) (by omega), ih k (n / 256) (x + 1) (by omega) (by omega) (by omega) (by omega) (by omega) (by omega)]
    congr 1
    omega
theorem refNeed_is (n : Int) (k : Nat) (hk : 9 ≤ k) (h0 : 0 ≤ n) (h1 : n ≤ 18446744073709551615) : undercroftref01_Need.f k n = some (needI n) := by
  have hr := needI_range n h0
  have := refNeed_loop (needI n).toNat k n 0 (by omega) h0 h1 (by omega) (by omega) (by omega)
  unfold undercroftref01_Need.f
  rw [this]
  congr 1
  omega
/-- The octets, i of them laid. -/
def octPart (n : Int) (s i : Nat) : List Int := (List.range s).map fun j => if j < s - i then 0 else n / 256 ^ (s - 1 - j) % 256
theorem octPart_zero (n : Int) (s : Nat) : octPart n s 0 = List.replicate s 0 := by
  apply List.ext_getElem
  · simp [octPart]
  · intro i h1 h2
    simp [octPart] at h1 ⊢
    omega
theorem octPart_all (n : Int) (s : Nat) : octPart n s s = octI n s := by
  unfold octPart octI
  refine List.map_congr_left fun j hj => ?_
  rw [if_neg (by omega)]
theorem octPart_set (n : Int) (s i : Nat) (h : i < s) : (octPart n s i).set (s - 1 - i) (n / 256 ^ i % 256) = octPart n s (i + 1) := by
  apply List.ext_getElem
  · simp [octPart]
  · intro j h1 h2
    simp [octPart] at h1
    rw [List.getElem_set]
    by_cases e : s - 1 - i = j
    · subst e
      rw [if_pos rfl]
      simp only [octPart, List.getElem_map, List.getElem_range]
      rw [if_neg (by omega), show s - 1 - (s - 1 - i) = i by omega]
    · rw [if_neg e]
      simp only [octPart, List.getElem_map, List.getElem_range]
      by_cases h3 : j < s - i
      · rw [if_pos h3, if_pos (by omega)]
      · rw [if_neg h3, if_neg (by omega)]
theorem pow_pos_i (i : Nat) : (0 : Int) < 256 ^ i := Int.pow_pos (by decide)
theorem div_step (n : Int) (i : Nat) : n / 256 ^ i / 256 = n / 256 ^ (i + 1) := by
  rw [Int.pow_succ, Int.ediv_ediv_of_nonneg (Int.le_of_lt (pow_pos_i i))]
theorem refOctets_loop (n : Int) (s : Nat) (hs : s ≤ 64) (h0 : 0 ≤ n) (h1 : n ≤ 18446744073709551615) : ∀ (d k i : Nat), i + d = s → d < k → undercroftref01_Octets.l0 k (n / 256 ^ i) (s : Int) (octPart n s i) (i : Int) = some (octI n s) := by
  intro d
  induction d with
  | zero =>
    intro k i hi hk
    obtain ⟨k, rfl⟩ : ∃ m, k = m + 1 := ⟨k - 1, by omega⟩
    simp only [undercroftref01_Octets.l0]
    rw [if_neg (by omega), show i = s by omega, octPart_all]
  | succ d ih =>
    intro k i hi hk
    obtain ⟨k, rfl⟩ : ∃ m, k = m + 1 := ⟨k - 1, by omega⟩
    simp only [undercroftref01_Octets.l0]
    have hq0 : 0 ≤ n / 256 ^ i := Int.ediv_nonneg h0 (Int.le_of_lt (pow_pos_i i))
    have hq1 : n / 256 ^ i ≤ n := Int.ediv_le_self _ h0
    have hl : (octPart n s i).length = s := by simp [octPart]
    have e1 : wrap64 ((s : Int) - 1) = (s : Int) - 1 := w_id (by omega) (by omega)
    have e2 : wrap64 ((s : Int) - 1 - i) = (s : Int) - 1 - i := w_id (by omega) (by omega)
    rw [if_pos (by omega), e1, e2, if_pos (by omega), if_pos (by omega), w64_tdiv _ hq0 (by omega), w_id (by omega) (by omega), div_step]
    have e3 : ((s : Int) - 1 - i).toNat = s - 1 - i := by omega
    have e4 : Int.tmod (n / 256 ^ i) 256 % 256 = n / 256 ^ i % 256 := by
      rw [Int.tmod_eq_emod_of_nonneg hq0]; omega
    rw [e3, e4, octPart_set n s i (by omega)]
    have h3 := ih k (i + 1) (by omega) (by omega)
    rw [show ((i + 1 : Nat) : Int) = (i : Int) + 1 from rfl] at h3
    exact h3
theorem refOctets_is (n s : Int) (k : Nat) (hk : 65 ≤ k) (hs0 : 0 ≤ s) (hs : s ≤ 64) (h0 : 0 ≤ n) (h1 : n ≤ 18446744073709551615) : undercroftref01_Octets.f k n s = some (octI n s.toNat) := by
  unfold undercroftref01_Octets.f
  rw [if_pos hs0, if_pos (by omega), ← octPart_zero n]
  have := refOctets_loop n s.toNat (by omega) h0 h1 s.toNat k 0 (by omega) (by omega)
  rw [show ((s.toNat : Nat) : Int) = s by omega] at this
  have e : n / 256 ^ 0 = n := by rw [Int.pow_zero, Int.ediv_one]
  rw [e] at this
  exact this
theorem refPut_is (n s : Int) (k : Nat) (hk : 66 ≤ k) (h0 : 0 ≤ n) (h1 : n ≤ 18446744073709551615) : undercroftref01_Put.f k n s = octets_Put.f n s := by
  obtain ⟨k, rfl⟩ : ∃ m, k = m + 1 := ⟨k - 1, by omega⟩
  unfold undercroftref01_Put.f octets_Put.f
  rw [if_pos (show 0 ≤ n ∧ n ≤ 18446744073709551615 from ⟨h0, h1⟩)]
  simp only [undercroftref01_Put.j0]
  by_cases a : s < 0
  · simp [a]
  · rw [if_neg a]
    by_cases b : s > 64
    · rw [if_pos (by simpa using b), if_pos (by omega)]
    · rw [if_neg (by simpa using b), if_neg (by omega), refNeed_is n k (by omega) h0 h1]
      simp only [Option.bind_some]
      by_cases c : s < needI n
      · rw [if_pos c, if_pos c]
      · rw [if_neg c, if_neg c, refOctets_is n s k (by omega) (by omega) (by omega) h0 h1]
        rfl

theorem bt_oct (s : ByteArray) (i : Int) : 0 ≤ bt s i ∧ bt s i ≤ 255 := by
  unfold bt
  split
  · have := (s[i.toNat]'(by assumption)).toNat_lt
    omega
  · omega
theorem worth_is (c : Int) (k : Nat) (hk : 3 ≤ k) (h0 : 0 ≤ c) (h1 : c ≤ 255) : undercroftref01_worth.f k c = some (if valI c ≤ 15 then valI c else -1) := by
  obtain ⟨k, rfl⟩ : ∃ m, k = m + 2 := ⟨k - 2, by omega⟩
  by_cases a1 : 48 ≤ c <;> by_cases a2 : c ≤ 57 <;> by_cases a3 : 65 ≤ c <;> by_cases a4 : c ≤ 70 <;> by_cases a5 : 97 ≤ c <;> by_cases a6 : c ≤ 102
  all_goals first
    | (exfalso; omega)
    | (simp [undercroftref01_worth.f, undercroftref01_worth.j0, undercroftref01_worth.j1, valI, a1, a2, a3, a4, a5, a6]
       try omega)
theorem packI_two (l : List Int) (a b : Int) (h : l.length % 2 = 0) : packI (l ++ [a] ++ [b]) = packI l ++ [16 * a + b] := by
  induction l using packI.induct with
  | case1 x y r ih =>
    simp only [List.cons_append, packI]
    rw [ih (by simp only [List.length_cons] at h; omega)]
  | case2 x => simp at h
  | case3 => simp [packI]
theorem valsI_two (s : ByteArray) (k : Nat) : valsI s (k + 2) = valsI s k ++ [valI (bt s (k : Int))] ++ [valI (bt s (k + 1 : Int))] := by
  rw [valsI_succ s (k + 1), valsI_succ s k]
  simp
theorem refUnhex_l1 (s : ByteArray) (hs : s.size ≤ 140737488351232) (he : s.size % 2 = 0) (hd : ∀ i, i < s.size → valI (bt s (i : Int)) ≤ 15) : ∀ (d k i : Nat), 2 * i + 2 * d = s.size → d + 4 ≤ k →
    undercroftref01_Unhex.l1 k s (packI (valsI s (2 * i))) ((2 * i : Nat) : Int) = some (packI (valsI s s.size), 0) := by
  intro d
  induction d with
  | zero =>
    intro k i hi hk
    obtain ⟨k, rfl⟩ : ∃ m, k = m + 1 := ⟨k - 1, by omega⟩
    simp only [undercroftref01_Unhex.l1]
    rw [if_neg (by omega), show 2 * i = s.size by omega]
  | succ d ih =>
    intro k i hi hk
    obtain ⟨k, rfl⟩ : ∃ m, k = m + 1 := ⟨k - 1, by omega⟩
    simp only [undercroftref01_Unhex.l1]
    have e := packI_two (valsI s (2 * i)) (valI (bt s ((2 * i : Nat) : Int))) (valI (bt s (((2 * i : Nat) : Int) + 1))) (by rw [valsI_length]; omega)
    rw [← valsI_two] at e
    have d1 := hd (2 * i) (by omega)
    have d2 := hd (2 * i + 1) (by omega)
    rw [show (((2 * i + 1 : Nat)) : Int) = ((2 * i : Nat) : Int) + 1 from rfl] at d2
    have hp : (packI (valsI s (2 * i))).length = i := by rw [packI_length, valsI_length]; omega
    have v1 := valI_range (bt s ((2 * i : Nat) : Int))
    have v2 := valI_range (bt s (((2 * i : Nat) : Int) + 1))
    have W1 := worth_is (bt s ((2 * i : Nat) : Int)) k (by omega) (bt_oct s _).1 (bt_oct s _).2
    have W2 := worth_is (bt s (((2 * i : Nat) : Int) + 1)) k (by omega) (bt_oct s _).1 (bt_oct s _).2
    rw [if_pos d1] at W1
    rw [if_pos d2] at W2
    have w0 : wrap64 (((2 * i : Nat) : Int) + 1) = ((2 * i : Nat) : Int) + 1 := w_id (by omega) (by omega)
    have w4 : wrap64 (((2 * i : Nat) : Int) + 2) = ((2 * i : Nat) : Int) + 2 := w_id (by omega) (by omega)
    have h3 := ih k (i + 1) (by omega) (by omega)
    have e5 : 2 * (i + 1) = 2 * i + 2 := by omega
    have e6 : ((2 * i : Nat) : Int) + 2 = ((2 * i + 2 : Nat) : Int) := by omega
    rw [e5] at h3
    rw [w0, W1, W2, w4]
    simp only [Option.bind_some]
    rw [e] at h3
    generalize valI (bt s ((2 * i : Nat) : Int)) = A at *
    generalize valI (bt s (((2 * i : Nat) : Int) + 1)) = B at *
    have w1 : wrap64 (16 * A) = 16 * A := w_id (by omega) (by omega)
    have w2 : wrap64 (16 * A + B) = 16 * A + B := w_id (by omega) (by omega)
    have w3 : (16 * A + B) % 256 = 16 * A + B := by omega
    rw [w1, w2, w3, if_pos (by omega), if_pos (by omega), if_pos (by omega), if_pos (by omega), if_pos (by rw [hp]; omega), e6]
    exact h3
theorem refUnhex_l0 (s : ByteArray) (hs : s.size ≤ 140737488351232) : ∀ (d k i : Nat), i + d = s.size → d + s.size + 8 ≤ k → (∀ j, j < i → valI (bt s (j : Int)) ≤ 15) → undercroftref01_Unhex.l0 k s (i : Int) = some (unhexI s) := by
  intro d
  induction d with
  | zero =>
    intro k i hi hk hd
    obtain ⟨k, rfl⟩ : ∃ m, k = m + 1 := ⟨k - 1, by omega⟩
    simp only [undercroftref01_Unhex.l0]
    rw [if_neg (by omega)]
    have hall : (List.range s.size).all (fun (i : Nat) => decide (valI (bt s (i : Int)) ≤ 15)) = true := List.all_eq_true.2 fun j hj => by simpa using hd j (by simp at hj; omega)
    unfold unhexI
    rw [if_pos hall]
    by_cases he : s.size % 2 = 1
    · rw [if_pos he, if_pos (by omega)]
    · rw [if_neg he, if_neg (by omega)]
      have := refUnhex_l1 s hs (by omega) (fun j hj => hd j (by omega)) (s.size / 2) k 0 (by omega) (by omega)
      simpa [valsI, packI] using this
  | succ d ih =>
    intro k i hi hk hd
    obtain ⟨k, rfl⟩ : ∃ m, k = m + 1 := ⟨k - 1, by omega⟩
    simp only [undercroftref01_Unhex.l0]
    have b1 := bt_oct s (i : Int)
    have v1 := valI_range (bt s (i : Int))
    rw [if_pos (by omega), if_pos (by omega), worth_is _ k (by omega) b1.1 b1.2]
    simp only [Option.bind_some]
    by_cases h : valI (bt s (i : Int)) ≤ 15
    · rw [if_pos h, if_neg (by omega), w_id (by omega) (by omega)]
      have := ih k (i + 1) (by omega) (by omega) (fun j hj => by
        rcases Nat.lt_or_ge j i with h2 | h2
        · exact hd j h2
        · obtain rfl : j = i := by omega
          exact h)
      exact_mod_cast this
    · rw [if_neg h, if_pos (by omega)]
      unfold unhexI
      rw [if_neg]
      intro hall
      have := List.all_eq_true.1 hall i (by simp; omega)
      simp at this
      omega
theorem refUnhex_is (s : ByteArray) (k : Nat) (hs : s.size ≤ 140737488351232) (hk : 2 * s.size + 8 ≤ k) : undercroftref01_Unhex.f k s = some (unhexI s) := by
  unfold undercroftref01_Unhex.f
  exact_mod_cast refUnhex_l0 s hs s.size k 0 (by omega) (by omega) (fun j hj => by omega)
theorem unhexI_len (s : ByteArray) : (unhexI s).1.length ≤ s.size := by
  unfold unhexI
  repeat' split
  · simp
  · rw [packI_length, valsI_length]; omega
  · simp

theorem OctetsOwn : undercroftlaw01_OctetsOwn.Pure := by
  intro n s hn hs
  obtain ⟨h0, h1⟩ := wf_u64 hn
  refine ⟨2 * s.size + 100, ?_⟩
  unfold undercroftlaw01_OctetsOwn.f
  rw [alive01_is _ (by omega), refPut_is n 9 _ (by omega) h0 h1, refUnhex_is s _ hs (by omega)]
  have hr := needI_range n h0
  have hp : octets_Put.f n 9 = some (octI n 9, 0) := by
    unfold octets_Put.f
    rw [if_pos ⟨h0, h1⟩, if_neg (by omega), if_neg (by omega)]
    rfl
  have hu : octets_Unhex.f s = some (unhexI s) := by
    unfold octets_Unhex.f
    rw [if_pos (by omega)]
  have hl := unhexI_len s
  rw [hp, hu]
  simp only [Option.bind_some, if_true]
  have h9 : (octI n 9).length = 9 := by simp [octI]
  obtain ⟨b, hb⟩ := spoil_is (octI n 9) (2 * s.size + 100) (by omega) (by omega)
  obtain ⟨c, hc⟩ := spoil_is (unhexI s).1 (2 * s.size + 100) (by omega) (by omega)
  rw [hb]
  simp only [Option.bind_some]
  rw [hc]
  simp only [Option.bind_some]
  rw [sameBytes_is _ _ _ (by omega) (by omega)]
  simp only [decide_true, Option.bind_some, if_true]
  rw [sameBytes_is _ _ _ (by omega) (by omega)]
  simp

end Go.Proofs.Ytbdkpmclimfpkaa.Pure
