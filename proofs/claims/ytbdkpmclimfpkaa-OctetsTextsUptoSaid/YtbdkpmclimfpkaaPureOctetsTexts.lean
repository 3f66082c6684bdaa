/- Digits of a number, of octets, and any text read as octets: for inputs of length at most 1048576 (the Upto form). -/
import Derived.Test.YtbdkpmclimfpkaaPOctetsTextsx4
namespace Go.Proofs.Ytbdkpmclimfpkaa.Pure
open Go.RowKit Go.Proofs.Ytbdkpmclimfpkaa.POctetsTexts Go.Proofs.YtbdkpmclimfpkaaW.PrintWords Go.Proofs.YtbdkpmclimfpkaaW.PrintLast Go.Proofs.YtbdkpmclimfpkaaW.PrintMore
set_option linter.unusedVariables false
set_option linter.unusedSimpArgs false

theorem w_id {x : Int} (h0 : -9223372036854775808 ≤ x) (h1 : x ≤ 9223372036854775807) : wrap64 x = x := by unfold wrap64; omega
theorem wf_i64 {a : Int} (h : (Lit.int .i64 a).wf = true) : -9223372036854775808 ≤ a ∧ a ≤ 9223372036854775807 := by
  simpa [Lit.wf, IntKind.min, IntKind.max, IntKind.signed, IntKind.bits] using h
theorem wf_u8 {a : Int} (h : (Lit.int .u8 a).wf = true) : 0 ≤ a ∧ a ≤ 255 := by
  simpa [Lit.wf, IntKind.min, IntKind.max, IntKind.signed, IntKind.bits] using h
theorem wf_u32 {a : Int} (h : (Lit.int .u32 a).wf = true) : 0 ≤ a ∧ a ≤ 4294967295 := by
  simpa [Lit.wf, IntKind.min, IntKind.max, IntKind.signed, IntKind.bits] using h
theorem wf_u64 {a : Int} (h : (Lit.int .u64 a).wf = true) : 0 ≤ a ∧ a ≤ 18446744073709551615 := by
  simpa [Lit.wf, IntKind.min, IntKind.max, IntKind.signed, IntKind.bits] using h
/-- All are octets. -/
def Oct (l : List Int) : Prop := ∀ x ∈ l, 0 ≤ x ∧ x ≤ 255
theorem Oct.of_wf {l : List Int} (h : ∀ x ∈ l, (Lit.int .u8 x).wf = true) : Oct l := fun x hx => wf_u8 (h x hx)
theorem Oct.nil : Oct [] := fun _ h => by cases h
theorem Oct.append {a b : List Int} (ha : Oct a) (hb : Oct b) : Oct (a ++ b) := fun x hx => (List.mem_append.1 hx).elim (ha x) (hb x)
theorem Oct.take {a : List Int} (ha : Oct a) (n : Nat) : Oct (a.take n) := fun x hx => ha x (List.mem_of_mem_take hx)
theorem Oct.drop {a : List Int} (ha : Oct a) (n : Nat) : Oct (a.drop n) := fun x hx => ha x (List.mem_of_mem_drop hx)
theorem rd_nat (l : List Int) (k : Nat) (h : k < l.length) : rd l (k : Int) = l[k] := by
  unfold rd
  simp [List.getD_eq_getElem?_getD, h]

theorem sameBytes_loop (a b : List Int) (hl : a.length = b.length) (hm : a.length ≤ 9223372036854775807) : ∀ (d k i : Nat), i + d = a.length → d < k → a.take i = b.take i →
    undercroftplain_SameBytes.l0 k a b (i : Int) = some (decide (a = b)) := by
  intro d
  induction d with
  | zero =>
    intro k i hi hk ht
    obtain ⟨k, rfl⟩ : ∃ m, k = m + 1 := ⟨k - 1, by omega⟩
    simp only [undercroftplain_SameBytes.l0]
    rw [if_neg (by omega)]
    have : a = b := by
      rw [List.take_of_length_le (by omega), List.take_of_length_le (by omega)] at ht
      exact ht
    rw [decide_eq_true this]
  | succ d ih =>
    intro k i hi hk ht
    obtain ⟨k, rfl⟩ : ∃ m, k = m + 1 := ⟨k - 1, by omega⟩
    simp only [undercroftplain_SameBytes.l0]
    rw [if_pos (by omega), if_pos (by omega), if_pos (by omega), rd_nat a i (by omega), rd_nat b i (by omega)]
    by_cases h : a[i]'(by omega) = b[i]'(by omega)
    · rw [if_pos h, w_id (by omega) (by omega)]
      have := ih k (i + 1) (by omega) (by omega) (by
        rw [List.take_succ_eq_append_getElem (by omega), List.take_succ_eq_append_getElem (by omega), ht, h])
      exact_mod_cast this
    · rw [if_neg h]
      have : a ≠ b := by
        rintro rfl
        exact h rfl
      rw [decide_eq_false this]
theorem sameBytes_is (a b : List Int) (k : Nat) (hk : a.length < k) (hm : a.length ≤ 9223372036854775807) : undercroftplain_SameBytes.f k a b = some (decide (a = b)) := by
  unfold undercroftplain_SameBytes.f
  by_cases hl : a.length = b.length
  · rw [if_pos (by omega)]
    exact sameBytes_loop a b hl hm a.length k 0 (by omega) hk rfl
  · rw [if_neg (by omega)]
    have : a ≠ b := by
      rintro rfl
      exact hl rfl
    rw [decide_eq_false this]

theorem copyBytes_is (a : List Int) (h : a.length < 140737488355328) : undercroftplain_CopyBytes.f a = some a := by
  unfold undercroftplain_CopyBytes.f
  rw [if_pos (by simpa using h)]
  simp

theorem alive01_is (k : Nat) (hk : 4 ≤ k) : undercroftlaw01_alive.f k = some true := by
  unfold undercroftlaw01_alive.f undercroftlaw01_num.f
  have h1 : octets_Put.f 258 3 = some ([0, 1, 2], 0) := by kernel_rfl
  have h2 : octets_Unhex.f (⟨#[48, 97, 70]⟩ : ByteArray) = some ([], 8) := by kernel_rfl
  have h3 : octets_Decimal.f (-7) = some (⟨#[45, 55]⟩ : ByteArray) := by kernel_rfl
  rw [h1, h2, h3]
  simp only [Option.bind_some, if_true]
  rw [sameBytes_is [0, 1, 2] [0, 1, 2] k (by simp; omega) (by simp)]
  have h4 : (⟨#[45, 55]⟩ : ByteArray).toList = ([45, 55] : List UInt8) := by decide +kernel
  simp [h4]

theorem bt_oct (s : ByteArray) (i : Int) : 0 ≤ bt s i ∧ bt s i ≤ 255 := by
  unfold bt
  split
  · have := (s[i.toNat]'(by assumption)).toNat_lt
    omega
  · omega
theorem worth_is (c : Int) (k : Nat) (hk : 3 ≤ k) (h0 : 0 ≤ c) (h1 : c ≤ 255) : undercroftref01_worth.f k c = some (if valI c ≤ 15 then valI c else -1) := by
  obtain ⟨k, rfl⟩ : ∃ m, k = m + 2 := ⟨k - 2, by omega⟩
  by_cases a1 : 48 ≤ c <;> by_cases a2 : c ≤ 57 <;> by_cases a3 : 65 ≤ c <;> by_cases a4 : c ≤ 70 <;> by_cases a5 : 97 ≤ c <;> by_cases a6 : c ≤ 102
  all_goals first
    | (exfalso; omega)
    | (simp [undercroftref01_worth.f, undercroftref01_worth.j0, undercroftref01_worth.j1, valI, a1, a2, a3, a4, a5, a6]
       try omega)
theorem packI_two (l : List Int) (a b : Int) (h : l.length % 2 = 0) : packI (l ++ [a] ++ [b]) = packI l ++ [16 * a + b] := by
  induction l using packI.induct with
  | case1 x y r ih =>
    simp only [List.cons_append, packI]
    rw [ih (by simp only [List.length_cons] at h; omega)]
  | case2 x => simp at h
  | case3 => simp [packI]
theorem valsI_two (s : ByteArray) (k : Nat) : valsI s (k + 2) = valsI s k ++ [valI (bt s (k : Int))] ++ [valI (bt s (k + 1 : Int))] := by
  rw [valsI_succ s (k + 1), valsI_succ s k]
  simp
theorem refUnhex_l1 (s : ByteArray) (hs : s.size ≤ 140737488351232) (he : s.size % 2 = 0) (hd : ∀ i, i < s.size → valI (bt s (i : Int)) ≤ 15) : ∀ (d k i : Nat), 2 * i + 2 * d = s.size → d + 4 ≤ k →
    undercroftref01_Unhex.l1 k s (packI (valsI s (2 * i))) ((2 * i : Nat) : Int) = some (packI (valsI s s.size), 0) := by
  intro d
  induction d with
  | zero =>
    intro k i hi hk
    obtain ⟨k, rfl⟩ : ∃ m, k = m + 1 := ⟨k - 1, by omega⟩
    simp only [undercroftref01_Unhex.l1]
    rw [if_neg (by omega), show 2 * i = s.size by omega]
  | succ d ih =>
    intro k i hi hk
    obtain ⟨k, rfl⟩ : ∃ m, k = m + 1 := ⟨k - 1, by omega⟩
    simp only [undercroftref01_Unhex.l1]
    have e := packI_two (valsI s (2 * i)) (valI (bt s ((2 * i : Nat) : Int))) (valI (bt s (((2 * i : Nat) : Int) + 1))) (by rw [valsI_length]; omega)
    rw [← valsI_two] at e
    have d1 := hd (2 * i) (by omega)
    have d2 := hd (2 * i + 1) (by omega)
    rw [show (((2 * i + 1 : Nat)) : Int) = ((2 * i : Nat) : Int) + 1 from rfl] at d2
    have hp : (packI (valsI s (2 * i))).length = i := by rw [packI_length, valsI_length]; omega
    have v1 := valI_range (bt s ((2 * i : Nat) : Int))
    have v2 := valI_range (bt s (((2 * i : Nat) : Int) + 1))
    have W1 := worth_is (bt s ((2 * i : Nat) : Int)) k (by omega) (bt_oct s _).1 (bt_oct s _).2
    have W2 := worth_is (bt s (((2 * i : Nat) : Int) + 1)) k (by omega) (bt_oct s _).1 (bt_oct s _).2
    rw [if_pos d1] at W1
    rw [if_pos d2] at W2
    have w0 : wrap64 (((2 * i : Nat) : Int) + 1) = ((2 * i : Nat) : Int) + 1 := w_id (by omega) (by omega)
    have w4 : wrap64 (((2 * i : Nat) : Int) + 2) = ((2 * i : Nat) : Int) + 2 := w_id (by omega) (by omega)
    have h3 := ih k (i + 1) (by omega) (by omega)
    have e5 : 2 * (i + 1) = 2 * i + 2 := by omega
    have e6 : ((2 * i : Nat) : Int) + 2 = ((2 * i + 2 : Nat) : Int) := by omega
    rw [e5] at h3
    rw [w0, W1, W2, w4]
    simp only [Option.bind_some]
    rw [e] at h3
    generalize valI (bt s ((2 * i : Nat) : Int)) = A at *
    generalize valI (bt s (((2 * i : Nat) : Int) + 1)) = B at *
    have w1 : wrap64 (16 * A) = 16 * A := w_id (by omega) (by omega)
    have w2 : wrap64 (16 * A + B) = 16 * A + B := w_id (by omega) (by omega)
    have w3 : (16 * A + B) % 256 = 16 * A + B := by omega
    rw [w1, w2, w3, if_pos (by omega), if_pos (by omega), if_pos (by omega), if_pos (by omega), if_pos (by rw [hp]; omega), e6]
    exact h3
theorem refUnhex_l0 (s : ByteArray) (hs : s.size ≤ 140737488351232) : ∀ (d k i : Nat), i + d = s.size → d + s.size + 8 ≤ k → (∀ j, j < i → valI (bt s (j : Int)) ≤ 15) → undercroftref01_Unhex.l0 k s (i : Int) = some (unhexI s) := by
  intro d
  induction d with
  | zero =>
    intro k i hi hk hd
    obtain ⟨k, rfl⟩ : ∃ m, k = m + 1 := ⟨k - 1, by omega⟩
    simp only [undercroftref01_Unhex.l0]
    rw [if_neg (by omega)]
    have hall : (List.range s.size).all (fun (i : Nat) => decide (valI (bt s (i : Int)) ≤ 15)) = true := List.all_eq_true.2 fun j hj => by simpa using hd j (by simp at hj; omega)
    unfold unhexI
    rw [if_pos hall]
    by_cases he : s.size % 2 = 1
    · rw [if_pos he, if_pos (by omega)]
    · rw [if_neg he, if_neg (by omega)]
      have := refUnhex_l1 s hs (by omega) (fun j hj => hd j (by omega)) (s.size / 2) k 0 (by omega) (by omega)
      simpa [valsI, packI] using this
  | succ d ih =>
    intro k i hi hk hd
    obtain ⟨k, rfl⟩ : ∃ m, k = m + 1 := ⟨k - 1, by omega⟩
    simp only [undercroftref01_Unhex.l0]
    have b1 := bt_oct s (i : Int)
    have v1 := valI_range (bt s (i : Int))
    rw [if_pos (by omega), if_pos (by omega), worth_is _ k (by omega) b1.1 b1.2]
    simp only [Option.bind_some]
    by_cases h : valI (bt s (i : Int)) ≤ 15
    · rw [if_pos h, if_neg (by omega), w_id (by omega) (by omega)]
      have := ih k (i + 1) (by omega) (by omega) (fun j hj => by
        rcases Nat.lt_or_ge j i with h2 | h2
        · exact hd j h2
        · obtain rfl : j = i := by omega
          exact h)
      exact_mod_cast this
    · rw [if_neg h, if_pos (by omega)]
      unfold unhexI
      rw [if_neg]
      intro hall
      have := List.all_eq_true.1 hall i (by simp; omega)
      simp at this
      omega
theorem refUnhex_is (s : ByteArray) (k : Nat) (hs : s.size ≤ 140737488351232) (hk : 2 * s.size + 8 ≤ k) : undercroftref01_Unhex.f k s = some (unhexI s) := by
  unfold undercroftref01_Unhex.f
  exact_mod_cast refUnhex_l0 s hs s.size k 0 (by omega) (by omega) (fun j hj => by omega)
theorem unhexI_len (s : ByteArray) : (unhexI s).1.length ≤ s.size := by
  unfold unhexI
  repeat' split
  · simp
  · rw [packI_length, valsI_length]; omega
  · simp

theorem ndF_le : ∀ (f m : Nat), ndF f m ≤ f + 1
  | 0, _ => Nat.le_refl _
  | f + 1, m => by
    unfold ndF
    have := ndF_le f (m / 10)
    split <;> omega
theorem strOfNums_append (a b : List Int) : strOfNums a ++ strOfNums b = strOfNums (a ++ b) := by
  apply ByteArray.ext
  simp [strOfNums, ByteArray.data_append]
theorem digsI_cons (m j : Nat) : digsI m (j + 1) = digI m j :: digsI m j := by
  unfold digsI
  rw [List.range_succ_eq_map, List.map_cons, List.map_map]
  congr 1
  refine List.map_congr_left fun i hi => ?_
  simp only [List.mem_range] at hi
  show digI m (j + 1 - 1 - (i + 1)) = _
  rw [show j + 1 - 1 - (i + 1) = j - 1 - i by omega]
theorem w64n (x : Int) : IntKind.u64.wrap x = x % 18446744073709551616 := by simp [IntKind.wrap, IntKind.bits, IntKind.signed]
theorem refDigits_loop (M : Nat) (hM : M ≤ 18446744073709551615) : ∀ (f k e : Nat), e ≤ 40 → M / 10 ^ e < 10 ^ (f + 1) → f < k → undercroftref01_digits.l0 k ((M / 10 ^ e : Nat) : Int) (strOfNums (digsI M (e + 1))) = some (strOfNums (digsI M (e + ndF f (M / 10 ^ e)))) := by
  intro f
  induction f with
  | zero =>
    intro k e he h hk
    obtain ⟨k, rfl⟩ : ∃ m, k = m + 1 := ⟨k - 1, by omega⟩
    simp only [undercroftref01_digits.l0]
    rw [if_neg (by omega)]
    rfl
  | succ f ih =>
    intro k e he h hk
    obtain ⟨k, rfl⟩ : ∃ m, k = m + 1 := ⟨k - 1, by omega⟩
    have hp : M / 10 ^ e / 10 = M / 10 ^ (e + 1) := by rw [Nat.div_div_eq_div_mul, Nat.pow_succ]
    have hq : M / 10 ^ e ≤ M := Nat.div_le_self _ _
    have hdig : digI M (e + 1) = 48 + ((M / 10 ^ (e + 1) % 10 : Nat) : Int) := rfl
    have hcons := digsI_cons M (e + 1)
    simp only [undercroftref01_digits.l0]
    by_cases h1 : M / 10 ^ e < 10
    · rw [if_neg (by omega)]
      unfold ndF
      rw [if_pos h1]
    · rw [if_pos (by omega)]
      have ht : IntKind.u64.wrap (Int.tdiv ((M / 10 ^ e : Nat) : Int) 10) = ((M / 10 ^ (e + 1) : Nat) : Int) := by
        rw [Int.tdiv_eq_ediv_of_nonneg (by omega), w64n, ← hp]
        omega
      rw [ht]
      have hih : e + 1 ≤ 40 → undercroftref01_digits.l0 k ((M / 10 ^ (e + 1) : Nat) : Int) (strOfNums (digsI M (e + 1 + 1))) = some (strOfNums (digsI M (e + 1 + ndF f (M / 10 ^ (e + 1))))) := fun he1 => ih k (e + 1) he1 (by rw [← hp]; rw [Nat.pow_succ] at h; omega) (by omega)
      have he40 : e + 1 ≤ 40 := by
        rcases Nat.lt_or_ge e 40 with h2 | h2
        · omega
        · have e1 : e = 40 := by omega
          subst e1
          have hpow : (10 : Nat) ^ 40 = 10000000000000000000000000000000000000000 := by decide
          have : M / 10 ^ 40 = 0 := Nat.div_eq_of_lt (by rw [hpow]; omega)
          omega
      have h3 := hih he40
      unfold ndF
      rw [if_neg h1, hp]
      generalize M / 10 ^ (e + 1) = q at *
      have hmod : IntKind.u64.wrap (48 + Int.tmod (q : Int) 10) % 256 = 48 + ((q % 10 : Nat) : Int) := by
        rw [Int.tmod_eq_emod_of_nonneg (by omega), w64n]
        omega
      rw [hmod, ← hdig]
      simp only [Option.bind_some]
      have hlen : (strOfNums [digI M (e + 1)]).size + (strOfNums (digsI M (e + 1))).size ≤ 9223372036854775807 := by
        rw [strOfNums_size, strOfNums_size, digsI_length]
        simp; omega
      rw [if_pos hlen, strOfNums_append]
      have e2 : [digI M (e + 1)] ++ digsI M (e + 1) = digsI M (e + 1 + 1) := by rw [hcons]; rfl
      rw [e2, h3]
      congr 3
      omega
theorem refDigits_is (M : Nat) (k : Nat) (hk : 25 ≤ k) (hM : M ≤ 18446744073709551615) : undercroftref01_digits.f k (M : Int) = some (strOfNums (digsI M (ndF 20 M))) := by
  unfold undercroftref01_digits.f
  have hpow : (10 : Nat) ^ (20 + 1) = 1000000000000000000000 := by decide
  have h := refDigits_loop M hM 20 k 0 (by omega) (by rw [hpow]; simp; omega) (by omega)
  have e1 : M / 10 ^ 0 = M := by simp
  have e2 : IntKind.u64.wrap (48 + Int.tmod (M : Int) 10) % 256 = digI M 0 := by
    have : digI M 0 = 48 + ((M / 10 ^ 0 % 10 : Nat) : Int) := rfl
    rw [this, e1, Int.tmod_eq_emod_of_nonneg (by omega), w64n]
    omega
  rw [e1] at h
  have e3 : digsI M (0 + 1) = [digI M 0] := rfl
  rw [e3, Nat.zero_add] at h
  rw [e2]
  exact h
theorem refDecimal_is (n : Int) (k : Nat) (hk : 25 ≤ k) (h0 : -9223372036854775808 ≤ n) (h1 : n ≤ 9223372036854775807) : undercroftref01_Decimal.f k n = some (strOfNums (decI n)) := by
  unfold undercroftref01_Decimal.f
  by_cases hn : n < 0
  · rw [if_pos hn]
    have e : IntKind.u64.wrap (IntKind.u64.wrap (wrap64 (-wrap64 (n + 1))) + 1) = (n.natAbs : Int) := by
      rw [w_id (x := n + 1) (by omega) (by omega), w_id (by omega) (by omega), w64n, w64n]
      omega
    rw [e, refDigits_is _ _ hk (by omega)]
    simp only [Option.bind_some]
    have hl : 1 + (strOfNums (digsI n.natAbs (ndF 20 n.natAbs))).size ≤ 9223372036854775807 := by
      rw [strOfNums_size, digsI_length]
      have := ndF_le 20 n.natAbs
      omega
    rw [if_pos hl]
    have e2 : (⟨#[45]⟩ : ByteArray) = strOfNums [45] := rfl
    rw [e2, strOfNums_append]
    unfold decI
    rw [if_pos hn]
  · rw [if_neg hn]
    have e : IntKind.u64.wrap n = (n.natAbs : Int) := by rw [w64n]; omega
    rw [e, refDigits_is _ _ hk (by omega)]
    simp only [Option.bind_some]
    unfold decI
    rw [if_neg hn]
    rfl

theorem sixteen_table : ((List.range 16).all fun a => decide (bt (⟨#[48, 49, 50, 51, 52, 53, 54, 55, 56, 57, 97, 98, 99, 100, 101, 102]⟩ : ByteArray) (a : Int) = hexD (a : Int))) = true := by kernel_rfl
theorem sixteen_is (a : Int) (h0 : 0 ≤ a) (h1 : a < 16) : bt (⟨#[48, 49, 50, 51, 52, 53, 54, 55, 56, 57, 97, 98, 99, 100, 101, 102]⟩ : ByteArray) a = hexD a := by
  have h := List.all_eq_true.1 sixteen_table a.toNat (by simp; omega)
  rw [show ((a.toNat : Nat) : Int) = a by omega] at h
  simpa using h
theorem and15_table : ((List.range 256).all fun a => decide (bits .and .u8 (a : Int) 15 = (a : Int) % 16)) = true := by kernel_rfl
theorem and15_is (a : Int) (h0 : 0 ≤ a) (h1 : a ≤ 255) : bits .and .u8 a 15 = a % 16 := by
  have h := List.all_eq_true.1 and15_table a.toNat (by simp; omega)
  rw [show ((a.toNat : Nat) : Int) = a by omega] at h
  simpa using h
theorem refHex_loop (l : List Int) (hl : Oct l) (hm : l.length ≤ 1048576) : ∀ (d k i : Nat), i + d = l.length → d < k → undercroftref01_Hex.l0 k l (hexI (l.take i)) (i : Int) = some (strOfNums (hexI l)) := by
  intro d
  induction d with
  | zero =>
    intro k i hi hk
    obtain ⟨k, rfl⟩ : ∃ m, k = m + 1 := ⟨k - 1, by omega⟩
    simp only [undercroftref01_Hex.l0]
    rw [if_neg (by omega), List.take_of_length_le (by omega)]
  | succ d ih =>
    intro k i hi hk
    obtain ⟨k, rfl⟩ : ∃ m, k = m + 1 := ⟨k - 1, by omega⟩
    have h3 := ih k (i + 1) (by omega) (by omega)
    have hlt : i < l.length := by omega
    rw [List.take_succ_eq_append_getElem hlt, hexI_snoc] at h3
    obtain ⟨p, q⟩ := hl _ (List.getElem_mem hlt)
    have hx := rd_nat l i hlt
    have hlen : (hexI (l.take i)).length ≤ 2 * 1048576 := by rw [hexI_length, List.length_take]; omega
    generalize hexI (l.take i) = xs at *
    simp only [undercroftref01_Hex.l0]
    rw [hx]
    generalize l[i] = x at *
    have e1 : Int.tdiv x 16 % 256 = x / 16 := by rw [Int.tdiv_eq_ediv_of_nonneg p]; omega
    have e2 : Int.tmod x 16 = x % 16 := by rw [Int.tmod_eq_emod_of_nonneg p]
    rw [and15_is x p q] at h3
    rw [e1, e2, sixteen_is _ (by omega) (by omega), sixteen_is _ (by omega) (by omega)]
    rw [if_pos (by omega), if_pos (by omega), if_pos (by omega), if_pos (by omega), if_pos (by omega), if_pos (by omega)]
    simp only [Option.bind_some]
    rw [if_pos (by simp; omega), w_id (by omega) (by omega)]
    exact h3
theorem refHex_is (l : List Int) (hl : Oct l) (hm : l.length ≤ 1048576) (k : Nat) (hk : l.length < k) : undercroftref01_Hex.f k l = some (strOfNums (hexI l)) := by
  unfold undercroftref01_Hex.f
  exact refHex_loop l hl hm l.length k 0 (by omega) hk

theorem OctetsTextsUpto (a0 : Int) (l1 : List Int) (a2 : ByteArray) (h0 : (Lit.int .i64 a0).wf = true) (h1 : l1.length ≤ 1048576) (hw : ∀ x ∈ l1, (Lit.int .u8 x).wf = true) (h2 : a2.size ≤ 1048576) : ∃ k, undercroftlaw01_OctetsTexts.f k a0 l1 a2 = some true := by
  obtain ⟨p, q⟩ := wf_i64 h0
  have hl := Oct.of_wf hw
  refine ⟨2 * a2.size + l1.length + 100, ?_⟩
  unfold undercroftlaw01_OctetsTexts.f undercroftlaw01_num.f
  rw [copyBytes_is l1 (by omega), refUnhex_is a2 _ (by omega) (by omega), refDecimal_is a0 _ (by omega) p q, refHex_is l1 hl h1 _ (by omega), alive01_is _ (by omega)]
  have e1 : octets_Unhex.f a2 = some (unhexI a2) := by unfold octets_Unhex.f; rw [if_pos (by omega)]
  have e2 : octets_Decimal.f a0 = some (strOfNums (decI a0)) := by unfold octets_Decimal.f; rw [if_pos ⟨p, q⟩]
  have e3 : octets_Hex.f l1 = some (strOfNums (hexI l1)) := by unfold octets_Hex.f; rw [if_pos (by omega)]
  rw [e1, e2]
  simp only [Option.bind_some, if_true]
  rw [e3]
  have hu := unhexI_len a2
  simp only [Option.bind_some, if_true]
  rw [sameBytes_is _ _ _ (by omega) (by omega)]
  simp only [decide_true, Option.bind_some, if_true]
  rw [sameBytes_is _ _ _ (by omega) (by omega)]
  simp
theorem OctetsTexts_walk (a0 : Int) (a1 : Option Addr) (len1 cap1 : Nat) (z1 : List Int) (a2 : ByteArray) (w : World) (w0 : (Lit.int .i64 a0).wf = true) (w1 : (a1 = none ∧ len1 = 0 ∧ cap1 = 0 ∧ z1 = []) ∨ ∃ x, a1 = some x ∧ len1 ≤ cap1 ∧ cap1 ≤ maxLen ∧ z1.length = cap1 ∧ (∀ i, i < z1.length → w.cell? (x.add i) = some (.int .u8 (z1.getD i 0))) ∧ ∀ n ∈ z1, (Lit.int .u8 n).wf = true) (y1 : len1 ≤ 1048576) (w2 : a2.size ≤ 1048576) :
    Calls Try.prog 6 #[.int .i64 a0, .slice a1 len1 cap1, .string a2] w fun e w' => e = .returned (.bool true) ∧ Below w.heap.size w w' := by
  obtain ⟨l1, rfl, hr1, hm1, hw1, hc1⟩ := ReadsInt.ofRowC w1
  obtain ⟨k, h⟩ := OctetsTextsUpto a0 l1 a2 w0 y1 hw1 w2
  refine (undercroftlaw01_OctetsTexts.calls k a0 _ _ l1 a2 true w (Kd.C_of_reads (d := (0 : Int)) (h1 := fun _ => rfl) hr1) hc1 h).mono ?_
  rintro e w' ⟨rfl, hd⟩
  exact ⟨rfl, hd⟩

end Go.Proofs.Ytbdkpmclimfpkaa.Pure
