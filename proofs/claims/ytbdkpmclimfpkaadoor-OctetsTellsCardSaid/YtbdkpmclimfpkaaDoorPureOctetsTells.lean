/- How wide a number is, it as octets, and any octets as a number, are the page's; what is handed in stays: for every number, size and octets within the form's reach. -/
import Derived.Test.YtbdkpmclimfpkaaDoorPOctx
import Derived.Test.YtbdkpmclimfpkaaDoorInOctetsTells
namespace Go.Proofs.YtbdkpmclimfpkaaDoor.Pure
open Go.RowKit Go.Proofs.YtbdkpmclimfpkaaDoor.POct Go.Proofs.YtbdkpmclimfpkaaDoorW.PrintWords Go.Proofs.YtbdkpmclimfpkaaDoorW.PrintLast Go.Proofs.YtbdkpmclimfpkaaDoorW.PrintMore
set_option linter.unusedVariables false
set_option linter.unusedSimpArgs false

theorem w_id {x : Int} (h0 : -9223372036854775808 ≤ x) (h1 : x ≤ 9223372036854775807) : wrap64 x = x := by unfold wrap64; omega
theorem wf_i64 {a : Int} (h : (Lit.int .i64 a).wf = true) : -9223372036854775808 ≤ a ∧ a ≤ 9223372036854775807 := by
  simpa [Lit.wf, IntKind.min, IntKind.max, IntKind.signed, IntKind.bits] using h
theorem wf_u8 {a : Int} (h : (Lit.int .u8 a).wf = true) : 0 ≤ a ∧ a ≤ 255 := by
  simpa [Lit.wf, IntKind.min, IntKind.max, IntKind.signed, IntKind.bits] using h
theorem wf_u32 {a : Int} (h : (Lit.int .u32 a).wf = true) : 0 ≤ a ∧ a ≤ 4294967295 := by
  simpa [Lit.wf, IntKind.min, IntKind.max, IntKind.signed, IntKind.bits] using h
theorem wf_u64 {a : Int} (h : (Lit.int .u64 a).wf = true) : 0 ≤ a ∧ a ≤ 18446744073709551615 := by
  simpa [Lit.wf, IntKind.min, IntKind.max, IntKind.signed, IntKind.bits] using h
/-- All are octets. -/
def Oct (l : List Int) : Prop := ∀ x ∈ l, 0 ≤ x ∧ x ≤ 255
theorem Oct.of_wf {l : List Int} (h : ∀ x ∈ l, (Lit.int .u8 x).wf = true) : Oct l := fun x hx => wf_u8 (h x hx)
theorem Oct.nil : Oct [] := fun _ h => by cases h
theorem Oct.append {a b : List Int} (ha : Oct a) (hb : Oct b) : Oct (a ++ b) := fun x hx => (List.mem_append.1 hx).elim (ha x) (hb x)
theorem Oct.take {a : List Int} (ha : Oct a) (n : Nat) : Oct (a.take n) := fun x hx => ha x (List.mem_of_mem_take hx)
theorem Oct.drop {a : List Int} (ha : Oct a) (n : Nat) : Oct (a.drop n) := fun x hx => ha x (List.mem_of_mem_drop hx)
theorem rd_nat (l : List Int) (k : Nat) (h : k < l.length) : rd l (k : Int) = l[k] := by
  unfold rd
  simp [List.getD_eq_getElem?_getD, h]

theorem sameBytes_loop (a b : List Int) (hl : a.length = b.length) (hm : a.length ≤ 9223372036854775807) : ∀ (d k i : Nat), i + d = a.length → d < k → a.take i = b.take i →
    undercroftplain_SameBytes.l0 k a b (i : Int) = some (decide (a = b)) := by
  intro d
  induction d with
  | zero =>
    intro k i hi hk ht
    obtain ⟨k, rfl⟩ : ∃ m, k = m + 1 := ⟨k - 1, by omega⟩
    simp only [undercroftplain_SameBytes.l0]
    rw [if_neg (by omega)]
    have : a = b := by
      rw [List.take_of_length_le (by omega), List.take_of_length_le (by omega)] at ht
      exact ht
    rw [decide_eq_true this]
  | succ d ih =>
    intro k i hi hk ht
    obtain ⟨k, rfl⟩ : ∃ m, k = m + 1 := ⟨k - 1, by omega⟩
    simp only [undercroftplain_SameBytes.l0]
    rw [if_pos (by omega), if_pos (by omega), if_pos (by omega), rd_nat a i (by omega), rd_nat b i (by omega)]
    by_cases h : a[i]'(by omega) = b[i]'(by omega)
    · rw [if_pos h, w_id (by omega) (by omega)]
      have := ih k (i + 1) (by omega) (by omega) (by
        rw [List.take_succ_eq_append_getElem (by omega), List.take_succ_eq_append_getElem (by omega), ht, h])
      exact_mod_cast this
    · rw [if_neg h]
      have : a ≠ b := by
        rintro rfl
        exact h rfl
      rw [decide_eq_false this]
theorem sameBytes_is (a b : List Int) (k : Nat) (hk : a.length < k) (hm : a.length ≤ 9223372036854775807) : undercroftplain_SameBytes.f k a b = some (decide (a = b)) := by
  unfold undercroftplain_SameBytes.f
  by_cases hl : a.length = b.length
  · rw [if_pos (by omega)]
    exact sameBytes_loop a b hl hm a.length k 0 (by omega) hk rfl
  · rw [if_neg (by omega)]
    have : a ≠ b := by
      rintro rfl
      exact hl rfl
    rw [decide_eq_false this]

theorem copyBytes_is (a : List Int) (h : a.length < 140737488355328) : undercroftplain_CopyBytes.f a = some a := by
  unfold undercroftplain_CopyBytes.f
  rw [if_pos (by simpa using h)]
  simp

theorem alive01_is (k : Nat) (hk : 4 ≤ k) : undercroftlaw01_alive.f k = some true := by
  unfold undercroftlaw01_alive.f undercroftlaw01_num.f
  have h1 : octets_Put.f 258 3 = some ([0, 1, 2], 0) := by kernel_rfl
  have h2 : octets_Unhex.f (⟨#[48, 97, 70]⟩ : ByteArray) = some ([], 8) := by kernel_rfl
  have h3 : octets_Decimal.f (-7) = some (⟨#[45, 55]⟩ : ByteArray) := by kernel_rfl
  rw [h1, h2, h3]
  simp only [Option.bind_some, if_true]
  rw [sameBytes_is [0, 1, 2] [0, 1, 2] k (by simp; omega) (by simp)]
  have h4 : (⟨#[45, 55]⟩ : ByteArray).toList = ([45, 55] : List UInt8) := by decide +kernel
  simp [h4]

theorem w64_tdiv (n : Int) (h0 : 0 ≤ n) (h1 : n ≤ 18446744073709551615) : IntKind.u64.wrap (Int.tdiv n 256) = n / 256 := by
  rw [Int.tdiv_eq_ediv_of_nonneg h0]
  simp [IntKind.wrap, IntKind.bits, IntKind.signed]
  omega
theorem needI_cases (n : Int) : (n < 1 ∧ needI n = 0) ∨ (1 ≤ n ∧ n < 256 ∧ needI n = 1) ∨ (256 ≤ n ∧ n < 65536 ∧ needI n = 2) ∨ (65536 ≤ n ∧ n < 16777216 ∧ needI n = 3) ∨ (16777216 ≤ n ∧ n < 4294967296 ∧ needI n = 4) ∨ (4294967296 ≤ n ∧ n < 1099511627776 ∧ needI n = 5) ∨ (1099511627776 ≤ n ∧ n < 281474976710656 ∧ needI n = 6) ∨ (281474976710656 ≤ n ∧ n < 72057594037927936 ∧ needI n = 7) ∨ (72057594037927936 ≤ n ∧ needI n = 8) := by
  unfold needI
  repeat' split
  all_goals omega
theorem needI_step (n : Int) (h0 : 0 < n) (h1 : n ≤ 18446744073709551615) : needI n = needI (n / 256) + 1 := by
  rcases needI_cases n with h | h | h | h | h | h | h | h | h <;> rcases needI_cases (n / 256) with k | k | k | k | k | k | k | k | k <;> omega
theorem needI_range (n : Int) (h0 : 0 ≤ n) : 0 ≤ needI n ∧ needI n ≤ 8 := by
  unfold needI
  repeat' split
  all_goals omega
theorem needI_zero (n : Int) (h0 : 0 ≤ n) : needI n = 0 → n = 0 := by
  unfold needI
  repeat' split
  all_goals omega
theorem refNeed_loop : ∀ (j : Nat) (k : Nat) (n x : Int), j < k → 0 ≤ n → n ≤ 18446744073709551615 → needI n = (j : Int) → 0 ≤ x → x + j ≤ 100 → undercroftref01_Need.l0 k n x = some (x + j) := by
  intro j
  induction j with
  | zero =>
    intro k n x hk h0 h1 hj hx0 hx1
    obtain ⟨k, rfl⟩ : ∃ m, k = m + 1 := ⟨k - 1, by omega⟩
    simp only [undercroftref01_Need.l0]
    have := needI_zero n h0 (by simpa using hj)
    rw [if_neg (by omega)]
    simp
  | succ j ih =>
    intro k n x hk h0 h1 hj hx0 hx1
    obtain ⟨k, rfl⟩ : ∃ m, k = m + 1 := ⟨k - 1, by omega⟩
    simp only [undercroftref01_Need.l0]
    have hn : 0 < n := by
      rcases Int.lt_or_le 0 n with h | h
      · exact h
      · obtain rfl : n = 0 := by omega
        have e : needI 0 = 0 := by decide
        rw [e] at hj; omega
    have hs := needI_step n hn h1
    have hr := needI_range n h0
    rw [if_pos hn, w64_tdiv n h0 h1, w_id (by omega) (by omega), ih k (n / 256) (x + 1) (by omega) (by omega) (by omega) (by omega) (by omega) (by omega)]
    congr 1
    omega
theorem refNeed_is (n : Int) (k : Nat) (hk : 9 ≤ k) (h0 : 0 ≤ n) (h1 : n ≤ 18446744073709551615) : undercroftref01_Need.f k n = some (needI n) := by
  have hr := needI_range n h0
  have := refNeed_loop (needI n).toNat k n 0 (by omega) h0 h1 (by omega) (by omega) (by omega)
  unfold undercroftref01_Need.f
  rw [this]
  congr 1
  omega
/-- The octets, i of them laid. -/
def octPart (n : Int) (s i : Nat) : List Int := (List.range s).map fun j => if j < s - i then 0 else n / 256 ^ (s - 1 - j) % 256
theorem octPart_zero (n : Int) (s : Nat) : octPart n s 0 = List.replicate s 0 := by
  apply List.ext_getElem
  · simp [octPart]
  · intro i h1 h2
    simp [octPart] at h1 ⊢
    omega
theorem octPart_all (n : Int) (s : Nat) : octPart n s s = octI n s := by
  unfold octPart octI
  refine List.map_congr_left fun j hj => ?_
  rw [if_neg (by omega)]
theorem octPart_set (n : Int) (s i : Nat) (h : i < s) : (octPart n s i).set (s - 1 - i) (n / 256 ^ i % 256) = octPart n s (i + 1) := by
  apply List.ext_getElem
  · simp [octPart]
  · intro j h1 h2
    simp [octPart] at h1
    rw [List.getElem_set]
    by_cases e : s - 1 - i = j
    · subst e
      rw [if_pos rfl]
      simp only [octPart, List.getElem_map, List.getElem_range]
      rw [if_neg (by omega), show s - 1 - (s - 1 - i) = i by omega]
    · rw [if_neg e]
      simp only [octPart, List.getElem_map, List.getElem_range]
      by_cases h3 : j < s - i
      · rw [if_pos h3, if_pos (by omega)]
      · rw [if_neg h3, if_neg (by omega)]
theorem pow_pos_i (i : Nat) : (0 : Int) < 256 ^ i := Int.pow_pos (by decide)
theorem div_step (n : Int) (i : Nat) : n / 256 ^ i / 256 = n / 256 ^ (i + 1) := by
  rw [Int.pow_succ, Int.ediv_ediv_of_nonneg (Int.le_of_lt (pow_pos_i i))]
theorem refOctets_loop (n : Int) (s : Nat) (hs : s ≤ 64) (h0 : 0 ≤ n) (h1 : n ≤ 18446744073709551615) : ∀ (d k i : Nat), i + d = s → d < k → undercroftref01_Octets.l0 k (n / 256 ^ i) (s : Int) (octPart n s i) (i : Int) = some (octI n s) := by
  intro d
  induction d with
  | zero =>
    intro k i hi hk
    obtain ⟨k, rfl⟩ : ∃ m, k = m + 1 := ⟨k - 1, by omega⟩
    simp only [undercroftref01_Octets.l0]
    rw [if_neg (by omega), show i = s by omega, octPart_all]
  | succ d ih =>
    intro k i hi hk
    obtain ⟨k, rfl⟩ : ∃ m, k = m + 1 := ⟨k - 1, by omega⟩
    simp only [undercroftref01_Octets.l0]
    have hq0 : 0 ≤ n / 256 ^ i := Int.ediv_nonneg h0 (Int.le_of_lt (pow_pos_i i))
    have hq1 : n / 256 ^ i ≤ n := Int.ediv_le_self _ h0
    have hl : (octPart n s i).length = s := by simp [octPart]
    have e1 : wrap64 ((s : Int) - 1) = (s : Int) - 1 := w_id (by omega) (by omega)
    have e2 : wrap64 ((s : Int) - 1 - i) = (s : Int) - 1 - i := w_id (by omega) (by omega)
    rw [if_pos (by omega), e1, e2, if_pos (by omega), if_pos (by omega), w64_tdiv _ hq0 (by omega), w_id (by omega) (by omega), div_step]
    have e3 : ((s : Int) - 1 - i).toNat = s - 1 - i := by omega
    have e4 : Int.tmod (n / 256 ^ i) 256 % 256 = n / 256 ^ i % 256 := by
      rw [Int.tmod_eq_emod_of_nonneg hq0]; omega
    rw [e3, e4, octPart_set n s i (by omega)]
    have h3 := ih k (i + 1) (by omega) (by omega)
    rw [show ((i + 1 : Nat) : Int) = (i : Int) + 1 from rfl] at h3
    exact h3
theorem refOctets_is (n s : Int) (k : Nat) (hk : 65 ≤ k) (hs0 : 0 ≤ s) (hs : s ≤ 64) (h0 : 0 ≤ n) (h1 : n ≤ 18446744073709551615) : undercroftref01_Octets.f k n s = some (octI n s.toNat) := by
  unfold undercroftref01_Octets.f
  rw [if_pos hs0, if_pos (by omega), ← octPart_zero n]
  have := refOctets_loop n s.toNat (by omega) h0 h1 s.toNat k 0 (by omega) (by omega)
  rw [show ((s.toNat : Nat) : Int) = s by omega] at this
  have e : n / 256 ^ 0 = n := by rw [Int.pow_zero, Int.ediv_one]
  rw [e] at this
  exact this
theorem refPut_is (n s : Int) (k : Nat) (hk : 66 ≤ k) (h0 : 0 ≤ n) (h1 : n ≤ 18446744073709551615) : undercroftref01_Put.f k n s = octets_Put.f n s := by
  obtain ⟨k, rfl⟩ : ∃ m, k = m + 1 := ⟨k - 1, by omega⟩
  unfold undercroftref01_Put.f octets_Put.f
  rw [if_pos (show 0 ≤ n ∧ n ≤ 18446744073709551615 from ⟨h0, h1⟩)]
  simp only [undercroftref01_Put.j0]
  by_cases a : s < 0
  · simp [a]
  · rw [if_neg a]
    by_cases b : s > 64
    · rw [if_pos (by simpa using b), if_pos (by omega)]
    · rw [if_neg (by simpa using b), if_neg (by omega), refNeed_is n k (by omega) h0 h1]
      simp only [Option.bind_some]
      by_cases c : s < needI n
      · rw [if_pos c, if_pos c]
      · rw [if_neg c, if_neg c, refOctets_is n s k (by omega) (by omega) (by omega) h0 h1]
        rfl

theorem tz_split : ∀ (l : List Int), ∃ z, l = List.replicate z 0 ++ tz l
  | [] => ⟨0, rfl⟩
  | x :: r => by
    obtain ⟨z, hz⟩ := tz_split r
    unfold tz
    split
    · rename_i h
      refine ⟨z + 1, ?_⟩
      rw [List.replicate_succ, List.cons_append, ← hz, h]
    · exact ⟨0, by simp⟩
theorem numI_rep : ∀ (z : Nat) (l : List Int), numI (List.replicate z 0 ++ l) = numI l
  | 0, l => by simp
  | z + 1, l => by
    rw [List.replicate_succ, List.cons_append]
    show (List.replicate z 0 ++ l).foldl (fun n x => n * 256 + x) (0 * 256 + 0) = _
    exact numI_rep z l
theorem octs_of' {l : List Int} (h : Oct l) : octs l = true := List.all_eq_true.2 (fun x hx => by have := h x hx; simp; omega)
theorem num_take (l : List Int) (h : Oct l) (h8 : (tz l).length ≤ 8) (i : Nat) (hi : i < l.length) : 0 ≤ numI (l.take i) ∧ numI (l.take i) < 72057594037927936 := by
  obtain ⟨z, hz⟩ := tz_split l
  have hlen : l.length = z + (tz l).length := by conv => lhs; rw [hz]
                                                 simp
  by_cases hiz : i ≤ z
  · have e : l.take i = List.replicate i 0 ++ [] := by
      rw [hz, List.take_append_of_le_length (by simpa using hiz), List.take_replicate, Nat.min_eq_left hiz, List.append_nil]
    rw [e, numI_rep]
    exact ⟨by decide, by decide⟩
  · have e : l.take i = List.replicate z 0 ++ (tz l).take (i - z) := by
      conv => lhs; rw [hz]
      rw [List.take_append, List.take_of_length_le (by simp; omega), List.length_replicate]
    rw [e, numI_rep]
    have hl : ((tz l).take (i - z)).length = i - z := by rw [List.length_take]; omega
    have ho : octs ((tz l).take (i - z)) = true := List.all_eq_true.2 (fun x hx => List.all_eq_true.1 (octs_tz (octs_of' h)) x (List.mem_of_mem_take hx))
    have hb := numI_bound (i - z) _ hl ho
    exact ⟨hb.1, Int.lt_of_lt_of_le hb.2 (pow7 (by omega))⟩

theorem wu64_id {x : Int} (h0 : 0 ≤ x) (h1 : x ≤ 18446744073709551615) : IntKind.u64.wrap x = x := by
  simp [IntKind.wrap, IntKind.bits, IntKind.signed]
  omega
theorem need_any (n : Int) (k : Nat) (hk : 9 ≤ k) (h0 : 0 ≤ n) (h1 : n ≤ 18446744073709551615) : octets_Need.f k n = some (needI n) := at_rounds (g := fun k => octets_Need.f k n) (fun k => octets_Need.mono n k) hk (need_is n h0 h1)
theorem octs_of {l : List Int} (h : Oct l) : octs l = true := List.all_eq_true.2 (fun x hx => by have := h x hx; simp; omega)
theorem get_is (l : List Int) (h : Oct l) (hl : l.length ≤ 140737488351232) : octets_Get.f l = some (if (tz l).length ≤ 8 then (numI (tz l), 0) else (0, 107)) := by
  unfold octets_Get.f
  rw [if_pos ⟨octs_of h, hl⟩]
  split <;> rfl
theorem numI_zeros : ∀ (l : List Int), numI (tz l) = numI l
  | [] => rfl
  | x :: r => by
    unfold tz
    split
    · rename_i h
      rw [numI_zeros r, h]; rfl
    · rfl
/-- The reference's number, modulo what its kind holds; exact where the octets but the zeros ahead are eight at most. -/
theorem refNumber_loop (l : List Int) (h : Oct l) (hl : l.length ≤ 140737488351232) (h8 : (tz l).length ≤ 8) : ∀ (d k i : Nat), i + d = l.length → d < k → undercroftref01_Number.l0 k l (numI (l.take i)) (i : Int) = some (numI l) := by
  intro d
  induction d with
  | zero =>
    intro k i hi hk
    obtain ⟨k, rfl⟩ : ∃ m, k = m + 1 := ⟨k - 1, by omega⟩
    simp only [undercroftref01_Number.l0]
    rw [if_neg (by omega), List.take_of_length_le (by omega)]
  | succ d ih =>
    intro k i hi hk
    obtain ⟨k, rfl⟩ : ∃ m, k = m + 1 := ⟨k - 1, by omega⟩
    have hlt : i < l.length := by omega
    have hx := h l[i] (List.getElem_mem hlt)
    have hn : numI (l.take (i + 1)) = numI (l.take i) * 256 + l[i] := by rw [List.take_succ_eq_append_getElem hlt, numI_snoc]
    have hb : 0 ≤ numI (l.take i) ∧ numI (l.take i) < 72057594037927936 := num_take l h h8 i hlt
    simp only [undercroftref01_Number.l0]
    rw [if_pos (by omega), if_pos (by omega), rd_nat l i hlt]
    have e : IntKind.u64.wrap ((IntKind.u64.wrap (256 * numI (l.take i))) + (IntKind.u64.wrap l[i])) = numI (l.take (i + 1)) := by
      rw [hn, wu64_id (x := 256 * numI (l.take i)) (by omega) (by omega), wu64_id (x := l[i]) (by omega) (by omega), wu64_id (by omega) (by omega)]
      omega
    rw [e, w_id (by omega) (by omega)]
    exact ih k (i + 1) (by omega) (by omega)
theorem refNumber_is (l : List Int) (h : Oct l) (hl : l.length ≤ 140737488351232) (h8 : (tz l).length ≤ 8) (k : Nat) (hk : l.length < k) : undercroftref01_Number.f k l = some (numI l) := refNumber_loop l h hl h8 l.length k 0 (by omega) (by omega)
theorem refGet_loop (l : List Int) (h : Oct l) (hl : l.length ≤ 140737488351232) : ∀ (d k i : Nat), i + d = l.length → d + l.length + 2 ≤ k → tz l = tz (l.drop i) → undercroftref01_Get.l0 k l (i : Int) = some (if (tz l).length ≤ 8 then (numI (tz l), 0) else (0, 107)) := by
  intro d
  induction d with
  | zero =>
    intro k i hi hk ht
    obtain ⟨k, rfl⟩ : ∃ m, k = m + 1 := ⟨k - 1, by omega⟩
    have e : tz l = [] := by rw [ht, List.drop_eq_nil_of_le (by omega)]; rfl
    simp only [undercroftref01_Get.l0]
    rw [if_neg (by omega), w_id (by omega) (by omega), if_neg (by omega), refNumber_is l h hl (by rw [e]; decide) k (by omega)]
    simp only [Option.bind_some]
    rw [if_pos (by rw [e]; decide), numI_zeros]
  | succ d ih =>
    intro k i hi hk ht
    obtain ⟨k, rfl⟩ : ∃ m, k = m + 1 := ⟨k - 1, by omega⟩
    have hlt : i < l.length := by omega
    have hd : l.drop i = l[i] :: l.drop (i + 1) := List.drop_eq_getElem_cons hlt
    simp only [undercroftref01_Get.l0]
    rw [if_pos (by omega), if_pos (by omega), rd_nat l i hlt]
    by_cases h0 : l[i] = 0
    · rw [if_pos h0, w_id (by omega) (by omega)]
      refine ih k (i + 1) (by omega) (by omega) ?_
      rw [ht, hd]
      conv => lhs; unfold tz
      rw [if_pos h0]
    · have e : tz l = l.drop i := by
        rw [ht, hd]
        conv => lhs; unfold tz
        rw [if_neg h0]
      have hlen : (tz l).length = l.length - i := by rw [e, List.length_drop]
      rw [if_neg h0, w_id (by omega) (by omega)]
      by_cases h8 : (tz l).length ≤ 8
      · rw [if_neg (by omega), refNumber_is l h hl h8 k (by omega)]
        simp only [Option.bind_some]
        rw [if_pos h8, numI_zeros]
      · rw [if_pos (by omega), if_neg h8]
theorem refGet_is (l : List Int) (h : Oct l) (hl : l.length ≤ 140737488351232) (k : Nat) (hk : 2 * l.length + 2 ≤ k) : undercroftref01_Get.f k l = some (if (tz l).length ≤ 8 then (numI (tz l), 0) else (0, 107)) := refGet_loop l h hl l.length k 0 (by omega) (by omega) rfl

theorem OctetsTells (l0 : Int) (l1 : Int) (l2 : List Int) (h0 : (Lit.int .u64 l0).wf = true) (h1 : (Lit.int .i64 l1).wf = true) (h2 : (l2.length * 1 ≤ 140737488351232 ∧ l2.length ≤ maxLen ∧ ∀ y23 ∈ l2, (Lit.int .u8 y23).wf = true)) : ∃ k, undercroftlaw01_OctetsTells.f k l0 l1 l2 = some true := by
  obtain ⟨b0, b1⟩ := wf_u64 h0
  obtain ⟨h2a, h2b, h2c⟩ := h2
  have ho : Oct l2 := Oct.of_wf h2c
  have hl : l2.length ≤ 140737488351232 := by omega
  refine ⟨2 * l2.length + 200, ?_⟩
  unfold undercroftlaw01_OctetsTells.f
  rw [copyBytes_is l2 (by omega)]
  simp only [Option.bind_some]
  rw [refPut_is l0 l1 _ (by omega) b0 b1, get_is l2 ho hl, refGet_is l2 ho hl _ (by omega), need_any l0 _ (by omega) b0 b1, refNeed_is l0 _ (by omega) b0 b1]
  obtain ⟨p, hp, hpl⟩ : ∃ p, octets_Put.f l0 l1 = some p ∧ p.1.length ≤ 64 := by
    unfold octets_Put.f
    rw [if_pos ⟨b0, b1⟩]
    split
    · exact ⟨_, rfl, by simp⟩
    · split
      · exact ⟨_, rfl, by simp⟩
      · exact ⟨_, rfl, by simp [octI]; omega⟩
  rw [hp]
  simp only [Option.bind_some, if_true, undercroftlaw01_num.f]
  rw [sameBytes_is _ _ _ (by omega) (by omega)]
  simp only [decide_true, Option.bind_some, if_true]
  rw [sameBytes_is _ _ _ (by omega) (by omega)]
  simp only [decide_true, Option.bind_some, if_true]
  rw [alive01_is _ (by omega)]
  rfl

end Go.Proofs.YtbdkpmclimfpkaaDoor.Pure
