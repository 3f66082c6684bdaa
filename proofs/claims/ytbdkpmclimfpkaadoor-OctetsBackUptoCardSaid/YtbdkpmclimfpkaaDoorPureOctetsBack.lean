/- A number comes back from its octets, however wide; octets from their digits, small or capital: for every number and width, and octets of bulk at most 1048576. -/
import Derived.Test.YtbdkpmclimfpkaaDoorPOctx
import Derived.Test.YtbdkpmclimfpkaaDoorInOctetsBack
namespace Go.Proofs.YtbdkpmclimfpkaaDoor.Pure
open Go.RowKit Go.Proofs.YtbdkpmclimfpkaaDoor.POct Go.Proofs.YtbdkpmclimfpkaaDoorW.PrintWords Go.Proofs.YtbdkpmclimfpkaaDoorW.PrintLast Go.Proofs.YtbdkpmclimfpkaaDoorW.PrintMore
set_option linter.unusedVariables false
set_option linter.unusedSimpArgs false

theorem w_id {x : Int} (h0 : -9223372036854775808 ≤ x) (h1 : x ≤ 9223372036854775807) : wrap64 x = x := by unfold wrap64; omega
theorem wf_i64 {a : Int} (h : (Lit.int .i64 a).wf = true) : -9223372036854775808 ≤ a ∧ a ≤ 9223372036854775807 := by
  simpa [Lit.wf, IntKind.min, IntKind.max, IntKind.signed, IntKind.bits] using h
theorem wf_u8 {a : Int} (h : (Lit.int .u8 a).wf = true) : 0 ≤ a ∧ a ≤ 255 := by
  simpa [Lit.wf, IntKind.min, IntKind.max, IntKind.signed, IntKind.bits] using h
theorem wf_u32 {a : Int} (h : (Lit.int .u32 a).wf = true) : 0 ≤ a ∧ a ≤ 4294967295 := by
  simpa [Lit.wf, IntKind.min, IntKind.max, IntKind.signed, IntKind.bits] using h
theorem wf_u64 {a : Int} (h : (Lit.int .u64 a).wf = true) : 0 ≤ a ∧ a ≤ 18446744073709551615 := by
  simpa [Lit.wf, IntKind.min, IntKind.max, IntKind.signed, IntKind.bits] using h
/-- All are octets. -/
def Oct (l : List Int) : Prop := ∀ x ∈ l, 0 ≤ x ∧ x ≤ 255
theorem Oct.of_wf {l : List Int} (h : ∀ x ∈ l, (Lit.int .u8 x).wf = true) : Oct l := fun x hx => wf_u8 (h x hx)
theorem Oct.nil : Oct [] := fun _ h => by cases h
theorem Oct.append {a b : List Int} (ha : Oct a) (hb : Oct b) : Oct (a ++ b) := fun x hx => (List.mem_append.1 hx).elim (ha x) (hb x)
theorem Oct.take {a : List Int} (ha : Oct a) (n : Nat) : Oct (a.take n) := fun x hx => ha x (List.mem_of_mem_take hx)
theorem Oct.drop {a : List Int} (ha : Oct a) (n : Nat) : Oct (a.drop n) := fun x hx => ha x (List.mem_of_mem_drop hx)
theorem rd_nat (l : List Int) (k : Nat) (h : k < l.length) : rd l (k : Int) = l[k] := by
  unfold rd
  simp [List.getD_eq_getElem?_getD, h]

theorem sameBytes_loop (a b : List Int) (hl : a.length = b.length) (hm : a.length ≤ 9223372036854775807) : ∀ (d k i : Nat), i + d = a.length → d < k → a.take i = b.take i →
    undercroftplain_SameBytes.l0 k a b (i : Int) = some (decide (a = b)) := by
  intro d
  induction d with
  | zero =>
    intro k i hi hk ht
    obtain ⟨k, rfl⟩ : ∃ m, k = m + 1 := ⟨k - 1, by omega⟩
    simp only [undercroftplain_SameBytes.l0]
    rw [if_neg (by omega)]
    have : a = b := by
      rw [List.take_of_length_le (by omega), List.take_of_length_le (by omega)] at ht
      exact ht
    rw [decide_eq_true this]
  | succ d ih =>
    intro k i hi hk ht
    obtain ⟨k, rfl⟩ : ∃ m, k = m + 1 := ⟨k - 1, by omega⟩
    simp only [undercroftplain_SameBytes.l0]
    rw [if_pos (by omega), if_pos (by omega), if_pos (by omega), rd_nat a i (by omega), rd_nat b i (by omega)]
    by_cases h : a[i]'(by omega) = b[i]'(by omega)
    · rw [if_pos h, w_id (by omega) (by omega)]
      have := ih k (i + 1) (by omega) (by omega) (by
        rw [List.take_succ_eq_append_getElem (by omega), List.take_succ_eq_append_getElem (by omega), ht, h])
      exact_mod_cast this
    · rw [if_neg h]
      have : a ≠ b := by
        rintro rfl
        exact h rfl
      rw [decide_eq_false this]
theorem sameBytes_is (a b : List Int) (k : Nat) (hk : a.length < k) (hm : a.length ≤ 9223372036854775807) : undercroftplain_SameBytes.f k a b = some (decide (a = b)) := by
  unfold undercroftplain_SameBytes.f
  by_cases hl : a.length = b.length
  · rw [if_pos (by omega)]
    exact sameBytes_loop a b hl hm a.length k 0 (by omega) hk rfl
  · rw [if_neg (by omega)]
    have : a ≠ b := by
      rintro rfl
      exact hl rfl
    rw [decide_eq_false this]

theorem copyBytes_is (a : List Int) (h : a.length < 140737488355328) : undercroftplain_CopyBytes.f a = some a := by
  unfold undercroftplain_CopyBytes.f
  rw [if_pos (by simpa using h)]
  simp

theorem alive01_is (k : Nat) (hk : 4 ≤ k) : undercroftlaw01_alive.f k = some true := by
  unfold undercroftlaw01_alive.f undercroftlaw01_num.f
  have h1 : octets_Put.f 258 3 = some ([0, 1, 2], 0) := by kernel_rfl
  have h2 : octets_Unhex.f (⟨#[48, 97, 70]⟩ : ByteArray) = some ([], 8) := by kernel_rfl
  have h3 : octets_Decimal.f (-7) = some (⟨#[45, 55]⟩ : ByteArray) := by kernel_rfl
  rw [h1, h2, h3]
  simp only [Option.bind_some, if_true]
  rw [sameBytes_is [0, 1, 2] [0, 1, 2] k (by simp; omega) (by simp)]
  have h4 : (⟨#[45, 55]⟩ : ByteArray).toList = ([45, 55] : List UInt8) := by decide +kernel
  simp [h4]

theorem w64_tdiv (n : Int) (h0 : 0 ≤ n) (h1 : n ≤ 18446744073709551615) : IntKind.u64.wrap (Int.tdiv n 256) = n / 256 := by
  rw [Int.tdiv_eq_ediv_of_nonneg h0]
  simp [IntKind.wrap, IntKind.bits, IntKind.signed]
  omega
theorem needI_cases (n : Int) : (n < 1 ∧ needI n = 0) ∨ (1 ≤ n ∧ n < 256 ∧ needI n = 1) ∨ (256 ≤ n ∧ n < 65536 ∧ needI n = 2) ∨ (65536 ≤ n ∧ n < 16777216 ∧ needI n = 3) ∨ (16777216 ≤ n ∧ n < 4294967296 ∧ needI n = 4) ∨ (4294967296 ≤ n ∧ n < 1099511627776 ∧ needI n = 5) ∨ (1099511627776 ≤ n ∧ n < 281474976710656 ∧ needI n = 6) ∨ (281474976710656 ≤ n ∧ n < 72057594037927936 ∧ needI n = 7) ∨ (72057594037927936 ≤ n ∧ needI n = 8) := by
  unfold needI
  repeat' split
  all_goals omega
theorem needI_step (n : Int) (h0 : 0 < n) (h1 : n ≤ 18446744073709551615) : needI n = needI (n / 256) + 1 := by
  rcases needI_cases n with h | h | h | h | h | h | h | h | h <;> rcases needI_cases (n / 256) with k | k | k | k | k | k | k | k | k <;> omega
theorem needI_range (n : Int) (h0 : 0 ≤ n) : 0 ≤ needI n ∧ needI n ≤ 8 := by
  unfold needI
  repeat' split
  all_goals omega
theorem needI_zero (n : Int) (h0 : 0 ≤ n) : needI n = 0 → n = 0 := by
  unfold needI
  repeat' split
  all_goals omega
theorem refNeed_loop : ∀ (j : Nat) (k : Nat) (n x : Int), j < k → 0 ≤ n → n ≤ 18446744073709551615 → needI n = (j : Int) → 0 ≤ x → x + j ≤ 100 → undercroftref01_Need.l0 k n x = some (x + j) := by
  intro j
  induction j with
  | zero =>
    intro k n x hk h0 h1 hj hx0 hx1
    obtain ⟨k, rfl⟩ : ∃ m, k = m + 1 := ⟨k - 1, by omega⟩
    simp only [undercroftref01_Need.l0]
    have := needI_zero n h0 (by simpa using hj)
    rw [if_neg (by omega)]
    simp
  | succ j ih =>
    intro k n x hk h0 h1 hj hx0 hx1
    obtain ⟨k, rfl⟩ : ∃ m, k = m + 1 := ⟨k - 1, by omega⟩
    simp only [undercroftref01_Need.l0]
    have hn : 0 < n := by
      rcases Int.lt_or_le 0 n with h | h
      · exact h
      · obtain rfl : n = 0 := by omega
        have e : needI 0 = 0 := by decide
        rw [e] at hj; omega
    have hs := needI_step n hn h1
    have hr := needI_range n h0
    rw [if_pos hn, w64_tdiv n h0 h1, w_id (by omega) (by omega), ih k (n / 256) (x + 1) (by omega) (by omega) (by omega) (by omega) (by omega) (by omega)]
    congr 1
    omega
theorem refNeed_is (n : Int) (k : Nat) (hk : 9 ≤ k) (h0 : 0 ≤ n) (h1 : n ≤ 18446744073709551615) : undercroftref01_Need.f k n = some (needI n) := by
  have hr := needI_range n h0
  have := refNeed_loop (needI n).toNat k n 0 (by omega) h0 h1 (by omega) (by omega) (by omega)
  unfold undercroftref01_Need.f
  rw [this]
  congr 1
  omega
/-- The octets, i of them laid. -/
def octPart (n : Int) (s i : Nat) : List Int := (List.range s).map fun j => if j < s - i then 0 else n / 256 ^ (s - 1 - j) % 256
theorem octPart_zero (n : Int) (s : Nat) : octPart n s 0 = List.replicate s 0 := by
  apply List.ext_getElem
  · simp [octPart]
  · intro i h1 h2
    simp [octPart] at h1 ⊢
    omega
theorem octPart_all (n : Int) (s : Nat) : octPart n s s = octI n s := by
  unfold octPart octI
  refine List.map_congr_left fun j hj => ?_
  rw [if_neg (by omega)]
theorem octPart_set (n : Int) (s i : Nat) (h : i < s) : (octPart n s i).set (s - 1 - i) (n / 256 ^ i % 256) = octPart n s (i + 1) := by
  apply List.ext_getElem
  · simp [octPart]
  · intro j h1 h2
    simp [octPart] at h1
    rw [List.getElem_set]
    by_cases e : s - 1 - i = j
    · subst e
      rw [if_pos rfl]
      simp only [octPart, List.getElem_map, List.getElem_range]
      rw [if_neg (by omega), show s - 1 - (s - 1 - i) = i by omega]
    · rw [if_neg e]
      simp only [octPart, List.getElem_map, List.getElem_range]
      by_cases h3 : j < s - i
      · rw [if_pos h3, if_pos (by omega)]
      · rw [if_neg h3, if_neg (by omega)]
theorem pow_pos_i (i : Nat) : (0 : Int) < 256 ^ i := Int.pow_pos (by decide)
theorem div_step (n : Int) (i : Nat) : n / 256 ^ i / 256 = n / 256 ^ (i + 1) := by
  rw [Int.pow_succ, Int.ediv_ediv_of_nonneg (Int.le_of_lt (pow_pos_i i))]
theorem refOctets_loop (n : Int) (s : Nat) (hs : s ≤ 64) (h0 : 0 ≤ n) (h1 : n ≤ 18446744073709551615) : ∀ (d k i : Nat), i + d = s → d < k → undercroftref01_Octets.l0 k (n / 256 ^ i) (s : Int) (octPart n s i) (i : Int) = some (octI n s) := by
  intro d
  induction d with
  | zero =>
    intro k i hi hk
    obtain ⟨k, rfl⟩ : ∃ m, k = m + 1 := ⟨k - 1, by omega⟩
    simp only [undercroftref01_Octets.l0]
    rw [if_neg (by omega), show i = s by omega, octPart_all]
  | succ d ih =>
    intro k i hi hk
    obtain ⟨k, rfl⟩ : ∃ m, k = m + 1 := ⟨k - 1, by omega⟩
    simp only [undercroftref01_Octets.l0]
    have hq0 : 0 ≤ n / 256 ^ i := Int.ediv_nonneg h0 (Int.le_of_lt (pow_pos_i i))
    have hq1 : n / 256 ^ i ≤ n := Int.ediv_le_self _ h0
    have hl : (octPart n s i).length = s := by simp [octPart]
    have e1 : wrap64 ((s : Int) - 1) = (s : Int) - 1 := w_id (by omega) (by omega)
    have e2 : wrap64 ((s : Int) - 1 - i) = (s : Int) - 1 - i := w_id (by omega) (by omega)
    rw [if_pos (by omega), e1, e2, if_pos (by omega), if_pos (by omega), w64_tdiv _ hq0 (by omega), w_id (by omega) (by omega), div_step]
    have e3 : ((s : Int) - 1 - i).toNat = s - 1 - i := by omega
    have e4 : Int.tmod (n / 256 ^ i) 256 % 256 = n / 256 ^ i % 256 := by
      rw [Int.tmod_eq_emod_of_nonneg hq0]; omega
    rw [e3, e4, octPart_set n s i (by omega)]
    have h3 := ih k (i + 1) (by omega) (by omega)
    rw [show ((i + 1 : Nat) : Int) = (i : Int) + 1 from rfl] at h3
    exact h3
theorem refOctets_is (n s : Int) (k : Nat) (hk : 65 ≤ k) (hs0 : 0 ≤ s) (hs : s ≤ 64) (h0 : 0 ≤ n) (h1 : n ≤ 18446744073709551615) : undercroftref01_Octets.f k n s = some (octI n s.toNat) := by
  unfold undercroftref01_Octets.f
  rw [if_pos hs0, if_pos (by omega), ← octPart_zero n]
  have := refOctets_loop n s.toNat (by omega) h0 h1 s.toNat k 0 (by omega) (by omega)
  rw [show ((s.toNat : Nat) : Int) = s by omega] at this
  have e : n / 256 ^ 0 = n := by rw [Int.pow_zero, Int.ediv_one]
  rw [e] at this
  exact this
theorem refPut_is (n s : Int) (k : Nat) (hk : 66 ≤ k) (h0 : 0 ≤ n) (h1 : n ≤ 18446744073709551615) : undercroftref01_Put.f k n s = octets_Put.f n s := by
  obtain ⟨k, rfl⟩ : ∃ m, k = m + 1 := ⟨k - 1, by omega⟩
  unfold undercroftref01_Put.f octets_Put.f
  rw [if_pos (show 0 ≤ n ∧ n ≤ 18446744073709551615 from ⟨h0, h1⟩)]
  simp only [undercroftref01_Put.j0]
  by_cases a : s < 0
  · simp [a]
  · rw [if_neg a]
    by_cases b : s > 64
    · rw [if_pos (by simpa using b), if_pos (by omega)]
    · rw [if_neg (by simpa using b), if_neg (by omega), refNeed_is n k (by omega) h0 h1]
      simp only [Option.bind_some]
      by_cases c : s < needI n
      · rw [if_pos c, if_pos c]
      · rw [if_neg c, if_neg c, refOctets_is n s k (by omega) (by omega) (by omega) h0 h1]
        rfl

theorem tz_split : ∀ (l : List Int), ∃ z, l = List.replicate z 0 ++ tz l
  | [] => ⟨0, rfl⟩
  | x :: r => by
    obtain ⟨z, hz⟩ := tz_split r
    unfold tz
    split
    · rename_i h
      refine ⟨z + 1, ?_⟩
      rw [List.replicate_succ, List.cons_append, ← hz, h]
    · exact ⟨0, by simp⟩
theorem numI_rep : ∀ (z : Nat) (l : List Int), numI (List.replicate z 0 ++ l) = numI l
  | 0, l => by simp
  | z + 1, l => by
    rw [List.replicate_succ, List.cons_append]
    show (List.replicate z 0 ++ l).foldl (fun n x => n * 256 + x) (0 * 256 + 0) = _
    exact numI_rep z l
theorem octs_of' {l : List Int} (h : Oct l) : octs l = true := List.all_eq_true.2 (fun x hx => by have := h x hx; simp; omega)
theorem num_take (l : List Int) (h : Oct l) (h8 : (tz l).length ≤ 8) (i : Nat) (hi : i < l.length) : 0 ≤ numI (l.take i) ∧ numI (l.take i) < 72057594037927936 := by
  obtain ⟨z, hz⟩ := tz_split l
  have hlen : l.length = z + (tz l).length := by conv => lhs; rw [hz]
                                                 simp
  by_cases hiz : i ≤ z
  · have e : l.take i = List.replicate i 0 ++ [] := by
      rw [hz, List.take_append_of_le_length (by simpa using hiz), List.take_replicate, Nat.min_eq_left hiz, List.append_nil]
    rw [e, numI_rep]
    exact ⟨by decide, by decide⟩
  · have e : l.take i = List.replicate z 0 ++ (tz l).take (i - z) := by
      conv => lhs; rw [hz]
      rw [List.take_append, List.take_of_length_le (by simp; omega), List.length_replicate]
    rw [e, numI_rep]
    have hl : ((tz l).take (i - z)).length = i - z := by rw [List.length_take]; omega
    have ho : octs ((tz l).take (i - z)) = true := List.all_eq_true.2 (fun x hx => List.all_eq_true.1 (octs_tz (octs_of' h)) x (List.mem_of_mem_take hx))
    have hb := numI_bound (i - z) _ hl ho
    exact ⟨hb.1, Int.lt_of_lt_of_le hb.2 (pow7 (by omega))⟩

theorem wu64_id {x : Int} (h0 : 0 ≤ x) (h1 : x ≤ 18446744073709551615) : IntKind.u64.wrap x = x := by
  simp [IntKind.wrap, IntKind.bits, IntKind.signed]
  omega
theorem need_any (n : Int) (k : Nat) (hk : 9 ≤ k) (h0 : 0 ≤ n) (h1 : n ≤ 18446744073709551615) : octets_Need.f k n = some (needI n) := at_rounds (g := fun k => octets_Need.f k n) (fun k => octets_Need.mono n k) hk (need_is n h0 h1)
theorem octs_of {l : List Int} (h : Oct l) : octs l = true := List.all_eq_true.2 (fun x hx => by have := h x hx; simp; omega)
theorem get_is (l : List Int) (h : Oct l) (hl : l.length ≤ 140737488351232) : octets_Get.f l = some (if (tz l).length ≤ 8 then (numI (tz l), 0) else (0, 107)) := by
  unfold octets_Get.f
  rw [if_pos ⟨octs_of h, hl⟩]
  split <;> rfl
theorem numI_zeros : ∀ (l : List Int), numI (tz l) = numI l
  | [] => rfl
  | x :: r => by
    unfold tz
    split
    · rename_i h
      rw [numI_zeros r, h]; rfl
    · rfl
/-- The reference's number, modulo what its kind holds; exact where the octets but the zeros ahead are eight at most. -/
theorem refNumber_loop (l : List Int) (h : Oct l) (hl : l.length ≤ 140737488351232) (h8 : (tz l).length ≤ 8) : ∀ (d k i : Nat), i + d = l.length → d < k → undercroftref01_Number.l0 k l (numI (l.take i)) (i : Int) = some (numI l) := by
  intro d
  induction d with
  | zero =>
    intro k i hi hk
    obtain ⟨k, rfl⟩ : ∃ m, k = m + 1 := ⟨k - 1, by omega⟩
    simp only [undercroftref01_Number.l0]
    rw [if_neg (by omega), List.take_of_length_le (by omega)]
  | succ d ih =>
    intro k i hi hk
    obtain ⟨k, rfl⟩ : ∃ m, k = m + 1 := ⟨k - 1, by omega⟩
    have hlt : i < l.length := by omega
    have hx := h l[i] (List.getElem_mem hlt)
    have hn : numI (l.take (i + 1)) = numI (l.take i) * 256 + l[i] := by rw [List.take_succ_eq_append_getElem hlt, numI_snoc]
    have hb : 0 ≤ numI (l.take i) ∧ numI (l.take i) < 72057594037927936 := num_take l h h8 i hlt
    simp only [undercroftref01_Number.l0]
    rw [if_pos (by omega), if_pos (by omega), rd_nat l i hlt]
    have e : IntKind.u64.wrap ((IntKind.u64.wrap (256 * numI (l.take i))) + (IntKind.u64.wrap l[i])) = numI (l.take (i + 1)) := by
      rw [hn, wu64_id (x := 256 * numI (l.take i)) (by omega) (by omega), wu64_id (x := l[i]) (by omega) (by omega), wu64_id (by omega) (by omega)]
      omega
    rw [e, w_id (by omega) (by omega)]
    exact ih k (i + 1) (by omega) (by omega)
theorem refNumber_is (l : List Int) (h : Oct l) (hl : l.length ≤ 140737488351232) (h8 : (tz l).length ≤ 8) (k : Nat) (hk : l.length < k) : undercroftref01_Number.f k l = some (numI l) := refNumber_loop l h hl h8 l.length k 0 (by omega) (by omega)
theorem refGet_loop (l : List Int) (h : Oct l) (hl : l.length ≤ 140737488351232) : ∀ (d k i : Nat), i + d = l.length → d + l.length + 2 ≤ k → tz l = tz (l.drop i) → undercroftref01_Get.l0 k l (i : Int) = some (if (tz l).length ≤ 8 then (numI (tz l), 0) else (0, 107)) := by
  intro d
  induction d with
  | zero =>
    intro k i hi hk ht
    obtain ⟨k, rfl⟩ : ∃ m, k = m + 1 := ⟨k - 1, by omega⟩
    have e : tz l = [] := by rw [ht, List.drop_eq_nil_of_le (by omega)]; rfl
    simp only [undercroftref01_Get.l0]
    rw [if_neg (by omega), w_id (by omega) (by omega), if_neg (by omega), refNumber_is l h hl (by rw [e]; decide) k (by omega)]
    simp only [Option.bind_some]
    rw [if_pos (by rw [e]; decide), numI_zeros]
  | succ d ih =>
    intro k i hi hk ht
    obtain ⟨k, rfl⟩ : ∃ m, k = m + 1 := ⟨k - 1, by omega⟩
    have hlt : i < l.length := by omega
    have hd : l.drop i = l[i] :: l.drop (i + 1) := List.drop_eq_getElem_cons hlt
    simp only [undercroftref01_Get.l0]
    rw [if_pos (by omega), if_pos (by omega), rd_nat l i hlt]
    by_cases h0 : l[i] = 0
    · rw [if_pos h0, w_id (by omega) (by omega)]
      refine ih k (i + 1) (by omega) (by omega) ?_
      rw [ht, hd]
      conv => lhs; unfold tz
      rw [if_pos h0]
    · have e : tz l = l.drop i := by
        rw [ht, hd]
        conv => lhs; unfold tz
        rw [if_neg h0]
      have hlen : (tz l).length = l.length - i := by rw [e, List.length_drop]
      rw [if_neg h0, w_id (by omega) (by omega)]
      by_cases h8 : (tz l).length ≤ 8
      · rw [if_neg (by omega), refNumber_is l h hl h8 k (by omega)]
        simp only [Option.bind_some]
        rw [if_pos h8, numI_zeros]
      · rw [if_pos (by omega), if_neg h8]
theorem refGet_is (l : List Int) (h : Oct l) (hl : l.length ≤ 140737488351232) (k : Nat) (hk : 2 * l.length + 2 ≤ k) : undercroftref01_Get.f k l = some (if (tz l).length ≤ 8 then (numI (tz l), 0) else (0, 107)) := refGet_loop l h hl l.length k 0 (by omega) (by omega) rfl

theorem needI_pow (n : Int) (h0 : 0 ≤ n) (h1 : n ≤ 18446744073709551615) : n < 256 ^ (needI n).toNat := by
  rcases needI_cases n with h | h | h | h | h | h | h | h | h
  all_goals first | rw [h.2] | rw [h.2.2]
  all_goals (simp; omega)
theorem div_out (n : Int) (i : Nat) : n / 256 / 256 ^ i = n / 256 ^ (i + 1) := by
  rw [Int.pow_succ, Int.mul_comm, Int.ediv_ediv_of_nonneg (by decide)]
theorem octI_snoc (n : Int) (s : Nat) : octI n (s + 1) = octI (n / 256) s ++ [n % 256] := by
  unfold octI
  rw [List.range_succ, List.map_append, List.map_singleton]
  congr 1
  · refine List.map_congr_left fun i hi => ?_
    have hi := List.mem_range.1 hi
    have e : s + 1 - 1 - i = (s - 1 - i) + 1 := by omega
    rw [e, ← div_out]
  · simp
theorem numI_octI : ∀ (s : Nat) (n : Int), 0 ≤ n → n < 256 ^ s → numI (octI n s) = n := by
  intro s
  induction s with
  | zero =>
    intro n h0 h1
    have : n = 0 := by simp at h1; omega
    subst this
    rfl
  | succ s ih =>
    intro n h0 h1
    rw [octI_snoc, numI_snoc, ih (n / 256) (by omega) (by rw [Int.pow_succ] at h1; omega)]
    omega
theorem octI_oct (n : Int) (s : Nat) : Oct (octI n s) := by
  intro x hx
  unfold octI at hx
  obtain ⟨i, _, rfl⟩ := List.mem_map.1 hx
  omega
theorem numI_big : ∀ (r : List Int) (x : Int), 1 ≤ x → octs r = true → (256 : Int) ^ r.length ≤ numI (x :: r) := by
  intro r x hx ho
  have gen : ∀ (r : List Int) (a : Int), 1 ≤ a → octs r = true → (256 : Int) ^ r.length ≤ r.foldl (fun n x => n * 256 + x) a := by
    intro r
    induction r with
    | nil => intro a ha _; simp; exact ha
    | cons y r ih =>
      intro a ha ho
      have hy := octs_at ho (x := y) List.mem_cons_self
      have ho2 : octs r = true := by unfold octs at ho ⊢; rw [List.all_cons, Bool.and_eq_true] at ho; exact ho.2
      have hp : (0 : Int) < 256 ^ r.length := Int.pow_pos (by decide)
      have scale : ∀ (r : List Int) (a : Int), octs r = true → 0 ≤ a → a * 256 ^ r.length ≤ r.foldl (fun n x => n * 256 + x) a := by
        intro r
        induction r with
        | nil => intro a _ _; simp
        | cons z r ih3 =>
          intro a ho ha
          have hz := octs_at ho (x := z) List.mem_cons_self
          have ho3 : octs r = true := by unfold octs at ho ⊢; rw [List.all_cons, Bool.and_eq_true] at ho; exact ho.2
          have := ih3 (a * 256 + z) ho3 (by omega)
          refine Int.le_trans ?_ this
          rw [List.length_cons, Int.pow_succ]
          have hp : (0 : Int) < 256 ^ r.length := Int.pow_pos (by decide)
          have h2 : a * 256 * 256 ^ r.length ≤ (a * 256 + z) * 256 ^ r.length := Int.mul_le_mul_of_nonneg_right (by omega) (by omega)
          have h3 : a * (256 ^ r.length * 256) = a * 256 * 256 ^ r.length := by rw [Int.mul_comm (256 ^ r.length) 256, Int.mul_assoc]
          rw [h3]; exact h2
      have := scale (y :: r) a ho (by omega)
      refine Int.le_trans ?_ this
      have hp2 : (0 : Int) < 256 ^ (y :: r).length := Int.pow_pos (by decide)
      have := Int.mul_le_mul_of_nonneg_right ha (Int.le_of_lt hp2)
      simpa using this
  show (256 : Int) ^ r.length ≤ r.foldl (fun n x => n * 256 + x) (0 * 256 + x)
  exact gen r _ (by omega) ho
theorem tz_head : ∀ (l : List Int) (x : Int) (r : List Int), tz l = x :: r → x ≠ 0
  | y :: l, x, r, h => by
    unfold tz at h
    split at h
    · exact tz_head l x r h
    · rename_i hy
      injection h with h1 h2
      rw [← h1]; exact hy
theorem tz_eight (l : List Int) (h : Oct l) (hn : numI l ≤ 18446744073709551615) : (tz l).length ≤ 8 := by
  have ho := octs_tz (octs_of h)
  rw [← numI_zeros l] at hn
  cases ht : tz l with
  | nil => simp
  | cons x r =>
    rw [ht] at ho hn
    have hx := octs_at ho (x := x) List.mem_cons_self
    have hx0 := tz_head l x r ht
    have ho2 : octs r = true := by unfold octs at ho ⊢; rw [List.all_cons, Bool.and_eq_true] at ho; exact ho.2
    have hb := numI_big r x (by omega) ho2
    rcases Nat.lt_or_ge 7 r.length with h7 | h7
    · have : (256 : Int) ^ 8 ≤ 256 ^ r.length := by
        obtain ⟨m, hm⟩ : ∃ m, r.length = 8 + m := ⟨r.length - 8, by omega⟩
        rw [hm, Int.pow_add]
        have hp : (1 : Int) ≤ 256 ^ m := Int.pow_pos (by decide)
        have := Int.mul_le_mul_of_nonneg_left hp (show (0 : Int) ≤ 256 ^ 8 by decide)
        simpa using this
      have h8 : (256 : Int) ^ 8 = 18446744073709551616 := by decide
      omega
    · simp; omega
theorem bt_str (xs : List Int) (i : Nat) (h : i < xs.length) (h0 : 0 ≤ xs[i]) (h1 : xs[i] ≤ 255) : bt (strOfNums xs) (i : Int) = xs[i] := by
  unfold bt
  have hs : i < (strOfNums xs).size := by rw [strOfNums_size]; exact h
  simp only [Int.toNat_natCast]
  rw [dif_pos hs]
  have e : (strOfNums xs)[i] = UInt8.ofNat (xs[i]).toNat := by
    show (strOfNums xs).data[i] = _
    simp [strOfNums]
  rw [e]
  simp only [UInt8.toNat_ofNat']
  omega
theorem hexD_val (x : Int) (h : 0 ≤ x ∧ x ≤ 15) : valI (hexD x) = x ∧ 0 ≤ hexD x ∧ hexD x ≤ 255 := by
  have : x = 0 ∨ x = 1 ∨ x = 2 ∨ x = 3 ∨ x = 4 ∨ x = 5 ∨ x = 6 ∨ x = 7 ∨ x = 8 ∨ x = 9 ∨ x = 10 ∨ x = 11 ∨ x = 12 ∨ x = 13 ∨ x = 14 ∨ x = 15 := by omega
  rcases this with rfl | rfl | rfl | rfl | rfl | rfl | rfl | rfl | rfl | rfl | rfl | rfl | rfl | rfl | rfl | rfl <;> decide
theorem and15_table : ((List.range 256).all fun a => decide (bits .and .u8 (a : Int) 15 = (a : Int) % 16)) = true := by kernel_rfl
theorem and15_is (a : Int) (h0 : 0 ≤ a) (h1 : a ≤ 255) : bits .and .u8 a 15 = a % 16 := by
  obtain ⟨n, rfl⟩ : ∃ n : Nat, a = n := ⟨a.toNat, by omega⟩
  have := List.all_eq_true.1 and15_table n (List.mem_range.2 (by omega))
  exact of_decide_eq_true this
theorem hexI_oct : ∀ (l : List Int), Oct l → Oct (hexI l)
  | [], _ => fun x hx => by cases hx
  | y :: r, h => by
    have hy := h y List.mem_cons_self
    have h1 := hexD_val (y / 16) (by omega)
    have h2 := hexD_val (y % 16) (by omega)
    have ih := hexI_oct r (fun x hx => h x (List.mem_cons_of_mem _ hx))
    intro x hx
    have e : hexI (y :: r) = hexD (y / 16) :: hexD (bits .and .u8 y 15) :: hexI r := rfl
    rw [e, and15_is y hy.1 hy.2] at hx
    rcases List.mem_cons.1 hx with rfl | hx
    · exact h1.2
    · rcases List.mem_cons.1 hx with rfl | hx
      · exact h2.2
      · exact ih x hx
theorem pack_hex : ∀ (l : List Int), Oct l → packI ((hexI l).map valI) = l ∧ ∀ v ∈ (hexI l).map valI, v ≤ 15
  | [], _ => ⟨rfl, fun x hx => by cases hx⟩
  | y :: r, h => by
    have hy := h y List.mem_cons_self
    have h1 := hexD_val (y / 16) (by omega)
    have h2 := hexD_val (y % 16) (by omega)
    obtain ⟨ih1, ih2⟩ := pack_hex r (fun x hx => h x (List.mem_cons_of_mem _ hx))
    have e : (hexI (y :: r)).map valI = y / 16 :: y % 16 :: (hexI r).map valI := by
      show (hexD (y / 16) :: hexD (bits .and .u8 y 15) :: hexI r).map valI = _
      rw [and15_is y hy.1 hy.2, List.map_cons, List.map_cons, h1.1, h2.1]
    rw [e]
    constructor
    · simp only [packI, ih1]
      congr 1
      omega
    · intro v hv
      rcases List.mem_cons.1 hv with rfl | hv
      · omega
      · rcases List.mem_cons.1 hv with rfl | hv
        · omega
        · exact ih2 v hv
theorem size_str (xs : List Int) : (strOfNums xs).size = xs.length := by
  rw [← data_length]
  simp [strOfNums]
theorem vals_str (xs : List Int) (h : Oct xs) : valsI (strOfNums xs) xs.length = xs.map valI := by
  apply List.ext_getElem
  · simp [valsI]
  · intro i h1 h2
    have hi : i < xs.length := by simpa using h2
    have hx := h xs[i] (List.getElem_mem hi)
    simp only [valsI, List.getElem_map, List.getElem_range]
    rw [bt_str xs i hi hx.1 hx.2]
theorem unhex_hex (l : List Int) (h : Oct l) : unhexI (strOfNums (hexI l)) = (l, 0) := by
  have hl := hexI_length l
  have ho := hexI_oct l h
  obtain ⟨hp, hv⟩ := pack_hex l h
  unfold unhexI
  rw [size_str, vals_str _ ho, hp, if_pos, if_neg (by omega)]
  refine List.all_eq_true.2 fun i hi => ?_
  have hi : i < (hexI l).length := List.mem_range.1 hi
  have hx := ho (hexI l)[i] (List.getElem_mem hi)
  rw [bt_str _ i hi hx.1 hx.2]
  exact decide_eq_true (hv _ (List.mem_map.2 ⟨_, List.getElem_mem hi, rfl⟩))
theorem put_ok (n : Int) (s : Int) (h0 : 0 ≤ n) (h1 : n ≤ 18446744073709551615) (hs : needI n ≤ s) (h64 : s ≤ 64) : octets_Put.f n s = some (octI n s.toNat, 0) := by
  have hr := needI_range n h0
  unfold octets_Put.f
  rw [if_pos ⟨h0, h1⟩, if_neg (by omega), if_neg (by omega)]
theorem OctetsBack (l0 : Int) (l1 : Int) (l2 : List Int) (h0 : (Lit.int .u64 l0).wf = true) (h1 : (Lit.int .i64 l1).wf = true) (h2 : (l2.length * 1 ≤ 140737488351232 ∧ l2.length ≤ maxLen ∧ ∀ y23 ∈ l2, (Lit.int .u8 y23).wf = true)) (hb : 0 + 0 + (l2.length + (l2.map fun z23 => 0).sum) ≤ 1048576) : ∃ k, undercroftlaw01_OctetsBack.f k l0 l1 l2 = some true := by
  obtain ⟨b0, b1⟩ := wf_u64 h0
  obtain ⟨c0, c1⟩ := wf_i64 h1
  have ho : Oct l2 := Oct.of_wf h2.2.2
  have hl : l2.length ≤ 1048576 := by omega
  have hr := needI_range l0 b0
  refine ⟨2 * l2.length + 200, ?_⟩
  unfold undercroftlaw01_OctetsBack.f
  rw [alive01_is _ (by omega), need_any l0 _ (by omega) b0 b1]
  simp only [Option.bind_some, if_true, undercroftlaw01_num.f]
  have d1 := Int.tmod_lt_of_pos l1 (b := 50) (by decide)
  have d2 := Int.lt_tmod_of_pos l1 (b := 50) (by decide)
  rw [w_id (x := Int.tmod l1 50 + 50) (by omega) (by omega)]
  obtain ⟨v, hv⟩ : ∃ v, v = Int.tmod l1 50 + 50 := ⟨_, rfl⟩
  rw [← hv]
  have d3 := Int.tmod_lt_of_pos v (b := 50) (by decide)
  have d4 := Int.tmod_nonneg (a := v) 50 (by omega)
  rw [w_id (x := needI l0 + Int.tmod v 50) (by omega) (by omega)]
  obtain ⟨s, hs⟩ : ∃ s, s = needI l0 + Int.tmod v 50 := ⟨_, rfl⟩
  rw [← hs, put_ok l0 s b0 b1 (by omega) (by omega)]
  simp only [Option.bind_some]
  have hpow : l0 < 256 ^ s.toNat := by
    have hp := needI_pow l0 b0 b1
    obtain ⟨m, hm⟩ : ∃ m, s.toNat = (needI l0).toNat + m := ⟨s.toNat - (needI l0).toNat, by omega⟩
    rw [hm, Int.pow_add]
    have h3 : (1 : Int) ≤ 256 ^ m := Int.pow_pos (by decide)
    have h4 := Int.mul_le_mul_of_nonneg_left h3 (show (0 : Int) ≤ 256 ^ (needI l0).toNat from Int.le_of_lt (Int.pow_pos (by decide)))
    omega
  have hnum := numI_octI s.toNat l0 b0 hpow
  have hoct := octI_oct l0 s.toNat
  have hol : (octI l0 s.toNat).length = s.toNat := by simp [octI]
  rw [get_is _ hoct (by omega), if_pos (tz_eight _ hoct (by omega)), numI_zeros, hnum]
  simp only [Option.bind_some]
  have hhex : octets_Hex.f l2 = some (strOfNums (hexI l2)) := by unfold octets_Hex.f; rw [if_pos (by omega)]
  have hun : octets_Unhex.f (strOfNums (hexI l2)) = some (l2, 0) := by
    unfold octets_Unhex.f
    rw [if_pos (by rw [size_str, hexI_length]; omega), unhex_hex l2 ho]
  rw [hhex]
  simp only [Option.bind_some]
  rw [hun]
  simp only [Option.bind_some]
  rw [w_id (x := needI l0 - 1) (by omega) (by omega)]
  have hp2 : octets_Put.f l0 (needI l0 - 1) = some ([], if l0 = 0 then 4 else 107) := by
    unfold octets_Put.f
    rw [if_pos ⟨b0, b1⟩]
    by_cases hz : l0 = 0
    · rw [if_pos (by rw [hz]; left; decide), if_pos hz]
    · have : 1 ≤ needI l0 := by
        rcases Int.lt_or_le 0 (needI l0) with h | h
        · omega
        · exact absurd (needI_zero l0 b0 (by omega)) hz
      rw [if_neg (by omega), if_pos (by omega), if_neg hz]
  rw [hp2]
  simp only [Option.bind_some]
  rw [w_id (x := (0 : Int) + 0) (by decide) (by decide), if_pos (by rw [w_id (by decide) (by decide)]; rfl), sameBytes_is _ _ _ (by omega) (by omega)]
  simp only [decide_true, Option.bind_some, if_true]
  by_cases hz : l0 = 0
  · simp [hz]
  · rw [if_neg hz, if_pos (by omega), if_neg hz]
    rfl

end Go.Proofs.YtbdkpmclimfpkaaDoor.Pure
