/- A segment with one octet that is another one is not read: for every segment, every place and every turn, no condition beyond the form's reach. -/
import Derived.Test.YtokjiinlhghggaaDoorPSegx
import Derived.Test.YtokjiinlhghggaaDoorInSegmentRot
import Derived.Lib.Bytes
namespace Go.Proofs.YtokjiinlhghggaaDoor.Pure
open Go.RowKit Go.Proofs.YtokjiinlhghggaaDoor.PSeg Go.Proofs.YtokjiinlhghggaaDoorW.PrintWords Go.Proofs.YtokjiinlhghggaaDoorW.PrintLast Go.Proofs.YtokjiinlhghggaaDoorW.PrintMore
set_option linter.unusedVariables false
set_option linter.unusedSimpArgs false

theorem w_id {x : Int} (h0 : -9223372036854775808 ≤ x) (h1 : x ≤ 9223372036854775807) : wrap64 x = x := by unfold wrap64; omega
theorem wf_i64 {a : Int} (h : (Lit.int .i64 a).wf = true) : -9223372036854775808 ≤ a ∧ a ≤ 9223372036854775807 := by
  simpa [Lit.wf, IntKind.min, IntKind.max, IntKind.signed, IntKind.bits] using h
theorem wf_u8 {a : Int} (h : (Lit.int .u8 a).wf = true) : 0 ≤ a ∧ a ≤ 255 := by
  simpa [Lit.wf, IntKind.min, IntKind.max, IntKind.signed, IntKind.bits] using h
theorem wf_u32 {a : Int} (h : (Lit.int .u32 a).wf = true) : 0 ≤ a ∧ a ≤ 4294967295 := by
  simpa [Lit.wf, IntKind.min, IntKind.max, IntKind.signed, IntKind.bits] using h
theorem wf_u64 {a : Int} (h : (Lit.int .u64 a).wf = true) : 0 ≤ a ∧ a ≤ 18446744073709551615 := by
  simpa [Lit.wf, IntKind.min, IntKind.max, IntKind.signed, IntKind.bits] using h
/-- All are octets. -/
def Oct (l : List Int) : Prop := ∀ x ∈ l, 0 ≤ x ∧ x ≤ 255
theorem Oct.of_wf {l : List Int} (h : ∀ x ∈ l, (Lit.int .u8 x).wf = true) : Oct l := fun x hx => wf_u8 (h x hx)
theorem Oct.nil : Oct [] := fun _ h => by cases h
theorem Oct.append {a b : List Int} (ha : Oct a) (hb : Oct b) : Oct (a ++ b) := fun x hx => (List.mem_append.1 hx).elim (ha x) (hb x)
theorem Oct.take {a : List Int} (ha : Oct a) (n : Nat) : Oct (a.take n) := fun x hx => ha x (List.mem_of_mem_take hx)
theorem Oct.drop {a : List Int} (ha : Oct a) (n : Nat) : Oct (a.drop n) := fun x hx => ha x (List.mem_of_mem_drop hx)
theorem rd_nat (l : List Int) (k : Nat) (h : k < l.length) : rd l (k : Int) = l[k] := by
  unfold rd
  simp [List.getD_eq_getElem?_getD, h]

theorem sameBytes_loop (a b : List Int) (hl : a.length = b.length) (hm : a.length ≤ 9223372036854775807) : ∀ (d k i : Nat), i + d = a.length → d < k → a.take i = b.take i →
    undercroftplain_SameBytes.l0 k a b (i : Int) = some (decide (a = b)) := by
  intro d
  induction d with
  | zero =>
    intro k i hi hk ht
    obtain ⟨k, rfl⟩ : ∃ m, k = m + 1 := ⟨k - 1, by omega⟩
    simp only [undercroftplain_SameBytes.l0]
    rw [if_neg (by omega)]
    have : a = b := by
      rw [List.take_of_length_le (by omega), List.take_of_length_le (by omega)] at ht
      exact ht
    rw [decide_eq_true this]
  | succ d ih =>
    intro k i hi hk ht
    obtain ⟨k, rfl⟩ : ∃ m, k = m + 1 := ⟨k - 1, by omega⟩
    simp only [undercroftplain_SameBytes.l0]
    rw [if_pos (by omega), if_pos (by omega), if_pos (by omega), rd_nat a i (by omega), rd_nat b i (by omega)]
    by_cases h : a[i]'(by omega) = b[i]'(by omega)
    · rw [if_pos h, w_id (by omega) (by omega)]
      have := ih k (i + 1) (by omega) (by omega) (by
        rw [List.take_succ_eq_append_getElem (by omega), List.take_succ_eq_append_getElem (by omega), ht, h])
      exact_mod_cast this
    · rw [if_neg h]
      have : a ≠ b := by
        rintro rfl
        exact h rfl
      rw [decide_eq_false this]
theorem sameBytes_is (a b : List Int) (k : Nat) (hk : a.length < k) (hm : a.length ≤ 9223372036854775807) : undercroftplain_SameBytes.f k a b = some (decide (a = b)) := by
  unfold undercroftplain_SameBytes.f
  by_cases hl : a.length = b.length
  · rw [if_pos (by omega)]
    exact sameBytes_loop a b hl hm a.length k 0 (by omega) hk rfl
  · rw [if_neg (by omega)]
    have : a ≠ b := by
      rintro rfl
      exact hl rfl
    rw [decide_eq_false this]

theorem copyBytes_is (a : List Int) (h : a.length < 140737488355328) : undercroftplain_CopyBytes.f a = some a := by
  unfold undercroftplain_CopyBytes.f
  rw [if_pos (by simpa using h)]
  simp

theorem tz_split : ∀ (l : List Int), ∃ z, l = List.replicate z 0 ++ tz l
  | [] => ⟨0, rfl⟩
  | x :: r => by
    obtain ⟨z, hz⟩ := tz_split r
    unfold tz
    split
    · rename_i h
      refine ⟨z + 1, ?_⟩
      rw [List.replicate_succ, List.cons_append, ← hz, h]
    · exact ⟨0, by simp⟩
theorem numI_rep : ∀ (z : Nat) (l : List Int), numI (List.replicate z 0 ++ l) = numI l
  | 0, l => by simp
  | z + 1, l => by
    rw [List.replicate_succ, List.cons_append]
    show (List.replicate z 0 ++ l).foldl (fun n x => n * 256 + x) (0 * 256 + 0) = _
    exact numI_rep z l
theorem octs_of' {l : List Int} (h : Oct l) : octs l = true := List.all_eq_true.2 (fun x hx => by have := h x hx; simp; omega)
theorem num_take (l : List Int) (h : Oct l) (h8 : (tz l).length ≤ 8) (i : Nat) (hi : i < l.length) : 0 ≤ numI (l.take i) ∧ numI (l.take i) < 72057594037927936 := by
  obtain ⟨z, hz⟩ := tz_split l
  have hlen : l.length = z + (tz l).length := by conv => lhs; rw [hz]
                                                 simp
  by_cases hiz : i ≤ z
  · have e : l.take i = List.replicate i 0 ++ [] := by
      rw [hz, List.take_append_of_le_length (by simpa using hiz), List.take_replicate, Nat.min_eq_left hiz, List.append_nil]
    rw [e, numI_rep]
    exact ⟨by decide, by decide⟩
  · have e : l.take i = List.replicate z 0 ++ (tz l).take (i - z) := by
      conv => lhs; rw [hz]
      rw [List.take_append, List.take_of_length_le (by simp; omega), List.length_replicate]
    rw [e, numI_rep]
    have hl : ((tz l).take (i - z)).length = i - z := by rw [List.length_take]; omega
    have ho : octs ((tz l).take (i - z)) = true := List.all_eq_true.2 (fun x hx => List.all_eq_true.1 (octs_tz (octs_of' h)) x (List.mem_of_mem_take hx))
    have hb := numI_bound (i - z) _ hl ho
    exact ⟨hb.1, Int.lt_of_lt_of_le hb.2 (pow7 (by omega))⟩

theorem equal_is (a b : List Int) (ha : Oct a) (hb : Oct b) : bytes_Equal.f a b = some (decide (a = b)) := by
  unfold bytes_Equal.f
  rw [Lib.strOfNums_toList, Lib.strOfNums_toList]
  congr 1
  by_cases h : a = b
  · subst h; simp
  · rw [decide_eq_false h]
    apply beq_eq_false_iff_ne.2
    intro e
    apply h
    unfold Lib.bytesOf at e
    apply List.ext_getElem
    · have := congrArg List.length e
      simpa using this
    · intro i h1 h2
      have := congrArg (fun l => l[i]?) e
      simp only [List.getElem?_map, List.getElem?_eq_getElem h1, List.getElem?_eq_getElem h2, Option.map_some, Option.some.injEq] at this
      have p := ha _ (List.getElem_mem h1)
      have q := hb _ (List.getElem_mem h2)
      have e2 := congrArg UInt8.toNat this
      simp only [UInt8.toNat_ofNat'] at e2
      omega

theorem octI_len (n : Int) (s : Nat) : (octI n s).length = s := by simp [octI]
theorem octI_oct (n : Int) (s : Nat) : Oct (octI n s) := by
  intro x hx
  obtain ⟨i, _, rfl⟩ := List.mem_map.1 hx
  omega
theorem div_out (n : Int) (i : Nat) : n / 256 / 256 ^ i = n / 256 ^ (i + 1) := by
  rw [Int.pow_succ, Int.mul_comm, Int.ediv_ediv_of_nonneg (by decide)]
theorem octI_snoc (n : Int) (s : Nat) : octI n (s + 1) = octI (n / 256) s ++ [n % 256] := by
  unfold octI
  rw [List.range_succ, List.map_append, List.map_singleton]
  congr 1
  · refine List.map_congr_left fun i hi => ?_
    have hi := List.mem_range.1 hi
    have e : s + 1 - 1 - i = (s - 1 - i) + 1 := by omega
    rw [e, ← div_out]
  · simp
theorem numI_snoc (l : List Int) (x : Int) : numI (l ++ [x]) = numI l * 256 + x := by
  unfold numI
  rw [List.foldl_append]
  rfl
theorem numI_octI : ∀ (s : Nat) (n : Int), 0 ≤ n → n < 256 ^ s → numI (octI n s) = n := by
  intro s
  induction s with
  | zero =>
    intro n h0 h1
    have : n = 0 := by simp at h1; omega
    subst this
    rfl
  | succ s ih =>
    intro n h0 h1
    rw [octI_snoc, numI_snoc, ih (n / 256) (by omega) (by rw [Int.pow_succ] at h1; omega)]
    omega
theorem octI_num : ∀ (s : Nat) (q : List Int), Oct q → q.length = s → octI (numI q) s = q
  | 0, q, _, h => by
    obtain rfl := List.length_eq_zero_iff.1 h
    rfl
  | s + 1, q, ho, h => by
    have hne : q ≠ [] := by rintro rfl; cases h
    obtain ⟨p, x, rfl⟩ : ∃ p x, q = p ++ [x] := ⟨q.dropLast, q.getLast hne, (List.dropLast_concat_getLast hne).symm⟩
    have hx := ho x (by simp)
    have hp := octI_num s p (fun y hy => ho y (by simp [hy])) (by simpa using h)
    rw [octI_snoc, numI_snoc, show (numI p * 256 + x) / 256 = numI p by omega, show (numI p * 256 + x) % 256 = x by omega, hp]
theorem numI_tz (l : List Int) : numI (tz l) = numI l := by
  obtain ⟨z, hz⟩ := tz_split l
  conv => rhs; rw [hz]
  exact (numI_rep z (tz l)).symm
/-- The sum of octets. -/
def crcS (l : List Int) : Int := Go.bits .xor .u32 4294967295 (crcI (Go.bits .xor .u32 4294967295 0) l)
theorem crcS_range (l : List Int) : 0 ≤ crcS l ∧ crcS l ≤ 4294967295 := by
  unfold crcS
  show 0 ≤ IntKind.u32.wrap _ ∧ IntKind.u32.wrap _ ≤ _
  rw [IntKind.wrap_u32]
  omega
theorem sumS_is (l : List Int) : crc_Sum.f l = some (crcS l) := rfl
theorem u64_id {n : Int} (h0 : 0 ≤ n) (h1 : n ≤ 9223372036854775807) : IntKind.u64.wrap n = n := by rw [IntKind.wrap_u64]; omega
theorem put_is (l : List Int) (n : Int) (s : Nat) (h0 : 0 ≤ n) (h1 : n ≤ 9223372036854775807) (hs : s ≤ 64) (hn : needI n ≤ s) (hl : l.length ≤ 1000) : segment_put.f l n (s : Int) = some (l ++ octI n s) := by
  unfold segment_put.f octets_Put.f
  rw [u64_id h0 h1, if_pos (by omega), if_neg (by omega), if_neg (by omega)]
  simp only [Option.bind_some, Int.toNat_natCast]
  rw [if_pos (by rw [octI_len]; omega)]
theorem need8 {n : Int} (h0 : 0 ≤ n) (h1 : n ≤ 9223372036854775807) : needI n ≤ 8 := by unfold needI; (repeat' split) <;> omega
theorem need4 {n : Int} (h0 : 0 ≤ n) (h1 : n ≤ 4294967295) : needI n ≤ 4 := by unfold needI; (repeat' split) <;> omega
theorem need1 {n : Int} (h0 : 0 ≤ n) (h1 : n ≤ 255) : needI n ≤ 1 := by unfold needI; (repeat' split) <;> omega
theorem put8 (l : List Int) (n : Int) (h0 : 0 ≤ n) (h1 : n ≤ 9223372036854775807) (hl : l.length ≤ 1000) : segment_put.f l n 8 = some (l ++ octI n 8) := put_is l n 8 h0 h1 (by omega) (need8 h0 h1) hl
theorem put4 (l : List Int) (n : Int) (h0 : 0 ≤ n) (h1 : n ≤ 4294967295) (hl : l.length ≤ 1000) : segment_put.f l n 4 = some (l ++ octI n 4) := put_is l n 4 h0 (by omega) (by omega) (need4 h0 h1) hl
theorem put1 (l : List Int) (n : Int) (h0 : 0 ≤ n) (h1 : n ≤ 255) (hl : l.length ≤ 1000) : segment_put.f l n 1 = some (l ++ octI n 1) := put_is l n 1 h0 (by omega) (by omega) (need1 h0 h1) hl
/-- The head of a block. -/
def headI (x : S43) : List Int := octI x.f0 4 ++ (octI x.f1 1 ++ octI (x.f2.length : Int) 1)
theorem headI_len (x : S43) : (headI x).length = 6 := by simp [headI, octI_len]
def heads (l : List S43) : List Int := l.flatMap headI
def datas (l : List S43) : List Int := l.flatMap (·.f2)
theorem heads_len : ∀ l : List S43, (heads l).length = 6 * l.length
  | [] => rfl
  | x :: r => by
    have := heads_len r
    unfold heads at this ⊢
    rw [List.flatMap_cons, List.length_append, headI_len, this, List.length_cons]
    omega
/-- What is sealed, ahead of its sum. -/
def plainI (n : Int) (l : List S43) : List Int := padI ([115, 101, 103, 49] ++ octI n 8 ++ octI (l.length : Int) 1 ++ heads l ++ datas l)
def sealI (n : Int) (l : List S43) : List Int := plainI n l ++ octI (crcS (plainI n l)) 4
def okB (x : S43) : Prop := 1 ≤ x.f0 ∧ x.f0 ≤ 2147483647 ∧ 0 ≤ x.f1 ∧ x.f1 ≤ 255 ∧ x.f2.length ≤ 32
theorem bad_iff (x : S43) : ¬ x.bad = true ↔ okB x := by
  unfold S43.bad okB
  simp only [Bool.not_eq_true', Bool.and_eq_false_iff, decide_eq_false_iff_not]
  omega
theorem any_iff (l : List S43) : l.any S43.bad = false ↔ ∀ x ∈ l, okB x := by
  rw [List.any_eq_false]
  exact ⟨fun h x hx => (bad_iff x).1 (h x hx), fun h x hx => (bad_iff x).2 (h x hx)⟩
theorem check_iff (n : Int) (l : List S43) : checkI n l = 0 ↔ (1 ≤ n ∧ n ≤ 1099511627776 ∧ 1 ≤ l.length ∧ l.length ≤ 8 ∧ ∀ x ∈ l, okB x) := by
  rw [← any_iff]
  unfold checkI
  constructor
  · intro h
    by_cases hc : 1 ≤ n ∧ n ≤ 1099511627776 ∧ 1 ≤ l.length ∧ l.length ≤ 8 ∧ l.any S43.bad = false
    · exact hc
    · rw [if_neg hc] at h; cases h
  · intro h
    rw [if_pos h]
theorem check_or (n : Int) (l : List S43) : checkI n l = 0 ∨ checkI n l = 9 := by
  unfold checkI
  split
  · exact .inl rfl
  · exact .inr rfl
theorem datas_len : ∀ l : List S43, (∀ x ∈ l, okB x) → (datas l).length ≤ 32 * l.length
  | [], _ => Nat.le_refl _
  | x :: r, h => by
    have := datas_len r (fun y hy => h y (by simp [hy]))
    have hx := (h x (by simp)).2.2.2.2
    unfold datas at this ⊢
    rw [List.flatMap_cons, List.length_append, List.length_cons]
    omega
theorem padI_len (l : List Int) (h : l.length ≤ 380) : (padI l).length = 380 := by
  unfold padI
  rw [List.length_append, List.length_replicate]
  omega
theorem rdB_nat (l : List S43) (i : Nat) (h : i < l.length) : rd_T43 l (i : Int) = l[i] := by
  unfold rd_T43
  simp [List.getD_eq_getElem?_getD, h]
theorem seal_fin (x : List Int) (c : Int) (hs : crc_Sum.f x = some c) (hp : segment_put.f x (wrap64 c) 4 = some (x ++ octI c 4)) :
    ((crc_Sum.f x).bind fun t138 => ((segment_put.f x (wrap64 (t138)) 4).bind fun t139 => (some (t139, (0 : Int))))) = some (x ++ octI c 4, 0) := by
  rw [hs, Option.bind_some, hp, Option.bind_some]
theorem seal_sum (x : List Int) (hpl : x.length = 380) : segment_put.f x (wrap64 (crcS x)) 4 = some (x ++ octI (crcS x) 4) := by
  have hc := crcS_range x
  generalize crcS x = c at hc ⊢
  rw [w_id (x := c) (by omega) (by omega)]
  exact put4 x c hc.1 hc.2 (by omega)
theorem seal_end (l : List S43) (k : Nat) (p q : List Int) (hp : p.length ≤ 61) (hq : q.length ≤ 256) (h0 : 0 < p.length) :
    segment_Seal.l0 (k + 1) p q l (l.length : Int) (l.length : Int) = some (padI (p ++ q) ++ octI (crcS (padI (p ++ q))) 4, 0) := by
  have hpl : (padI (p ++ q)).length = 380 := padI_len _ (by rw [List.length_append]; omega)
  have h4 := seal_sum _ hpl
  have h5 := seal_fin _ _ (sumS_is (padI (p ++ q))) h4
  have c1 : ¬ (l.length : Int) < (l.length : Int) := Int.lt_irrefl _
  have c2 : p.length + q.length < 380 ∧ 0 < p.length := ⟨by omega, h0⟩
  simp only [segment_Seal.l0]
  rw [if_neg c1, if_pos c2]
  exact h5
theorem seal_step (l : List S43) (k i : Nat) (p q : List Int) (hi : i < l.length) (h8 : l.length ≤ 8) (x : S43) (hx : rd_T43 l (i : Int) = x) (ho : okB x) (hp : p.length ≤ 100) (hq : q.length ≤ 1000) :
    segment_Seal.l0 (k + 1) p q l (l.length : Int) (i : Int) = segment_Seal.l0 k (p ++ octI x.f0 4 ++ octI x.f1 1 ++ octI (x.f2.length : Int) 1) (q ++ x.f2) l (l.length : Int) ((i + 1 : Nat) : Int) := by
  obtain ⟨o1, o2, o3, o4, o5⟩ := ho
  have h4 := put4 p x.f0 (by omega) (by omega) (by omega)
  have h1 := put1 (p ++ octI x.f0 4) x.f1 o3 o4 (by rw [List.length_append, octI_len]; omega)
  have h2 := put1 (p ++ octI x.f0 4 ++ octI x.f1 1) (x.f2.length : Int) (by omega) (by omega) (by rw [List.length_append, List.length_append, octI_len, octI_len]; omega)
  have hw : wrap64 ((i : Int) + 1) = ((i + 1 : Nat) : Int) := by rw [w_id (by omega) (by omega)]; rfl
  have c1 : (i : Int) < (l.length : Int) := by omega
  have c2 : (0 : Int) ≤ (i : Int) := by omega
  have c3 : q.length + x.f2.length < 140737488355328 := by omega
  simp only [segment_Seal.l0, hx]
  rw [if_pos c1, if_pos c2, if_pos c1, h4]
  simp only [Option.bind_some]
  rw [h1]
  simp only [Option.bind_some]
  rw [h2]
  simp only [Option.bind_some]
  rw [if_pos c3, hw]
theorem heads_cons (x : S43) (l : List S43) : heads (x :: l) = headI x ++ heads l := rfl
theorem datas_cons (x : S43) (l : List S43) : datas (x :: l) = x.f2 ++ datas l := rfl
theorem seal_loop (l : List S43) (h8 : l.length ≤ 8) (hok : ∀ x ∈ l, okB x) : ∀ (d k i : Nat) (p q : List Int), i + d = l.length → d < k → p.length + 6 * d ≤ 61 → q.length + 32 * d ≤ 256 → 0 < p.length →
    segment_Seal.l0 k p q l (l.length : Int) (i : Int) = some (padI (p ++ heads (l.drop i) ++ (q ++ datas (l.drop i))) ++ octI (crcS (padI (p ++ heads (l.drop i) ++ (q ++ datas (l.drop i))))) 4, 0) := by
  intro d
  induction d with
  | zero =>
    intro k i p q hi hk hp hq h0
    obtain ⟨k, rfl⟩ : ∃ m, k = m + 1 := ⟨k - 1, by omega⟩
    obtain rfl : i = l.length := by omega
    have e : l.drop l.length = [] := List.drop_eq_nil_of_le (Nat.le_refl _)
    rw [e, seal_end l k p q (by omega) (by omega) h0]
    simp only [heads, datas, List.flatMap_nil, List.append_nil]
  | succ d ih =>
    intro k i p q hi hk hp hq h0
    obtain ⟨k, rfl⟩ : ∃ m, k = m + 1 := ⟨k - 1, by omega⟩
    have hlt : i < l.length := by omega
    have hx := hok l[i] (List.getElem_mem hlt)
    have hr := rdB_nat l i hlt
    have e : l.drop i = l[i] :: l.drop (i + 1) := List.drop_eq_getElem_cons hlt
    rw [e]
    clear e
    generalize l[i] = x at hx hr ⊢
    have o5 := hx.2.2.2.2
    rw [seal_step l k i p q hlt h8 x hr hx (by omega) (by omega)]
    rw [ih k (i + 1) _ _ (by omega) (by omega) (by simp only [List.length_append, octI_len]; omega) (by rw [List.length_append]; omega) (by simp only [List.length_append]; omega)]
    have e2 : p ++ octI x.f0 4 ++ octI x.f1 1 ++ octI (x.f2.length : Int) 1 ++ heads (l.drop (i + 1)) ++ (q ++ x.f2 ++ datas (l.drop (i + 1))) = p ++ heads (x :: l.drop (i + 1)) ++ (q ++ datas (x :: l.drop (i + 1))) := by
      rw [heads_cons, datas_cons]
      unfold headI
      simp only [List.append_assoc]
    rw [e2]
theorem seal_is (k : Nat) (n : Int) (l : List S43) (hk : 8 < k) : segment_Seal.f k n l = some (if checkI n l = 0 then (sealI n l, 0) else ([], 9)) := by
  unfold segment_Seal.f segment_Check.f
  simp only [Option.bind_some]
  by_cases h : checkI n l = 0
  · rw [if_pos h, if_pos h]
    obtain ⟨h1, h2, h3, h4, h5⟩ := (check_iff n l).1 h
    rw [put8 _ _ (by omega) (by omega) (by simp)]
    simp only [Option.bind_some]
    rw [put1 _ _ (by omega) (by omega) (by simp [octI_len])]
    simp only [Option.bind_some]
    have := seal_loop l h4 h5 l.length k 0 ([115, 101, 103, 49] ++ octI n 8 ++ octI (l.length : Int) 1) [] (by omega) (by omega) (by simp only [List.length_append, octI_len, List.length_cons, List.length_nil]; omega) (by simp only [List.length_nil]; omega) (by simp only [List.length_append, octI_len, List.length_cons, List.length_nil]; omega)
    rw [List.drop_zero, List.nil_append] at this
    exact this
  · rw [if_neg h, if_neg h]
    rcases check_or n l with hc | hc
    · exact absurd hc h
    · rw [hc]

theorem pow4_ : (256 : Int) ^ 4 = 4294967296 := by decide
theorem pow8_ : (256 : Int) ^ 8 = 18446744073709551616 := by decide
theorem rd_at (A R : List Int) (x : Int) (i : Nat) (h : A.length = i) : rd (A ++ x :: R) (i : Int) = x := by
  subst h
  rw [rd_nat _ _ (by simp)]
  simp
theorem take_at (A R : List Int) (n : Nat) (h : A.length = n) : (A ++ R).take n = A := by rw [← h]; exact List.take_left
theorem drop_at (A R : List Int) (n : Nat) (h : A.length = n) : (A ++ R).drop n = R := by rw [← h]; exact List.drop_left
theorem octI_one (x : Int) (h0 : 0 ≤ x) (h1 : x ≤ 255) : octI x 1 = [x] := by
  show [x / 256 ^ 0 % 256] = [x]
  rw [Int.pow_zero, Int.ediv_one]
  congr 1
  omega
theorem getI_num (l : List Int) : getI l = wrap64 (mn (numI l) 4611686018427387904) := by unfold getI; rw [numI_tz]
theorem getI_octI (s : Nat) (n : Int) (h0 : 0 ≤ n) (h1 : n < 256 ^ s) (h2 : n ≤ 4611686018427387904) : getI (octI n s) = n := by
  rw [getI_num, numI_octI s n h0 h1]
  have e : mn n 4611686018427387904 = n := by unfold mn; split <;> omega
  rw [e, w_id (by omega) (by omega)]
/-- Octets that hold a number and blocks. -/
structure Holds (b : List Int) (n : Int) (l : List S43) (z c : List Int) : Prop where
  is : b = [115, 101, 103, 49] ++ (octI n 8 ++ ([(l.length : Int)] ++ (heads l ++ (datas l ++ (z ++ c)))))
  four : c.length = 4
  all : b.length = 384
theorem pre_len (n : Int) (k : Int) : ([115, 101, 103, 49] ++ (octI n 8 ++ [k]) : List Int).length = 13 := by simp [octI_len]
theorem Holds.len {b : List Int} {n : Int} {l : List S43} {z c : List Int} (h : Holds b n l z c) : 13 + 6 * l.length + (datas l).length + z.length = 380 := by
  have h1 := h.all
  rw [h.is] at h1
  simp only [List.length_append, octI_len, heads_len, List.length_cons, List.length_nil, h.four] at h1
  omega
theorem Holds.take380 {b : List Int} {n : Int} {l : List S43} {z c : List Int} (h : Holds b n l z c) : b.take 380 = [115, 101, 103, 49] ++ (octI n 8 ++ ([(l.length : Int)] ++ (heads l ++ (datas l ++ z)))) := by
  have h1 := h.len
  have e : b = ([115, 101, 103, 49] ++ (octI n 8 ++ ([(l.length : Int)] ++ (heads l ++ (datas l ++ z))))) ++ c := by rw [h.is]; simp only [List.append_assoc]
  rw [e]
  refine take_at _ _ _ ?_
  simp only [List.length_append, octI_len, heads_len, List.length_cons, List.length_nil]
  omega
theorem Holds.last {b : List Int} {n : Int} {l : List S43} {z c : List Int} (h : Holds b n l z c) : (b.drop 380).take 4 = c := by
  have h1 := h.len
  have e : b = ([115, 101, 103, 49] ++ (octI n 8 ++ ([(l.length : Int)] ++ (heads l ++ (datas l ++ z))))) ++ c := by rw [h.is]; simp only [List.append_assoc]
  rw [e, drop_at _ _ 380 (by simp only [List.length_append, octI_len, heads_len, List.length_cons, List.length_nil]; omega), List.take_of_length_le (by rw [h.four]; exact Nat.le_refl _)]
theorem Holds.num {b : List Int} {n : Int} {l : List S43} {z c : List Int} (h : Holds b n l z c) : (b.drop 4).take 8 = octI n 8 := by
  rw [h.is, drop_at _ _ 4 rfl, take_at _ _ 8 (octI_len _ _)]
theorem Holds.count {b : List Int} {n : Int} {l : List S43} {z c : List Int} (h : Holds b n l z c) : rd b 12 = (l.length : Int) := by
  have e : b = ([115, 101, 103, 49] ++ octI n 8) ++ (l.length : Int) :: (heads l ++ (datas l ++ (z ++ c))) := by rw [h.is]; simp only [List.append_assoc]; rfl
  rw [e]
  exact rd_at _ _ _ 12 (by simp [octI_len])
theorem heads_app (a b : List S43) : heads (a ++ b) = heads a ++ heads b := List.flatMap_append
theorem datas_app (a b : List S43) : datas (a ++ b) = datas a ++ datas b := List.flatMap_append
theorem Holds.head {b : List Int} {n : Int} {l : List S43} {z c : List Int} (h : Holds b n l z c) (i : Nat) (x : S43) (r : List S43) (hx : l = l.take i ++ x :: r) (hi : i < l.length) (ho : okB x) :
    (b.drop (13 + 6 * i)).take 4 = octI x.f0 4 ∧ rd b ((13 + 6 * i + 4 : Nat) : Int) = x.f1 ∧ rd b ((13 + 6 * i + 5 : Nat) : Int) = (x.f2.length : Int) := by
  obtain ⟨o1, o2, o3, o4, o5⟩ := ho
  have hh : heads l = heads (l.take i) ++ (headI x ++ heads r) := by conv => lhs; rw [hx]
                                                                     rw [heads_app, heads_cons]
  have hl : (([115, 101, 103, 49] ++ (octI n 8 ++ [(l.length : Int)]) : List Int) ++ heads (l.take i)).length = 13 + 6 * i := by rw [List.length_append, pre_len, heads_len, List.length_take]; omega
  have e : b = (([115, 101, 103, 49] ++ (octI n 8 ++ [(l.length : Int)])) ++ heads (l.take i)) ++ (octI x.f0 4 ++ (x.f1 :: (x.f2.length : Int) :: (heads r ++ (datas l ++ (z ++ c))))) := by
    rw [h.is, hh]
    unfold headI
    rw [octI_one x.f1 o3 o4, octI_one (x.f2.length : Int) (by omega) (by omega)]
    simp only [List.append_assoc, List.cons_append, List.nil_append]
  generalize ([115, 101, 103, 49] ++ (octI n 8 ++ [(l.length : Int)]) : List Int) ++ heads (l.take i) = A at hl e
  refine ⟨?_, ?_, ?_⟩
  · rw [e, drop_at _ _ _ hl, take_at _ _ 4 (octI_len _ _)]
  · have e2 : b = (A ++ octI x.f0 4) ++ x.f1 :: ((x.f2.length : Int) :: (heads r ++ (datas l ++ (z ++ c)))) := by rw [e, List.append_assoc]
    rw [e2]
    exact rd_at _ _ _ _ (by rw [List.length_append, octI_len, hl])
  · have e2 : b = (A ++ (octI x.f0 4 ++ [x.f1])) ++ (x.f2.length : Int) :: (heads r ++ (datas l ++ (z ++ c))) := by rw [e]; simp only [List.append_assoc, List.cons_append, List.nil_append]
    rw [e2]
    exact rd_at _ _ _ _ (by simp only [List.length_append, octI_len, hl, List.length_cons, List.length_nil])
theorem Holds.data {b : List Int} {n : Int} {l : List S43} {z c : List Int} (h : Holds b n l z c) (i : Nat) (x : S43) (r : List S43) (hx : l = l.take i ++ x :: r) :
    ((b.take 380).drop (13 + 6 * l.length + (datas (l.take i)).length)).take x.f2.length = x.f2 := by
  have hd : datas l = datas (l.take i) ++ (x.f2 ++ datas r) := by conv => lhs; rw [hx]
                                                                  rw [datas_app, datas_cons]
  have e : b.take 380 = (([115, 101, 103, 49] ++ (octI n 8 ++ [(l.length : Int)])) ++ (heads l ++ datas (l.take i))) ++ (x.f2 ++ (datas r ++ z)) := by
    rw [h.take380, hd]
    simp only [List.append_assoc]
  rw [e, drop_at _ _ _ (by rw [List.length_append, pre_len, List.length_append, heads_len]; omega), take_at _ _ _ rfl]
theorem S43.eta (x : S43) : (⟨x.f0, x.f1, x.f2⟩ : S43) = x := rfl
theorem open_fold {b : List Int} {n : Int} {l : List S43} {z c : List Int} (h : Holds b n l z c) (hok : ∀ x ∈ l, okB x) : ∀ i, i ≤ l.length →
    (List.range i).foldl (open_step b) ([], 13 + 6 * l.length) = (l.take i, 13 + 6 * l.length + (datas (l.take i)).length)
  | 0, _ => rfl
  | i + 1, hi => by
    have ih := open_fold h hok i (by omega)
    have hlt : i < l.length := by omega
    have hx : l = l.take i ++ l[i] :: l.drop (i + 1) := by rw [← List.drop_eq_getElem_cons hlt, List.take_append_drop]
    have ho := hok l[i] (List.getElem_mem hlt)
    have ht : l.take (i + 1) = l.take i ++ [l[i]] := List.take_succ_eq_append_getElem hlt
    obtain ⟨a1, a2, a3⟩ := h.head i l[i] _ hx hlt ho
    have a4 := h.data i l[i] _ hx
    rw [List.range_succ, List.foldl_append, ih, ht]
    generalize l[i] = x at *
    have a5 : getI (octI x.f0 4) = x.f0 := by
      have h1_ := ho.1
      have h2_ := ho.2.1
      exact getI_octI 4 x.f0 (by omega) (by rw [pow4_]; omega) (by omega)
    rw [List.foldl_cons, List.foldl_nil]
    unfold open_step
    simp only
    rw [a1, a2, a3, a5, Int.toNat_natCast, a4, datas_app, List.length_append, datas_cons]
    have e : datas ([] : List S43) = [] := rfl
    rw [e, List.append_nil, Nat.add_assoc]
theorem big_no {b : List Int} {n : Int} {l : List S43} {z c : List Int} (h : Holds b n l z c) (hok : ∀ x ∈ l, okB x) : openBig b l.length = false := by
  unfold openBig
  rw [List.any_eq_false]
  intro i hi
  have hlt : i < l.length := List.mem_range.1 hi
  have hx : l = l.take i ++ l[i] :: l.drop (i + 1) := by rw [← List.drop_eq_getElem_cons hlt, List.take_append_drop]
  have ho := hok l[i] (List.getElem_mem hlt)
  obtain ⟨a1, a2, a3⟩ := h.head i l[i] _ hx hlt ho
  rw [a3]
  have := ho.2.2.2.2
  simp only [decide_eq_true_eq]
  omega
theorem max_zeros : ∀ k : Nat, (List.replicate k (0 : Int)).foldl mx 0 = 0
  | 0 => rfl
  | k + 1 => by
    rw [List.replicate_succ, List.foldl_cons]
    exact max_zeros k
theorem rest_is {b : List Int} {n : Int} {l : List S43} {z c : List Int} (h : Holds b n l z c) : (b.take 380).drop (13 + 6 * l.length + (datas l).length) = z := by
  have e : b.take 380 = (([115, 101, 103, 49] ++ (octI n 8 ++ [(l.length : Int)])) ++ (heads l ++ datas l)) ++ z := by
    rw [h.take380]
    simp only [List.append_assoc]
  rw [e, drop_at _ _ _ (by rw [List.length_append, pre_len, List.length_append, heads_len]; omega)]
/-- What holds a segment is read as it. -/
theorem open2_is {b : List Int} {n : Int} {l : List S43} {c : List Int} {k : Nat} (h : Holds b n l (List.replicate k 0) c) (hc : checkI n l = 0) : openSeg2 b = (n, l, 0) := by
  obtain ⟨h1, h2, h3, h4, h5⟩ := (check_iff n l).1 hc
  have hf := open_fold h h5 l.length (Nat.le_refl _)
  rw [List.take_of_length_le (Nat.le_refl _)] at hf
  have hr : openRest b l.length = (l, 13 + 6 * l.length + (datas l).length) := hf
  have hg : getI ((b.drop 4).take 8) = n := by
    rw [h.num]
    exact getI_octI 8 n (by omega) (by rw [pow8_]; omega) (by omega)
  unfold openSeg2
  rw [h.count, if_pos (by omega), Int.toNat_natCast, big_no h h5, if_neg (by decide), hr, hg]
  simp only
  rw [if_pos hc, rest_is h]
  have hm : maxI (0 :: List.replicate k 0) = 0 := max_zeros k
  rw [hm, if_neg (by decide)]

theorem numI_le : ∀ (s : Nat) (q : List Int), Oct q → q.length = s → 0 ≤ numI q ∧ numI q < 256 ^ s
  | 0, q, _, h => by
    obtain rfl := List.length_eq_zero_iff.1 h
    exact ⟨by decide, by decide⟩
  | s + 1, q, ho, h => by
    have hne : q ≠ [] := by rintro rfl; cases h
    obtain ⟨p, x, rfl⟩ : ∃ p x, q = p ++ [x] := ⟨q.dropLast, q.getLast hne, (List.dropLast_concat_getLast hne).symm⟩
    have hx := ho x (by simp)
    have hp := numI_le s p (fun y hy => ho y (by simp [hy])) (by simpa using h)
    rw [numI_snoc, Int.pow_succ]
    generalize (256 : Int) ^ s = t at *
    omega
theorem getI_small (q : List Int) (ho : Oct q) (h4 : q.length = 4) : getI q = numI q := by
  have h := numI_le 4 q ho h4
  have e : (256 : Int) ^ 4 = 4294967296 := by decide
  rw [e] at h
  rw [getI_num]
  have e : mn (numI q) 4611686018427387904 = numI q := by unfold mn; split <;> omega
  rw [e, w_id (by omega) (by omega)]
theorem getI_eight (q : List Int) (ho : Oct q) (h8 : q.length = 8) (h1 : getI q ≤ 1099511627776) : numI q = getI q := by
  have h := numI_le 8 q ho h8
  rw [getI_num] at h1 ⊢
  unfold mn at h1 ⊢
  split
  · rename_i hc
    rw [if_pos hc, w_id (by decide) (by decide)] at h1
    exact absurd h1 (by decide)
  · rename_i hc
    rw [w_id (by omega) (by omega)]
theorem max_le : ∀ (z : List Int) (a : Int), z.foldl mx a ≤ a → a ≤ z.foldl mx a ∧ ∀ x ∈ z, x ≤ a := by
  have up : ∀ (z : List Int) (a : Int), a ≤ z.foldl mx a := by
    intro z
    induction z with
    | nil => exact fun a => Int.le_refl _
    | cons x z ih =>
      intro a
      have h := ih (mx a x)
      have e : a ≤ mx a x := by unfold mx; split <;> omega
      exact Int.le_trans e h
  intro z
  induction z with
  | nil => exact fun a _ => ⟨Int.le_refl _, fun x hx => by cases hx⟩
  | cons x z ih =>
    intro a h
    refine ⟨up _ _, ?_⟩
    have h1 : mx a x ≤ z.foldl mx (mx a x) := up z _
    have h2 : z.foldl mx (mx a x) ≤ a := h
    have h3 : mx a x = a ∧ x ≤ a := by
      have h4 : mx a x ≤ a := Int.le_trans h1 h2
      by_cases hc : a < x
      · rw [show mx a x = x from if_pos hc] at h4
        omega
      · exact ⟨if_neg hc, by omega⟩
    rw [h3.1] at h2
    intro y hy
    rcases List.mem_cons.1 hy with rfl | hy
    · exact h3.2
    · exact (ih a h2).2 y hy
theorem zeros_of (z : List Int) (ho : Oct z) (h : ¬ maxI (0 :: z) > 0) : z = List.replicate z.length 0 := by
  have h1 : z.foldl mx 0 ≤ 0 := by
    have : maxI (0 :: z) = z.foldl mx 0 := rfl
    rw [this] at h
    omega
  rw [List.eq_replicate_iff]
  refine ⟨rfl, fun x hx => ?_⟩
  have := (max_le z 0 h1).2 x hx
  have := (ho x hx).1
  omega
theorem drop_cons (b : List Int) (i : Nat) (h : i < b.length) : b.drop i = rd b (i : Int) :: b.drop (i + 1) := by
  rw [rd_nat b i h]
  exact List.drop_eq_getElem_cons h
theorem cut_cut (b : List Int) (o k m : Nat) (h : o + k ≤ m) : ((b.take m).drop o).take k = (b.drop o).take k := by
  rw [List.drop_take, List.take_take, Nat.min_eq_left (by omega)]
theorem six (b : List Int) (i : Nat) (h : i + 6 ≤ b.length) : (b.drop i).take 6 = (b.drop i).take 4 ++ [rd b ((i + 4 : Nat) : Int), rd b ((i + 5 : Nat) : Int)] := by
  have e : (b.drop i).take (4 + 2) = (b.drop i).take 4 ++ ((b.drop i).drop 4).take 2 := List.take_add
  rw [show (6 : Nat) = 4 + 2 from rfl, e, List.drop_drop, drop_cons b (i + 4) (by omega), drop_cons b (i + 4 + 1) (by omega)]
  rfl
theorem oct_rd (b : List Int) (ho : Oct b) (i : Nat) (h : i < b.length) : 0 ≤ rd b (i : Int) ∧ rd b (i : Int) ≤ 255 := by
  rw [rd_nat b i h]
  exact ho _ (List.getElem_mem h)
/-- What is read of octets: its heads and its data are theirs. -/
theorem fold_back (b : List Int) (ho : Oct b) (hb : b.length = 384) (m : Nat) (hm : m ≤ 8) (hbig : openBig b m = false) : ∀ i, i ≤ m → ∃ (xs : List S43) (t : Nat),
    (List.range i).foldl (open_step b) ([], 13 + 6 * m) = (xs, 13 + 6 * m + t) ∧ xs.length = i ∧ t ≤ 32 * i ∧ heads xs = (b.drop 13).take (6 * i) ∧ (datas xs).length = t ∧ datas xs = (b.drop (13 + 6 * m)).take t
  | 0, _ => ⟨[], 0, rfl, rfl, Nat.le_refl _, by simp [heads], rfl, by simp [datas]⟩
  | i + 1, hi => by
    obtain ⟨xs, t, h1, h2, h3, h4, h5, h6⟩ := fold_back b ho hb m hm hbig i (by omega)
    have hk : rd b ((13 + 6 * i + 5 : Nat) : Int) ≤ 32 := by
      have h := List.any_eq_false.1 hbig i (List.mem_range.2 (by omega))
      simp only [decide_eq_true_eq] at h
      omega
    have hk0 := (oct_rd b ho (13 + 6 * i + 5) (by omega)).1
    have hj := oct_rd b ho (13 + 6 * i + 4) (by omega)
    have h66 := six b (13 + 6 * i) (by omega)
    obtain ⟨k, hkk⟩ : ∃ k : Nat, rd b ((13 + 6 * i + 5 : Nat) : Int) = (k : Int) := ⟨_, (Int.toNat_of_nonneg hk0).symm⟩
    rw [hkk] at hk h66
    have hq : Oct ((b.drop (13 + 6 * i)).take 4) := (ho.drop _).take _
    have hq4 : ((b.drop (13 + 6 * i)).take 4).length = 4 := by rw [List.length_take, List.length_drop]; omega
    have hg := getI_small _ hq hq4
    have hn := octI_num 4 _ hq hq4
    have hdl : ((b.drop (13 + 6 * m + t)).take k).length = k := by rw [List.length_take, List.length_drop]; omega
    have hcut := cut_cut b (13 + 6 * m + t) k 380 (by omega)
    refine ⟨xs ++ [⟨getI ((b.drop (13 + 6 * i)).take 4), rd b ((13 + 6 * i + 4 : Nat) : Int), (b.drop (13 + 6 * m + t)).take k⟩], t + k, ?_, ?_, ?_, ?_, ?_, ?_⟩
    · rw [List.range_succ, List.foldl_append, h1, List.foldl_cons, List.foldl_nil]
      unfold open_step
      simp only
      rw [hkk, Int.toNat_natCast, hcut, Nat.add_assoc (13 + 6 * m) t k]
    · rw [List.length_append, h2]; rfl
    · omega
    · rw [heads_app, h4, heads_cons]
      have e : heads ([] : List S43) = [] := rfl
      have e2 : headI (⟨getI ((b.drop (13 + 6 * i)).take 4), rd b ((13 + 6 * i + 4 : Nat) : Int), (b.drop (13 + 6 * m + t)).take k⟩ : S43) = (b.drop (13 + 6 * i)).take 6 := by
        unfold headI
        simp only
        rw [hdl, hg, hn, octI_one _ hj.1 hj.2, octI_one (k : Int) (by omega) (by omega), h66]
        rfl
      rw [e, List.append_nil, e2, show 6 * (i + 1) = 6 * i + 6 by omega, List.take_add, List.drop_drop]
    · rw [datas_app, List.length_append, h5, datas_cons]
      have e : datas ([] : List S43) = [] := rfl
      rw [e, List.append_nil, hdl]
    · rw [datas_app, h6, datas_cons]
      have e : datas ([] : List S43) = [] := rfl
      rw [e, List.append_nil, List.take_add, List.drop_drop]
theorem holds_of (b : List Int) (ho : Oct b) (hb : b.length = 384) (hp : b.take 4 = [115, 101, 103, 49]) (n : Int) (l : List S43) (h : openSeg2 b = (n, l, 0)) : checkI n l = 0 ∧ ∃ k, Holds b n l (List.replicate k 0) ((b.drop 380).take 4) := by
  have h12 := oct_rd b ho 12 (by omega)
  obtain ⟨m, hm⟩ : ∃ m : Nat, rd b 12 = (m : Int) := ⟨_, (Int.toNat_of_nonneg h12.1).symm⟩
  unfold openSeg2 at h
  rw [hm, Int.toNat_natCast] at h
  by_cases c1 : (m : Int) ≤ 8
  case neg => rw [if_neg c1] at h; cases h
  rw [if_pos c1] at h
  by_cases c2 : openBig b m = true
  case pos => rw [if_pos c2] at h; cases h
  rw [if_neg c2] at h
  have c2 : openBig b m = false := by simpa using c2
  by_cases c3 : checkI (getI ((b.drop 4).take 8)) (openRest b m).1 = 0
  case neg => rw [if_neg c3] at h; cases h
  rw [if_pos c3] at h
  by_cases c4 : maxI (0 :: (b.take 380).drop (openRest b m).2) > 0
  case pos => rw [if_pos c4] at h; cases h
  rw [if_neg c4] at h
  obtain ⟨xs, t, h1, h2, h3, h4, h5, h6⟩ := fold_back b ho hb m (by omega) c2 m (Nat.le_refl _)
  have hr : openRest b m = (xs, 13 + 6 * m + t) := h1
  rw [hr] at h c3 c4
  simp only at h c3 c4
  obtain ⟨rfl, h'⟩ := Prod.mk.inj h
  obtain ⟨rfl, _⟩ := Prod.mk.inj h'
  clear h h' h1 hr
  refine ⟨c3, 380 - (13 + 6 * m + t), ?_, ?_, hb⟩
  · have hn1 := ((check_iff _ _).1 c3).2.1
    have hq : Oct ((b.drop 4).take 8) := (ho.drop _).take _
    have hq8 : ((b.drop 4).take 8).length = 8 := by rw [List.length_take, List.length_drop]; omega
    have e8 : octI (getI ((b.drop 4).take 8)) 8 = (b.drop 4).take 8 := by rw [← getI_eight _ hq hq8 hn1]; exact octI_num 8 _ hq hq8
    have hz := zeros_of _ ((ho.take 380).drop (13 + 6 * m + t)) c4
    have hzl : ((b.take 380).drop (13 + 6 * m + t)).length = 380 - (13 + 6 * m + t) := by rw [List.length_drop, List.length_take]; omega
    rw [hzl] at hz
    rw [← hz, e8, h4, h6, h2, List.drop_take, ← hm]
    have s1 : b = [115, 101, 103, 49] ++ b.drop 4 := by conv => lhs; rw [← List.take_append_drop 4 b, hp]
    have s2 : b.drop 4 = (b.drop 4).take 8 ++ b.drop 12 := by conv => lhs; rw [← List.take_append_drop 8 (b.drop 4), List.drop_drop]
    have s3 : b.drop 12 = [rd b 12] ++ b.drop 13 := drop_cons b 12 (by omega)
    have s4 : b.drop 13 = (b.drop 13).take (6 * m) ++ b.drop (13 + 6 * m) := by conv => lhs; rw [← List.take_append_drop (6 * m) (b.drop 13), List.drop_drop]
    have s5 : b.drop (13 + 6 * m) = (b.drop (13 + 6 * m)).take t ++ b.drop (13 + 6 * m + t) := by conv => lhs; rw [← List.take_append_drop t (b.drop (13 + 6 * m)), List.drop_drop]
    have s6 : b.drop (13 + 6 * m + t) = (b.drop (13 + 6 * m + t)).take (380 - (13 + 6 * m + t)) ++ b.drop 380 := by
      conv => lhs; rw [← List.take_append_drop (380 - (13 + 6 * m + t)) (b.drop (13 + 6 * m + t)), List.drop_drop, show 13 + 6 * m + t + (380 - (13 + 6 * m + t)) = 380 by omega]
    have s7 : (b.drop 380).take 4 = b.drop 380 := List.take_of_length_le (by rw [List.length_drop]; omega)
    rw [s7, ← s6, ← s5, ← s4, ← s3, ← s2, ← s1]
  · rw [List.length_take, List.length_drop]; omega
theorem sealed_of {b : List Int} {n : Int} {l : List S43} {k : Nat} {c : List Int} (h : Holds b n l (List.replicate k 0) c) (hc : checkI n l = 0) (hs : c = octI (crcS (b.take 380)) 4) : sealI n l = b := by
  have h4 := (check_iff n l).1 hc
  have hl := h.len
  have e : plainI n l = b.take 380 := by
    rw [h.take380]
    unfold plainI padI
    rw [octI_one (l.length : Int) (by omega) (by omega)]
    have e2 : 380 - ([115, 101, 103, 49] ++ octI n 8 ++ [(l.length : Int)] ++ heads l ++ datas l : List Int).length = k := by
      rw [List.length_replicate] at hl
      simp only [List.length_append, octI_len, heads_len, List.length_cons, List.length_nil]
      omega
    rw [e2]
    simp only [List.append_assoc]
  unfold sealI
  rw [e, ← hs, ← h.last]
  have e3 : (b.drop 380).take 4 = b.drop 380 := List.take_of_length_le (by rw [List.length_drop, h.all]; decide)
  rw [e3]
  exact List.take_append_drop 380 b

theorem prefix_is (b : List Int) (ho : Oct b) (h4 : 4 ≤ b.length) : bytes_HasPrefix.f b [115, 101, 103, 49] = some (decide (b.take 4 = [115, 101, 103, 49])) := by
  unfold bytes_HasPrefix.f
  have hl : ((([115, 101, 103, 49] : List Int).length : Nat) : Int) = 4 := rfl
  rw [hl, if_pos (by omega), if_pos (by omega), if_pos (by omega)]
  have e : (4 : Int).toNat = 4 := rfl
  rw [e, equal_is _ _ (ho.take 4) (fun x hx => by
    simp only [List.mem_cons, List.not_mem_nil, or_false] at hx
    omega)]
  rfl
theorem open_full (b : List Int) (ho : Oct b) : segment_Open.f b = some (if b.length = 384 then openSeg b (crcS (b.take 380)) (decide (b.take 4 = [115, 101, 103, 49])) else (0, [], 3)) := by
  unfold segment_Open.f
  rw [if_pos (octs_of' ho)]
  by_cases h : b.length = 384
  · rw [if_pos h, if_pos h, sumS_is, prefix_is b ho (by omega)]
    rfl
  · rw [if_neg h, if_neg h]
theorem sealI_holds (n : Int) (l : List S43) (hc : checkI n l = 0) : ∃ k, Holds (sealI n l) n l (List.replicate k 0) (octI (crcS ((sealI n l).take 380)) 4) := by
  obtain ⟨h1, h2, h3, h4, h5⟩ := (check_iff n l).1 hc
  have hd := datas_len l h5
  have hlen : ([115, 101, 103, 49] ++ octI n 8 ++ octI (l.length : Int) 1 ++ heads l ++ datas l : List Int).length ≤ 380 := by
    simp only [List.length_append, octI_len, heads_len, List.length_cons, List.length_nil]
    omega
  have hp : (plainI n l).length = 380 := padI_len _ hlen
  have ht : (sealI n l).take 380 = plainI n l := take_at _ _ 380 hp
  refine ⟨380 - ([115, 101, 103, 49] ++ octI n 8 ++ octI (l.length : Int) 1 ++ heads l ++ datas l : List Int).length, ?_, octI_len _ _, ?_⟩
  · rw [ht]
    show plainI n l ++ octI (crcS (plainI n l)) 4 = _
    generalize octI (crcS (plainI n l)) 4 = C
    unfold plainI padI
    rw [octI_one (l.length : Int) (by omega) (by omega)]
    simp only [List.append_assoc]
  · unfold sealI
    rw [List.length_append, hp, octI_len]
theorem heads_oct : ∀ l : List S43, Oct (heads l)
  | [] => Oct.nil
  | x :: r => by
    rw [heads_cons]
    exact Oct.append (Oct.append (octI_oct _ _) (Oct.append (octI_oct _ _) (octI_oct _ _))) (heads_oct r)
theorem datas_oct : ∀ l : List S43, (∀ x ∈ l, Oct x.f2) → Oct (datas l)
  | [], _ => Oct.nil
  | x :: r, h => by
    rw [datas_cons]
    exact Oct.append (h x (by simp)) (datas_oct r (fun y hy => h y (by simp [hy])))
theorem sealI_oct (n : Int) (l : List S43) (h : ∀ x ∈ l, Oct x.f2) : Oct (sealI n l) := by
  unfold sealI plainI padI
  refine Oct.append (Oct.append (Oct.append (Oct.append (Oct.append (Oct.append ?_ (octI_oct _ _)) (octI_oct _ _)) (heads_oct l)) (datas_oct l h)) ?_) (octI_oct _ _)
  · intro x hx
    simp only [List.mem_cons, List.not_mem_nil, or_false] at hx
    omega
  · intro x hx
    obtain rfl := (List.mem_replicate.1 hx).2
    omega
/-- What was sealed is opened as it was. -/
theorem open_seal (n : Int) (l : List S43) (hc : checkI n l = 0) (ho : ∀ x ∈ l, Oct x.f2) : segment_Open.f (sealI n l) = some (n, l, 0) := by
  obtain ⟨k, h⟩ := sealI_holds n l hc
  have hr := crcS_range ((sealI n l).take 380)
  have hp : (sealI n l).take 4 = [115, 101, 103, 49] := by rw [h.is]; exact take_at _ _ 4 rfl
  rw [open_full _ (sealI_oct n l ho), if_pos h.all, hp]
  unfold openSeg
  rw [h.last, getI_octI 4 _ hr.1 (by rw [pow4_]; omega) (by omega), w_id (by omega) (by omega), if_pos rfl, if_pos (decide_eq_true rfl), open2_is h hc]
theorem open_cases (b : List Int) (ho : Oct b) (n : Int) (l : List S43) (e : Int) (h : segment_Open.f b = some (n, l, e)) : (e ≠ 0 ∧ n = 0 ∧ l = []) ∨ (e = 0 ∧ checkI n l = 0 ∧ sealI n l = b) := by
  rw [open_full b ho] at h
  have h := Option.some.inj h
  have bad : ∀ c : Int, c ≠ 0 → ((0 : Int), ([] : List S43), c) = (n, l, e) → (e ≠ 0 ∧ n = 0 ∧ l = []) := by
    intro c hc hq
    obtain ⟨rfl, h2⟩ := Prod.mk.inj hq
    obtain ⟨rfl, rfl⟩ := Prod.mk.inj h2
    exact ⟨hc, rfl, rfl⟩
  by_cases h384 : b.length = 384
  case neg => rw [if_neg h384] at h; exact .inl (bad 3 (by decide) h)
  rw [if_pos h384] at h
  unfold openSeg at h
  have hr := crcS_range (b.take 380)
  rw [w_id (x := crcS (b.take 380)) (by omega) (by omega)] at h
  by_cases h1 : getI ((b.drop 380).take 4) = crcS (b.take 380)
  case neg => rw [if_neg h1] at h; exact .inl (bad 21 (by decide) h)
  rw [if_pos h1] at h
  by_cases h2 : b.take 4 = [115, 101, 103, 49]
  case neg => rw [if_neg (by rw [decide_eq_false h2]; decide)] at h; exact .inl (bad 22 (by decide) h)
  rw [if_pos (decide_eq_true h2)] at h
  by_cases he : e = 0
  · subst he
    obtain ⟨hc, k, hh⟩ := holds_of b ho h384 h2 n l h
    refine .inr ⟨rfl, hc, sealed_of hh hc ?_⟩
    have hq : Oct ((b.drop 380).take 4) := (ho.drop _).take _
    have hq4 : ((b.drop 380).take 4).length = 4 := by rw [List.length_take, List.length_drop]; omega
    rw [← h1, getI_small _ hq hq4, octI_num 4 _ hq hq4]
  · refine .inl ?_
    unfold openSeg2 at h
    split at h
    · split at h
      · exact bad 9 (by decide) h
      · split at h
        · split at h
          · exact bad 23 (by decide) h
          · exact absurd (Prod.mk.inj (Prod.mk.inj h).2).2.symm he
        · exact bad 9 (by decide) h
    · exact bad 9 (by decide) h
theorem open_some (b : List Int) (ho : Oct b) : ∃ n l e, segment_Open.f b = some (n, l, e) := by
  rw [open_full b ho]
  exact ⟨_, _, _, rfl⟩

def toB (x : S60) : S43 := ⟨x.f0, x.f1, x.f2⟩
theorem rdR_nat (l : List S60) (i : Nat) (h : i < l.length) : rd_T60 l (i : Int) = l[i] := by
  unfold rd_T60
  simp [List.getD_eq_getElem?_getD, h]
theorem of_loop (l : List S60) (hl : l.length ≤ 3518437208782) (hd : ∀ x ∈ l, x.f2.length * 1 ≤ 140737488351232) : ∀ (d k i : Nat) (acc : List S43), i + d = l.length → d < k → acc.length = i →
    undercroftlaw13_OfBlocks.l0 k l acc (i : Int) = some (acc ++ (l.drop i).map toB) := by
  intro d
  induction d with
  | zero =>
    intro k i acc hi hk ha
    obtain ⟨k, rfl⟩ : ∃ m, k = m + 1 := ⟨k - 1, by omega⟩
    have e : l.drop i = [] := List.drop_eq_nil_of_le (by omega)
    simp only [undercroftlaw13_OfBlocks.l0]
    rw [if_neg (by omega), e, List.map_nil, List.append_nil]
  | succ d ih =>
    intro k i acc hi hk ha
    obtain ⟨k, rfl⟩ : ∃ m, k = m + 1 := ⟨k - 1, by omega⟩
    have hlt : i < l.length := by omega
    have e : l.drop i = l[i] :: l.drop (i + 1) := List.drop_eq_getElem_cons hlt
    have hx := hd l[i] (List.getElem_mem hlt)
    have hr := rdR_nat l i hlt
    have hw : wrap64 ((i : Int) + 1) = ((i + 1 : Nat) : Int) := by rw [w_id (by omega) (by omega)]; rfl
    have c1 : (i : Int) < (l.length : Int) := by omega
    have c2 : (0 : Int) ≤ (i : Int) := by omega
    have c3 : acc.length < 3518437208883 := by omega
    rw [e]
    clear e
    generalize l[i] = x at hx hr ⊢
    have hcp := copyBytes_is x.f2 (by omega)
    have := ih k (i + 1) (acc ++ [toB x]) (by omega) (by omega) (by rw [List.length_append, ha]; rfl)
    simp only [undercroftlaw13_OfBlocks.l0, hr]
    rw [if_pos c1, if_pos c2, hcp]
    simp only [Option.bind_some]
    rw [if_pos c3, hw]
    rw [List.map_cons, show acc ++ toB x :: (l.drop (i + 1)).map toB = acc ++ [toB x] ++ (l.drop (i + 1)).map toB by simp]
    exact this
theorem of_is (k : Nat) (n : Int) (l : List S60) (hk : l.length < k) (hl : l.length * 40 ≤ 140737488351232) (hd : ∀ x ∈ l, x.f2.length * 1 ≤ 140737488351232) : undercroftlaw13_Of.f k n l = some (n, l.map toB) := by
  have h := of_loop l (by omega) hd l.length k 0 [] (by omega) hk rfl
  unfold undercroftlaw13_Of.f undercroftlaw13_OfBlocks.f
  rw [show (0 : Int) = ((0 : Nat) : Int) from rfl, h]
  simp only [Option.bind_some, List.drop_zero, List.nil_append]
theorem alike_loop (l : List S60) (hd : ∀ x ∈ l, x.f2.length ≤ 32) (hl : l.length ≤ 3518437208782) : ∀ (d k i : Nat), i + d = l.length → d + 40 < k →
    undercroftlaw13_AlikeBlocks.l0 k (l.map toB) l (i : Int) = some 0 := by
  intro d
  induction d with
  | zero =>
    intro k i hi hk
    obtain ⟨k, rfl⟩ : ∃ m, k = m + 1 := ⟨k - 1, by omega⟩
    simp only [undercroftlaw13_AlikeBlocks.l0]
    rw [if_neg (by rw [List.length_map]; omega)]
  | succ d ih =>
    intro k i hi hk
    obtain ⟨k, rfl⟩ : ∃ m, k = m + 1 := ⟨k - 1, by omega⟩
    have hlt : i < l.length := by omega
    have hx := hd l[i] (List.getElem_mem hlt)
    have hr := rdR_nat l i hlt
    have hb : rd_T43 (l.map toB) (i : Int) = toB l[i] := by rw [rdB_nat _ i (by rw [List.length_map]; exact hlt), List.getElem_map]
    have hw : wrap64 ((i : Int) + 1) = ((i + 1 : Nat) : Int) := by rw [w_id (by omega) (by omega)]; rfl
    have c1 : (i : Int) < (((l.map toB).length : Nat) : Int) := by rw [List.length_map]; omega
    have c2 : (0 : Int) ≤ (i : Int) := by omega
    have c3 : (i : Int) < (l.length : Int) := by omega
    generalize l[i] = x at hx hr hb
    have hsm := sameBytes_is x.f2 x.f2 k (by omega) (by omega)
    have := ih k (i + 1) (by omega) (by omega)
    simp only [undercroftlaw13_AlikeBlocks.l0, hr, hb]
    rw [if_pos c1, if_pos c2, if_pos c3, if_pos (show (toB x).f0 = x.f0 from rfl), if_pos (show (toB x).f1 = x.f1 from rfl), show (toB x).f2 = x.f2 from rfl, hsm, decide_eq_true rfl]
    simp only [Option.bind_some, if_true]
    rw [hw]
    exact this
theorem alike_is (k : Nat) (n : Int) (l : List S60) (hk : l.length + 40 < k) (hd : ∀ x ∈ l, x.f2.length ≤ 32) (hl : l.length ≤ 3518437208782) : undercroftlaw13_Alike.f k n (l.map toB) n l = some 0 := by
  have h := alike_loop l hd hl l.length k 0 (by omega) hk
  unfold undercroftlaw13_Alike.f undercroftlaw13_AlikeBlocks.f
  rw [if_pos rfl, if_pos (by rw [List.length_map]), show (0 : Int) = ((0 : Nat) : Int) from rfl, h]
  rfl
theorem alive_is (k : Nat) (hk : 8 < k) : undercroftlaw13_alive.f k = some true := by
  have hc : checkI 1 [(⟨1, 0, [120]⟩ : S43)] = 0 := by decide
  have ho : ∀ x ∈ [(⟨1, 0, [120]⟩ : S43)], Oct x.f2 := by
    intro x hx
    rw [List.mem_singleton.1 hx]
    intro y hy
    rw [List.mem_singleton.1 hy]
    omega
  have hop := open_seal 1 _ hc ho
  obtain ⟨m, hh⟩ := sealI_holds 1 _ hc
  have hp : (sealI 1 [(⟨1, 0, [120]⟩ : S43)]).take 4 = [115, 101, 103, 49] := by rw [hh.is]; exact take_at _ _ 4 rfl
  have hs := seal_is k 1 [(⟨1, 0, [120]⟩ : S43)] hk
  rw [if_pos hc] at hs
  unfold undercroftlaw13_alive.f
  rw [hs, Option.bind_some, hop, Option.bind_some, if_pos ⟨rfl, rfl, hh.all, hp, rfl⟩]


namespace CrcMath
abbrev R := BitVec 32
def poly : R := 0xedb88320#32
def b1 (c : R) : R := (c >>> 1) ^^^ (if c.getLsbD 0 then poly else 0#32)
def bs : Nat → R → R
  | 0, c => c
  | n + 1, c => bs n (b1 c)
theorem b1_zero : b1 0#32 = 0#32 := by decide
theorem b1_xor (a b : R) : b1 (a ^^^ b) = b1 a ^^^ b1 b := by
  unfold b1
  rw [BitVec.ushiftRight_xor_distrib, BitVec.getLsbD_xor]
  cases a.getLsbD 0 <;> cases b.getLsbD 0 <;> simp
  · ac_rfl
  · ac_rfl
  · rw [show a >>> 1 ^^^ poly ^^^ (b >>> 1 ^^^ poly) = (a >>> 1 ^^^ b >>> 1) ^^^ (poly ^^^ poly) by ac_rfl]
    simp
theorem bs_zero (n : Nat) : bs n 0#32 = 0#32 := by
  induction n with
  | zero => rfl
  | succ n ih => rw [bs, b1_zero, ih]
theorem bs_xor (n : Nat) (a b : R) : bs n (a ^^^ b) = bs n a ^^^ bs n b := by
  induction n generalizing a b with
  | zero => rfl
  | succ n ih => rw [bs, b1_xor, ih]; rfl
theorem bs_add (m n : Nat) (c : R) : bs (m + n) c = bs n (bs m c) := by
  induction m generalizing c with
  | zero => simp [bs]
  | succ m ih => rw [Nat.succ_add, bs, ih]; rfl
theorem b1_eq_zero (c : R) (h : b1 c = 0#32) : c = 0#32 := by
  unfold b1 at h
  by_cases h0 : c.getLsbD 0 = true
  · exfalso
    have h31 := congrArg (fun x : R => x.getLsbD 31) h
    simp [h0, poly] at h31
  · have h0' : c.getLsbD 0 = false := by simpa using h0
    rw [h0'] at h
    simp at h
    apply BitVec.eq_of_getLsbD_eq
    intro i hi
    rcases Nat.eq_zero_or_pos i with rfl | hp
    · simpa using h0'
    · have := congrArg (fun x : R => x.getLsbD (i - 1)) h
      simp only [BitVec.getLsbD_ushiftRight] at this
      rw [show 1 + (i - 1) = i by omega] at this
      simpa using this
theorem bs_eq_zero (n : Nat) (c : R) (h : bs n c = 0#32) : c = 0#32 := by
  induction n generalizing c with
  | zero => exact h
  | succ n ih => exact b1_eq_zero c (ih _ h)
theorem xor_eq_zero {a b : R} (h : a ^^^ b = 0#32) : a = b := by
  have := congrArg (fun x => x ^^^ b) h
  simpa [BitVec.xor_assoc] using this
theorem bs_inj (n : Nat) (a b : R) (h : bs n a = bs n b) : a = b := by
  apply xor_eq_zero
  apply bs_eq_zero n
  rw [bs_xor, h]
  simp
/-- Bits above the lowest n fall down. -/
theorem b1_even (c : R) (h : c.getLsbD 0 = false) : b1 c = c >>> 1 := by
  unfold b1
  rw [h]
  simp
theorem bs_high (n : Nat) (c : R) (h : ∀ i, i < n → c.getLsbD i = false) : bs n c = c >>> n := by
  induction n generalizing c with
  | zero => simp [bs]
  | succ n ih =>
    rw [bs, b1_even c (h 0 (by omega)), ih, ← BitVec.shiftRight_add]
    · rw [Nat.add_comm]
    · intro i hi
      rw [BitVec.getLsbD_ushiftRight]
      exact h _ (by omega)
/-- Four bits at once: a table of sixteen serves. -/
theorem bs4 (c : R) : bs 4 c = (c >>> 4) ^^^ bs 4 (c &&& 15#32) := by
  have hc : c = (c >>> 4 <<< 4) ^^^ (c &&& 15#32) := by
    apply BitVec.eq_of_getLsbD_eq
    intro i hi
    simp only [BitVec.getLsbD_xor, BitVec.getLsbD_shiftLeft, BitVec.getLsbD_ushiftRight, BitVec.getLsbD_and]
    by_cases h4 : i < 4
    · have : (15#32).getLsbD i = true := by
        rcases i with _ | _ | _ | _ | i <;> first | rfl | omega
      simp [h4, this]
    · have : (15#32).getLsbD i = false := by
        rw [show (15#32) = BitVec.ofNat 32 15 from rfl, BitVec.getLsbD_ofNat]
        have : Nat.testBit 15 i = false := Nat.testBit_lt_two_pow (Nat.lt_of_lt_of_le (by decide : 15 < 2 ^ 4) (Nat.pow_le_pow_right (by decide) (by omega)))
        simp [this]
      rw [this, show 4 + (i - 4) = i by omega]
      simp [h4, hi]
  have h1 : bs 4 (c >>> 4 <<< 4) = c >>> 4 := by
    rw [bs_high]
    · apply BitVec.eq_of_getLsbD_eq
      intro i hi
      simp only [BitVec.getLsbD_shiftLeft, BitVec.getLsbD_ushiftRight]
      by_cases h : 4 + i < 32
      · simp [h]
      · simp [h]
        exact (BitVec.getLsbD_of_ge _ _ (by omega))
    · intro i hi
      simp [BitVec.getLsbD_shiftLeft, hi]
  calc bs 4 c = bs 4 ((c >>> 4 <<< 4) ^^^ (c &&& 15#32)) := by rw [← hc]
    _ = _ := by rw [bs_xor, h1]
/-- An octet more. -/
def step (c : R) (x : BitVec 8) : R := bs 8 (c ^^^ x.setWidth 32)
def run (c : R) (l : List (BitVec 8)) : R := l.foldl step c
theorem run_append (c : R) (a b : List (BitVec 8)) : run c (a ++ b) = run (run c a) b := by simp [run]
theorem step_xor (c d : R) (x y : BitVec 8) : step (c ^^^ d) (x ^^^ y) = step c x ^^^ step d y := by
  unfold step
  rw [← bs_xor]
  congr 1
  rw [BitVec.setWidth_xor]
  ac_rfl
/-- Two texts of one length. -/
def mix : List (BitVec 8) → List (BitVec 8) → List (BitVec 8) := List.zipWith (· ^^^ ·)
theorem run_mix (a b : List (BitVec 8)) (h : a.length = b.length) (c d : R) : run (c ^^^ d) (mix a b) = run c a ^^^ run d b := by
  induction a generalizing b c d with
  | nil => cases b with
    | nil => rfl
    | cons _ _ => simp at h
  | cons x a ih => cases b with
    | nil => simp at h
    | cons y b =>
      show run (step (c ^^^ d) (x ^^^ y)) (mix a b) = run (step c x) a ^^^ run (step d y) b
      rw [step_xor]
      exact ih b (by simpa using h) _ _
theorem run_inj (l : List (BitVec 8)) (c d : R) (h : run c l = run d l) : c = d := by
  induction l generalizing c d with
  | nil => exact h
  | cons x l ih =>
    have := bs_inj 8 _ _ (ih _ _ h)
    have h2 := congrArg (fun z => z ^^^ x.setWidth 32) this
    simpa [BitVec.xor_assoc] using h2
/-- What a register's change comes to behind a text. -/
theorem run_xor (l : List (BitVec 8)) (c d : R) : run (c ^^^ d) l = run c l ^^^ bs (8 * l.length) d := by
  induction l generalizing c d with
  | nil => simp [run, bs]
  | cons x l ih =>
    have h : step (c ^^^ d) x = step c x ^^^ bs 8 d := by
      unfold step
      rw [← bs_xor]
      congr 1
      ac_rfl
    show run (step (c ^^^ d) x) l = run (step c x) l ^^^ bs (8 * (l.length + 1)) d
    rw [h, ih, ← bs_add, show 8 + 8 * l.length = 8 * (l.length + 1) by omega]
theorem bs_shl (n : Nat) (x : R) (h : x <<< n >>> n = x) : bs n (x <<< n) = x := by
  rw [bs_high, h]
  intro i hi
  simp [BitVec.getLsbD_shiftLeft, hi]
theorem one_shl (q : Nat) (h : q < 32) : (1#32) <<< q >>> q = 1#32 := by
  apply BitVec.eq_of_getLsbD_eq
  intro i hi
  simp only [BitVec.getLsbD_ushiftRight, BitVec.getLsbD_shiftLeft]
  by_cases h0 : i = 0
  · subst h0; simp [h]
  · have : (1#32).getLsbD i = false := by
      rw [BitVec.getLsbD_one]; simp [h0]
    rw [show q + i - q = i by omega, this]; simp
theorem bs_one (q m : Nat) (hq : q < 32) (hm : q ≤ m) : bs m ((1#32) <<< q) = bs (m - q) 1#32 := by
  have : bs (q + (m - q)) ((1#32) <<< q) = bs (m - q) 1#32 := by rw [bs_add, bs_shl _ _ (one_shl q hq)]
  rwa [show q + (m - q) = m by omega] at this
/-- One bit turned. -/
theorem run_turn (l : List (BitVec 8)) (c : R) (j q : Nat) (hj : j < l.length) (hq : q < 8) :
    run c (l.set j (l[j] ^^^ (1#8) <<< q)) = run c l ^^^ bs (8 * (l.length - j) - q) 1#32 := by
  induction l generalizing c j with
  | nil => simp at hj
  | cons x l ih =>
    cases j with
    | zero =>
      show run (step c (x ^^^ (1#8) <<< q)) l = run (step c x) l ^^^ bs (8 * (l.length + 1 - 0) - q) 1#32
      have h : step c (x ^^^ (1#8) <<< q) = step c x ^^^ bs (8 - q) 1#32 := by
        rw [← bs_one q 8 (by omega) (by omega)]
        unfold step
        rw [← bs_xor]
        congr 1
        rw [BitVec.setWidth_xor]
        have : BitVec.setWidth 32 ((1#8) <<< q) = (1#32) <<< q := by
          rcases q with _ | _ | _ | _ | _ | _ | _ | _ | q <;> first | rfl | omega
        rw [this]
        ac_rfl
      rw [h, run_xor, ← bs_add, show 8 - q + 8 * l.length = 8 * (l.length + 1 - 0) - q by omega]
    | succ j =>
      show run (step c x) (l.set j (l[j]'(by simpa using hj) ^^^ (1#8) <<< q)) = run (step c x) l ^^^ bs (8 * (l.length + 1 - (j + 1)) - q) 1#32
      rw [ih _ _ (by simpa using hj), show l.length + 1 - (j + 1) = l.length - j by omega]
/-- A register's octets, the lowest first. -/
def low (t : R) : List (BitVec 8) := [t.setWidth 8, (t >>> 8).setWidth 8, (t >>> 16).setWidth 8, (t >>> 24).setWidth 8]
theorem part_shl (t : R) (n : Nat) (hn : n ≤ 24) : ((t >>> n).setWidth 8).setWidth 32 <<< n >>> n = ((t >>> n).setWidth 8).setWidth 32 := by
  apply BitVec.eq_of_getLsbD_eq
  intro i hi
  simp only [BitVec.getLsbD_ushiftRight, BitVec.getLsbD_shiftLeft, BitVec.getLsbD_setWidth]
  by_cases h8 : i < 8
  · rw [show n + i - n = i by omega]
    have : n + i < 32 := by omega
    simp [h8, this, hi]
  · rw [show n + i - n = i by omega]
    simp [h8]
theorem low_join (t : R) : (t.setWidth 8).setWidth 32 ^^^ ((t >>> 8).setWidth 8).setWidth 32 <<< 8 ^^^ ((t >>> 16).setWidth 8).setWidth 32 <<< 16 ^^^ ((t >>> 24).setWidth 8).setWidth 32 <<< 24 = t := by
  apply BitVec.eq_of_getLsbD_eq
  intro i hi
  simp only [BitVec.getLsbD_xor, BitVec.getLsbD_shiftLeft, BitVec.getLsbD_setWidth, BitVec.getLsbD_ushiftRight]
  by_cases h1 : i < 8
  · simp [h1, hi, show i < 16 by omega, show i < 24 by omega]
  · by_cases h2 : i < 16
    · simp [h1, h2, hi, show i < 24 by omega, show i - 8 < 8 by omega, show 8 + (i - 8) = i by omega, show i - 8 < 32 by omega]
    · by_cases h3 : i < 24
      · simp [h1, h2, h3, hi, show ¬ i - 8 < 8 by omega, show i - 16 < 8 by omega, show 16 + (i - 16) = i by omega, show i - 16 < 32 by omega]
      · simp [h1, h2, h3, hi, show ¬ i - 8 < 8 by omega, show ¬ i - 16 < 8 by omega, show i - 24 < 8 by omega, show 24 + (i - 24) = i by omega, show i - 24 < 32 by omega]
theorem run_low (s t : R) : run s (low t) = bs 32 (s ^^^ t) := by
  have key : ∀ (n : Nat) (c : R), n ≤ 24 → step (bs n c) ((t >>> n).setWidth 8) = bs (n + 8) (c ^^^ ((t >>> n).setWidth 8).setWidth 32 <<< n) := by
    intro n c hn
    unfold step
    rw [bs_add, bs_xor n, bs_shl _ _ (part_shl t n hn)]
  have h0 := key 0 s (by omega)
  have e0 : t >>> 0 = t := by simp
  have s0 : ∀ x : R, x <<< 0 = x := by intro x; simp
  rw [e0, s0] at h0
  have h1 : step s (t.setWidth 8) = bs 8 (s ^^^ (t.setWidth 8).setWidth 32) := by rw [← h0]; rfl
  have h2 := key 8 (s ^^^ (t.setWidth 8).setWidth 32) (by omega)
  have h3 := key 16 (s ^^^ (t.setWidth 8).setWidth 32 ^^^ ((t >>> 8).setWidth 8).setWidth 32 <<< 8) (by omega)
  have h4 := key 24 (s ^^^ (t.setWidth 8).setWidth 32 ^^^ ((t >>> 8).setWidth 8).setWidth 32 <<< 8 ^^^ ((t >>> 16).setWidth 8).setWidth 32 <<< 16) (by omega)
  have hj := low_join t
  simp only [run, low, List.foldl_cons, List.foldl_nil]
  rw [h1, h2, h3, h4]
  generalize (t.setWidth 8).setWidth 32 = x0 at *
  generalize ((t >>> 8).setWidth 8).setWidth 32 <<< 8 = x1 at *
  generalize ((t >>> 16).setWidth 8).setWidth 32 <<< 16 = x2 at *
  generalize ((t >>> 24).setWidth 8).setWidth 32 <<< 24 = x3 at *
  subst hj
  congr 1
  ac_rfl
def sum (c : R) (l : List (BitVec 8)) : R := ~~~ run (~~~ c) l
def rest : R := bs 32 0xffffffff#32
theorem run_sealed (l : List (BitVec 8)) (t : R) : run 0xffffffff#32 (l ++ low t) = rest ↔ t = sum 0 l := by
  rw [run_append, run_low]
  unfold rest sum
  have e : (~~~ (0 : R)) = 0xffffffff#32 := by decide
  rw [e]
  constructor
  · intro h
    have := bs_inj 32 _ _ h
    have h2 := congrArg (fun z => run 0xffffffff#32 l ^^^ z) this
    simp only [← BitVec.xor_assoc, BitVec.xor_self, BitVec.zero_xor] at h2
    rw [h2]
    apply BitVec.eq_of_getLsbD_eq
    intro i hi
    have : (0xffffffff#32).getLsbD i = true := by
      rw [show (0xffffffff#32) = BitVec.allOnes 32 by decide, BitVec.getLsbD_allOnes]; simp [hi]
    simp only [BitVec.getLsbD_xor, BitVec.getLsbD_not, hi, this]; simp
  · rintro rfl
    congr 1
    apply BitVec.eq_of_getLsbD_eq
    intro i hi
    have : (0xffffffff#32).getLsbD i = true := by
      rw [show (0xffffffff#32) = BitVec.allOnes 32 by decide, BitVec.getLsbD_allOnes]; simp [hi]
    simp only [BitVec.getLsbD_xor, BitVec.getLsbD_not, hi, this]; simp
theorem sum_sealed (l : List (BitVec 8)) : sum 0 (l ++ low (sum 0 l)) = ~~~ rest := by
  have := (run_sealed l (sum 0 l)).2 rfl
  generalize sum 0 l = z at *
  unfold sum
  rw [show (~~~ (0 : R)) = 0xffffffff#32 by decide, this]
theorem rest_is : ~~~ rest = 0x2144df1c#32 := by decide
theorem sum_append (c : R) (a b : List (BitVec 8)) : sum c (a ++ b) = sum (sum c a) b := by
  unfold sum
  rw [run_append, BitVec.not_not]
theorem sum_nil (c : R) : sum c [] = c := by simp [sum, run]
theorem sum_three (a b c : List (BitVec 8)) (h1 : a.length = b.length) (h2 : b.length = c.length) :
    sum 0 (mix (mix a b) c) = sum 0 a ^^^ sum 0 b ^^^ sum 0 c := by
  unfold sum
  have hl : (mix a b).length = c.length := by simp [mix]; omega
  have e : (~~~ (0 : R)) = (~~~ (0 : R) ^^^ ~~~ (0 : R)) ^^^ ~~~ (0 : R) := by decide
  have : run (~~~ (0 : R)) (mix (mix a b) c) = run (~~~ (0 : R)) a ^^^ run (~~~ (0 : R)) b ^^^ run (~~~ (0 : R)) c := by
    conv => lhs; rw [e]
    rw [run_mix _ _ hl, run_mix _ _ h1]
  rw [this]
  apply BitVec.eq_of_getLsbD_eq
  intro i hi
  simp only [BitVec.getLsbD_xor, BitVec.getLsbD_not, hi]
  cases (run (~~~ (0 : R)) a).getLsbD i <;> cases (run (~~~ (0 : R)) b).getLsbD i <;> cases (run (~~~ (0 : R)) c).getLsbD i <;> rfl
end CrcMath

open CrcMath
def reg (c : Int) : R := BitVec.ofInt 32 c
def oct (x : Int) : BitVec 8 := BitVec.ofInt 8 x
def num (r : R) : Int := (r.toNat : Int)
theorem num_range (r : R) : 0 ≤ num r ∧ num r ≤ 4294967295 := by unfold num; have := r.isLt; omega
theorem reg_num (r : R) : reg (num r) = r := by
  unfold reg num
  rw [BitVec.ofInt_natCast]
  simp
theorem num_reg (c : Int) (h0 : 0 ≤ c) (h1 : c ≤ 4294967295) : num (reg c) = c := by
  obtain ⟨n, rfl⟩ := Int.eq_ofNat_of_zero_le h0
  unfold reg num
  rw [BitVec.ofInt_natCast, BitVec.toNat_ofNat, Nat.mod_eq_of_lt (by omega)]
theorem xor_u32 (a b : Int) : Go.bits .xor .u32 a b = num (reg a ^^^ reg b) := by
  show IntKind.u32.wrap _ = _
  rw [IntKind.wrap_u32]
  have := (reg a ^^^ reg b).isLt
  show ((reg a ^^^ reg b).toNat : Int) % 4294967296 = ((reg a ^^^ reg b).toNat : Int)
  omega
theorem and_u32 (a b : Int) : Go.bits .and .u32 a b = num (reg a &&& reg b) := by
  show IntKind.u32.wrap _ = _
  rw [IntKind.wrap_u32]
  have := (reg a &&& reg b).isLt
  show ((reg a &&& reg b).toNat : Int) % 4294967296 = ((reg a &&& reg b).toNat : Int)
  omega
theorem reg_half (r : R) (n : Nat) : reg (num r / (2 ^ n : Nat)) = r >>> n := by
  unfold reg num
  rw [← Int.natCast_ediv, BitVec.ofInt_natCast]
  apply BitVec.eq_of_toNat_eq
  rw [BitVec.toNat_ofNat, BitVec.toNat_ushiftRight, Nat.shiftRight_eq_div_pow]
  exact Nat.mod_eq_of_lt (Nat.lt_of_le_of_lt (Nat.div_le_self _ _) r.isLt)
theorem nstep_is (r : R) : nstep (num r) = num (b1 r) := by
  unfold nstep b1
  rw [xor_u32, and_u32, and_u32, reg_num, reg_num, show num r / 2 = num r / (2 ^ 1 : Nat) by rfl, reg_half]
  congr 2
  by_cases h : r.getLsbD 0 = true
  · have e : r &&& reg 1 = 1#32 := by
      apply BitVec.eq_of_getLsbD_eq
      intro i hi
      rw [BitVec.getLsbD_and, show reg 1 = 1#32 by decide, BitVec.getLsbD_one]
      by_cases h0 : i = 0
      · subst h0; rw [h]; simp
      · simp [h0]
    rw [e, if_pos h]
    decide
  · have h' : r.getLsbD 0 = false := by simpa using h
    have e : r &&& reg 1 = 0#32 := by
      apply BitVec.eq_of_getLsbD_eq
      intro i hi
      rw [BitVec.getLsbD_and, show reg 1 = 1#32 by decide, BitVec.getLsbD_one]
      by_cases h0 : i = 0
      · subst h0; rw [h']; simp
      · simp [h0]
    rw [e, if_neg h]
    decide
theorem bs_out (n : Nat) (r : R) : bs (n + 1) r = b1 (bs n r) := by
  rw [bs_add]; rfl
theorem nibT_is (n : Nat) (r : R) : nibT n (num r) = num (bs n r) := by
  induction n with
  | zero => rfl
  | succ n ih => rw [nibT, ih, nstep_is, bs_out]
theorem hstep_is (r : R) : hstep (num r) = num (bs 4 r) := by
  unfold hstep
  rw [xor_u32, and_u32, reg_num, nibT_is, reg_num, show num r / 16 = num r / (2 ^ 4 : Nat) by rfl, reg_half, show reg 15 = 15#32 by decide, ← bs4]
theorem rstep_is (r : R) (x : Int) (h0 : 0 ≤ x) (h1 : x ≤ 255) : rstep (num r) x = num (CrcMath.step r (oct x)) := by
  unfold rstep CrcMath.step
  rw [xor_u32, reg_num, hstep_is, hstep_is, ← bs_add]
  congr 3
  unfold reg oct
  obtain ⟨n, rfl⟩ := Int.eq_ofNat_of_zero_le h0
  rw [Int.emod_eq_of_lt h0 (by omega), BitVec.ofInt_natCast, BitVec.ofInt_natCast]
  apply BitVec.eq_of_toNat_eq
  simp only [BitVec.toNat_ofNat, BitVec.toNat_setWidth]
  omega
theorem crcI_is (l : List Int) (hl : Oct l) (r : R) : crcI (num r) l = num (run r (l.map oct)) := by
  unfold crcI run
  induction l generalizing r with
  | nil => rfl
  | cons x l ih =>
    rw [List.foldl_cons, List.map_cons, List.foldl_cons, rstep_is r x (hl x (by simp)).1 (hl x (by simp)).2]
    exact ih (fun y hy => hl y (by simp [hy])) _
/-- The sum of octets, as a number. -/
def sumI (c : Int) (l : List Int) : Int := num (sum (reg c) (l.map oct))
theorem xor_ones (r : R) : reg 4294967295 ^^^ r = ~~~ r := by
  apply BitVec.eq_of_getLsbD_eq
  intro i hi
  rw [BitVec.getLsbD_xor, BitVec.getLsbD_not, show reg 4294967295 = BitVec.allOnes 32 by decide, BitVec.getLsbD_allOnes]
  simp [hi]
theorem extend_is (c : Int) (l : List Int) (hl : Oct l) : crc_Extend.f c l = some (sumI c l) := by
  unfold crc_Extend.f sumI sum
  rw [xor_u32, xor_u32, crcI_is _ hl, reg_num, xor_ones, xor_ones]
theorem sum_is (l : List Int) (hl : Oct l) : crc_Sum.f l = some (sumI 0 l) := by
  unfold crc_Sum.f
  rw [extend_is 0 l hl]
  rfl
theorem sumI_range (c : Int) (l : List Int) : 0 ≤ sumI c l ∧ sumI c l ≤ 4294967295 := num_range _
theorem sumI_append (c : Int) (a b : List Int) : sumI c (a ++ b) = sumI (sumI c a) b := by
  unfold sumI
  rw [List.map_append, sum_append, reg_num]
theorem sumI_nil (c : Int) (h0 : 0 ≤ c) (h1 : c ≤ 4294967295) : sumI c [] = c := by
  unfold sumI
  rw [List.map_nil, sum_nil, num_reg c h0 h1]

theorem xor_u8 (a b : Int) : Go.bits .xor .u8 a b = ((oct a ^^^ oct b).toNat : Int) := by
  show IntKind.u8.wrap _ = _
  rw [IntKind.wrap_u8]
  have := (oct a ^^^ oct b).isLt
  show ((oct a ^^^ oct b).toNat : Int) % 256 = ((oct a ^^^ oct b).toNat : Int)
  omega
theorem xor_u8_range (a b : Int) : 0 ≤ Go.bits .xor .u8 a b ∧ Go.bits .xor .u8 a b ≤ 255 := by
  rw [xor_u8]
  have := (oct a ^^^ oct b).isLt
  omega
theorem oct_xor (a b : Int) : oct (Go.bits .xor .u8 a b) = oct a ^^^ oct b := by
  rw [xor_u8]
  show BitVec.ofInt 8 _ = _
  rw [BitVec.ofInt_natCast]
  simp

theorem crcS_run (l : List Int) (hl : Oct l) : crcS l = num (reg 4294967295 ^^^ run (reg 4294967295 ^^^ reg 0) (l.map oct)) := by
  unfold crcS
  rw [xor_u32, xor_u32, crcI_is _ hl, reg_num]
theorem run_set (l : List (BitVec 8)) (c : R) (j : Nat) (y : BitVec 8) (hj : j < l.length) (h : run c (l.set j y) = run c l) : y = l[j] := by
  have e1 : l.set j y = l.take j ++ y :: l.drop (j + 1) := by rw [List.set_eq_take_append_cons_drop, if_pos hj]
  have e2 : l = l.take j ++ l[j] :: l.drop (j + 1) := by rw [← List.drop_eq_getElem_cons hj, List.take_append_drop]
  have e3 : run c l = run c (l.take j ++ l[j] :: l.drop (j + 1)) := congrArg (run c) e2
  rw [e1, e3, run_append, run_append] at h
  have h1 : run (CrcMath.step (run c (l.take j)) y) (l.drop (j + 1)) = run (CrcMath.step (run c (l.take j)) l[j]) (l.drop (j + 1)) := h
  have h2 := bs_inj 8 _ _ (run_inj _ _ _ h1)
  have h3 : y.setWidth 32 = (l[j]).setWidth 32 := by
    have h4 := congrArg (fun z => run c (l.take j) ^^^ z) h2
    simp only [← BitVec.xor_assoc, BitVec.xor_self, BitVec.zero_xor] at h4
    exact h4
  have h4 := congrArg BitVec.toNat h3
  rw [BitVec.toNat_setWidth, BitVec.toNat_setWidth] at h4
  have := y.isLt
  have := (l[j]).isLt
  apply BitVec.eq_of_toNat_eq
  omega
theorem crcS_set (l : List Int) (hl : Oct l) (j : Nat) (hj : j < l.length) (y : Int) (hy : 0 ≤ y ∧ y ≤ 255) (h : crcS (l.set j y) = crcS l) : oct y = oct l[j] := by
  have ho : Oct (l.set j y) := by
    intro x hx
    rcases List.mem_or_eq_of_mem_set hx with h | rfl
    · exact hl x h
    · exact hy
  rw [crcS_run _ ho, crcS_run _ hl] at h
  have h1 := congrArg reg h
  rw [reg_num, reg_num] at h1
  have h2 := congrArg (fun z => reg 4294967295 ^^^ z) h1
  simp only [← BitVec.xor_assoc, BitVec.xor_self, BitVec.zero_xor] at h2
  rw [List.map_set] at h2
  have h3 := run_set (l.map oct) _ j (oct y) (by rw [List.length_map]; exact hj) h2
  rw [List.getElem_map] at h3
  exact h3
theorem oct_zero (x : Int) (h0 : 0 ≤ x) (h1 : x ≤ 255) (h : oct x = 0#8) : x = 0 := by
  have h2 := congrArg BitVec.toNat h
  unfold oct at h2
  rw [BitVec.toNat_ofInt] at h2
  have e : ((2 ^ 8 : Nat) : Int) = 256 := rfl
  rw [e] at h2
  have h3 : (0#8 : BitVec 8).toNat = 0 := rfl
  rw [h3] at h2
  omega
theorem turn_ne (a t : Int) (ht : 0 ≤ t ∧ t ≤ 255) (h0 : t ≠ 0) : oct (Go.bits .xor .u8 a t) ≠ oct a := by
  rw [oct_xor]
  intro h
  have h2 := congrArg (fun z => oct a ^^^ z) h
  simp only [← BitVec.xor_assoc, BitVec.xor_self, BitVec.zero_xor] at h2
  exact h0 (oct_zero t ht.1 ht.2 h2)
theorem set_take (l : List Int) (j m : Nat) (y : Int) (h : j < m) : (l.set j y).take m = (l.take m).set j y := List.take_set
/-- A sealed segment with an octet turned: its sum is not its own. -/
theorem turned (b : List Int) (n : Int) (l : List S43) (hb : b = sealI n l) (hc : checkI n l = 0) (ho : ∀ x ∈ l, Oct x.f2) (j : Nat) (hj : j < 384) (t : Int) (ht : 0 ≤ t ∧ t ≤ 255) (h0 : t ≠ 0) :
    segment_Open.f (b.set j (Go.bits .xor .u8 (rd b (j : Int)) t)) = some (0, [], 21) := by
  obtain ⟨k, hh⟩ := sealI_holds n l hc
  have hob := sealI_oct n l ho
  rw [← hb] at hh hob
  have hlen := hh.all
  have hr := crcS_range (b.take 380)
  have hg : getI ((b.drop 380).take 4) = crcS (b.take 380) := by
    rw [hh.last]
    exact getI_octI 4 _ hr.1 (by rw [pow4_]; omega) (by omega)
  have hne := turn_ne (rd b (j : Int)) t ht h0
  have hy := xor_u8_range (rd b (j : Int)) t
  generalize Go.bits .xor .u8 (rd b (j : Int)) t = y at hne hy ⊢
  rw [rd_nat b j (by omega)] at hne
  have hos : Oct (b.set j y) := by
    intro x hx
    rcases List.mem_or_eq_of_mem_set hx with h | rfl
    · exact hob x h
    · exact hy
  have hsum := crcS_range ((b.set j y).take 380)
  rw [open_full _ hos, if_pos (by rw [List.length_set]; exact hlen)]
  unfold openSeg
  rw [w_id (x := crcS ((b.set j y).take 380)) (by omega) (by omega)]
  have key : ¬ getI (((b.set j y).drop 380).take 4) = crcS ((b.set j y).take 380) := by
    by_cases hlt : j < 380
    · have e1 : (b.set j y).drop 380 = b.drop 380 := List.drop_set_of_lt hlt
      rw [e1, hg, set_take b j 380 y hlt]
      intro h
      have hl : (b.take 380).length = 380 := by rw [List.length_take]; omega
      have h2 := crcS_set (b.take 380) (hob.take 380) j (by omega) y hy h.symm
      rw [List.getElem_take] at h2
      exact hne h2
    · have e1 : (b.set j y).take 380 = b.take 380 := List.take_set_of_le (by omega)
      rw [e1]
      intro h
      have hq : Oct (((b.set j y).drop 380).take 4) := (hos.drop _).take _
      have hq4 : (((b.set j y).drop 380).take 4).length = 4 := by rw [List.length_take, List.length_drop, List.length_set]; omega
      have hp : Oct ((b.drop 380).take 4) := (hob.drop _).take _
      have hp4 : ((b.drop 380).take 4).length = 4 := by rw [List.length_take, List.length_drop]; omega
      rw [← hg, getI_small _ hq hq4, getI_small _ hp hp4] at h
      have h2 : ((b.set j y).drop 380).take 4 = (b.drop 380).take 4 := by rw [← octI_num 4 _ hq hq4, ← octI_num 4 _ hp hp4, h]
      have h3 := congrArg (fun z => z[j - 380]?) h2
      simp only [List.getElem?_take, List.getElem?_drop, show 380 + (j - 380) = j by omega] at h3
      rw [if_pos (by omega), if_pos (by omega), List.getElem?_set_self (by omega), List.getElem?_eq_getElem (by omega)] at h3
      exact hne (congrArg oct (Option.some.inj h3))
  rw [if_neg key]

theorem place_is (x : Int) : ∃ j : Nat, j < 384 ∧ Int.tmod (wrap64 ((Int.tmod x 384) + 384)) 384 = (j : Int) := by
  have h1 := Int.tmod_lt_of_pos x (show (0 : Int) < 384 by decide)
  have h2 : -384 < Int.tmod x 384 := Int.lt_tmod_of_pos x (by decide)
  generalize Int.tmod x 384 = y at h1 h2
  rw [w_id (by omega) (by omega), Int.tmod_eq_emod_of_nonneg (by omega)]
  have h3 := Int.emod_nonneg (y + 384) (show (384 : Int) ≠ 0 by decide)
  have h4 := Int.emod_lt_of_pos (y + 384) (show (0 : Int) < 384 by decide)
  exact ⟨((y + 384) % 384).toNat, by omega, by omega⟩
theorem SegmentRot (l0 : S24) (l1 : Int) (l2 : Int) (h0 : ok24 l0) (h1 : (Lit.int .i64 l1).wf = true) (h2 : (Lit.int .u8 l2).wf = true) : ∃ k, undercroftlaw13_SegmentRot.f k l0.f0 l0.f1 l1 l2 = some true := by
  refine ⟨l0.f1.length + 1000 + 1, ?_⟩
  have hof := of_is (l0.f1.length + 1000 + 1) l0.f0 l0.f1 (by omega) h0.2.1 (fun x hx => (h0.2.2.2 x hx).2.2.1)
  have hoct : ∀ x ∈ l0.f1.map toB, Oct x.f2 := by
    intro x hx
    obtain ⟨y, hy, rfl⟩ := List.mem_map.1 hx
    exact Oct.of_wf (h0.2.2.2 y hy).2.2.2.2
  have ha := alive_is (l0.f1.length + 1000 + 1) (by omega)
  have hs := seal_is (l0.f1.length + 1000 + 1) l0.f0 (l0.f1.map toB) (by omega)
  have ht := wf_u8 h2
  unfold undercroftlaw13_SegmentRot.f
  rw [ha, Option.bind_some, if_pos rfl, hof, Option.bind_some, hs, Option.bind_some]
  rcases check_or l0.f0 (l0.f1.map toB) with hc | hc
  · rw [if_pos hc]
    unfold undercroftlaw13_num.f
    rw [Option.bind_some, if_pos rfl]
    by_cases hz : l2 = 0
    · subst hz
      simp only [undercroftlaw13_SegmentRot.j0, undercroftlaw13_num.f, Option.bind_some]
      rfl
    · have hb : (l2 == 0) = false := beq_eq_false_iff_ne.2 hz
      obtain ⟨j, hj, hje⟩ := place_is l1
      have hlen : (sealI l0.f0 (l0.f1.map toB)).length = 384 := by
        obtain ⟨k, hh⟩ := sealI_holds l0.f0 (l0.f1.map toB) hc
        exact hh.all
      have hop := turned (sealI l0.f0 (l0.f1.map toB)) l0.f0 (l0.f1.map toB) rfl hc hoct j hj l2 ht hz
      generalize sealI l0.f0 (l0.f1.map toB) = b at hlen hop
      simp only [undercroftlaw13_SegmentRot.j0, undercroftlaw13_num.f, hb, hje, Int.toNat_natCast, hop]
      rw [if_neg (by decide), if_pos (by omega), if_pos (by omega)]
      rfl
  · have hc0 : ¬ checkI l0.f0 (l0.f1.map toB) = 0 := by rw [hc]; decide
    rw [if_neg hc0]
    unfold undercroftlaw13_num.f
    rw [Option.bind_some, if_neg (show ¬ (([] : List Int), (9 : Int)).2 = 0 by decide)]
    rfl

end Go.Proofs.YtokjiinlhghggaaDoor.Pure
