/- Any segment as octets, any octets read as one, and its owners, are as the page says; what is handed in stays: for every segment and all octets, no condition beyond the form's reach. -/
import Derived.Test.YtokjiinlhghggaaDoorPTelx
import Derived.Test.YtokjiinlhghggaaDoorInSegmentTells
import Derived.Lib.Bytes
namespace Go.Proofs.YtokjiinlhghggaaDoor.Pure
open Go.RowKit Go.Proofs.YtokjiinlhghggaaDoor.PTel Go.Proofs.YtokjiinlhghggaaDoorW.PrintWords Go.Proofs.YtokjiinlhghggaaDoorW.PrintLast Go.Proofs.YtokjiinlhghggaaDoorW.PrintMore
set_option linter.unusedVariables false
set_option linter.unusedSimpArgs false

theorem w_id {x : Int} (h0 : -9223372036854775808 ≤ x) (h1 : x ≤ 9223372036854775807) : wrap64 x = x := by unfold wrap64; omega
theorem wf_u8 {a : Int} (h : (Lit.int .u8 a).wf = true) : 0 ≤ a ∧ a ≤ 255 := by
  simpa [Lit.wf, IntKind.min, IntKind.max, IntKind.signed, IntKind.bits] using h
/-- All are octets. -/
def Oct (l : List Int) : Prop := ∀ x ∈ l, 0 ≤ x ∧ x ≤ 255
theorem Oct.of_wf {l : List Int} (h : ∀ x ∈ l, (Lit.int .u8 x).wf = true) : Oct l := fun x hx => wf_u8 (h x hx)
theorem Oct.nil : Oct [] := fun _ h => by cases h
theorem Oct.append {a b : List Int} (ha : Oct a) (hb : Oct b) : Oct (a ++ b) := fun x hx => (List.mem_append.1 hx).elim (ha x) (hb x)
theorem Oct.take {a : List Int} (ha : Oct a) (n : Nat) : Oct (a.take n) := fun x hx => ha x (List.mem_of_mem_take hx)
theorem Oct.drop {a : List Int} (ha : Oct a) (n : Nat) : Oct (a.drop n) := fun x hx => ha x (List.mem_of_mem_drop hx)
theorem rd_nat (l : List Int) (k : Nat) (h : k < l.length) : rd l (k : Int) = l[k] := by
  unfold rd
  simp [List.getD_eq_getElem?_getD, h]

theorem sameBytes_loop (a b : List Int) (hl : a.length = b.length) (hm : a.length ≤ 9223372036854775807) : ∀ (d k i : Nat), i + d = a.length → d < k → a.take i = b.take i →
    undercroftplain_SameBytes.l0 k a b (i : Int) = some (decide (a = b)) := by
  intro d
  induction d with
  | zero =>
    intro k i hi hk ht
    obtain ⟨k, rfl⟩ : ∃ m, k = m + 1 := ⟨k - 1, by omega⟩
    simp only [undercroftplain_SameBytes.l0]
    rw [if_neg (by omega)]
    have : a = b := by
      rw [List.take_of_length_le (by omega), List.take_of_length_le (by omega)] at ht
      exact ht
    rw [decide_eq_true this]
  | succ d ih =>
    intro k i hi hk ht
    obtain ⟨k, rfl⟩ : ∃ m, k = m + 1 := ⟨k - 1, by omega⟩
    simp only [undercroftplain_SameBytes.l0]
    rw [if_pos (by omega), if_pos (by omega), if_pos (by omega), rd_nat a i (by omega), rd_nat b i (by omega)]
    by_cases h : a[i]'(by omega) = b[i]'(by omega)
    · rw [if_pos h, w_id (by omega) (by omega)]
      have := ih k (i + 1) (by omega) (by omega) (by
        rw [List.take_succ_eq_append_getElem (by omega), List.take_succ_eq_append_getElem (by omega), ht, h])
      exact_mod_cast this
    · rw [if_neg h]
      have : a ≠ b := by
        rintro rfl
        exact h rfl
      rw [decide_eq_false this]
theorem sameBytes_is (a b : List Int) (k : Nat) (hk : a.length < k) (hm : a.length ≤ 9223372036854775807) : undercroftplain_SameBytes.f k a b = some (decide (a = b)) := by
  unfold undercroftplain_SameBytes.f
  by_cases hl : a.length = b.length
  · rw [if_pos (by omega)]
    exact sameBytes_loop a b hl hm a.length k 0 (by omega) hk rfl
  · rw [if_neg (by omega)]
    have : a ≠ b := by
      rintro rfl
      exact hl rfl
    rw [decide_eq_false this]

theorem copyBytes_is (a : List Int) (h : a.length < 140737488355328) : undercroftplain_CopyBytes.f a = some a := by
  unfold undercroftplain_CopyBytes.f
  rw [if_pos (by simpa using h)]
  simp

theorem tz_split : ∀ (l : List Int), ∃ z, l = List.replicate z 0 ++ tz l
  | [] => ⟨0, rfl⟩
  | x :: r => by
    obtain ⟨z, hz⟩ := tz_split r
    unfold tz
    split
    · rename_i h
      refine ⟨z + 1, ?_⟩
      rw [List.replicate_succ, List.cons_append, ← hz, h]
    · exact ⟨0, by simp⟩
theorem numI_rep : ∀ (z : Nat) (l : List Int), numI (List.replicate z 0 ++ l) = numI l
  | 0, l => by simp
  | z + 1, l => by
    rw [List.replicate_succ, List.cons_append]
    show (List.replicate z 0 ++ l).foldl (fun n x => n * 256 + x) (0 * 256 + 0) = _
    exact numI_rep z l
theorem octs_of' {l : List Int} (h : Oct l) : octs l = true := List.all_eq_true.2 (fun x hx => by have := h x hx; simp; omega)
theorem num_take (l : List Int) (h : Oct l) (h8 : (tz l).length ≤ 8) (i : Nat) (hi : i < l.length) : 0 ≤ numI (l.take i) ∧ numI (l.take i) < 72057594037927936 := by
  obtain ⟨z, hz⟩ := tz_split l
  have hlen : l.length = z + (tz l).length := by conv => lhs; rw [hz]
                                                 simp
  by_cases hiz : i ≤ z
  · have e : l.take i = List.replicate i 0 ++ [] := by
      rw [hz, List.take_append_of_le_length (by simpa using hiz), List.take_replicate, Nat.min_eq_left hiz, List.append_nil]
    rw [e, numI_rep]
    exact ⟨by decide, by decide⟩
  · have e : l.take i = List.replicate z 0 ++ (tz l).take (i - z) := by
      conv => lhs; rw [hz]
      rw [List.take_append, List.take_of_length_le (by simp; omega), List.length_replicate]
    rw [e, numI_rep]
    have hl : ((tz l).take (i - z)).length = i - z := by rw [List.length_take]; omega
    have ho : octs ((tz l).take (i - z)) = true := List.all_eq_true.2 (fun x hx => List.all_eq_true.1 (octs_tz (octs_of' h)) x (List.mem_of_mem_take hx))
    have hb := numI_bound (i - z) _ hl ho
    exact ⟨hb.1, Int.lt_of_lt_of_le hb.2 (pow7 (by omega))⟩

theorem equal_is (a b : List Int) (ha : Oct a) (hb : Oct b) : bytes_Equal.f a b = some (decide (a = b)) := by
  unfold bytes_Equal.f
  rw [Lib.strOfNums_toList, Lib.strOfNums_toList]
  congr 1
  by_cases h : a = b
  · subst h; simp
  · rw [decide_eq_false h]
    apply beq_eq_false_iff_ne.2
    intro e
    apply h
    unfold Lib.bytesOf at e
    apply List.ext_getElem
    · have := congrArg List.length e
      simpa using this
    · intro i h1 h2
      have := congrArg (fun l => l[i]?) e
      simp only [List.getElem?_map, List.getElem?_eq_getElem h1, List.getElem?_eq_getElem h2, Option.map_some, Option.some.injEq] at this
      have p := ha _ (List.getElem_mem h1)
      have q := hb _ (List.getElem_mem h2)
      have e2 := congrArg UInt8.toNat this
      simp only [UInt8.toNat_ofNat'] at e2
      omega

theorem octI_len (n : Int) (s : Nat) : (octI n s).length = s := by simp [octI]
theorem octI_oct (n : Int) (s : Nat) : Oct (octI n s) := by
  intro x hx
  obtain ⟨i, _, rfl⟩ := List.mem_map.1 hx
  omega
theorem div_out (n : Int) (i : Nat) : n / 256 / 256 ^ i = n / 256 ^ (i + 1) := by
  rw [Int.pow_succ, Int.mul_comm, Int.ediv_ediv_of_nonneg (by decide)]
theorem octI_snoc (n : Int) (s : Nat) : octI n (s + 1) = octI (n / 256) s ++ [n % 256] := by
  unfold octI
  rw [List.range_succ, List.map_append, List.map_singleton]
  congr 1
  · refine List.map_congr_left fun i hi => ?_
    have hi := List.mem_range.1 hi
    have e : s + 1 - 1 - i = (s - 1 - i) + 1 := by omega
    rw [e, ← div_out]
  · simp
theorem numI_snoc (l : List Int) (x : Int) : numI (l ++ [x]) = numI l * 256 + x := by
  unfold numI
  rw [List.foldl_append]
  rfl
theorem numI_octI : ∀ (s : Nat) (n : Int), 0 ≤ n → n < 256 ^ s → numI (octI n s) = n := by
  intro s
  induction s with
  | zero =>
    intro n h0 h1
    have : n = 0 := by simp at h1; omega
    subst this
    rfl
  | succ s ih =>
    intro n h0 h1
    rw [octI_snoc, numI_snoc, ih (n / 256) (by omega) (by rw [Int.pow_succ] at h1; omega)]
    omega
theorem octI_num : ∀ (s : Nat) (q : List Int), Oct q → q.length = s → octI (numI q) s = q
  | 0, q, _, h => by
    obtain rfl := List.length_eq_zero_iff.1 h
    rfl
  | s + 1, q, ho, h => by
    have hne : q ≠ [] := by rintro rfl; cases h
    obtain ⟨p, x, rfl⟩ : ∃ p x, q = p ++ [x] := ⟨q.dropLast, q.getLast hne, (List.dropLast_concat_getLast hne).symm⟩
    have hx := ho x (by simp)
    have hp := octI_num s p (fun y hy => ho y (by simp [hy])) (by simpa using h)
    rw [octI_snoc, numI_snoc, show (numI p * 256 + x) / 256 = numI p by omega, show (numI p * 256 + x) % 256 = x by omega, hp]
theorem numI_tz (l : List Int) : numI (tz l) = numI l := by
  obtain ⟨z, hz⟩ := tz_split l
  conv => rhs; rw [hz]
  exact (numI_rep z (tz l)).symm
/-- The sum of octets. -/
def crcS (l : List Int) : Int := Go.bits .xor .u32 4294967295 (crcI (Go.bits .xor .u32 4294967295 0) l)
theorem crcS_range (l : List Int) : 0 ≤ crcS l ∧ crcS l ≤ 4294967295 := by
  unfold crcS
  show 0 ≤ IntKind.u32.wrap _ ∧ IntKind.u32.wrap _ ≤ _
  rw [IntKind.wrap_u32]
  omega
theorem sumS_is (l : List Int) : crc_Sum.f l = some (crcS l) := rfl
theorem u64_id {n : Int} (h0 : 0 ≤ n) (h1 : n ≤ 9223372036854775807) : IntKind.u64.wrap n = n := by rw [IntKind.wrap_u64]; omega
theorem put_is (l : List Int) (n : Int) (s : Nat) (h0 : 0 ≤ n) (h1 : n ≤ 9223372036854775807) (hs : s ≤ 64) (hn : needI n ≤ s) (hl : l.length ≤ 1000) : segment_put.f l n (s : Int) = some (l ++ octI n s) := by
  unfold segment_put.f octets_Put.f
  rw [u64_id h0 h1, if_pos (by omega), if_neg (by omega), if_neg (by omega)]
  simp only [Option.bind_some, Int.toNat_natCast]
  rw [if_pos (by rw [octI_len]; omega)]
theorem need8 {n : Int} (h0 : 0 ≤ n) (h1 : n ≤ 9223372036854775807) : needI n ≤ 8 := by unfold needI; (repeat' split) <;> omega
theorem need4 {n : Int} (h0 : 0 ≤ n) (h1 : n ≤ 4294967295) : needI n ≤ 4 := by unfold needI; (repeat' split) <;> omega
theorem need1 {n : Int} (h0 : 0 ≤ n) (h1 : n ≤ 255) : needI n ≤ 1 := by unfold needI; (repeat' split) <;> omega
theorem put8 (l : List Int) (n : Int) (h0 : 0 ≤ n) (h1 : n ≤ 9223372036854775807) (hl : l.length ≤ 1000) : segment_put.f l n 8 = some (l ++ octI n 8) := put_is l n 8 h0 h1 (by omega) (need8 h0 h1) hl
theorem put4 (l : List Int) (n : Int) (h0 : 0 ≤ n) (h1 : n ≤ 4294967295) (hl : l.length ≤ 1000) : segment_put.f l n 4 = some (l ++ octI n 4) := put_is l n 4 h0 (by omega) (by omega) (need4 h0 h1) hl
theorem put1 (l : List Int) (n : Int) (h0 : 0 ≤ n) (h1 : n ≤ 255) (hl : l.length ≤ 1000) : segment_put.f l n 1 = some (l ++ octI n 1) := put_is l n 1 h0 (by omega) (by omega) (need1 h0 h1) hl
/-- The head of a block. -/
def headI (x : S43) : List Int := octI x.f0 4 ++ (octI x.f1 1 ++ octI (x.f2.length : Int) 1)
theorem headI_len (x : S43) : (headI x).length = 6 := by simp [headI, octI_len]
def heads (l : List S43) : List Int := l.flatMap headI
def datas (l : List S43) : List Int := l.flatMap (·.f2)
theorem heads_len : ∀ l : List S43, (heads l).length = 6 * l.length
  | [] => rfl
  | x :: r => by
    have := heads_len r
    unfold heads at this ⊢
    rw [List.flatMap_cons, List.length_append, headI_len, this, List.length_cons]
    omega
/-- What is sealed, ahead of its sum. -/
def plainI (n : Int) (l : List S43) : List Int := padI ([115, 101, 103, 49] ++ octI n 8 ++ octI (l.length : Int) 1 ++ heads l ++ datas l)
def sealI (n : Int) (l : List S43) : List Int := plainI n l ++ octI (crcS (plainI n l)) 4
def okB (x : S43) : Prop := 1 ≤ x.f0 ∧ x.f0 ≤ 2147483647 ∧ 0 ≤ x.f1 ∧ x.f1 ≤ 255 ∧ x.f2.length ≤ 32
theorem bad_iff (x : S43) : ¬ x.bad = true ↔ okB x := by
  unfold S43.bad okB
  simp only [Bool.not_eq_true', Bool.and_eq_false_iff, decide_eq_false_iff_not]
  omega
theorem any_iff (l : List S43) : l.any S43.bad = false ↔ ∀ x ∈ l, okB x := by
  rw [List.any_eq_false]
  exact ⟨fun h x hx => (bad_iff x).1 (h x hx), fun h x hx => (bad_iff x).2 (h x hx)⟩
theorem check_iff (n : Int) (l : List S43) : checkI n l = 0 ↔ (1 ≤ n ∧ n ≤ 1099511627776 ∧ 1 ≤ l.length ∧ l.length ≤ 8 ∧ ∀ x ∈ l, okB x) := by
  rw [← any_iff]
  unfold checkI
  constructor
  · intro h
    by_cases hc : 1 ≤ n ∧ n ≤ 1099511627776 ∧ 1 ≤ l.length ∧ l.length ≤ 8 ∧ l.any S43.bad = false
    · exact hc
    · rw [if_neg hc] at h; cases h
  · intro h
    rw [if_pos h]
theorem check_or (n : Int) (l : List S43) : checkI n l = 0 ∨ checkI n l = 9 := by
  unfold checkI
  split
  · exact .inl rfl
  · exact .inr rfl
theorem datas_len : ∀ l : List S43, (∀ x ∈ l, okB x) → (datas l).length ≤ 32 * l.length
  | [], _ => Nat.le_refl _
  | x :: r, h => by
    have := datas_len r (fun y hy => h y (by simp [hy]))
    have hx := (h x (by simp)).2.2.2.2
    unfold datas at this ⊢
    rw [List.flatMap_cons, List.length_append, List.length_cons]
    omega
theorem padI_len (l : List Int) (h : l.length ≤ 380) : (padI l).length = 380 := by
  unfold padI
  rw [List.length_append, List.length_replicate]
  omega
theorem rdB_nat (l : List S43) (i : Nat) (h : i < l.length) : rd_T43 l (i : Int) = l[i] := by
  unfold rd_T43
  simp [List.getD_eq_getElem?_getD, h]
theorem seal_fin (x : List Int) (c : Int) (hs : crc_Sum.f x = some c) (hp : segment_put.f x (wrap64 c) 4 = some (x ++ octI c 4)) :
    ((crc_Sum.f x).bind fun t138 => ((segment_put.f x (wrap64 (t138)) 4).bind fun t139 => (some (t139, (0 : Int))))) = some (x ++ octI c 4, 0) := by
  rw [hs, Option.bind_some, hp, Option.bind_some]
theorem seal_sum (x : List Int) (hpl : x.length = 380) : segment_put.f x (wrap64 (crcS x)) 4 = some (x ++ octI (crcS x) 4) := by
  have hc := crcS_range x
  generalize crcS x = c at hc ⊢
  rw [w_id (x := c) (by omega) (by omega)]
  exact put4 x c hc.1 hc.2 (by omega)
theorem seal_end (l : List S43) (k : Nat) (p q : List Int) (hp : p.length ≤ 61) (hq : q.length ≤ 256) (h0 : 0 < p.length) :
    segment_Seal.l0 (k + 1) p q l (l.length : Int) (l.length : Int) = some (padI (p ++ q) ++ octI (crcS (padI (p ++ q))) 4, 0) := by
  have hpl : (padI (p ++ q)).length = 380 := padI_len _ (by rw [List.length_append]; omega)
  have h4 := seal_sum _ hpl
  have h5 := seal_fin _ _ (sumS_is (padI (p ++ q))) h4
  have c1 : ¬ (l.length : Int) < (l.length : Int) := Int.lt_irrefl _
  have c2 : p.length + q.length < 380 ∧ 0 < p.length := ⟨by omega, h0⟩
  simp only [segment_Seal.l0]
  rw [if_neg c1, if_pos c2]
  exact h5
theorem seal_step (l : List S43) (k i : Nat) (p q : List Int) (hi : i < l.length) (h8 : l.length ≤ 8) (x : S43) (hx : rd_T43 l (i : Int) = x) (ho : okB x) (hp : p.length ≤ 100) (hq : q.length ≤ 1000) :
    segment_Seal.l0 (k + 1) p q l (l.length : Int) (i : Int) = segment_Seal.l0 k (p ++ octI x.f0 4 ++ octI x.f1 1 ++ octI (x.f2.length : Int) 1) (q ++ x.f2) l (l.length : Int) ((i + 1 : Nat) : Int) := by
  obtain ⟨o1, o2, o3, o4, o5⟩ := ho
  have h4 := put4 p x.f0 (by omega) (by omega) (by omega)
  have h1 := put1 (p ++ octI x.f0 4) x.f1 o3 o4 (by rw [List.length_append, octI_len]; omega)
  have h2 := put1 (p ++ octI x.f0 4 ++ octI x.f1 1) (x.f2.length : Int) (by omega) (by omega) (by rw [List.length_append, List.length_append, octI_len, octI_len]; omega)
  have hw : wrap64 ((i : Int) + 1) = ((i + 1 : Nat) : Int) := by rw [w_id (by omega) (by omega)]; rfl
  have c1 : (i : Int) < (l.length : Int) := by omega
  have c2 : (0 : Int) ≤ (i : Int) := by omega
  have c3 : q.length + x.f2.length < 140737488355328 := by omega
  simp only [segment_Seal.l0, hx]
  rw [if_pos c1, if_pos c2, if_pos c1, h4]
  simp only [Option.bind_some]
  rw [h1]
  simp only [Option.bind_some]
  rw [h2]
  simp only [Option.bind_some]
  rw [if_pos c3, hw]
theorem heads_cons (x : S43) (l : List S43) : heads (x :: l) = headI x ++ heads l := rfl
theorem datas_cons (x : S43) (l : List S43) : datas (x :: l) = x.f2 ++ datas l := rfl
theorem seal_loop (l : List S43) (h8 : l.length ≤ 8) (hok : ∀ x ∈ l, okB x) : ∀ (d k i : Nat) (p q : List Int), i + d = l.length → d < k → p.length + 6 * d ≤ 61 → q.length + 32 * d ≤ 256 → 0 < p.length →
    segment_Seal.l0 k p q l (l.length : Int) (i : Int) = some (padI (p ++ heads (l.drop i) ++ (q ++ datas (l.drop i))) ++ octI (crcS (padI (p ++ heads (l.drop i) ++ (q ++ datas (l.drop i))))) 4, 0) := by
  intro d
  induction d with
  | zero =>
    intro k i p q hi hk hp hq h0
    obtain ⟨k, rfl⟩ : ∃ m, k = m + 1 := ⟨k - 1, by omega⟩
    obtain rfl : i = l.length := by omega
    have e : l.drop l.length = [] := List.drop_eq_nil_of_le (Nat.le_refl _)
    rw [e, seal_end l k p q (by omega) (by omega) h0]
    simp only [heads, datas, List.flatMap_nil, List.append_nil]
  | succ d ih =>
    intro k i p q hi hk hp hq h0
    obtain ⟨k, rfl⟩ : ∃ m, k = m + 1 := ⟨k - 1, by omega⟩
    have hlt : i < l.length := by omega
    have hx := hok l[i] (List.getElem_mem hlt)
    have hr := rdB_nat l i hlt
    have e : l.drop i = l[i] :: l.drop (i + 1) := List.drop_eq_getElem_cons hlt
    rw [e]
    clear e
    generalize l[i] = x at hx hr ⊢
    have o5 := hx.2.2.2.2
    rw [seal_step l k i p q hlt h8 x hr hx (by omega) (by omega)]
    rw [ih k (i + 1) _ _ (by omega) (by omega) (by simp only [List.length_append, octI_len]; omega) (by rw [List.length_append]; omega) (by simp only [List.length_append]; omega)]
    have e2 : p ++ octI x.f0 4 ++ octI x.f1 1 ++ octI (x.f2.length : Int) 1 ++ heads (l.drop (i + 1)) ++ (q ++ x.f2 ++ datas (l.drop (i + 1))) = p ++ heads (x :: l.drop (i + 1)) ++ (q ++ datas (x :: l.drop (i + 1))) := by
      rw [heads_cons, datas_cons]
      unfold headI
      simp only [List.append_assoc]
    rw [e2]
theorem seal_is (k : Nat) (n : Int) (l : List S43) (hk : 8 < k) : segment_Seal.f k n l = some (if checkI n l = 0 then (sealI n l, 0) else ([], 9)) := by
  unfold segment_Seal.f segment_Check.f
  simp only [Option.bind_some]
  by_cases h : checkI n l = 0
  · rw [if_pos h, if_pos h]
    obtain ⟨h1, h2, h3, h4, h5⟩ := (check_iff n l).1 h
    rw [put8 _ _ (by omega) (by omega) (by simp)]
    simp only [Option.bind_some]
    rw [put1 _ _ (by omega) (by omega) (by simp [octI_len])]
    simp only [Option.bind_some]
    have := seal_loop l h4 h5 l.length k 0 ([115, 101, 103, 49] ++ octI n 8 ++ octI (l.length : Int) 1) [] (by omega) (by omega) (by simp only [List.length_append, octI_len, List.length_cons, List.length_nil]; omega) (by simp only [List.length_nil]; omega) (by simp only [List.length_append, octI_len, List.length_cons, List.length_nil]; omega)
    rw [List.drop_zero, List.nil_append] at this
    exact this
  · rw [if_neg h, if_neg h]
    rcases check_or n l with hc | hc
    · exact absurd hc h
    · rw [hc]

theorem pow4_ : (256 : Int) ^ 4 = 4294967296 := by decide
theorem pow8_ : (256 : Int) ^ 8 = 18446744073709551616 := by decide
theorem rd_at (A R : List Int) (x : Int) (i : Nat) (h : A.length = i) : rd (A ++ x :: R) (i : Int) = x := by
  subst h
  rw [rd_nat _ _ (by simp)]
  simp
theorem take_at (A R : List Int) (n : Nat) (h : A.length = n) : (A ++ R).take n = A := by rw [← h]; exact List.take_left
theorem drop_at (A R : List Int) (n : Nat) (h : A.length = n) : (A ++ R).drop n = R := by rw [← h]; exact List.drop_left
theorem octI_one (x : Int) (h0 : 0 ≤ x) (h1 : x ≤ 255) : octI x 1 = [x] := by
  show [x / 256 ^ 0 % 256] = [x]
  rw [Int.pow_zero, Int.ediv_one]
  congr 1
  omega
theorem getI_num (l : List Int) : getI l = wrap64 (mn (numI l) 4611686018427387904) := by unfold getI; rw [numI_tz]
theorem getI_octI (s : Nat) (n : Int) (h0 : 0 ≤ n) (h1 : n < 256 ^ s) (h2 : n ≤ 4611686018427387904) : getI (octI n s) = n := by
  rw [getI_num, numI_octI s n h0 h1]
  have e : mn n 4611686018427387904 = n := by unfold mn; split <;> omega
  rw [e, w_id (by omega) (by omega)]
/-- Octets that hold a number and blocks. -/
structure Holds (b : List Int) (n : Int) (l : List S43) (z c : List Int) : Prop where
  is : b = [115, 101, 103, 49] ++ (octI n 8 ++ ([(l.length : Int)] ++ (heads l ++ (datas l ++ (z ++ c)))))
  four : c.length = 4
  all : b.length = 384
theorem pre_len (n : Int) (k : Int) : ([115, 101, 103, 49] ++ (octI n 8 ++ [k]) : List Int).length = 13 := by simp [octI_len]
theorem Holds.len {b : List Int} {n : Int} {l : List S43} {z c : List Int} (h : Holds b n l z c) : 13 + 6 * l.length + (datas l).length + z.length = 380 := by
  have h1 := h.all
  rw [h.is] at h1
  simp only [List.length_append, octI_len, heads_len, List.length_cons, List.length_nil, h.four] at h1
  omega
theorem Holds.take380 {b : List Int} {n : Int} {l : List S43} {z c : List Int} (h : Holds b n l z c) : b.take 380 = [115, 101, 103, 49] ++ (octI n 8 ++ ([(l.length : Int)] ++ (heads l ++ (datas l ++ z)))) := by
  have h1 := h.len
  have e : b = ([115, 101, 103, 49] ++ (octI n 8 ++ ([(l.length : Int)] ++ (heads l ++ (datas l ++ z))))) ++ c := by rw [h.is]; simp only [List.append_assoc]
  rw [e]
  refine take_at _ _ _ ?_
  simp only [List.length_append, octI_len, heads_len, List.length_cons, List.length_nil]
  omega
theorem Holds.last {b : List Int} {n : Int} {l : List S43} {z c : List Int} (h : Holds b n l z c) : (b.drop 380).take 4 = c := by
  have h1 := h.len
  have e : b = ([115, 101, 103, 49] ++ (octI n 8 ++ ([(l.length : Int)] ++ (heads l ++ (datas l ++ z))))) ++ c := by rw [h.is]; simp only [List.append_assoc]
  rw [e, drop_at _ _ 380 (by simp only [List.length_append, octI_len, heads_len, List.length_cons, List.length_nil]; omega), List.take_of_length_le (by rw [h.four]; exact Nat.le_refl _)]
theorem Holds.num {b : List Int} {n : Int} {l : List S43} {z c : List Int} (h : Holds b n l z c) : (b.drop 4).take 8 = octI n 8 := by
  rw [h.is, drop_at _ _ 4 rfl, take_at _ _ 8 (octI_len _ _)]
theorem Holds.count {b : List Int} {n : Int} {l : List S43} {z c : List Int} (h : Holds b n l z c) : rd b 12 = (l.length : Int) := by
  have e : b = ([115, 101, 103, 49] ++ octI n 8) ++ (l.length : Int) :: (heads l ++ (datas l ++ (z ++ c))) := by rw [h.is]; simp only [List.append_assoc]; rfl
  rw [e]
  exact rd_at _ _ _ 12 (by simp [octI_len])
theorem heads_app (a b : List S43) : heads (a ++ b) = heads a ++ heads b := List.flatMap_append
theorem datas_app (a b : List S43) : datas (a ++ b) = datas a ++ datas b := List.flatMap_append
theorem Holds.head {b : List Int} {n : Int} {l : List S43} {z c : List Int} (h : Holds b n l z c) (i : Nat) (x : S43) (r : List S43) (hx : l = l.take i ++ x :: r) (hi : i < l.length) (ho : okB x) :
    (b.drop (13 + 6 * i)).take 4 = octI x.f0 4 ∧ rd b ((13 + 6 * i + 4 : Nat) : Int) = x.f1 ∧ rd b ((13 + 6 * i + 5 : Nat) : Int) = (x.f2.length : Int) := by
  obtain ⟨o1, o2, o3, o4, o5⟩ := ho
  have hh : heads l = heads (l.take i) ++ (headI x ++ heads r) := by conv => lhs; rw [hx]
                                                                     rw [heads_app, heads_cons]
  have hl : (([115, 101, 103, 49] ++ (octI n 8 ++ [(l.length : Int)]) : List Int) ++ heads (l.take i)).length = 13 + 6 * i := by rw [List.length_append, pre_len, heads_len, List.length_take]; omega
  have e : b = (([115, 101, 103, 49] ++ (octI n 8 ++ [(l.length : Int)])) ++ heads (l.take i)) ++ (octI x.f0 4 ++ (x.f1 :: (x.f2.length : Int) :: (heads r ++ (datas l ++ (z ++ c))))) := by
    rw [h.is, hh]
    unfold headI
    rw [octI_one x.f1 o3 o4, octI_one (x.f2.length : Int) (by omega) (by omega)]
    simp only [List.append_assoc, List.cons_append, List.nil_append]
  generalize ([115, 101, 103, 49] ++ (octI n 8 ++ [(l.length : Int)]) : List Int) ++ heads (l.take i) = A at hl e
  refine ⟨?_, ?_, ?_⟩
  · rw [e, drop_at _ _ _ hl, take_at _ _ 4 (octI_len _ _)]
  · have e2 : b = (A ++ octI x.f0 4) ++ x.f1 :: ((x.f2.length : Int) :: (heads r ++ (datas l ++ (z ++ c)))) := by rw [e, List.append_assoc]
    rw [e2]
    exact rd_at _ _ _ _ (by rw [List.length_append, octI_len, hl])
  · have e2 : b = (A ++ (octI x.f0 4 ++ [x.f1])) ++ (x.f2.length : Int) :: (heads r ++ (datas l ++ (z ++ c))) := by rw [e]; simp only [List.append_assoc, List.cons_append, List.nil_append]
    rw [e2]
    exact rd_at _ _ _ _ (by simp only [List.length_append, octI_len, hl, List.length_cons, List.length_nil])
theorem Holds.data {b : List Int} {n : Int} {l : List S43} {z c : List Int} (h : Holds b n l z c) (i : Nat) (x : S43) (r : List S43) (hx : l = l.take i ++ x :: r) :
    ((b.take 380).drop (13 + 6 * l.length + (datas (l.take i)).length)).take x.f2.length = x.f2 := by
  have hd : datas l = datas (l.take i) ++ (x.f2 ++ datas r) := by conv => lhs; rw [hx]
                                                                  rw [datas_app, datas_cons]
  have e : b.take 380 = (([115, 101, 103, 49] ++ (octI n 8 ++ [(l.length : Int)])) ++ (heads l ++ datas (l.take i))) ++ (x.f2 ++ (datas r ++ z)) := by
    rw [h.take380, hd]
    simp only [List.append_assoc]
  rw [e, drop_at _ _ _ (by rw [List.length_append, pre_len, List.length_append, heads_len]; omega), take_at _ _ _ rfl]
theorem open_fold {b : List Int} {n : Int} {l : List S43} {z c : List Int} (h : Holds b n l z c) (hok : ∀ x ∈ l, okB x) : ∀ i, i ≤ l.length →
    (List.range i).foldl (open_step b) ([], 13 + 6 * l.length) = (l.take i, 13 + 6 * l.length + (datas (l.take i)).length)
  | 0, _ => rfl
  | i + 1, hi => by
    have ih := open_fold h hok i (by omega)
    have hlt : i < l.length := by omega
    have hx : l = l.take i ++ l[i] :: l.drop (i + 1) := by rw [← List.drop_eq_getElem_cons hlt, List.take_append_drop]
    have ho := hok l[i] (List.getElem_mem hlt)
    have ht : l.take (i + 1) = l.take i ++ [l[i]] := List.take_succ_eq_append_getElem hlt
    obtain ⟨a1, a2, a3⟩ := h.head i l[i] _ hx hlt ho
    have a4 := h.data i l[i] _ hx
    rw [List.range_succ, List.foldl_append, ih, ht]
    generalize l[i] = x at *
    have a5 : getI (octI x.f0 4) = x.f0 := by
      have h1_ := ho.1
      have h2_ := ho.2.1
      exact getI_octI 4 x.f0 (by omega) (by rw [pow4_]; omega) (by omega)
    rw [List.foldl_cons, List.foldl_nil]
    unfold open_step
    simp only
    rw [a1, a2, a3, a5, Int.toNat_natCast, a4, datas_app, List.length_append, datas_cons]
    have e : datas ([] : List S43) = [] := rfl
    rw [e, List.append_nil, Nat.add_assoc]
theorem big_no {b : List Int} {n : Int} {l : List S43} {z c : List Int} (h : Holds b n l z c) (hok : ∀ x ∈ l, okB x) : openBig b l.length = false := by
  unfold openBig
  rw [List.any_eq_false]
  intro i hi
  have hlt : i < l.length := List.mem_range.1 hi
  have hx : l = l.take i ++ l[i] :: l.drop (i + 1) := by rw [← List.drop_eq_getElem_cons hlt, List.take_append_drop]
  have ho := hok l[i] (List.getElem_mem hlt)
  obtain ⟨a1, a2, a3⟩ := h.head i l[i] _ hx hlt ho
  rw [a3]
  have := ho.2.2.2.2
  simp only [decide_eq_true_eq]
  omega
theorem max_zeros : ∀ k : Nat, (List.replicate k (0 : Int)).foldl mx 0 = 0
  | 0 => rfl
  | k + 1 => by
    rw [List.replicate_succ, List.foldl_cons]
    exact max_zeros k
theorem rest_is {b : List Int} {n : Int} {l : List S43} {z c : List Int} (h : Holds b n l z c) : (b.take 380).drop (13 + 6 * l.length + (datas l).length) = z := by
  have e : b.take 380 = (([115, 101, 103, 49] ++ (octI n 8 ++ [(l.length : Int)])) ++ (heads l ++ datas l)) ++ z := by
    rw [h.take380]
    simp only [List.append_assoc]
  rw [e, drop_at _ _ _ (by rw [List.length_append, pre_len, List.length_append, heads_len]; omega)]
/-- What holds a segment is read as it. -/
theorem open2_is {b : List Int} {n : Int} {l : List S43} {c : List Int} {k : Nat} (h : Holds b n l (List.replicate k 0) c) (hc : checkI n l = 0) : openSeg2 b = (n, l, 0) := by
  obtain ⟨h1, h2, h3, h4, h5⟩ := (check_iff n l).1 hc
  have hf := open_fold h h5 l.length (Nat.le_refl _)
  rw [List.take_of_length_le (Nat.le_refl _)] at hf
  have hr : openRest b l.length = (l, 13 + 6 * l.length + (datas l).length) := hf
  have hg : getI ((b.drop 4).take 8) = n := by
    rw [h.num]
    exact getI_octI 8 n (by omega) (by rw [pow8_]; omega) (by omega)
  unfold openSeg2
  rw [h.count, if_pos (by omega), Int.toNat_natCast, big_no h h5, if_neg (by decide), hr, hg]
  simp only
  rw [if_pos hc, rest_is h]
  have hm : maxI (0 :: List.replicate k 0) = 0 := max_zeros k
  rw [hm, if_neg (by decide)]

theorem numI_le : ∀ (s : Nat) (q : List Int), Oct q → q.length = s → 0 ≤ numI q ∧ numI q < 256 ^ s
  | 0, q, _, h => by
    obtain rfl := List.length_eq_zero_iff.1 h
    exact ⟨by decide, by decide⟩
  | s + 1, q, ho, h => by
    have hne : q ≠ [] := by rintro rfl; cases h
    obtain ⟨p, x, rfl⟩ : ∃ p x, q = p ++ [x] := ⟨q.dropLast, q.getLast hne, (List.dropLast_concat_getLast hne).symm⟩
    have hx := ho x (by simp)
    have hp := numI_le s p (fun y hy => ho y (by simp [hy])) (by simpa using h)
    rw [numI_snoc, Int.pow_succ]
    generalize (256 : Int) ^ s = t at *
    omega
theorem getI_small (q : List Int) (ho : Oct q) (h4 : q.length = 4) : getI q = numI q := by
  have h := numI_le 4 q ho h4
  have e : (256 : Int) ^ 4 = 4294967296 := by decide
  rw [e] at h
  rw [getI_num]
  have e : mn (numI q) 4611686018427387904 = numI q := by unfold mn; split <;> omega
  rw [e, w_id (by omega) (by omega)]
theorem getI_eight (q : List Int) (ho : Oct q) (h8 : q.length = 8) (h1 : getI q ≤ 1099511627776) : numI q = getI q := by
  have h := numI_le 8 q ho h8
  rw [getI_num] at h1 ⊢
  unfold mn at h1 ⊢
  split
  · rename_i hc
    rw [if_pos hc, w_id (by decide) (by decide)] at h1
    exact absurd h1 (by decide)
  · rename_i hc
    rw [w_id (by omega) (by omega)]
theorem max_le : ∀ (z : List Int) (a : Int), z.foldl mx a ≤ a → a ≤ z.foldl mx a ∧ ∀ x ∈ z, x ≤ a := by
  have up : ∀ (z : List Int) (a : Int), a ≤ z.foldl mx a := by
    intro z
    induction z with
    | nil => exact fun a => Int.le_refl _
    | cons x z ih =>
      intro a
      have h := ih (mx a x)
      have e : a ≤ mx a x := by unfold mx; split <;> omega
      exact Int.le_trans e h
  intro z
  induction z with
  | nil => exact fun a _ => ⟨Int.le_refl _, fun x hx => by cases hx⟩
  | cons x z ih =>
    intro a h
    refine ⟨up _ _, ?_⟩
    have h1 : mx a x ≤ z.foldl mx (mx a x) := up z _
    have h2 : z.foldl mx (mx a x) ≤ a := h
    have h3 : mx a x = a ∧ x ≤ a := by
      have h4 : mx a x ≤ a := Int.le_trans h1 h2
      by_cases hc : a < x
      · rw [show mx a x = x from if_pos hc] at h4
        omega
      · exact ⟨if_neg hc, by omega⟩
    rw [h3.1] at h2
    intro y hy
    rcases List.mem_cons.1 hy with rfl | hy
    · exact h3.2
    · exact (ih a h2).2 y hy
theorem zeros_of (z : List Int) (ho : Oct z) (h : ¬ maxI (0 :: z) > 0) : z = List.replicate z.length 0 := by
  have h1 : z.foldl mx 0 ≤ 0 := by
    have : maxI (0 :: z) = z.foldl mx 0 := rfl
    rw [this] at h
    omega
  rw [List.eq_replicate_iff]
  refine ⟨rfl, fun x hx => ?_⟩
  have := (max_le z 0 h1).2 x hx
  have := (ho x hx).1
  omega
theorem drop_cons (b : List Int) (i : Nat) (h : i < b.length) : b.drop i = rd b (i : Int) :: b.drop (i + 1) := by
  rw [rd_nat b i h]
  exact List.drop_eq_getElem_cons h
theorem cut_cut (b : List Int) (o k m : Nat) (h : o + k ≤ m) : ((b.take m).drop o).take k = (b.drop o).take k := by
  rw [List.drop_take, List.take_take, Nat.min_eq_left (by omega)]
theorem six (b : List Int) (i : Nat) (h : i + 6 ≤ b.length) : (b.drop i).take 6 = (b.drop i).take 4 ++ [rd b ((i + 4 : Nat) : Int), rd b ((i + 5 : Nat) : Int)] := by
  have e : (b.drop i).take (4 + 2) = (b.drop i).take 4 ++ ((b.drop i).drop 4).take 2 := List.take_add
  rw [show (6 : Nat) = 4 + 2 from rfl, e, List.drop_drop, drop_cons b (i + 4) (by omega), drop_cons b (i + 4 + 1) (by omega)]
  rfl
theorem oct_rd (b : List Int) (ho : Oct b) (i : Nat) (h : i < b.length) : 0 ≤ rd b (i : Int) ∧ rd b (i : Int) ≤ 255 := by
  rw [rd_nat b i h]
  exact ho _ (List.getElem_mem h)
/-- What is read of octets: its heads and its data are theirs. -/
theorem fold_back (b : List Int) (ho : Oct b) (hb : b.length = 384) (m : Nat) (hm : m ≤ 8) (hbig : openBig b m = false) : ∀ i, i ≤ m → ∃ (xs : List S43) (t : Nat),
    (List.range i).foldl (open_step b) ([], 13 + 6 * m) = (xs, 13 + 6 * m + t) ∧ xs.length = i ∧ t ≤ 32 * i ∧ heads xs = (b.drop 13).take (6 * i) ∧ (datas xs).length = t ∧ datas xs = (b.drop (13 + 6 * m)).take t
  | 0, _ => ⟨[], 0, rfl, rfl, Nat.le_refl _, by simp [heads], rfl, by simp [datas]⟩
  | i + 1, hi => by
    obtain ⟨xs, t, h1, h2, h3, h4, h5, h6⟩ := fold_back b ho hb m hm hbig i (by omega)
    have hk : rd b ((13 + 6 * i + 5 : Nat) : Int) ≤ 32 := by
      have h := List.any_eq_false.1 hbig i (List.mem_range.2 (by omega))
      simp only [decide_eq_true_eq] at h
      omega
    have hk0 := (oct_rd b ho (13 + 6 * i + 5) (by omega)).1
    have hj := oct_rd b ho (13 + 6 * i + 4) (by omega)
    have h66 := six b (13 + 6 * i) (by omega)
    obtain ⟨k, hkk⟩ : ∃ k : Nat, rd b ((13 + 6 * i + 5 : Nat) : Int) = (k : Int) := ⟨_, (Int.toNat_of_nonneg hk0).symm⟩
    rw [hkk] at hk h66
    have hq : Oct ((b.drop (13 + 6 * i)).take 4) := (ho.drop _).take _
    have hq4 : ((b.drop (13 + 6 * i)).take 4).length = 4 := by rw [List.length_take, List.length_drop]; omega
    have hg := getI_small _ hq hq4
    have hn := octI_num 4 _ hq hq4
    have hdl : ((b.drop (13 + 6 * m + t)).take k).length = k := by rw [List.length_take, List.length_drop]; omega
    have hcut := cut_cut b (13 + 6 * m + t) k 380 (by omega)
    refine ⟨xs ++ [⟨getI ((b.drop (13 + 6 * i)).take 4), rd b ((13 + 6 * i + 4 : Nat) : Int), (b.drop (13 + 6 * m + t)).take k⟩], t + k, ?_, ?_, ?_, ?_, ?_, ?_⟩
    · rw [List.range_succ, List.foldl_append, h1, List.foldl_cons, List.foldl_nil]
      unfold open_step
      simp only
      rw [hkk, Int.toNat_natCast, hcut, Nat.add_assoc (13 + 6 * m) t k]
    · rw [List.length_append, h2]; rfl
    · omega
    · rw [heads_app, h4, heads_cons]
      have e : heads ([] : List S43) = [] := rfl
      have e2 : headI (⟨getI ((b.drop (13 + 6 * i)).take 4), rd b ((13 + 6 * i + 4 : Nat) : Int), (b.drop (13 + 6 * m + t)).take k⟩ : S43) = (b.drop (13 + 6 * i)).take 6 := by
        unfold headI
        simp only
        rw [hdl, hg, hn, octI_one _ hj.1 hj.2, octI_one (k : Int) (by omega) (by omega), h66]
        rfl
      rw [e, List.append_nil, e2, show 6 * (i + 1) = 6 * i + 6 by omega, List.take_add, List.drop_drop]
    · rw [datas_app, List.length_append, h5, datas_cons]
      have e : datas ([] : List S43) = [] := rfl
      rw [e, List.append_nil, hdl]
    · rw [datas_app, h6, datas_cons]
      have e : datas ([] : List S43) = [] := rfl
      rw [e, List.append_nil, List.take_add, List.drop_drop]
theorem holds_of (b : List Int) (ho : Oct b) (hb : b.length = 384) (hp : b.take 4 = [115, 101, 103, 49]) (n : Int) (l : List S43) (h : openSeg2 b = (n, l, 0)) : checkI n l = 0 ∧ ∃ k, Holds b n l (List.replicate k 0) ((b.drop 380).take 4) := by
  have h12 := oct_rd b ho 12 (by omega)
  obtain ⟨m, hm⟩ : ∃ m : Nat, rd b 12 = (m : Int) := ⟨_, (Int.toNat_of_nonneg h12.1).symm⟩
  unfold openSeg2 at h
  rw [hm, Int.toNat_natCast] at h
  by_cases c1 : (m : Int) ≤ 8
  case neg => rw [if_neg c1] at h; cases h
  rw [if_pos c1] at h
  by_cases c2 : openBig b m = true
  case pos => rw [if_pos c2] at h; cases h
  rw [if_neg c2] at h
  have c2 : openBig b m = false := by simpa using c2
  by_cases c3 : checkI (getI ((b.drop 4).take 8)) (openRest b m).1 = 0
  case neg => rw [if_neg c3] at h; cases h
  rw [if_pos c3] at h
  by_cases c4 : maxI (0 :: (b.take 380).drop (openRest b m).2) > 0
  case pos => rw [if_pos c4] at h; cases h
  rw [if_neg c4] at h
  obtain ⟨xs, t, h1, h2, h3, h4, h5, h6⟩ := fold_back b ho hb m (by omega) c2 m (Nat.le_refl _)
  have hr : openRest b m = (xs, 13 + 6 * m + t) := h1
  rw [hr] at h c3 c4
  simp only at h c3 c4
  obtain ⟨rfl, h'⟩ := Prod.mk.inj h
  obtain ⟨rfl, _⟩ := Prod.mk.inj h'
  clear h h' h1 hr
  refine ⟨c3, 380 - (13 + 6 * m + t), ?_, ?_, hb⟩
  · have hn1 := ((check_iff _ _).1 c3).2.1
    have hq : Oct ((b.drop 4).take 8) := (ho.drop _).take _
    have hq8 : ((b.drop 4).take 8).length = 8 := by rw [List.length_take, List.length_drop]; omega
    have e8 : octI (getI ((b.drop 4).take 8)) 8 = (b.drop 4).take 8 := by rw [← getI_eight _ hq hq8 hn1]; exact octI_num 8 _ hq hq8
    have hz := zeros_of _ ((ho.take 380).drop (13 + 6 * m + t)) c4
    have hzl : ((b.take 380).drop (13 + 6 * m + t)).length = 380 - (13 + 6 * m + t) := by rw [List.length_drop, List.length_take]; omega
    rw [hzl] at hz
    rw [← hz, e8, h4, h6, h2, List.drop_take, ← hm]
    have s1 : b = [115, 101, 103, 49] ++ b.drop 4 := by conv => lhs; rw [← List.take_append_drop 4 b, hp]
    have s2 : b.drop 4 = (b.drop 4).take 8 ++ b.drop 12 := by conv => lhs; rw [← List.take_append_drop 8 (b.drop 4), List.drop_drop]
    have s3 : b.drop 12 = [rd b 12] ++ b.drop 13 := drop_cons b 12 (by omega)
    have s4 : b.drop 13 = (b.drop 13).take (6 * m) ++ b.drop (13 + 6 * m) := by conv => lhs; rw [← List.take_append_drop (6 * m) (b.drop 13), List.drop_drop]
    have s5 : b.drop (13 + 6 * m) = (b.drop (13 + 6 * m)).take t ++ b.drop (13 + 6 * m + t) := by conv => lhs; rw [← List.take_append_drop t (b.drop (13 + 6 * m)), List.drop_drop]
    have s6 : b.drop (13 + 6 * m + t) = (b.drop (13 + 6 * m + t)).take (380 - (13 + 6 * m + t)) ++ b.drop 380 := by
      conv => lhs; rw [← List.take_append_drop (380 - (13 + 6 * m + t)) (b.drop (13 + 6 * m + t)), List.drop_drop, show 13 + 6 * m + t + (380 - (13 + 6 * m + t)) = 380 by omega]
    have s7 : (b.drop 380).take 4 = b.drop 380 := List.take_of_length_le (by rw [List.length_drop]; omega)
    rw [s7, ← s6, ← s5, ← s4, ← s3, ← s2, ← s1]
  · rw [List.length_take, List.length_drop]; omega
theorem sealed_of {b : List Int} {n : Int} {l : List S43} {k : Nat} {c : List Int} (h : Holds b n l (List.replicate k 0) c) (hc : checkI n l = 0) (hs : c = octI (crcS (b.take 380)) 4) : sealI n l = b := by
  have h4 := (check_iff n l).1 hc
  have hl := h.len
  have e : plainI n l = b.take 380 := by
    rw [h.take380]
    unfold plainI padI
    rw [octI_one (l.length : Int) (by omega) (by omega)]
    have e2 : 380 - ([115, 101, 103, 49] ++ octI n 8 ++ [(l.length : Int)] ++ heads l ++ datas l : List Int).length = k := by
      rw [List.length_replicate] at hl
      simp only [List.length_append, octI_len, heads_len, List.length_cons, List.length_nil]
      omega
    rw [e2]
    simp only [List.append_assoc]
  unfold sealI
  rw [e, ← hs, ← h.last]
  have e3 : (b.drop 380).take 4 = b.drop 380 := List.take_of_length_le (by rw [List.length_drop, h.all]; decide)
  rw [e3]
  exact List.take_append_drop 380 b

theorem prefix_is (b : List Int) (ho : Oct b) (h4 : 4 ≤ b.length) : bytes_HasPrefix.f b [115, 101, 103, 49] = some (decide (b.take 4 = [115, 101, 103, 49])) := by
  unfold bytes_HasPrefix.f
  have hl : ((([115, 101, 103, 49] : List Int).length : Nat) : Int) = 4 := rfl
  rw [hl, if_pos (by omega), if_pos (by omega), if_pos (by omega)]
  have e : (4 : Int).toNat = 4 := rfl
  rw [e, equal_is _ _ (ho.take 4) (fun x hx => by
    simp only [List.mem_cons, List.not_mem_nil, or_false] at hx
    omega)]
  rfl
theorem open_full (b : List Int) (ho : Oct b) : segment_Open.f b = some (if b.length = 384 then openSeg b (crcS (b.take 380)) (decide (b.take 4 = [115, 101, 103, 49])) else (0, [], 3)) := by
  unfold segment_Open.f
  rw [if_pos (octs_of' ho)]
  by_cases h : b.length = 384
  · rw [if_pos h, if_pos h, sumS_is, prefix_is b ho (by omega)]
    rfl
  · rw [if_neg h, if_neg h]
theorem sealI_holds (n : Int) (l : List S43) (hc : checkI n l = 0) : ∃ k, Holds (sealI n l) n l (List.replicate k 0) (octI (crcS ((sealI n l).take 380)) 4) := by
  obtain ⟨h1, h2, h3, h4, h5⟩ := (check_iff n l).1 hc
  have hd := datas_len l h5
  have hlen : ([115, 101, 103, 49] ++ octI n 8 ++ octI (l.length : Int) 1 ++ heads l ++ datas l : List Int).length ≤ 380 := by
    simp only [List.length_append, octI_len, heads_len, List.length_cons, List.length_nil]
    omega
  have hp : (plainI n l).length = 380 := padI_len _ hlen
  have ht : (sealI n l).take 380 = plainI n l := take_at _ _ 380 hp
  refine ⟨380 - ([115, 101, 103, 49] ++ octI n 8 ++ octI (l.length : Int) 1 ++ heads l ++ datas l : List Int).length, ?_, octI_len _ _, ?_⟩
  · rw [ht]
    show plainI n l ++ octI (crcS (plainI n l)) 4 = _
    generalize octI (crcS (plainI n l)) 4 = C
    unfold plainI padI
    rw [octI_one (l.length : Int) (by omega) (by omega)]
    simp only [List.append_assoc]
  · unfold sealI
    rw [List.length_append, hp, octI_len]
theorem heads_oct : ∀ l : List S43, Oct (heads l)
  | [] => Oct.nil
  | x :: r => by
    rw [heads_cons]
    exact Oct.append (Oct.append (octI_oct _ _) (Oct.append (octI_oct _ _) (octI_oct _ _))) (heads_oct r)
theorem datas_oct : ∀ l : List S43, (∀ x ∈ l, Oct x.f2) → Oct (datas l)
  | [], _ => Oct.nil
  | x :: r, h => by
    rw [datas_cons]
    exact Oct.append (h x (by simp)) (datas_oct r (fun y hy => h y (by simp [hy])))
theorem sealI_oct (n : Int) (l : List S43) (h : ∀ x ∈ l, Oct x.f2) : Oct (sealI n l) := by
  unfold sealI plainI padI
  refine Oct.append (Oct.append (Oct.append (Oct.append (Oct.append (Oct.append ?_ (octI_oct _ _)) (octI_oct _ _)) (heads_oct l)) (datas_oct l h)) ?_) (octI_oct _ _)
  · intro x hx
    simp only [List.mem_cons, List.not_mem_nil, or_false] at hx
    omega
  · intro x hx
    obtain rfl := (List.mem_replicate.1 hx).2
    omega
/-- What was sealed is opened as it was. -/
theorem open_seal (n : Int) (l : List S43) (hc : checkI n l = 0) (ho : ∀ x ∈ l, Oct x.f2) : segment_Open.f (sealI n l) = some (n, l, 0) := by
  obtain ⟨k, h⟩ := sealI_holds n l hc
  have hr := crcS_range ((sealI n l).take 380)
  have hp : (sealI n l).take 4 = [115, 101, 103, 49] := by rw [h.is]; exact take_at _ _ 4 rfl
  rw [open_full _ (sealI_oct n l ho), if_pos h.all, hp]
  unfold openSeg
  rw [h.last, getI_octI 4 _ hr.1 (by rw [pow4_]; omega) (by omega), w_id (by omega) (by omega), if_pos rfl, if_pos (decide_eq_true rfl), open2_is h hc]
theorem open_cases (b : List Int) (ho : Oct b) (n : Int) (l : List S43) (e : Int) (h : segment_Open.f b = some (n, l, e)) : (e ≠ 0 ∧ n = 0 ∧ l = []) ∨ (e = 0 ∧ checkI n l = 0 ∧ sealI n l = b) := by
  rw [open_full b ho] at h
  have h := Option.some.inj h
  have bad : ∀ c : Int, c ≠ 0 → ((0 : Int), ([] : List S43), c) = (n, l, e) → (e ≠ 0 ∧ n = 0 ∧ l = []) := by
    intro c hc hq
    obtain ⟨rfl, h2⟩ := Prod.mk.inj hq
    obtain ⟨rfl, rfl⟩ := Prod.mk.inj h2
    exact ⟨hc, rfl, rfl⟩
  by_cases h384 : b.length = 384
  case neg => rw [if_neg h384] at h; exact .inl (bad 3 (by decide) h)
  rw [if_pos h384] at h
  unfold openSeg at h
  have hr := crcS_range (b.take 380)
  rw [w_id (x := crcS (b.take 380)) (by omega) (by omega)] at h
  by_cases h1 : getI ((b.drop 380).take 4) = crcS (b.take 380)
  case neg => rw [if_neg h1] at h; exact .inl (bad 21 (by decide) h)
  rw [if_pos h1] at h
  by_cases h2 : b.take 4 = [115, 101, 103, 49]
  case neg => rw [if_neg (by rw [decide_eq_false h2]; decide)] at h; exact .inl (bad 22 (by decide) h)
  rw [if_pos (decide_eq_true h2)] at h
  by_cases he : e = 0
  · subst he
    obtain ⟨hc, k, hh⟩ := holds_of b ho h384 h2 n l h
    refine .inr ⟨rfl, hc, sealed_of hh hc ?_⟩
    have hq : Oct ((b.drop 380).take 4) := (ho.drop _).take _
    have hq4 : ((b.drop 380).take 4).length = 4 := by rw [List.length_take, List.length_drop]; omega
    rw [← h1, getI_small _ hq hq4, octI_num 4 _ hq hq4]
  · refine .inl ?_
    unfold openSeg2 at h
    split at h
    · split at h
      · exact bad 9 (by decide) h
      · split at h
        · split at h
          · exact bad 23 (by decide) h
          · exact absurd (Prod.mk.inj (Prod.mk.inj h).2).2.symm he
        · exact bad 9 (by decide) h
    · exact bad 9 (by decide) h
def toB (x : S60) : S43 := ⟨x.f0, x.f1, x.f2⟩
theorem rdR_nat (l : List S60) (i : Nat) (h : i < l.length) : rd_T60 l (i : Int) = l[i] := by
  unfold rd_T60
  simp [List.getD_eq_getElem?_getD, h]
theorem of_loop (l : List S60) (hl : l.length ≤ 3518437208782) (hd : ∀ x ∈ l, x.f2.length * 1 ≤ 140737488351232) : ∀ (d k i : Nat) (acc : List S43), i + d = l.length → d < k → acc.length = i →
    undercroftlaw13_OfBlocks.l0 k l acc (i : Int) = some (acc ++ (l.drop i).map toB) := by
  intro d
  induction d with
  | zero =>
    intro k i acc hi hk ha
    obtain ⟨k, rfl⟩ : ∃ m, k = m + 1 := ⟨k - 1, by omega⟩
    have e : l.drop i = [] := List.drop_eq_nil_of_le (by omega)
    simp only [undercroftlaw13_OfBlocks.l0]
    rw [if_neg (by omega), e, List.map_nil, List.append_nil]
  | succ d ih =>
    intro k i acc hi hk ha
    obtain ⟨k, rfl⟩ : ∃ m, k = m + 1 := ⟨k - 1, by omega⟩
    have hlt : i < l.length := by omega
    have e : l.drop i = l[i] :: l.drop (i + 1) := List.drop_eq_getElem_cons hlt
    have hx := hd l[i] (List.getElem_mem hlt)
    have hr := rdR_nat l i hlt
    have hw : wrap64 ((i : Int) + 1) = ((i + 1 : Nat) : Int) := by rw [w_id (by omega) (by omega)]; rfl
    have c1 : (i : Int) < (l.length : Int) := by omega
    have c2 : (0 : Int) ≤ (i : Int) := by omega
    have c3 : acc.length < 3518437208883 := by omega
    rw [e]
    clear e
    generalize l[i] = x at hx hr ⊢
    have hcp := copyBytes_is x.f2 (by omega)
    have := ih k (i + 1) (acc ++ [toB x]) (by omega) (by omega) (by rw [List.length_append, ha]; rfl)
    simp only [undercroftlaw13_OfBlocks.l0, hr]
    rw [if_pos c1, if_pos c2, hcp]
    simp only [Option.bind_some]
    rw [if_pos c3, hw]
    rw [List.map_cons, show acc ++ toB x :: (l.drop (i + 1)).map toB = acc ++ [toB x] ++ (l.drop (i + 1)).map toB by simp]
    exact this
theorem of_is (k : Nat) (n : Int) (l : List S60) (hk : l.length < k) (hl : l.length * 40 ≤ 140737488351232) (hd : ∀ x ∈ l, x.f2.length * 1 ≤ 140737488351232) : undercroftlaw13_Of.f k n l = some (n, l.map toB) := by
  have h := of_loop l (by omega) hd l.length k 0 [] (by omega) hk rfl
  unfold undercroftlaw13_Of.f undercroftlaw13_OfBlocks.f
  rw [show (0 : Int) = ((0 : Nat) : Int) from rfl, h]
  simp only [Option.bind_some, List.drop_zero, List.nil_append]
theorem alive_is (k : Nat) (hk : 8 < k) : undercroftlaw13_alive.f k = some true := by
  have hc : checkI 1 [(⟨1, 0, [120]⟩ : S43)] = 0 := by decide
  have ho : ∀ x ∈ [(⟨1, 0, [120]⟩ : S43)], Oct x.f2 := by
    intro x hx
    rw [List.mem_singleton.1 hx]
    intro y hy
    rw [List.mem_singleton.1 hy]
    omega
  have hop := open_seal 1 _ hc ho
  obtain ⟨m, hh⟩ := sealI_holds 1 _ hc
  have hp : (sealI 1 [(⟨1, 0, [120]⟩ : S43)]).take 4 = [115, 101, 103, 49] := by rw [hh.is]; exact take_at _ _ 4 rfl
  have hs := seal_is k 1 [(⟨1, 0, [120]⟩ : S43)] hk
  rw [if_pos hc] at hs
  unfold undercroftlaw13_alive.f
  rw [hs, Option.bind_some, hop, Option.bind_some, if_pos ⟨rfl, rfl, hh.all, hp, rfl⟩]

namespace CrcMath
abbrev R := BitVec 32
def poly : R := 0xedb88320#32
def b1 (c : R) : R := (c >>> 1) ^^^ (if c.getLsbD 0 then poly else 0#32)
def bs : Nat → R → R
  | 0, c => c
  | n + 1, c => bs n (b1 c)
theorem b1_xor (a b : R) : b1 (a ^^^ b) = b1 a ^^^ b1 b := by
  unfold b1
  rw [BitVec.ushiftRight_xor_distrib, BitVec.getLsbD_xor]
  cases a.getLsbD 0 <;> cases b.getLsbD 0 <;> simp
  · ac_rfl
  · ac_rfl
  · rw [show a >>> 1 ^^^ poly ^^^ (b >>> 1 ^^^ poly) = (a >>> 1 ^^^ b >>> 1) ^^^ (poly ^^^ poly) by ac_rfl]
    simp
theorem bs_xor (n : Nat) (a b : R) : bs n (a ^^^ b) = bs n a ^^^ bs n b := by
  induction n generalizing a b with
  | zero => rfl
  | succ n ih => rw [bs, b1_xor, ih]; rfl
theorem bs_add (m n : Nat) (c : R) : bs (m + n) c = bs n (bs m c) := by
  induction m generalizing c with
  | zero => simp [bs]
  | succ m ih => rw [Nat.succ_add, bs, ih]; rfl
/-- Bits above the lowest n fall down. -/
theorem b1_even (c : R) (h : c.getLsbD 0 = false) : b1 c = c >>> 1 := by
  unfold b1
  rw [h]
  simp
theorem bs_high (n : Nat) (c : R) (h : ∀ i, i < n → c.getLsbD i = false) : bs n c = c >>> n := by
  induction n generalizing c with
  | zero => simp [bs]
  | succ n ih =>
    rw [bs, b1_even c (h 0 (by omega)), ih, ← BitVec.shiftRight_add]
    · rw [Nat.add_comm]
    · intro i hi
      rw [BitVec.getLsbD_ushiftRight]
      exact h _ (by omega)
/-- Four bits at once: a table of sixteen serves. -/
theorem bs4 (c : R) : bs 4 c = (c >>> 4) ^^^ bs 4 (c &&& 15#32) := by
  have hc : c = (c >>> 4 <<< 4) ^^^ (c &&& 15#32) := by
    apply BitVec.eq_of_getLsbD_eq
    intro i hi
    simp only [BitVec.getLsbD_xor, BitVec.getLsbD_shiftLeft, BitVec.getLsbD_ushiftRight, BitVec.getLsbD_and]
    by_cases h4 : i < 4
    · have : (15#32).getLsbD i = true := by
        rcases i with _ | _ | _ | _ | i <;> first | rfl | omega
      simp [h4, this]
    · have : (15#32).getLsbD i = false := by
        rw [show (15#32) = BitVec.ofNat 32 15 from rfl, BitVec.getLsbD_ofNat]
        have : Nat.testBit 15 i = false := Nat.testBit_lt_two_pow (Nat.lt_of_lt_of_le (by decide : 15 < 2 ^ 4) (Nat.pow_le_pow_right (by decide) (by omega)))
        simp [this]
      rw [this, show 4 + (i - 4) = i by omega]
      simp [h4, hi]
  have h1 : bs 4 (c >>> 4 <<< 4) = c >>> 4 := by
    rw [bs_high]
    · apply BitVec.eq_of_getLsbD_eq
      intro i hi
      simp only [BitVec.getLsbD_shiftLeft, BitVec.getLsbD_ushiftRight]
      by_cases h : 4 + i < 32
      · simp [h]
      · simp [h]
        exact (BitVec.getLsbD_of_ge _ _ (by omega))
    · intro i hi
      simp [BitVec.getLsbD_shiftLeft, hi]
  calc bs 4 c = bs 4 ((c >>> 4 <<< 4) ^^^ (c &&& 15#32)) := by rw [← hc]
    _ = _ := by rw [bs_xor, h1]
/-- An octet more. -/
def step (c : R) (x : BitVec 8) : R := bs 8 (c ^^^ x.setWidth 32)
def run (c : R) (l : List (BitVec 8)) : R := l.foldl step c
/-- Two texts of one length. -/
def mix : List (BitVec 8) → List (BitVec 8) → List (BitVec 8) := List.zipWith (· ^^^ ·)
/-- A register's octets, the lowest first. -/
def low (t : R) : List (BitVec 8) := [t.setWidth 8, (t >>> 8).setWidth 8, (t >>> 16).setWidth 8, (t >>> 24).setWidth 8]
def sum (c : R) (l : List (BitVec 8)) : R := ~~~ run (~~~ c) l
def rest : R := bs 32 0xffffffff#32
theorem rest_is : ~~~ rest = 0x2144df1c#32 := by decide
end CrcMath

open CrcMath
def reg (c : Int) : R := BitVec.ofInt 32 c
def oct (x : Int) : BitVec 8 := BitVec.ofInt 8 x
def num (r : R) : Int := (r.toNat : Int)
theorem num_range (r : R) : 0 ≤ num r ∧ num r ≤ 4294967295 := by unfold num; have := r.isLt; omega
theorem reg_num (r : R) : reg (num r) = r := by
  unfold reg num
  rw [BitVec.ofInt_natCast]
  simp
theorem num_reg (c : Int) (h0 : 0 ≤ c) (h1 : c ≤ 4294967295) : num (reg c) = c := by
  obtain ⟨n, rfl⟩ := Int.eq_ofNat_of_zero_le h0
  unfold reg num
  rw [BitVec.ofInt_natCast, BitVec.toNat_ofNat, Nat.mod_eq_of_lt (by omega)]
theorem xor_u32 (a b : Int) : Go.bits .xor .u32 a b = num (reg a ^^^ reg b) := by
  show IntKind.u32.wrap _ = _
  rw [IntKind.wrap_u32]
  have := (reg a ^^^ reg b).isLt
  show ((reg a ^^^ reg b).toNat : Int) % 4294967296 = ((reg a ^^^ reg b).toNat : Int)
  omega
theorem and_u32 (a b : Int) : Go.bits .and .u32 a b = num (reg a &&& reg b) := by
  show IntKind.u32.wrap _ = _
  rw [IntKind.wrap_u32]
  have := (reg a &&& reg b).isLt
  show ((reg a &&& reg b).toNat : Int) % 4294967296 = ((reg a &&& reg b).toNat : Int)
  omega
theorem reg_half (r : R) (n : Nat) : reg (num r / (2 ^ n : Nat)) = r >>> n := by
  unfold reg num
  rw [← Int.natCast_ediv, BitVec.ofInt_natCast]
  apply BitVec.eq_of_toNat_eq
  rw [BitVec.toNat_ofNat, BitVec.toNat_ushiftRight, Nat.shiftRight_eq_div_pow]
  exact Nat.mod_eq_of_lt (Nat.lt_of_le_of_lt (Nat.div_le_self _ _) r.isLt)
theorem nstep_is (r : R) : nstep (num r) = num (b1 r) := by
  unfold nstep b1
  rw [xor_u32, and_u32, and_u32, reg_num, reg_num, show num r / 2 = num r / (2 ^ 1 : Nat) by rfl, reg_half]
  congr 2
  by_cases h : r.getLsbD 0 = true
  · have e : r &&& reg 1 = 1#32 := by
      apply BitVec.eq_of_getLsbD_eq
      intro i hi
      rw [BitVec.getLsbD_and, show reg 1 = 1#32 by decide, BitVec.getLsbD_one]
      by_cases h0 : i = 0
      · subst h0; rw [h]; simp
      · simp [h0]
    rw [e, if_pos h]
    decide
  · have h' : r.getLsbD 0 = false := by simpa using h
    have e : r &&& reg 1 = 0#32 := by
      apply BitVec.eq_of_getLsbD_eq
      intro i hi
      rw [BitVec.getLsbD_and, show reg 1 = 1#32 by decide, BitVec.getLsbD_one]
      by_cases h0 : i = 0
      · subst h0; rw [h']; simp
      · simp [h0]
    rw [e, if_neg h]
    decide
theorem bs_out (n : Nat) (r : R) : bs (n + 1) r = b1 (bs n r) := by
  rw [bs_add]; rfl
theorem nibT_is (n : Nat) (r : R) : nibT n (num r) = num (bs n r) := by
  induction n with
  | zero => rfl
  | succ n ih => rw [nibT, ih, nstep_is, bs_out]
theorem hstep_is (r : R) : hstep (num r) = num (bs 4 r) := by
  unfold hstep
  rw [xor_u32, and_u32, reg_num, nibT_is, reg_num, show num r / 16 = num r / (2 ^ 4 : Nat) by rfl, reg_half, show reg 15 = 15#32 by decide, ← bs4]
theorem rstep_is (r : R) (x : Int) (h0 : 0 ≤ x) (h1 : x ≤ 255) : rstep (num r) x = num (CrcMath.step r (oct x)) := by
  unfold rstep CrcMath.step
  rw [xor_u32, reg_num, hstep_is, hstep_is, ← bs_add]
  congr 3
  unfold reg oct
  obtain ⟨n, rfl⟩ := Int.eq_ofNat_of_zero_le h0
  rw [Int.emod_eq_of_lt h0 (by omega), BitVec.ofInt_natCast, BitVec.ofInt_natCast]
  apply BitVec.eq_of_toNat_eq
  simp only [BitVec.toNat_ofNat, BitVec.toNat_setWidth]
  omega
theorem crcI_is (l : List Int) (hl : Oct l) (r : R) : crcI (num r) l = num (run r (l.map oct)) := by
  unfold crcI run
  induction l generalizing r with
  | nil => rfl
  | cons x l ih =>
    rw [List.foldl_cons, List.map_cons, List.foldl_cons, rstep_is r x (hl x (by simp)).1 (hl x (by simp)).2]
    exact ih (fun y hy => hl y (by simp [hy])) _
/-- The sum of octets, as a number. -/
def sumI (c : Int) (l : List Int) : Int := num (sum (reg c) (l.map oct))
theorem xor_ones (r : R) : reg 4294967295 ^^^ r = ~~~ r := by
  apply BitVec.eq_of_getLsbD_eq
  intro i hi
  rw [BitVec.getLsbD_xor, BitVec.getLsbD_not, show reg 4294967295 = BitVec.allOnes 32 by decide, BitVec.getLsbD_allOnes]
  simp [hi]
theorem extend_is (c : Int) (l : List Int) (hl : Oct l) : crc_Extend.f c l = some (sumI c l) := by
  unfold crc_Extend.f sumI sum
  rw [xor_u32, xor_u32, crcI_is _ hl, reg_num, xor_ones, xor_ones]
theorem sum_is (l : List Int) (hl : Oct l) : crc_Sum.f l = some (sumI 0 l) := by
  unfold crc_Sum.f
  rw [extend_is 0 l hl]
  rfl
theorem ref_bits (x1 : List Int) (x5 : Int) : ∀ (d k i : Nat) (r : R), i + d = 8 → d < k →
    undercroftref02_Extend.l1 k (num r) x1 x5 (i : Int) = undercroftref02_Extend.l0 (k - d - 1) (num (bs d r)) x1 (wrap64 (x5 + 1)) := by
  intro d
  induction d with
  | zero =>
    intro k i r hi hk
    obtain ⟨k, rfl⟩ : ∃ m, k = m + 1 := ⟨k - 1, by omega⟩
    simp only [undercroftref02_Extend.l1]
    rw [if_neg (by omega)]
    simp [bs]
  | succ d ih =>
    intro k i r hi hk
    obtain ⟨k, rfl⟩ : ∃ m, k = m + 1 := ⟨k - 1, by omega⟩
    simp only [undercroftref02_Extend.l1]
    rw [if_pos (by omega), and_u32, reg_num]
    have hw : wrap64 ((i : Int) + 1) = ((i + 1 : Nat) : Int) := by rw [w_id (by omega) (by omega)]; omega
    have hh2 : reg (num r / (2 : Int)) = r >>> 1 := reg_half r 1
    have hh : num r / (2 : Int) = num (r >>> 1) := by
      have hr := num_range r
      rw [← hh2, num_reg _ (by omega) (by omega)]
    have key : ∀ r2, r2 = b1 r → undercroftref02_Extend.l1 k (num r2) x1 x5 (wrap64 ((i : Int) + 1)) = undercroftref02_Extend.l0 (k + 1 - (d + 1) - 1) (num (bs (d + 1) r)) x1 (wrap64 (x5 + 1)) := by
      rintro r2 rfl
      rw [hw, ih k (i + 1) (b1 r) (by omega) (by omega)]
      rw [show k + 1 - (d + 1) - 1 = k - d - 1 by omega]
      rfl
    by_cases h : r.getLsbD 0 = true
    · have e : r &&& reg 1 = 1#32 := by
        apply BitVec.eq_of_getLsbD_eq
        intro i hi
        rw [BitVec.getLsbD_and, show reg 1 = 1#32 by decide, BitVec.getLsbD_one]
        by_cases h0 : i = 0
        · subst h0; rw [h]; simp
        · simp [h0]
      rw [e, if_pos (by decide), xor_u32, hh2]
      apply key
      unfold b1
      rw [if_pos h]
      rfl
    · have h' : r.getLsbD 0 = false := by simpa using h
      have e : r &&& reg 1 = 0#32 := by
        apply BitVec.eq_of_getLsbD_eq
        intro i hi
        rw [BitVec.getLsbD_and, show reg 1 = 1#32 by decide, BitVec.getLsbD_one]
        by_cases h0 : i = 0
        · subst h0; rw [h']; simp
        · simp [h0]
      rw [e, if_neg (by decide), hh]
      apply key
      unfold b1
      rw [if_neg h]
      simp
theorem ref_loop (l : List Int) (hl : Oct l) (hm : l.length ≤ 9223372036854775806) : ∀ (d k i : Nat) (r : R), i + d = l.length → 10 * d < k →
    undercroftref02_Extend.l0 k (num r) l (i : Int) = some (num (~~~ run r ((l.drop i).map oct))) := by
  intro d
  induction d with
  | zero =>
    intro k i r hi hk
    obtain ⟨k, rfl⟩ : ∃ m, k = m + 1 := ⟨k - 1, by omega⟩
    simp only [undercroftref02_Extend.l0]
    rw [if_neg (by omega), List.drop_of_length_le (by omega), xor_u32, reg_num, xor_ones]
    rfl
  | succ d ih =>
    intro k i r hi hk
    obtain ⟨k, rfl⟩ : ∃ m, k = m + 1 := ⟨k - 1, by omega⟩
    simp only [undercroftref02_Extend.l0]
    have hlt : i < l.length := by omega
    rw [if_pos (by omega), if_pos (by omega), rd_nat l i hlt]
    have hx := hl l[i] (List.getElem_mem hlt)
    have e : Go.bits .xor .u32 (num r) (l[i] % 4294967296) = num (r ^^^ (oct l[i]).setWidth 32) := by
      rw [xor_u32, reg_num]
      congr 2
      unfold reg oct
      obtain ⟨n, hn⟩ := Int.eq_ofNat_of_zero_le hx.1
      rw [hn]
      rw [Int.emod_eq_of_lt (by omega) (by omega)]
      rw [BitVec.ofInt_natCast, BitVec.ofInt_natCast]
      apply BitVec.eq_of_toNat_eq
      simp only [BitVec.toNat_ofNat, BitVec.toNat_setWidth]
      omega
    have h8 := ref_bits l (i : Int) 8 k 0 (r ^^^ (oct l[i]).setWidth 32) (by omega) (by omega)
    rw [e]
    rw [show ((0 : Nat) : Int) = 0 from rfl] at h8
    rw [h8, w_id (by omega) (by omega)]
    have := ih (k - 8 - 1) (i + 1) (bs 8 (r ^^^ (oct l[i]).setWidth 32)) (by omega) (by omega)
    rw [show ((i : Int) + 1) = ((i + 1 : Nat) : Int) by omega, this]
    rw [List.drop_eq_getElem_cons hlt]
    rfl
theorem ref_extend_is (c : Int) (l : List Int) (hl : Oct l) (hm : l.length ≤ 9223372036854775806) (k : Nat) (hk : 10 * l.length < k) : undercroftref02_Extend.f k c l = some (sumI c l) := by
  unfold undercroftref02_Extend.f
  rw [xor_u32, xor_ones]
  have := ref_loop l hl hm l.length k 0 (~~~ reg c) (by omega) hk
  rw [show ((0 : Nat) : Int) = 0 from rfl] at this
  rw [this]
  simp [sumI, sum]
theorem ref_sum_is (l : List Int) (hl : Oct l) (hm : l.length ≤ 9223372036854775806) (k : Nat) (hk : 10 * l.length < k) : undercroftref02_Sum.f k l = some (sumI 0 l) := by
  unfold undercroftref02_Sum.f
  rw [ref_extend_is 0 l hl hm k hk]
  rfl

theorem copied_is (a : List Int) (h : a.length < 140737488355328) : undercroftref02_Copied.f a = some a := by
  unfold undercroftref02_Copied.f
  rw [if_pos (by simpa using h)]
  simp

theorem w64_tdiv (n : Int) (h0 : 0 ≤ n) (h1 : n ≤ 18446744073709551615) : IntKind.u64.wrap (Int.tdiv n 256) = n / 256 := by
  rw [Int.tdiv_eq_ediv_of_nonneg h0]
  simp [IntKind.wrap, IntKind.bits, IntKind.signed]
  omega
/-- The octets, i of them laid. -/
def octPart (n : Int) (s i : Nat) : List Int := (List.range s).map fun j => if j < s - i then 0 else n / 256 ^ (s - 1 - j) % 256
theorem octPart_zero (n : Int) (s : Nat) : octPart n s 0 = List.replicate s 0 := by
  apply List.ext_getElem
  · simp [octPart]
  · intro i h1 h2
    simp [octPart] at h1 ⊢
    omega
theorem octPart_all (n : Int) (s : Nat) : octPart n s s = octI n s := by
  unfold octPart octI
  refine List.map_congr_left fun j hj => ?_
  rw [if_neg (by omega)]
theorem octPart_set (n : Int) (s i : Nat) (h : i < s) : (octPart n s i).set (s - 1 - i) (n / 256 ^ i % 256) = octPart n s (i + 1) := by
  apply List.ext_getElem
  · simp [octPart]
  · intro j h1 h2
    simp [octPart] at h1
    rw [List.getElem_set]
    by_cases e : s - 1 - i = j
    · subst e
      rw [if_pos rfl]
      simp only [octPart, List.getElem_map, List.getElem_range]
      rw [if_neg (by omega), show s - 1 - (s - 1 - i) = i by omega]
    · rw [if_neg e]
      simp only [octPart, List.getElem_map, List.getElem_range]
      by_cases h3 : j < s - i
      · rw [if_pos h3, if_pos (by omega)]
      · rw [if_neg h3, if_neg (by omega)]
theorem pow_pos_i (i : Nat) : (0 : Int) < 256 ^ i := Int.pow_pos (by decide)
theorem div_step (n : Int) (i : Nat) : n / 256 ^ i / 256 = n / 256 ^ (i + 1) := by
  rw [Int.pow_succ, Int.ediv_ediv_of_nonneg (Int.le_of_lt (pow_pos_i i))]
theorem refOctets_loop (n : Int) (s : Nat) (hs : s ≤ 64) (h0 : 0 ≤ n) (h1 : n ≤ 18446744073709551615) : ∀ (d k i : Nat), i + d = s → d < k → undercroftref01_Octets.l0 k (n / 256 ^ i) (s : Int) (octPart n s i) (i : Int) = some (octI n s) := by
  intro d
  induction d with
  | zero =>
    intro k i hi hk
    obtain ⟨k, rfl⟩ : ∃ m, k = m + 1 := ⟨k - 1, by omega⟩
    simp only [undercroftref01_Octets.l0]
    rw [if_neg (by omega), show i = s by omega, octPart_all]
  | succ d ih =>
    intro k i hi hk
    obtain ⟨k, rfl⟩ : ∃ m, k = m + 1 := ⟨k - 1, by omega⟩
    simp only [undercroftref01_Octets.l0]
    have hq0 : 0 ≤ n / 256 ^ i := Int.ediv_nonneg h0 (Int.le_of_lt (pow_pos_i i))
    have hq1 : n / 256 ^ i ≤ n := Int.ediv_le_self _ h0
    have hl : (octPart n s i).length = s := by simp [octPart]
    have e1 : wrap64 ((s : Int) - 1) = (s : Int) - 1 := w_id (by omega) (by omega)
    have e2 : wrap64 ((s : Int) - 1 - i) = (s : Int) - 1 - i := w_id (by omega) (by omega)
    rw [if_pos (by omega), e1, e2, if_pos (by omega), if_pos (by omega), w64_tdiv _ hq0 (by omega), w_id (by omega) (by omega), div_step]
    have e3 : ((s : Int) - 1 - i).toNat = s - 1 - i := by omega
    have e4 : Int.tmod (n / 256 ^ i) 256 % 256 = n / 256 ^ i % 256 := by
      rw [Int.tmod_eq_emod_of_nonneg hq0]; omega
    rw [e3, e4, octPart_set n s i (by omega)]
    have h3 := ih k (i + 1) (by omega) (by omega)
    rw [show ((i + 1 : Nat) : Int) = (i : Int) + 1 from rfl] at h3
    exact h3
theorem refOctets_is (n s : Int) (k : Nat) (hk : 65 ≤ k) (hs0 : 0 ≤ s) (hs : s ≤ 64) (h0 : 0 ≤ n) (h1 : n ≤ 18446744073709551615) : undercroftref01_Octets.f k n s = some (octI n s.toNat) := by
  unfold undercroftref01_Octets.f
  rw [if_pos hs0, if_pos (by omega), ← octPart_zero n]
  have := refOctets_loop n s.toNat (by omega) h0 h1 s.toNat k 0 (by omega) (by omega)
  rw [show ((s.toNat : Nat) : Int) = s by omega] at this
  have e : n / 256 ^ 0 = n := by rw [Int.pow_zero, Int.ediv_one]
  rw [e] at this
  exact this

theorem wu64_id {x : Int} (h0 : 0 ≤ x) (h1 : x ≤ 18446744073709551615) : IntKind.u64.wrap x = x := by
  simp [IntKind.wrap, IntKind.bits, IntKind.signed]
  omega
/-- The reference's number, modulo what its kind holds; exact where the octets but the zeros ahead are eight at most. -/
theorem refNumber_loop (l : List Int) (h : Oct l) (hl : l.length ≤ 140737488351232) (h8 : (tz l).length ≤ 8) : ∀ (d k i : Nat), i + d = l.length → d < k → undercroftref01_Number.l0 k l (numI (l.take i)) (i : Int) = some (numI l) := by
  intro d
  induction d with
  | zero =>
    intro k i hi hk
    obtain ⟨k, rfl⟩ : ∃ m, k = m + 1 := ⟨k - 1, by omega⟩
    simp only [undercroftref01_Number.l0]
    rw [if_neg (by omega), List.take_of_length_le (by omega)]
  | succ d ih =>
    intro k i hi hk
    obtain ⟨k, rfl⟩ : ∃ m, k = m + 1 := ⟨k - 1, by omega⟩
    have hlt : i < l.length := by omega
    have hx := h l[i] (List.getElem_mem hlt)
    have hn : numI (l.take (i + 1)) = numI (l.take i) * 256 + l[i] := by rw [List.take_succ_eq_append_getElem hlt, numI_snoc]
    have hb : 0 ≤ numI (l.take i) ∧ numI (l.take i) < 72057594037927936 := num_take l h h8 i hlt
    simp only [undercroftref01_Number.l0]
    rw [if_pos (by omega), if_pos (by omega), rd_nat l i hlt]
    have e : IntKind.u64.wrap ((IntKind.u64.wrap (256 * numI (l.take i))) + (IntKind.u64.wrap l[i])) = numI (l.take (i + 1)) := by
      rw [hn, wu64_id (x := 256 * numI (l.take i)) (by omega) (by omega), wu64_id (x := l[i]) (by omega) (by omega), wu64_id (by omega) (by omega)]
      omega
    rw [e, w_id (by omega) (by omega)]
    exact ih k (i + 1) (by omega) (by omega)
theorem refNumber_is (l : List Int) (h : Oct l) (hl : l.length ≤ 140737488351232) (h8 : (tz l).length ≤ 8) (k : Nat) (hk : l.length < k) : undercroftref01_Number.f k l = some (numI l) := refNumber_loop l h hl h8 l.length k 0 (by omega) (by omega)

theorem rmay_is (x : S60) : undercroftref13_May.f x.f0 x.f1 x.f2 = some (!(toB x).bad) := by
  unfold undercroftref13_May.f S43.bad toB
  by_cases h1 : x.f0 ≥ 1 <;> by_cases h2 : x.f0 ≤ 2147483647 <;> by_cases h3 : x.f1 ≥ 0 <;> by_cases h4 : x.f1 ≤ 255 <;> simp [h1, h2, h3, h4] <;> omega
theorem wn64 {i : Nat} (h : i ≤ 4611686018427387904) : wrap64 ((i : Int) + 1) = ((i + 1 : Nat) : Int) := by unfold wrap64; omega
theorem rcheck_loop (n : Int) (l : List S60) (hl : l.length ≤ 8) : ∀ (d i : Nat), i + d = l.length → Ev (fun k => undercroftref13_Check.l0 k (i : Int) n l) (if ((l.drop i).map toB).any S43.bad = false then 0 else 9) := by
  intro d
  induction d with
  | zero =>
    intro i hi
    rw [List.drop_eq_nil_of_le (by omega)]
    refine Ev.step (f := fun _ => some 0) (fun k => ?_) (Ev.now _)
    rw [undercroftref13_Check.l0, if_neg (by omega)]
  | succ d ih =>
    intro i hi
    have hlt : i < l.length := by omega
    have hr := rdR_nat l i hlt
    rw [List.drop_eq_getElem_cons hlt, List.map_cons, List.any_cons]
    generalize l[i] = x at hr ⊢
    cases hb : (toB x).bad with
    | true =>
      refine Ev.step (f := fun _ => some 9) (fun k => ?_) (Ev.now _)
      rw [undercroftref13_Check.l0, if_pos (by omega), if_pos (by omega), hr, rmay_is, hb]
      rfl
    | false =>
      refine Ev.step (f := fun k => undercroftref13_Check.l0 k ((i + 1 : Nat) : Int) n l) (fun k => ?_) (ih (i + 1) (by omega))
      rw [undercroftref13_Check.l0, if_pos (by omega), if_pos (by omega), hr, rmay_is, hb, wn64 (by omega)]
      rfl
theorem rcheck_bad (n : Int) (l : List S60) : Ev (fun k => undercroftref13_Check.j0 k true n l) 9 :=
  Ev.step (f := fun _ => some 9) (fun k => by rw [undercroftref13_Check.j0, if_pos rfl]) (Ev.now _)
theorem rcheck_is (n : Int) (l : List S60) : Ev (fun k => undercroftref13_Check.f k n l) (checkI n (l.map toB)) := by
  unfold undercroftref13_Check.f checkI
  rw [List.length_map]
  by_cases h1 : n < 1
  · rw [if_neg (by omega)]
    exact Ev.congr (fun k => if_pos h1) (rcheck_bad n l)
  by_cases h2 : n > 1099511627776
  · rw [if_neg (by omega)]
    exact Ev.congr (fun k => by rw [if_neg h1, if_pos h2]) (rcheck_bad n l)
  by_cases h3 : (l.length : Int) < 1
  · rw [if_neg (by omega)]
    exact Ev.congr (fun k => by rw [if_neg h1, if_neg h2, if_pos h3]) (rcheck_bad n l)
  by_cases h4 : (l.length : Int) > 8
  · rw [if_neg (by omega)]
    exact Ev.congr (fun k => by rw [if_neg h1, if_neg h2, if_neg h3, decide_eq_true h4]) (rcheck_bad n l)
  · have hc := rcheck_loop n l (by omega) l.length 0 (by omega)
    rw [List.drop_zero] at hc
    have e : (if 1 ≤ n ∧ n ≤ 1099511627776 ∧ 1 ≤ l.length ∧ l.length ≤ 8 ∧ (l.map toB).any S43.bad = false then (0 : Int) else 9) = (if (l.map toB).any S43.bad = false then 0 else 9) := by
      by_cases hb : (l.map toB).any S43.bad = false
      · rw [if_pos hb, if_pos ⟨by omega, by omega, by omega, by omega, hb⟩]
      · rw [if_neg hb, if_neg (fun h => hb h.2.2.2.2)]
    rw [e]
    refine Ev.congr (f := fun k => undercroftref13_Check.j0 k false n l) (fun k => by rw [if_neg h1, if_neg h2, if_neg h3, decide_eq_false h4]) ?_
    refine Ev.step (f := fun k => undercroftref13_Check.l0 k ((0 : Nat) : Int) n l) (fun k => ?_) hc
    rw [undercroftref13_Check.j0, if_neg (by decide)]
    rfl
/-- What the document seals. -/
theorem rocts (n : Int) (s : Nat) (hs : s ≤ 64) (h0 : 0 ≤ n) (h1 : n ≤ 9223372036854775807) : Ev (fun k => undercroftref01_Octets.f k (IntKind.u64.wrap n) (s : Int)) (octI n s) :=
  ⟨65, fun k hk => by
    have h := refOctets_is n (s : Int) k hk (by omega) (by omega) h0 (by omega)
    rw [Int.toNat_natCast] at h
    rw [u64_id h0 h1]
    exact h⟩
theorem rseal_l0 (n : Int) (l : List S60) (hl : l.length ≤ 8) (hok : ∀ x ∈ l, okB (toB x)) (R : List Int × Int) : ∀ (d i : Nat) (p : List Int), i + d = l.length → p.length + 6 * d ≤ 100 → Ev (fun k => undercroftref13_Seal.l1 k (p ++ heads ((l.drop i).map toB)) ((0 : Nat) : Int) n l) R → Ev (fun k => undercroftref13_Seal.l0 k p (i : Int) n l) R := by
  intro d
  induction d with
  | zero =>
    intro i p hi hp hnext
    rw [List.drop_eq_nil_of_le (by omega)] at hnext
    have e : p ++ heads (([] : List S60).map toB) = p := List.append_nil _
    rw [e] at hnext
    refine Ev.step (f := fun k => undercroftref13_Seal.l1 k p ((0 : Nat) : Int) n l) (fun k => ?_) hnext
    rw [undercroftref13_Seal.l0, if_neg (by omega)]
    rfl
  | succ d ih =>
    intro i p hi hp hnext
    have hlt : i < l.length := by omega
    have hr := rdR_nat l i hlt
    have hk := hok l[i] (List.getElem_mem hlt)
    have e : p ++ heads ((l.drop i).map toB) = (p ++ headI (toB l[i])) ++ heads ((l.drop (i + 1)).map toB) := by
      rw [List.drop_eq_getElem_cons hlt, List.map_cons, heads_cons, List.append_assoc]
    rw [e] at hnext
    generalize l[i] = x at hr hk hnext
    obtain ⟨k1, k2, k3, k4, k5⟩ := hk
    have k1 : 1 ≤ x.f0 := k1
    have k2 : x.f0 ≤ 2147483647 := k2
    have k3 : 0 ≤ x.f1 := k3
    have k4 : x.f1 ≤ 255 := k4
    have k5 : x.f2.length ≤ 32 := k5
    have eh : headI (toB x) = octI x.f0 4 ++ [x.f1 % 256, (x.f2.length : Int) % 256] := by
      unfold headI toB
      simp only
      rw [octI_one _ k3 k4, octI_one (x.f2.length : Int) (by omega) (by omega), show x.f1 % 256 = x.f1 by omega, show (x.f2.length : Int) % 256 = (x.f2.length : Int) by omega]
      rfl
    have hol := octI_len x.f0 4
    refine Ev.step (f := fun k => (undercroftref01_Octets.f k (IntKind.u64.wrap x.f0) ((4 : Nat) : Int)).bind fun t => (if p.length + t.length < 140737488355328 then ((some (p ++ t : List Int)).bind fun y => ((some (([x.f1 % 256, (x.f2.length : Int) % 256] : List Int) : List Int)).bind fun z => (if y.length + z.length < 140737488355328 then (undercroftref13_Seal.l0 k (y ++ z) ((i + 1 : Nat) : Int) n l) else (none)))) else (none))) (fun k => ?_) (Ev.bind (rocts x.f0 4 (by omega) (by omega) (by omega)) ?_)
    · rw [undercroftref13_Seal.l0, if_pos (by omega), if_pos (by omega), hr, wn64 (by omega)]
      rfl
    · refine Ev.congr (f := fun k => undercroftref13_Seal.l0 k (p ++ headI (toB x)) ((i + 1 : Nat) : Int) n l) (fun k => ?_) (ih (i + 1) (p ++ headI (toB x)) (by omega) (by rw [List.length_append, headI_len]; omega) hnext)
      rw [if_pos (by omega), Option.bind_some, Option.bind_some, if_pos (by rw [List.length_append]; simp; omega), eh, List.append_assoc]
theorem rseal_l1 (n : Int) (l : List S60) (hl : l.length ≤ 8) (hok : ∀ x ∈ l, okB (toB x)) (hoc : ∀ x ∈ l, Oct x.f2) : ∀ (d i : Nat) (p : List Int), i + d = l.length → Oct p → p.length + 32 * d ≤ 380 → Ev (fun k => undercroftref13_Seal.l1 k p (i : Int) n l) (padI (p ++ datas ((l.drop i).map toB)) ++ octI (crcS (padI (p ++ datas ((l.drop i).map toB)))) 4, 0) := by
  intro d
  induction d with
  | zero =>
    intro i p hi hop hp
    rw [List.drop_eq_nil_of_le (by omega)]
    have e : p ++ datas (([] : List S60).map toB) = p := List.append_nil _
    rw [e]
    have hpl := padI_len p (by omega)
    have hpo : Oct (padI p) := hop.append (fun x hx => by rw [(List.mem_replicate.1 hx).2]; omega)
    have hw : wrap64 (380 - (p.length : Int)) = ((380 - p.length : Nat) : Int) := by unfold wrap64; omega
    have hs := crcS_range (padI p)
    have hsum : ∀ k, 10 * (padI p).length < k → undercroftref02_Sum.f k (padI p) = some (crcS (padI p)) := fun k hk => by
      rw [ref_sum_is _ hpo (by omega) k hk]
      have h1 := sum_is (padI p) hpo
      rw [sumS_is] at h1
      exact h1.symm
    refine Ev.step (f := fun k => (undercroftref02_Sum.f k (padI p)).bind fun t => ((undercroftref01_Octets.f k (IntKind.u64.wrap t) ((4 : Nat) : Int)).bind fun u => (if (padI p).length + u.length < 140737488355328 then (some ((padI p ++ u), 0)) else (none)))) (fun k => ?_) (Ev.bind (a := crcS (padI p)) ⟨10 * (padI p).length + 1, fun k hk => hsum k (by omega)⟩ (Ev.bind (rocts (crcS (padI p)) 4 (by omega) (by omega) (by omega)) (Ev.congr (f := fun _ => some (padI p ++ octI (crcS (padI p)) 4, 0)) (fun k => if_pos (by rw [hpl, octI_len]; omega)) (Ev.now _))))
    rw [undercroftref13_Seal.l1, if_neg (by omega), hw, if_pos (by omega), Int.toNat_natCast, if_pos (by omega)]
    rfl
  | succ d ih =>
    intro i p hi hop hp
    have hlt : i < l.length := by omega
    have hr := rdR_nat l i hlt
    have hk := hok l[i] (List.getElem_mem hlt)
    have ho := hoc l[i] (List.getElem_mem hlt)
    have e : p ++ datas ((l.drop i).map toB) = (p ++ l[i].f2) ++ datas ((l.drop (i + 1)).map toB) := by
      rw [List.drop_eq_getElem_cons hlt, List.map_cons, datas_cons, List.append_assoc]
      rfl
    rw [e]
    generalize l[i] = x at hr hk ho ⊢
    have k5 : x.f2.length ≤ 32 := hk.2.2.2.2
    refine Ev.step (f := fun k => undercroftref13_Seal.l1 k (p ++ x.f2) ((i + 1 : Nat) : Int) n l) (fun k => ?_) (ih (i + 1) (p ++ x.f2) (by omega) (hop.append ho) (by rw [List.length_append]; omega))
    rw [undercroftref13_Seal.l1, if_pos (by omega), if_pos (by omega), hr, if_pos (by omega), wn64 (by omega)]
theorem rseal_is (n : Int) (l : List S60) (hoc : ∀ x ∈ l, Oct x.f2) : Ev (fun k => undercroftref13_Seal.f k n l) (if checkI n (l.map toB) = 0 then (sealI n (l.map toB), 0) else ([], 9)) := by
  unfold undercroftref13_Seal.f
  refine Ev.bind (rcheck_is n l) ?_
  by_cases hc : checkI n (l.map toB) = 0
  · rw [if_pos hc]
    obtain ⟨h1, h2, h3, h4, h5⟩ := (check_iff _ _).1 hc
    rw [List.length_map] at h3 h4
    have hok : ∀ x ∈ l, okB (toB x) := fun x hx => h5 _ (List.mem_map_of_mem hx)
    have hol := octI_len n 8
    have e1 := rseal_l1 n l h4 hok hoc l.length 0 (([115, 101, 103, 49] ++ octI n 8 ++ [(l.length : Int)]) ++ heads (l.map toB)) (by omega) (by
      refine Oct.append (Oct.append (Oct.append ?_ (octI_oct n 8)) ?_) (heads_oct _)
      · intro x hx
        simp at hx
        omega
      · intro x hx
        simp at hx
        omega) (by
      simp only [List.length_append, hol, heads_len, List.length_map, List.length_cons, List.length_nil]
      omega)
    rw [List.drop_zero] at e1
    have e0 := rseal_l0 n l h4 hok _ l.length 0 ([115, 101, 103, 49] ++ octI n 8 ++ [(l.length : Int)]) (by omega) (by simp only [List.length_append, hol, List.length_cons, List.length_nil]; omega) (by rw [List.drop_zero]; exact e1)
    have ep : padI ([115, 101, 103, 49] ++ octI n 8 ++ [(l.length : Int)] ++ heads (l.map toB) ++ datas (l.map toB)) = plainI n (l.map toB) := by
      unfold plainI
      rw [List.length_map, octI_one (l.length : Int) (by omega) (by omega)]
    rw [ep] at e0
    refine Ev.congr (f := fun k => (undercroftref01_Octets.f k (IntKind.u64.wrap n) ((8 : Nat) : Int)).bind fun t158 => (if ([115, 101, 103, 49] : List Int).length + t158.length < 140737488355328 then ((some ([115, 101, 103, 49] ++ t158 : List Int)).bind fun y161 => (if y161.length < 140737488355328 then (undercroftref13_Seal.l0 k (y161 ++ [((l.length : Int)) % 256]) ((0 : Nat) : Int) n l) else (none))) else (none))) (fun k => by rw [if_pos hc]; rfl) ?_
    refine Ev.bind (rocts n 8 (by omega) (by omega) (by omega)) ?_
    refine Ev.congr (f := fun k => undercroftref13_Seal.l0 k ([115, 101, 103, 49] ++ octI n 8 ++ [(l.length : Int)]) ((0 : Nat) : Int) n l) (fun k => ?_) e0
    rw [if_pos (by rw [hol]; decide), Option.bind_some, if_pos (by rw [List.length_append, hol]; decide), show (l.length : Int) % 256 = (l.length : Int) by omega]
  · rw [if_neg hc]
    exact Ev.congr (f := fun _ => some ([], 9)) (fun k => if_neg hc) (Ev.now _)

theorem ow_at (zs : List Int) (j : Nat) (hj : j < zs.length) : zs.toArray[j]! = zs[j] := by simp [hj]
theorem ow_mem (zs : List Int) (x : Int) : x ∈ Lib.compact zs ↔ x ∈ zs := by
  unfold Lib.compact Lib.compactUpTo
  simp only [List.mem_map, List.mem_filter, List.mem_range]
  constructor
  · rintro ⟨j, ⟨hj, _⟩, rfl⟩
    rw [ow_at zs j hj]
    exact List.getElem_mem _
  · intro h
    obtain ⟨j, hj, rfl⟩ := List.getElem_of_mem h
    have key : ∀ j (hj : j < zs.length), ∃ i, (i < zs.length ∧ Lib.keeps zs.toArray i = true) ∧ zs.toArray[i]! = zs[j] := by
      intro j
      induction j with
      | zero => intro hj; exact ⟨0, ⟨hj, Lib.keeps_lt_one _ 0 (by omega)⟩, ow_at zs 0 hj⟩
      | succ j ih =>
        intro hj
        by_cases he : zs[j + 1] = zs[j]
        · obtain ⟨i, hi, h2⟩ := ih (by omega)
          exact ⟨i, hi, by rw [h2, he]⟩
        · refine ⟨j + 1, ⟨hj, Lib.keeps_pos ?_⟩, ow_at zs _ hj⟩
          rw [Nat.add_sub_cancel, ow_at zs _ hj, ow_at zs _ (by omega)]
          exact he
    exact key j hj
theorem ow_rise (zs : List Int) (hs : zs.Pairwise (fun a b => a ≤ b)) : (Lib.compact zs).Pairwise (fun a b => a < b) := by
  unfold Lib.compact Lib.compactUpTo
  rw [List.pairwise_map]
  have hb : ((List.range zs.length).filter (Lib.keeps zs.toArray)).Pairwise (fun a b => a < b) := List.Pairwise.filter _ List.pairwise_lt_range
  refine List.Pairwise.imp_of_mem ?_ hb
  intro a b ha hb hab
  simp only [List.mem_filter, List.mem_range] at ha hb
  have h1 := hb.2
  unfold Lib.keeps at h1
  have h2 := of_decide_eq_true h1
  have h3 : zs.toArray[b]! ≠ zs.toArray[b - 1]! := by
    rcases h2 with h | h
    · omega
    · exact h
  rw [ow_at zs b hb.1, ow_at zs (b - 1) (by omega)] at h3
  rw [ow_at zs a ha.1, ow_at zs b hb.1]
  rw [List.pairwise_iff_getElem] at hs
  have h4 : zs[a] ≤ zs[b - 1]'(by omega) := by
    by_cases he : a = b - 1
    · subst he; exact Int.le_refl _
    · exact hs a (b - 1) ha.1 (by omega) (by omega)
  have h5 : zs[b - 1]'(by omega) ≤ zs[b] := hs (b - 1) b (by omega) hb.1 (by omega)
  omega
def ownersI (l : List Int) : List Int := Lib.compact (l.mergeSort fun x y => decide (x ≤ y))
theorem ownersI_mem (l : List Int) (x : Int) : x ∈ ownersI l ↔ x ∈ l := by
  unfold ownersI
  rw [ow_mem, List.mem_mergeSort]
theorem ownersI_rise (l : List Int) : (ownersI l).Pairwise (fun a b => a < b) := by
  refine ow_rise _ ?_
  have h := List.pairwise_mergeSort (le := fun x y : Int => decide (x ≤ y)) (fun a b c h1 h2 => by simp at *; omega) (fun a b => by simp; omega) l
  exact h.imp (fun h => of_decide_eq_true h)
theorem wrap_nat (i : Nat) (h : i ≤ 4611686018427387904) : wrap64 ((i : Int) + 1) = ((i + 1 : Nat) : Int) := by unfold wrap64; omega
theorem rdT_nat (l : List S43) (i : Nat) (h : i < l.length) : rd_T43 l (i : Int) = l[i] := by
  unfold rd_T43
  simp [List.getD_eq_getElem?_getD, h]
theorem owners_loop (l : List S43) (hl : l.length ≤ 8) : ∀ (d i : Nat) (acc : List Int), i + d = l.length → acc = (l.take i).map (fun x => x.f0) → Ev (fun k => segment_Owners.l0 k acc l (l.length : Int) (i : Int)) (ownersI (l.map fun x => x.f0), 0) := by
  intro d
  induction d with
  | zero =>
    intro i acc hi ha
    refine Ev.step (f := fun _ => some (ownersI (l.map fun x => x.f0), 0)) (fun k => ?_) (Ev.now _)
    rw [segment_Owners.l0, if_neg (by omega), if_pos (by rw [ha, List.length_map, List.length_take]; omega), ha, List.take_of_length_le (by omega)]
    rfl
  | succ d ih =>
    intro i acc hi ha
    have hlt : i < l.length := by omega
    refine Ev.step (f := fun k => segment_Owners.l0 k (acc ++ [l[i].f0]) l (l.length : Int) ((i + 1 : Nat) : Int)) (fun k => ?_) (ih (i + 1) _ (by omega) ?_)
    · rw [segment_Owners.l0, if_pos (by omega), if_pos (by omega), if_pos (by omega), if_pos (by rw [ha, List.length_map, List.length_take]; omega), rdT_nat l i hlt, wrap_nat i (by omega)]
    · rw [ha, List.take_succ_eq_append_getElem hlt, List.map_append]
      rfl
theorem owners_is (n : Int) (l : List S43) : Ev (fun k => segment_Owners.f k n l) (if checkI n l = 0 then (ownersI (l.map fun x => x.f0), 0) else ([], 9)) := by
  have hc : segment_Check.f n l = some (checkI n l) := rfl
  by_cases h : checkI n l = 0
  · rw [if_pos h]
    have h2 := (check_iff n l).1 h
    refine Ev.congr (f := fun k => segment_Owners.l0 k [] l (l.length : Int) ((0 : Nat) : Int)) (fun k => ?_) (owners_loop l (by omega) l.length 0 [] (by omega) (by simp))
    unfold segment_Owners.f
    rw [hc, Option.bind_some, if_pos h]
    rfl
  · rw [if_neg h]
    have h9 : checkI n l = 9 := (check_or n l).resolve_left h
    refine Ev.congr (f := fun _ => some ([], 9)) (fun k => ?_) (Ev.now _)
    unfold segment_Owners.f
    rw [hc, Option.bind_some, if_neg h, h9]
/-- The loop that looks an owner up among the blocks. -/

theorem rise_eq : ∀ (a b : List Int), a.Pairwise (fun x y => x < y) → b.Pairwise (fun x y => x < y) → (∀ x, x ∈ a ↔ x ∈ b) → a = b
  | [], [], _, _, _ => rfl
  | [], y :: ys, _, _, h => by have := (h y).2 (List.mem_cons_self); cases this
  | x :: xs, [], _, _, h => by have := (h x).1 (List.mem_cons_self); cases this
  | x :: xs, y :: ys, ha, hb, h => by
    obtain ⟨a1, a2⟩ := List.pairwise_cons.1 ha
    obtain ⟨b1, b2⟩ := List.pairwise_cons.1 hb
    have e : x = y := by
      rcases List.mem_cons.1 ((h x).1 List.mem_cons_self) with h1 | h1
      · exact h1
      · rcases List.mem_cons.1 ((h y).2 List.mem_cons_self) with h2 | h2
        · exact h2.symm
        · have h3 := b1 x h1
          have h4 := a1 y h2
          omega
    subst e
    have e2 : xs = ys := rise_eq xs ys a2 b2 (fun z => by
      constructor
      · intro hz
        have h1 := a1 z hz
        rcases List.mem_cons.1 ((h z).1 (List.mem_cons_of_mem _ hz)) with h2 | h2
        · omega
        · exact h2
      · intro hz
        have h1 := b1 z hz
        rcases List.mem_cons.1 ((h z).2 (List.mem_cons_of_mem _ hz)) with h2 | h2
        · omega
        · exact h2)
    rw [e2]
/-- The least that is above a number. -/
def minA (last : Int) : List Int → Int → Int
  | [], low => low
  | x :: r, low => if x > last then minA last r (mn low x) else minA last r low
theorem mn_or (a b : Int) : mn a b ≤ a ∧ mn a b ≤ b ∧ (mn a b = a ∨ mn a b = b) := by
  unfold mn
  split
  · exact ⟨by omega, by omega, .inr rfl⟩
  · exact ⟨by omega, by omega, .inl rfl⟩
theorem minA_is (last : Int) : ∀ (l : List Int) (low : Int), minA last l low ≤ low ∧ (∀ x ∈ l, last < x → minA last l low ≤ x) ∧ (minA last l low = low ∨ (minA last l low ∈ l ∧ last < minA last l low)) := by
  intro l
  induction l with
  | nil => intro low; exact ⟨Int.le_refl _, fun x hx => (by cases hx), .inl rfl⟩
  | cons x r ih =>
    intro low
    rw [minA]
    by_cases h : x > last
    · rw [if_pos h]
      obtain ⟨h1, h2, h3⟩ := ih (mn low x)
      obtain ⟨m1, m2, m3⟩ := mn_or low x
      refine ⟨by omega, ?_, ?_⟩
      · intro y hy hl
        rcases List.mem_cons.1 hy with e | e
        · subst e; omega
        · exact h2 y e hl
      · rcases h3 with h4 | ⟨h4, h5⟩
        · rcases m3 with e | e
          · exact .inl (by omega)
          · exact .inr ⟨by rw [h4, e]; exact List.mem_cons_self, by omega⟩
        · exact .inr ⟨List.mem_cons_of_mem _ h4, h5⟩
    · rw [if_neg h]
      obtain ⟨h1, h2, h3⟩ := ih low
      refine ⟨h1, ?_, ?_⟩
      · intro y hy hl
        rcases List.mem_cons.1 hy with e | e
        · subst e; omega
        · exact h2 y e hl
      · rcases h3 with h4 | ⟨h4, h5⟩
        · exact .inl h4
        · exact .inr ⟨List.mem_cons_of_mem _ h4, h5⟩
theorem filt_lt (a m : Int) (h : a < m) : ∀ l : List Int, (l.filter (fun x => decide (m < x))).length ≤ (l.filter (fun x => decide (a < x))).length ∧ (m ∈ l → (l.filter (fun x => decide (m < x))).length < (l.filter (fun x => decide (a < x))).length) := by
  intro l
  induction l with
  | nil => exact ⟨Nat.le_refl _, fun h => by cases h⟩
  | cons x r ih =>
    obtain ⟨h1, h2⟩ := ih
    rw [List.filter_cons, List.filter_cons]
    by_cases c1 : m < x
    · rw [if_pos (decide_eq_true c1), if_pos (decide_eq_true (by omega))]
      simp only [List.length_cons]
      refine ⟨by omega, fun hm => ?_⟩
      rcases List.mem_cons.1 hm with e | e
      · omega
      · have := h2 e; omega
    · rw [if_neg (by simpa using c1)]
      by_cases c2 : a < x
      · rw [if_pos (decide_eq_true c2)]
        simp only [List.length_cons]
        exact ⟨by omega, fun _ => by omega⟩
      · rw [if_neg (by simpa using c2)]
        refine ⟨h1, fun hm => ?_⟩
        rcases List.mem_cons.1 hm with e | e
        · omega
        · exact h2 e
theorem rown_l1 (n : Int) (l : List S60) (hl : l.length ≤ 8) (out : List Int) (last : Int) (R : List Int × Int) : ∀ (d i : Nat) (low : Int), i + d = l.length → Ev (fun k => if minA last ((l.drop i).map (fun x => x.f0)) low > 2147483647 then (some (out, 0)) else (if out.length < 17592186044416 then (undercroftref13_Owners.l0 k (out ++ [minA last ((l.drop i).map (fun x => x.f0)) low]) (minA last ((l.drop i).map (fun x => x.f0)) low) n l) else (none))) R → Ev (fun k => undercroftref13_Owners.l1 k out last low (i : Int) n l) R := by
  intro d
  induction d with
  | zero =>
    intro i low hi h
    rw [List.drop_eq_nil_of_le (by omega)] at h
    refine Ev.step (fun k => ?_) h
    rw [undercroftref13_Owners.l1, if_neg (by omega)]
    rfl
  | succ d ih =>
    intro i low hi h
    have hlt : i < l.length := by omega
    have hr := rdR_nat l i hlt
    rw [List.drop_eq_getElem_cons hlt, List.map_cons, minA] at h
    generalize l[i] = x at hr h
    by_cases hx : x.f0 > last
    · rw [if_pos hx] at h
      refine Ev.step (f := fun k => undercroftref13_Owners.l1 k out last (mn low x.f0) ((i + 1 : Nat) : Int) n l) (fun k => ?_) (ih (i + 1) (mn low x.f0) (by omega) h)
      rw [undercroftref13_Owners.l1, if_pos (by omega), if_pos (by omega), hr, if_pos hx, wn64 (by omega)]
    · rw [if_neg hx] at h
      refine Ev.step (f := fun k => undercroftref13_Owners.l1 k out last low ((i + 1 : Nat) : Int) n l) (fun k => ?_) (ih (i + 1) low (by omega) h)
      rw [undercroftref13_Owners.l1, if_pos (by omega), if_pos (by omega), hr, if_neg hx, wn64 (by omega)]
theorem rown_l0 (n : Int) (l : List S60) (hl : l.length ≤ 8) (hb : ∀ x ∈ l.map (fun x => x.f0), x ≤ 2147483647) : ∀ (m : Nat) (out : List Int) (last : Int), ((l.map (fun x => x.f0)).filter (fun x => decide (last < x))).length ≤ m → out.length + m ≤ 8 → out.Pairwise (fun x y => x < y) → (∀ x, x ∈ out ↔ (x ∈ l.map (fun x => x.f0) ∧ x ≤ last)) → Ev (fun k => undercroftref13_Owners.l0 k out last n l) (ownersI (l.map (fun x => x.f0)), 0) := by
  intro m
  induction m with
  | zero =>
    intro out last hf hm hp hmem
    obtain ⟨h1, h2, h3⟩ := minA_is last (l.map (fun x => x.f0)) 2147483648
    have hno : ∀ x ∈ l.map (fun x => x.f0), ¬ last < x := fun x hx hlt => by
      have h4 : x ∈ (l.map (fun x => x.f0)).filter (fun x => decide (last < x)) := List.mem_filter.2 ⟨hx, decide_eq_true hlt⟩
      have h5 := List.length_pos_of_mem h4
      omega
    have hM : minA last (l.map (fun x => x.f0)) 2147483648 > 2147483647 := by
      rcases h3 with e | ⟨e1, e2⟩
      · omega
      · exact absurd e2 (hno _ e1)
    have ho : out = ownersI (l.map (fun x => x.f0)) := rise_eq _ _ hp (ownersI_rise _) (fun x => by
      rw [hmem, ownersI_mem]
      exact ⟨fun h => h.1, fun h => ⟨h, by have := hno x h; omega⟩⟩)
    refine Ev.step (f := fun k => undercroftref13_Owners.l1 k out last 2147483648 ((0 : Nat) : Int) n l) (fun k => rfl) ?_
    refine rown_l1 n l hl out last _ l.length 0 2147483648 (by omega) ?_
    rw [List.drop_zero, ← ho]
    exact Ev.congr (f := fun _ => some (out, 0)) (fun k => if_pos hM) (Ev.now _)
  | succ m ih =>
    intro out last hf hm hp hmem
    obtain ⟨h1, h2, h3⟩ := minA_is last (l.map (fun x => x.f0)) 2147483648
    refine Ev.step (f := fun k => undercroftref13_Owners.l1 k out last 2147483648 ((0 : Nat) : Int) n l) (fun k => rfl) ?_
    refine rown_l1 n l hl out last _ l.length 0 2147483648 (by omega) ?_
    rw [List.drop_zero]
    generalize minA last (l.map (fun x => x.f0)) 2147483648 = M at h1 h2 h3
    by_cases hM : M > 2147483647
    · have hno : ∀ x ∈ l.map (fun x => x.f0), ¬ last < x := fun x hx hlt => by
        have h4 := h2 x hx hlt
        have h5 := hb x hx
        omega
      have ho : out = ownersI (l.map (fun x => x.f0)) := rise_eq _ _ hp (ownersI_rise _) (fun x => by
        rw [hmem, ownersI_mem]
        exact ⟨fun h => h.1, fun h => ⟨h, by have := hno x h; omega⟩⟩)
      rw [← ho]
      exact Ev.congr (f := fun _ => some (out, 0)) (fun k => if_pos hM) (Ev.now _)
    · have h4 : M ∈ l.map (fun x => x.f0) ∧ last < M := by
        rcases h3 with e | e
        · omega
        · exact e
      have hfl := (filt_lt last M h4.2 (l.map (fun x => x.f0))).2 h4.1
      refine Ev.congr (f := fun k => undercroftref13_Owners.l0 k (out ++ [M]) M n l) (fun k => by rw [if_neg hM, if_pos (by omega)]) (ih (out ++ [M]) M (by omega) (by rw [List.length_append, List.length_singleton]; omega) ?_ ?_)
      · rw [List.pairwise_append]
        refine ⟨hp, List.pairwise_singleton _ _, fun a ha b hb2 => ?_⟩
        have h5 := ((hmem a).1 ha).2
        have h6 := List.mem_singleton.1 hb2
        omega
      · intro x
        rw [List.mem_append, List.mem_singleton, hmem]
        constructor
        · rintro (h | h)
          · exact ⟨h.1, by omega⟩
          · subst h; exact ⟨h4.1, Int.le_refl _⟩
        · intro h
          by_cases hx : x ≤ last
          · exact .inl ⟨h.1, hx⟩
          · have := h2 x h.1 (by omega)
            exact .inr (by omega)
theorem rown_is (n : Int) (l : List S60) : Ev (fun k => undercroftref13_Owners.f k n l) (if checkI n (l.map toB) = 0 then (ownersI ((l.map toB).map fun x => x.f0), 0) else ([], 9)) := by
  unfold undercroftref13_Owners.f
  refine Ev.bind (rcheck_is n l) ?_
  by_cases hc : checkI n (l.map toB) = 0
  · rw [if_pos hc]
    obtain ⟨h1, h2, h3, h4, h5⟩ := (check_iff _ _).1 hc
    rw [List.length_map] at h3 h4
    have e : (l.map toB).map (fun x => x.f0) = l.map (fun x => x.f0) := by rw [List.map_map]; rfl
    rw [e]
    have hb : ∀ x ∈ l.map (fun x => x.f0), 1 ≤ x ∧ x ≤ 2147483647 := fun x hx => by
      obtain ⟨y, hy, rfl⟩ := List.mem_map.1 hx
      have h6 := h5 (toB y) (List.mem_map_of_mem hy)
      exact ⟨h6.1, h6.2.1⟩
    have hfl : ((l.map (fun x => x.f0)).filter (fun x => decide (0 < x))).length ≤ 8 := Nat.le_trans (List.length_filter_le _ _) (by rw [List.length_map]; omega)
    exact Ev.congr (f := fun k => undercroftref13_Owners.l0 k [] 0 n l) (fun k => if_pos hc) (rown_l0 n l h4 (fun x hx => (hb x hx).2) 8 [] 0 hfl (by simp) List.Pairwise.nil (fun x => by
      constructor
      · intro h; cases h
      · intro h
        have := (hb x h.1).1
        omega))
  · rw [if_neg hc]
    exact Ev.congr (f := fun _ => some ([], 9)) (fun k => if_neg hc) (Ev.now _)

theorem str_is (a b : List Int) (ha : Oct a) (hb : Oct b) : ((strOfNums a).toList = (strOfNums b).toList) ↔ a = b := by
  constructor
  · intro h
    have h1 := equal_is a b ha hb
    unfold bytes_Equal.f at h1
    have h2 := Option.some.inj h1
    rw [beq_iff_eq.2 h] at h2
    exact of_decide_eq_true h2.symm
  · intro h; rw [h]
theorem seg1_str : (strOfNums [115, 101, 103, 49]).toList = ([115, 101, 103, 49] : List UInt8) := by decide +kernel
theorem mx_up : ∀ (z : List Int) (a : Int), a ≤ z.foldl mx a := by
  intro z
  induction z with
  | nil => exact fun a => Int.le_refl _
  | cons x z ih =>
    intro a
    have h := ih (mx a x)
    have e : a ≤ mx a x := by unfold mx; split <;> omega
    exact Int.le_trans e h
theorem rtail (b : List Int) (ho : Oct b) (hb : b.length = 384) (n : Int) (l : List S60) : ∀ (d i : Nat), i + d = 380 → Ev (fun k => undercroftref13_Open.l1 k b (i : Int) n l) (if maxI (0 :: (b.take 380).drop i) > 0 then (0, [], 23) else (n, l, 0)) := by
  intro d
  induction d with
  | zero =>
    intro i hi
    have e : (b.take 380).drop i = [] := List.drop_eq_nil_of_le (by rw [List.length_take]; omega)
    rw [e, if_neg (show ¬ maxI [0] > 0 by decide)]
    refine Ev.step (f := fun _ => some (n, l, 0)) (fun k => ?_) (Ev.now _)
    rw [undercroftref13_Open.l1, if_neg (by omega)]
  | succ d ih =>
    intro i hi
    have hr := oct_rd b ho i (by omega)
    have e : (b.take 380).drop i = rd b (i : Int) :: (b.take 380).drop (i + 1) := by
      have h1 := drop_cons (b.take 380) i (by rw [List.length_take]; omega)
      rw [h1, rd_nat _ i (by rw [List.length_take]; omega), List.getElem_take, rd_nat b i (by omega)]
    rw [e]
    have e2 : ∀ (x : Int) (r : List Int), maxI (0 :: x :: r) = r.foldl mx (mx 0 x) := fun x r => rfl
    have e3 : ∀ r : List Int, maxI (0 :: r) = r.foldl mx 0 := fun r => rfl
    by_cases hz : rd b (i : Int) = 0
    · have e4 : maxI (0 :: rd b (i : Int) :: (b.take 380).drop (i + 1)) = maxI (0 :: (b.take 380).drop (i + 1)) := by
        rw [e2, e3, hz]
        rfl
      rw [e4]
      refine Ev.step (f := fun k => undercroftref13_Open.l1 k b ((i + 1 : Nat) : Int) n l) (fun k => ?_) (ih (i + 1) (by omega))
      rw [undercroftref13_Open.l1, if_pos (by omega), if_pos (by omega), if_pos (by omega), if_pos hz, wn64 (by omega)]
    · have h5 : maxI (0 :: rd b (i : Int) :: (b.take 380).drop (i + 1)) > 0 := by
        rw [e2]
        have h6 := mx_up ((b.take 380).drop (i + 1)) (mx 0 (rd b (i : Int)))
        have h7 : mx 0 (rd b (i : Int)) > 0 := by unfold mx; rw [if_pos (by omega)]; omega
        omega
      rw [if_pos h5]
      refine Ev.step (f := fun _ => some (0, [], 23)) (fun k => ?_) (Ev.now _)
      rw [undercroftref13_Open.l1, if_pos (by omega), if_pos (by omega), if_pos (by omega), if_neg hz]
def tailT (b : List Int) (m : Nat) (seq : Int) : Int × List S43 × Int :=
  if openBig b m = true then (0, [], 9) else (if checkI seq (openRest b m).1 = 0 then (if maxI (0 :: (b.take 380).drop (openRest b m).2) > 0 then (0, [], 23) else (seq, (openRest b m).1, 0)) else (0, [], 9))
theorem rnum (q : List Int) (hq : Oct q) (h8 : q.length ≤ 8) : Ev (fun k => undercroftref01_Number.f k q) (numI q) :=
  ⟨q.length + 1, fun k hk => refNumber_is q hq (by omega) (by have := tz_length q; omega) k (by omega)⟩
theorem w6_ (i : Nat) (h : i ≤ 8) : wrap64 (6 * (i : Int)) = ((6 * i : Nat) : Int) := by unfold wrap64; omega
theorem w13_ (i : Nat) (h : i ≤ 8) : wrap64 (13 + ((6 * i : Nat) : Int)) = ((13 + 6 * i : Nat) : Int) := by unfold wrap64; omega
theorem w19_ (i : Nat) (h : i ≤ 8) : wrap64 (19 + ((6 * i : Nat) : Int)) = ((19 + 6 * i : Nat) : Int) := by unfold wrap64; omega
theorem wn_ (k : Nat) (h : k ≤ 4611686018427387904) : wrap64 (k : Int) = (k : Int) := by unfold wrap64; omega
theorem wi_ (k : Int) (h0 : 0 ≤ k) (h : k ≤ 4611686018427387904) : wrap64 k = k := by unfold wrap64; omega
theorem wa_ (a k : Nat) (h : a + k ≤ 4611686018427387904) : wrap64 ((a : Int) + (k : Int)) = ((a + k : Nat) : Int) := by unfold wrap64; omega
set_option maxHeartbeats 2000000 in
theorem rloop (b : List Int) (ho : Oct b) (hb : b.length = 384) (m : Nat) (hm : m ≤ 8) (seq : Int) : ∀ (d i off : Nat) (acc : List S60), i + d = m → (List.range i).foldl (open_step b) ([], 13 + 6 * m) = (acc.map toB, off) → off ≤ 13 + 6 * m + 32 * i → 13 ≤ off → acc.length = i → (∀ j, j < i → rd b ((13 + 6 * j + 5 : Nat) : Int) ≤ 32) →
    ∃ R : Int × List S60 × Int, Ev (fun k => undercroftref13_Open.l0 k b (m : Int) (off : Int) (i : Int) seq acc) R ∧ (R.1, R.2.1.map toB, R.2.2) = tailT b m seq := by
  intro d
  induction d with
  | zero =>
    intro i off acc hi hf hoff hoff0 hacc hsz
    have him : i = m := by omega
    subst him
    have hbig : openBig b i = false := by
      unfold openBig
      rw [List.any_eq_false]
      intro j hj
      have := hsz j (List.mem_range.1 hj)
      simp only [decide_eq_true_eq]
      omega
    have hrest : openRest b i = (acc.map toB, off) := hf
    have hstep : ∀ R, Ev (fun k => (undercroftref13_Check.f k seq acc).bind fun t => (if t = 0 then (undercroftref13_Open.l1 k b (off : Int) seq acc) else (some (0, ([] : List S60), 9)))) R → Ev (fun k => undercroftref13_Open.l0 k b (i : Int) (off : Int) (i : Int) seq acc) R := fun R h =>
      Ev.step (fun k => by rw [undercroftref13_Open.l0, if_neg (by omega)]) h
    have hck := rcheck_is seq acc
    unfold tailT
    rw [hbig, hrest, if_neg (by decide)]
    simp only
    by_cases hc : checkI seq (acc.map toB) = 0
    · rw [if_pos hc]
      have ht := rtail b ho hb seq acc (380 - off) off (by omega)
      refine ⟨_, hstep _ (Ev.bind hck (Ev.congr (fun k => if_pos hc) ht)), ?_⟩
      by_cases hx : maxI (0 :: (b.take 380).drop off) > 0
      · rw [if_pos hx, if_pos hx]
        rfl
      · rw [if_neg hx, if_neg hx]
    · rw [if_neg hc]
      exact ⟨(0, [], 9), hstep _ (Ev.bind hck (Ev.congr (f := fun _ => some (0, [], 9)) (fun k => if_neg hc) (Ev.now _))), rfl⟩
  | succ d ih =>
    intro i off acc hi hf hoff hoff0 hacc hsz
    have hlt : i < m := by omega
    have hi8 : i ≤ 8 := by omega
    have c1 : (i : Int) < (m : Int) := by omega
    have c2 : (0 : Int) ≤ ((13 + 6 * i : Nat) : Int) := by omega
    have c3 : ((13 + 6 * i : Nat) : Int) ≤ ((19 + 6 * i : Nat) : Int) := by omega
    have c4 : ((19 + 6 * i : Nat) : Int) ≤ (b.length : Int) := by omega
    have c5 : (5 : Int) < ((6 : Nat) : Int) := by decide
    have c5a : (4 : Int) ≤ ((6 : Nat) : Int) := by decide
    have c5b : (4 : Int) < ((6 : Nat) : Int) := by decide
    have h5r := oct_rd b ho (13 + 6 * i + 5) (by omega)
    have h4r := oct_rd b ho (13 + 6 * i + 4) (by omega)
    obtain ⟨kk, hkk⟩ : ∃ kk : Nat, rd b ((13 + 6 * i + 5 : Nat) : Int) = (kk : Int) := ⟨_, (Int.toNat_of_nonneg h5r.1).symm⟩
    obtain ⟨h, hh⟩ : ∃ h, (b.take (19 + 6 * i)).drop (13 + 6 * i) = h := ⟨_, rfl⟩
    have hh6 : h = (b.drop (13 + 6 * i)).take 6 := by rw [← hh, List.drop_take]; congr 1; omega
    have hs := six b (13 + 6 * i) (by omega)
    rw [← hh6] at hs
    obtain ⟨q, hq⟩ : ∃ q, (b.drop (13 + 6 * i)).take 4 = q := ⟨_, rfl⟩
    rw [hq] at hs
    have hq4 : q.length = 4 := by rw [← hq, List.length_take, List.length_drop]; omega
    have hqo : Oct q := by rw [← hq]; exact (ho.drop _).take _
    have hlen : h.length = 6 := by rw [hs, List.length_append, hq4]; rfl
    have hrd4 : rd h 4 = rd b ((13 + 6 * i + 4 : Nat) : Int) := by rw [hs]; exact rd_at q _ _ 4 hq4
    have hrd5 : rd h 5 = (kk : Int) := by
      rw [hs, ← hkk, show q ++ [rd b ((13 + 6 * i + 4 : Nat) : Int), rd b ((13 + 6 * i + 5 : Nat) : Int)] = (q ++ [rd b ((13 + 6 * i + 4 : Nat) : Int)]) ++ rd b ((13 + 6 * i + 5 : Nat) : Int) :: [] by rw [List.append_assoc]; rfl]
      exact rd_at _ _ _ 5 (by rw [List.length_append, hq4]; rfl)
    have htk : h.take 4 = q := by rw [hs]; exact take_at q _ 4 hq4
    rw [hkk] at h5r
    have hk255 : kk ≤ 255 := by omega
    by_cases hbig : kk > 32
    · refine ⟨(0, [], 9), Ev.step (f := fun _ => some (0, [], 9)) (fun k => ?_) (Ev.now _), ?_⟩
      · have c6 : (kk : Int) > 32 := by omega
        rw [undercroftref13_Open.l0, w6_ i hi8, w13_ i hi8, w19_ i hi8, Int.toNat_natCast, Int.toNat_natCast, hh, hrd5, wn_ kk (by omega), hlen, if_pos c1, if_pos c2, if_pos c3, if_pos c4, if_pos c5, if_pos c6]
      · unfold tailT
        rw [if_pos]
        · rfl
        · unfold openBig
          exact List.any_eq_true.2 ⟨i, List.mem_range.2 hlt, decide_eq_true (by rw [hkk]; omega)⟩
    · have c6 : ¬ (kk : Int) > 32 := by omega
      have c7 : (0 : Int) ≤ (off : Int) := by omega
      have c8 : (off : Int) ≤ ((off + kk : Nat) : Int) := by omega
      have c9 : ((off + kk : Nat) : Int) ≤ (b.length : Int) := by omega
      have c10 : acc.length < 3518437208883 := by omega
      have c11 : off + kk ≤ 4611686018427387904 := by omega
      obtain ⟨dt, hdt⟩ : ∃ dt, (b.drop off).take kk = dt := ⟨_, rfl⟩
      have hcut : (b.take (off + kk)).drop off = dt := by rw [List.drop_take, show off + kk - off = kk by omega, hdt]
      have hcut2 : ((b.take 380).drop off).take kk = dt := by rw [cut_cut b off kk 380 (by omega), hdt]
      have hdl : dt.length < 140737488355328 := by rw [← hdt, List.length_take]; omega
      have hn := numI_le 4 q hqo hq4
      rw [pow4_] at hn
      have hn1 : numI q ≤ 4611686018427387904 := by omega
      have h4b : rd b ((13 + 6 * i + 4 : Nat) : Int) ≤ 4611686018427387904 := by omega
      have hg := getI_small q hqo hq4
      have hf2 : (List.range (i + 1)).foldl (open_step b) ([], 13 + 6 * m) = ((acc ++ [(⟨numI q, rd b ((13 + 6 * i + 4 : Nat) : Int), dt⟩ : S60)]).map toB, off + kk) := by
        rw [List.range_succ, List.foldl_append, hf, List.foldl_cons, List.foldl_nil]
        unfold open_step
        simp only
        rw [hkk, Int.toNat_natCast, hcut2, hq, hg, List.map_append]
        rfl
      obtain ⟨R, hR, hT⟩ := ih (i + 1) (off + kk) (acc ++ [(⟨numI q, rd b ((13 + 6 * i + 4 : Nat) : Int), dt⟩ : S60)]) (by omega) hf2 (by omega) (by omega) (by rw [List.length_append, hacc]; rfl) (fun j hj => by
        by_cases e : j < i
        · exact hsz j e
        · rw [show j = i by omega, hkk]
          omega)
      refine ⟨R, ?_, hT⟩
      refine Ev.step (f := fun k => (undercroftref01_Number.f k q).bind fun t212 => (if acc.length < 3518437208883 then (undercroftref13_Open.l0 k b (m : Int) ((off + kk : Nat) : Int) ((i + 1 : Nat) : Int) seq (acc ++ [(⟨wrap64 t212, rd b ((13 + 6 * i + 4 : Nat) : Int), dt⟩ : S60)])) else (none))) (fun k => ?_) (Ev.bind (rnum q hqo (by omega)) (Ev.congr (fun k => by rw [if_pos c10, wi_ _ hn.1 hn1]) hR))
      rw [undercroftref13_Open.l0, w6_ i hi8, w13_ i hi8, w19_ i hi8, Int.toNat_natCast, Int.toNat_natCast, hh, hrd5, wn_ kk (by omega), hlen, hrd4, htk, wa_ off kk c11, Int.toNat_natCast, Int.toNat_natCast, hcut, wi_ _ h4r.1 h4b, copied_is dt hdl, if_pos c1, if_pos c2, if_pos c3, if_pos c4, if_pos c5, if_neg c6, if_pos c5a]
      congr 1
      funext t
      rw [if_pos c5b, if_pos c7, if_pos c8, if_pos c9, Option.bind_some, wn64 (by omega)]

theorem pow8b : (256 : Int) ^ 8 = 18446744073709551616 := by decide
theorem g8 (s : Int) (h0 : 0 ≤ s) : wrap64 (mn s 4611686018427387904) = if s ≤ 4611686018427387904 then s else 4611686018427387904 := by
  by_cases h : s ≤ 4611686018427387904
  · rw [if_pos h]
    have e : mn s 4611686018427387904 = s := by unfold mn; split <;> omega
    rw [e]
    exact wi_ s h0 h
  · rw [if_neg h]
    have e : mn s 4611686018427387904 = 4611686018427387904 := by unfold mn; split <;> omega
    rw [e]
    exact wi_ _ (by omega) (by omega)
theorem rj0_bad13 (x0 : List Int) (x4 x5 : Int) : Ev (fun k => undercroftref13_Open.j0 k x0 x4 x5 true) (0, [], 9) :=
  Ev.step (f := fun _ => some (0, [], 9)) (fun k => by rw [undercroftref13_Open.j0, if_pos rfl]) (Ev.now _)
theorem seg2_nine (b : List Int) (m : Nat) (hm : rd b 12 = (m : Int)) (h : 8 < m ∨ checkI (getI ((b.drop 4).take 8)) (openRest b m).1 ≠ 0) : openSeg2 b = (0, [], 9) := by
  unfold openSeg2
  rw [hm, Int.toNat_natCast]
  by_cases c : (m : Int) ≤ 8
  · rw [if_pos c]
    rcases h with h | h
    · omega
    · rw [if_neg h]
      split <;> rfl
  · rw [if_neg c]
theorem seg2_tail (b : List Int) (m : Nat) (hm : rd b 12 = (m : Int)) (h8 : m ≤ 8) : openSeg2 b = tailT b m (getI ((b.drop 4).take 8)) := by
  unfold openSeg2 tailT
  rw [hm, Int.toNat_natCast, if_pos (by omega)]
theorem ropen2 (b : List Int) (ho : Oct b) (hb : b.length = 384) : ∃ R : Int × List S60 × Int, Ev (fun k => (undercroftref01_Number.f k ((b.take 12).drop 4)).bind fun t206 => (if 12 < (b.length : Int) then (if (wrap64 (rd b 12)) < 1 then (undercroftref13_Open.j0 k b t206 (wrap64 (rd b 12)) true) else (if (wrap64 (rd b 12)) > 8 then (undercroftref13_Open.j0 k b t206 (wrap64 (rd b 12)) true) else (if t206 < 1 then (undercroftref13_Open.j0 k b t206 (wrap64 (rd b 12)) true) else (undercroftref13_Open.j0 k b t206 (wrap64 (rd b 12)) (decide (t206 > 1099511627776)))))) else (none))) R ∧ (R.1, R.2.1.map toB, R.2.2) = openSeg2 b := by
  have h12 := oct_rd b ho 12 (by omega)
  obtain ⟨m, hm⟩ : ∃ m : Nat, rd b 12 = (m : Int) := ⟨_, (Int.toNat_of_nonneg h12.1).symm⟩
  have hm255 : m ≤ 255 := by have := h12.2; rw [show ((12 : Nat) : Int) = 12 from rfl, hm] at this; omega
  have eq8 : (b.take 12).drop 4 = (b.drop 4).take 8 := by rw [List.drop_take]
  obtain ⟨q, hq⟩ : ∃ q, (b.drop 4).take 8 = q := ⟨_, rfl⟩
  have hq8 : q.length = 8 := by rw [← hq, List.length_take, List.length_drop]; omega
  have hqo : Oct q := by rw [← hq]; exact (ho.drop _).take _
  have hn := numI_le 8 q hqo hq8
  rw [pow8b] at hn
  have hg : getI q = if numI q ≤ 4611686018427387904 then numI q else 4611686018427387904 := by rw [getI_num, g8 _ hn.1]
  have hnum := rnum q hqo (by omega)
  rw [eq8, hq, hm, wn_ m (by omega)]
  have c0 : (12 : Int) < (b.length : Int) := by omega
  by_cases c1 : m < 1
  · refine ⟨(0, [], 9), Ev.bind hnum (Ev.congr (f := fun k => undercroftref13_Open.j0 k b (numI q) (m : Int) true) (fun k => by rw [if_pos c0, if_pos (by omega)]) (rj0_bad13 _ _ _)), ?_⟩
    rw [seg2_nine b m hm (.inr ?_)]
    · rfl
    · have e0 : m = 0 := by omega
      subst e0
      intro h
      have := ((check_iff _ _).1 h).2.2.1
      have e : (openRest b 0).1 = [] := rfl
      rw [e] at this
      simp at this
  by_cases c2 : 8 < m
  · refine ⟨(0, [], 9), Ev.bind hnum (Ev.congr (f := fun k => undercroftref13_Open.j0 k b (numI q) (m : Int) true) (fun k => by rw [if_pos c0, if_neg (by omega), if_pos (by omega)]) (rj0_bad13 _ _ _)), ?_⟩
    rw [seg2_nine b m hm (.inl c2)]
    rfl
  by_cases c3 : numI q < 1
  · refine ⟨(0, [], 9), Ev.bind hnum (Ev.congr (f := fun k => undercroftref13_Open.j0 k b (numI q) (m : Int) true) (fun k => by rw [if_pos c0, if_neg (by omega), if_neg (by omega), if_pos c3]) (rj0_bad13 _ _ _)), ?_⟩
    rw [seg2_nine b m hm (.inr ?_)]
    · rfl
    · rw [hq, hg, if_pos (by omega)]
      intro h
      have := ((check_iff _ _).1 h).1
      omega
  by_cases c4 : numI q > 1099511627776
  · refine ⟨(0, [], 9), Ev.bind hnum (Ev.congr (f := fun k => undercroftref13_Open.j0 k b (numI q) (m : Int) true) (fun k => by rw [if_pos c0, if_neg (by omega), if_neg (by omega), if_neg c3, decide_eq_true c4]) (rj0_bad13 _ _ _)), ?_⟩
    rw [seg2_nine b m hm (.inr ?_)]
    · rfl
    · rw [hq, hg]
      intro h
      have := ((check_iff _ _).1 h).2.1
      split at this <;> omega
  · obtain ⟨R, hR, hT⟩ := rloop b ho hb m (by omega) (numI q) m 0 (13 + 6 * m) [] (by omega) rfl (by omega) (by omega) rfl (fun j hj => absurd hj (Nat.not_lt_zero _))
    refine ⟨R, Ev.bind hnum (Ev.congr (f := fun k => undercroftref13_Open.j0 k b (numI q) (m : Int) false) (fun k => by rw [if_pos c0, if_neg (by omega), if_neg (by omega), if_neg c3, decide_eq_false c4]) (Ev.step (f := fun k => undercroftref13_Open.l0 k b (m : Int) ((13 + 6 * m : Nat) : Int) ((0 : Nat) : Int) (numI q) []) (fun k => ?_) hR)), ?_⟩
    · have e1 := wi_ (numI q) hn.1 (by omega)
      rw [undercroftref13_Open.j0, if_neg (by decide), w6_ m (by omega), w13_ m (by omega), e1]
      rfl
    · rw [hT, seg2_tail b m hm (by omega), hq, hg, if_pos (by omega)]
theorem ropen_is (b : List Int) (ho : Oct b) : ∃ (n : Int) (l : List S60) (e : Int), Ev (fun k => undercroftref13_Open.f k b) (n, l, e) ∧ segment_Open.f b = some (n, l.map toB, e) := by
  rw [open_full b ho]
  unfold undercroftref13_Open.f
  by_cases hb : b.length = 384
  case neg =>
    refine ⟨0, [], 3, Ev.congr (f := fun _ => some (0, [], 3)) (fun k => if_neg (by omega)) (Ev.now _), ?_⟩
    rw [if_neg hb]
    rfl
  rw [if_pos hb]
  have c0 : (b.length : Int) = 384 := by omega
  have c1 : (380 : Int) ≤ (b.length : Int) := by omega
  have c2 : (4 : Int) ≤ (b.length : Int) := by omega
  have c3 : (12 : Int) ≤ (b.length : Int) := by omega
  have hq4 : (b.drop 380).length = 4 := by rw [List.length_drop]; omega
  have hqo : Oct (b.drop 380) := ho.drop _
  have htk : (b.drop 380).take 4 = b.drop 380 := List.take_of_length_le (by omega)
  have hnum := rnum (b.drop 380) hqo (by omega)
  have hg := getI_small (b.drop 380) hqo hq4
  have h380 : (b.take 380).length = 380 := by rw [List.length_take]; omega
  have hs := crcS_range (b.take 380)
  have hsum : Ev (fun k => undercroftref02_Sum.f k (b.take 380)) (crcS (b.take 380)) := ⟨3801, fun k hk => by
    have h1 := sum_is (b.take 380) (ho.take _)
    rw [sumS_is] at h1
    rw [h1]
    exact ref_sum_is _ (ho.take _) (by omega) k (by omega)⟩
  unfold openSeg
  rw [htk, hg, wi_ (crcS (b.take 380)) hs.1 (by omega)]
  have hu := u64_id hs.1 (show crcS (b.take 380) ≤ 9223372036854775807 by omega)
  by_cases h1 : numI (b.drop 380) = crcS (b.take 380)
  case neg =>
    refine ⟨0, [], 21, ?_, ?_⟩
    · refine Ev.congr (fun k => by rw [if_pos c0, if_pos c1]) ?_
      refine Ev.bind hnum ?_
      refine Ev.bind hsum ?_
      exact Ev.congr (f := fun _ => some (0, [], 21)) (fun k => if_neg (by rw [hu]; exact h1)) (Ev.now _)
    · rw [if_neg h1]
      rfl
  rw [if_pos h1]
  have hp : ((strOfNums (b.take 4)).toList = ([115, 101, 103, 49] : List UInt8)) ↔ b.take 4 = [115, 101, 103, 49] := by
    rw [← seg1_str]
    exact str_is _ _ (ho.take _) (by intro x hx; simp at hx; omega)
  by_cases h2 : b.take 4 = [115, 101, 103, 49]
  case neg =>
    refine ⟨0, [], 22, ?_, ?_⟩
    · refine Ev.congr (fun k => by rw [if_pos c0, if_pos c1]) ?_
      refine Ev.bind hnum ?_
      refine Ev.bind hsum ?_
      exact Ev.congr (f := fun _ => some (0, [], 22)) (fun k => by rw [if_pos (by rw [hu]; exact h1), if_pos c2, if_neg (fun h => h2 (hp.1 h))]) (Ev.now _)
    · rw [if_neg (by rw [decide_eq_false h2]; decide)]
      rfl
  rw [if_pos (decide_eq_true h2)]
  obtain ⟨R, hR, hT⟩ := ropen2 b ho hb
  refine ⟨R.1, R.2.1, R.2.2, ?_, by rw [← hT]⟩
  refine Ev.congr (fun k => by rw [if_pos c0, if_pos c1]) ?_
  refine Ev.bind hnum ?_
  refine Ev.bind hsum ?_
  exact Ev.congr (fun k => by rw [if_pos (by rw [hu]; exact h1), if_pos c2, if_pos (hp.2 h2), if_pos (by decide), if_pos c3]) hR

theorem ssame (a : List Int) (hm : a.length ≤ 9223372036854775807) : Ev (fun k => undercroftplain_SameBytes.f k a a) true := ⟨a.length + 1, fun k hk => by
  show undercroftplain_SameBytes.f k a a = some true
  rw [sameBytes_is a a k (by omega) hm, decide_eq_true rfl]⟩
theorem own_len (l : List Int) : (ownersI l).length ≤ l.length := by
  unfold ownersI Lib.compact Lib.compactUpTo
  rw [List.length_map]
  refine Nat.le_trans (List.length_filter_le _ _) ?_
  rw [List.length_range, List.length_mergeSort]
  exact Nat.le_refl _
theorem sameInts_l0 (a : List Int) (ha : a.length ≤ 1000000) : ∀ (d i : Nat), i + d = a.length → Ev (fun k => undercroftplain_SameInts.l0 k a a (i : Int)) true := by
  intro d
  induction d with
  | zero =>
    intro i hi
    refine Ev.step (f := fun _ => some true) (fun k => ?_) (Ev.now _)
    rw [undercroftplain_SameInts.l0, if_neg (by omega)]
  | succ d ih =>
    intro i hi
    have c1 : (i : Int) < (a.length : Int) := by omega
    have c2 : (0 : Int) ≤ (i : Int) := by omega
    refine Ev.step (f := fun k => undercroftplain_SameInts.l0 k a a ((i + 1 : Nat) : Int)) (fun k => ?_) (ih (i + 1) (by omega))
    rw [undercroftplain_SameInts.l0, if_pos c1, if_pos c2, if_pos c1, if_pos rfl, wn64 (by omega)]
theorem sameInts_ev (a : List Int) (ha : a.length ≤ 1000000) : Ev (fun k => undercroftplain_SameInts.f k a a) true :=
  Ev.congr (f := fun k => undercroftplain_SameInts.l0 k a a ((0 : Nat) : Int)) (fun k => by unfold undercroftplain_SameInts.f; rw [if_pos rfl]; rfl) (sameInts_l0 a ha a.length 0 (by omega))
theorem alike_l0 (l : List S60) (hl : l.length ≤ 3518437208782) (hd : ∀ x ∈ l, x.f2.length ≤ 9223372036854775807) : ∀ (d i : Nat), i + d = l.length → Ev (fun k => undercroftlaw13_AlikeBlocks.l0 k (l.map toB) l (i : Int)) 0 := by
  intro d
  induction d with
  | zero =>
    intro i hi
    refine Ev.step (f := fun _ => some 0) (fun k => ?_) (Ev.now _)
    rw [undercroftlaw13_AlikeBlocks.l0, if_neg (by rw [List.length_map]; omega)]
  | succ d ih =>
    intro i hi
    have hlt : i < l.length := by omega
    obtain ⟨N, hN⟩ := ih (i + 1) (by omega)
    have hx := hd l[i] (List.getElem_mem hlt)
    have hr := rdR_nat l i hlt
    have hb : rd_T43 (l.map toB) (i : Int) = toB l[i] := by rw [rdB_nat _ i (by rw [List.length_map]; exact hlt), List.getElem_map]
    have hw : wrap64 ((i : Int) + 1) = ((i + 1 : Nat) : Int) := wn64 (by omega)
    have c1 : (i : Int) < (((l.map toB).length : Nat) : Int) := by rw [List.length_map]; omega
    have c2 : (0 : Int) ≤ (i : Int) := by omega
    have c3 : (i : Int) < (l.length : Int) := by omega
    generalize l[i] = x at hx hr hb
    refine ⟨N + x.f2.length + 2, fun k hk => ?_⟩
    obtain ⟨k, rfl⟩ : ∃ m, k = m + 1 := ⟨k - 1, by omega⟩
    have hsm := sameBytes_is x.f2 x.f2 k (by omega) hx
    have := hN k (by omega)
    show undercroftlaw13_AlikeBlocks.l0 (k + 1) (l.map toB) l (i : Int) = some 0
    simp only [undercroftlaw13_AlikeBlocks.l0, hr, hb]
    rw [if_pos c1, if_pos c2, if_pos c3, if_pos (show (toB x).f0 = x.f0 from rfl), if_pos (show (toB x).f1 = x.f1 from rfl), show (toB x).f2 = x.f2 from rfl, hsm, decide_eq_true rfl]
    simp only [Option.bind_some, if_true]
    rw [hw]
    exact this
theorem alike_ev (n : Int) (l : List S60) (hl : l.length ≤ 3518437208782) (hd : ∀ x ∈ l, x.f2.length ≤ 9223372036854775807) : Ev (fun k => undercroftlaw13_Alike.f k n (l.map toB) n l) 0 := by
  obtain ⟨N, hN⟩ := alike_l0 l hl hd l.length 0 (by omega)
  refine ⟨N, fun k hk => ?_⟩
  have h : undercroftlaw13_AlikeBlocks.l0 k (l.map toB) l ((0 : Nat) : Int) = some 0 := hN k hk
  show undercroftlaw13_Alike.f k n (l.map toB) n l = some 0
  unfold undercroftlaw13_Alike.f undercroftlaw13_AlikeBlocks.f
  rw [if_pos rfl, if_pos (by rw [List.length_map]), show (0 : Int) = ((0 : Nat) : Int) from rfl, h]
  rfl

theorem SegmentTells (l0 : S24) (l1 : List Int) (h0 : ok24 l0) (h1 : (l1.length * 1 ≤ 140737488351232 ∧ l1.length ≤ maxLen ∧ ∀ y25 ∈ l1, (Lit.int .u8 y25).wf = true)) : ∃ k, undercroftlaw13_SegmentTells.f k l0.f0 l0.f1 l1 = some true := by
  have ho := Oct.of_wf h1.2.2
  have hl1 : l1.length ≤ 140737488351232 := by have := h1.1; omega
  have hlen : l0.f1.length ≤ 3518437208782 := by have := h0.2.1; omega
  have hdl : ∀ x ∈ l0.f1, x.f2.length * 1 ≤ 140737488351232 := fun x hx => (h0.2.2.2 x hx).2.2.1
  have hoc : ∀ x ∈ l0.f1, Oct x.f2 := fun x hx => Oct.of_wf (h0.2.2.2 x hx).2.2.2.2
  have hof : Ev (fun k => undercroftlaw13_Of.f k l0.f0 l0.f1) (l0.f0, l0.f1.map toB) := ⟨l0.f1.length + 1, fun k hk => of_is k l0.f0 l0.f1 (by omega) h0.2.1 hdl⟩
  have hseal : Ev (fun k => segment_Seal.f k l0.f0 (l0.f1.map toB)) (if checkI l0.f0 (l0.f1.map toB) = 0 then (sealI l0.f0 (l0.f1.map toB), 0) else ([], 9)) := ⟨9, fun k hk => seal_is k l0.f0 (l0.f1.map toB) (by omega)⟩
  have hrs := rseal_is l0.f0 l0.f1 hoc
  have hown := owners_is l0.f0 (l0.f1.map toB)
  have hrow := rown_is l0.f0 l0.f1
  have hrc := rcheck_is l0.f0 l0.f1
  have hpl : (if checkI l0.f0 (l0.f1.map toB) = 0 then (sealI l0.f0 (l0.f1.map toB), (0 : Int)) else ([], 9)).1.length ≤ 384 := by
    by_cases hc : checkI l0.f0 (l0.f1.map toB) = 0
    · rw [if_pos hc]
      obtain ⟨k, hh⟩ := sealI_holds l0.f0 (l0.f1.map toB) hc
      exact Nat.le_of_eq hh.all
    · rw [if_neg hc]
      exact Nat.zero_le _
  have hcl : (if checkI l0.f0 (l0.f1.map toB) = 0 then (ownersI ((l0.f1.map toB).map fun x => x.f0), (0 : Int)) else ([], 9)).1.length ≤ 1000000 := by
    by_cases hc : checkI l0.f0 (l0.f1.map toB) = 0
    · rw [if_pos hc]
      have h8 := ((check_iff _ _).1 hc).2.2.2.1
      have := own_len ((l0.f1.map toB).map fun x => x.f0)
      rw [List.length_map] at this
      show (ownersI _).length ≤ _
      omega
    · rw [if_neg hc]
      exact Nat.zero_le _
  obtain ⟨n, l, e, hro, hso⟩ := ropen_is l1 ho
  have hsm : l.length ≤ 3518437208782 ∧ ∀ x ∈ l, x.f2.length ≤ 9223372036854775807 := by
    rcases open_cases l1 ho n (l.map toB) e hso with ⟨_, _, h3⟩ | ⟨_, hc, _⟩
    · have : l = [] := List.map_eq_nil_iff.1 h3
      subst this
      exact ⟨by decide, fun x hx => by cases hx⟩
    · obtain ⟨_, _, _, h4, h5⟩ := (check_iff _ _).1 hc
      rw [List.length_map] at h4
      exact ⟨by omega, fun x hx => by
        have h6 : x.f2.length ≤ 32 := (h5 (toB x) (List.mem_map_of_mem hx)).2.2.2.2
        omega⟩
  have hal1 := alike_ev n l hsm.1 hsm.2
  have hal2 := alike_ev l0.f0 l0.f1 hlen (fun x hx => by have := hdl x hx; omega)
  generalize (if checkI l0.f0 (l0.f1.map toB) = 0 then (sealI l0.f0 (l0.f1.map toB), (0 : Int)) else ([], 9)) = P at hseal hrs hpl
  generalize (if checkI l0.f0 (l0.f1.map toB) = 0 then (ownersI ((l0.f1.map toB).map fun x => x.f0), (0 : Int)) else ([], 9)) = W at hown hrow hcl
  refine Ev.rounds ?_
  unfold undercroftlaw13_SegmentTells.f
  refine Ev.bind hof ?_
  refine Ev.bind (a := l1) ⟨0, fun k _ => copyBytes_is l1 (by omega)⟩ ?_
  refine Ev.bind hseal ?_
  refine Ev.bind hrs ?_
  refine Ev.bind (a := (n, l.map toB, e)) ⟨0, fun k _ => hso⟩ ?_
  refine Ev.bind hro ?_
  refine Ev.bind hown ?_
  refine Ev.bind hrow ?_
  refine Ev.bind (a := checkI l0.f0 (l0.f1.map toB)) ⟨0, fun k _ => rfl⟩ ?_
  refine Ev.bind hrc ?_
  refine Ev.congr (f := fun k => (undercroftplain_SameBytes.f k P.1 P.1).bind fun t1 => (undercroftlaw13_Alike.f k n (l.map toB) n l).bind fun t2 => (undercroftplain_SameInts.f k W.1 W.1).bind fun t3 => (undercroftlaw13_Alike.f k l0.f0 (l0.f1.map toB) l0.f0 l0.f1).bind fun t4 => (undercroftplain_SameBytes.f k l1 l1).bind fun t5 => (undercroftlaw13_alive.f k).bind fun t6 => if t1 = true ∧ t2 = 0 ∧ t3 = true ∧ t4 = 0 ∧ t5 = true ∧ t6 = true then some true else none) (fun k => if_pos ⟨rfl, rfl, rfl, rfl⟩) ?_
  refine Ev.bind (ssame P.1 (by omega)) ?_
  refine Ev.bind hal1 ?_
  refine Ev.bind (sameInts_ev W.1 hcl) ?_
  refine Ev.bind hal2 ?_
  refine Ev.bind (ssame l1 (by omega)) ?_
  refine Ev.bind (a := true) ⟨9, fun k hk => alive_is k (by omega)⟩ ?_
  exact Ev.congr (f := fun _ => some true) (fun k => if_pos ⟨rfl, rfl, rfl, rfl, rfl, rfl⟩) (Ev.now _)

end Go.Proofs.YtokjiinlhghggaaDoor.Pure
