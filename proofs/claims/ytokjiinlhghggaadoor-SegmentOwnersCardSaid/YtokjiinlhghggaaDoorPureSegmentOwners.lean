/- The owners of a segment are those of its blocks, rising, each once: for every segment, no condition beyond the form's reach. -/
import Derived.Test.YtokjiinlhghggaaDoorPSowx
import Derived.Test.YtokjiinlhghggaaDoorInSegmentOwners
import Derived.Lib.Bytes
namespace Go.Proofs.YtokjiinlhghggaaDoor.Pure
open Go.RowKit Go.Proofs.YtokjiinlhghggaaDoor.PSow Go.Proofs.YtokjiinlhghggaaDoorW.PrintWords Go.Proofs.YtokjiinlhghggaaDoorW.PrintLast Go.Proofs.YtokjiinlhghggaaDoorW.PrintMore
set_option linter.unusedVariables false
set_option linter.unusedSimpArgs false

theorem w_id {x : Int} (h0 : -9223372036854775808 ≤ x) (h1 : x ≤ 9223372036854775807) : wrap64 x = x := by unfold wrap64; omega
theorem wf_i64 {a : Int} (h : (Lit.int .i64 a).wf = true) : -9223372036854775808 ≤ a ∧ a ≤ 9223372036854775807 := by
  simpa [Lit.wf, IntKind.min, IntKind.max, IntKind.signed, IntKind.bits] using h
theorem wf_u8 {a : Int} (h : (Lit.int .u8 a).wf = true) : 0 ≤ a ∧ a ≤ 255 := by
  simpa [Lit.wf, IntKind.min, IntKind.max, IntKind.signed, IntKind.bits] using h
theorem wf_u32 {a : Int} (h : (Lit.int .u32 a).wf = true) : 0 ≤ a ∧ a ≤ 4294967295 := by
  simpa [Lit.wf, IntKind.min, IntKind.max, IntKind.signed, IntKind.bits] using h
theorem wf_u64 {a : Int} (h : (Lit.int .u64 a).wf = true) : 0 ≤ a ∧ a ≤ 18446744073709551615 := by
  simpa [Lit.wf, IntKind.min, IntKind.max, IntKind.signed, IntKind.bits] using h
/-- All are octets. -/
def Oct (l : List Int) : Prop := ∀ x ∈ l, 0 ≤ x ∧ x ≤ 255
theorem Oct.of_wf {l : List Int} (h : ∀ x ∈ l, (Lit.int .u8 x).wf = true) : Oct l := fun x hx => wf_u8 (h x hx)
theorem Oct.nil : Oct [] := fun _ h => by cases h
theorem Oct.append {a b : List Int} (ha : Oct a) (hb : Oct b) : Oct (a ++ b) := fun x hx => (List.mem_append.1 hx).elim (ha x) (hb x)
theorem Oct.take {a : List Int} (ha : Oct a) (n : Nat) : Oct (a.take n) := fun x hx => ha x (List.mem_of_mem_take hx)
theorem Oct.drop {a : List Int} (ha : Oct a) (n : Nat) : Oct (a.drop n) := fun x hx => ha x (List.mem_of_mem_drop hx)
theorem rd_nat (l : List Int) (k : Nat) (h : k < l.length) : rd l (k : Int) = l[k] := by
  unfold rd
  simp [List.getD_eq_getElem?_getD, h]

theorem copyBytes_is (a : List Int) (h : a.length < 140737488355328) : undercroftplain_CopyBytes.f a = some a := by
  unfold undercroftplain_CopyBytes.f
  rw [if_pos (by simpa using h)]
  simp

theorem tz_split : ∀ (l : List Int), ∃ z, l = List.replicate z 0 ++ tz l
  | [] => ⟨0, rfl⟩
  | x :: r => by
    obtain ⟨z, hz⟩ := tz_split r
    unfold tz
    split
    · rename_i h
      refine ⟨z + 1, ?_⟩
      rw [List.replicate_succ, List.cons_append, ← hz, h]
    · exact ⟨0, by simp⟩
theorem numI_rep : ∀ (z : Nat) (l : List Int), numI (List.replicate z 0 ++ l) = numI l
  | 0, l => by simp
  | z + 1, l => by
    rw [List.replicate_succ, List.cons_append]
    show (List.replicate z 0 ++ l).foldl (fun n x => n * 256 + x) (0 * 256 + 0) = _
    exact numI_rep z l
theorem octs_of' {l : List Int} (h : Oct l) : octs l = true := List.all_eq_true.2 (fun x hx => by have := h x hx; simp; omega)
theorem num_take (l : List Int) (h : Oct l) (h8 : (tz l).length ≤ 8) (i : Nat) (hi : i < l.length) : 0 ≤ numI (l.take i) ∧ numI (l.take i) < 72057594037927936 := by
  obtain ⟨z, hz⟩ := tz_split l
  have hlen : l.length = z + (tz l).length := by conv => lhs; rw [hz]
                                                 simp
  by_cases hiz : i ≤ z
  · have e : l.take i = List.replicate i 0 ++ [] := by
      rw [hz, List.take_append_of_le_length (by simpa using hiz), List.take_replicate, Nat.min_eq_left hiz, List.append_nil]
    rw [e, numI_rep]
    exact ⟨by decide, by decide⟩
  · have e : l.take i = List.replicate z 0 ++ (tz l).take (i - z) := by
      conv => lhs; rw [hz]
      rw [List.take_append, List.take_of_length_le (by simp; omega), List.length_replicate]
    rw [e, numI_rep]
    have hl : ((tz l).take (i - z)).length = i - z := by rw [List.length_take]; omega
    have ho : octs ((tz l).take (i - z)) = true := List.all_eq_true.2 (fun x hx => List.all_eq_true.1 (octs_tz (octs_of' h)) x (List.mem_of_mem_take hx))
    have hb := numI_bound (i - z) _ hl ho
    exact ⟨hb.1, Int.lt_of_lt_of_le hb.2 (pow7 (by omega))⟩

theorem equal_is (a b : List Int) (ha : Oct a) (hb : Oct b) : bytes_Equal.f a b = some (decide (a = b)) := by
  unfold bytes_Equal.f
  rw [Lib.strOfNums_toList, Lib.strOfNums_toList]
  congr 1
  by_cases h : a = b
  · subst h; simp
  · rw [decide_eq_false h]
    apply beq_eq_false_iff_ne.2
    intro e
    apply h
    unfold Lib.bytesOf at e
    apply List.ext_getElem
    · have := congrArg List.length e
      simpa using this
    · intro i h1 h2
      have := congrArg (fun l => l[i]?) e
      simp only [List.getElem?_map, List.getElem?_eq_getElem h1, List.getElem?_eq_getElem h2, Option.map_some, Option.some.injEq] at this
      have p := ha _ (List.getElem_mem h1)
      have q := hb _ (List.getElem_mem h2)
      have e2 := congrArg UInt8.toNat this
      simp only [UInt8.toNat_ofNat'] at e2
      omega

theorem octI_len (n : Int) (s : Nat) : (octI n s).length = s := by simp [octI]
theorem octI_oct (n : Int) (s : Nat) : Oct (octI n s) := by
  intro x hx
  obtain ⟨i, _, rfl⟩ := List.mem_map.1 hx
  omega
theorem div_out (n : Int) (i : Nat) : n / 256 / 256 ^ i = n / 256 ^ (i + 1) := by
  rw [Int.pow_succ, Int.mul_comm, Int.ediv_ediv_of_nonneg (by decide)]
theorem octI_snoc (n : Int) (s : Nat) : octI n (s + 1) = octI (n / 256) s ++ [n % 256] := by
  unfold octI
  rw [List.range_succ, List.map_append, List.map_singleton]
  congr 1
  · refine List.map_congr_left fun i hi => ?_
    have hi := List.mem_range.1 hi
    have e : s + 1 - 1 - i = (s - 1 - i) + 1 := by omega
    rw [e, ← div_out]
  · simp
theorem numI_snoc (l : List Int) (x : Int) : numI (l ++ [x]) = numI l * 256 + x := by
  unfold numI
  rw [List.foldl_append]
  rfl
theorem numI_octI : ∀ (s : Nat) (n : Int), 0 ≤ n → n < 256 ^ s → numI (octI n s) = n := by
  intro s
  induction s with
  | zero =>
    intro n h0 h1
    have : n = 0 := by simp at h1; omega
    subst this
    rfl
  | succ s ih =>
    intro n h0 h1
    rw [octI_snoc, numI_snoc, ih (n / 256) (by omega) (by rw [Int.pow_succ] at h1; omega)]
    omega
theorem octI_num : ∀ (s : Nat) (q : List Int), Oct q → q.length = s → octI (numI q) s = q
  | 0, q, _, h => by
    obtain rfl := List.length_eq_zero_iff.1 h
    rfl
  | s + 1, q, ho, h => by
    have hne : q ≠ [] := by rintro rfl; cases h
    obtain ⟨p, x, rfl⟩ : ∃ p x, q = p ++ [x] := ⟨q.dropLast, q.getLast hne, (List.dropLast_concat_getLast hne).symm⟩
    have hx := ho x (by simp)
    have hp := octI_num s p (fun y hy => ho y (by simp [hy])) (by simpa using h)
    rw [octI_snoc, numI_snoc, show (numI p * 256 + x) / 256 = numI p by omega, show (numI p * 256 + x) % 256 = x by omega, hp]
theorem numI_tz (l : List Int) : numI (tz l) = numI l := by
  obtain ⟨z, hz⟩ := tz_split l
  conv => rhs; rw [hz]
  exact (numI_rep z (tz l)).symm
/-- The sum of octets. -/
def crcS (l : List Int) : Int := Go.bits .xor .u32 4294967295 (crcI (Go.bits .xor .u32 4294967295 0) l)
theorem crcS_range (l : List Int) : 0 ≤ crcS l ∧ crcS l ≤ 4294967295 := by
  unfold crcS
  show 0 ≤ IntKind.u32.wrap _ ∧ IntKind.u32.wrap _ ≤ _
  rw [IntKind.wrap_u32]
  omega
theorem sumS_is (l : List Int) : crc_Sum.f l = some (crcS l) := rfl
theorem u64_id {n : Int} (h0 : 0 ≤ n) (h1 : n ≤ 9223372036854775807) : IntKind.u64.wrap n = n := by rw [IntKind.wrap_u64]; omega
theorem put_is (l : List Int) (n : Int) (s : Nat) (h0 : 0 ≤ n) (h1 : n ≤ 9223372036854775807) (hs : s ≤ 64) (hn : needI n ≤ s) (hl : l.length ≤ 1000) : segment_put.f l n (s : Int) = some (l ++ octI n s) := by
  unfold segment_put.f octets_Put.f
  rw [u64_id h0 h1, if_pos (by omega), if_neg (by omega), if_neg (by omega)]
  simp only [Option.bind_some, Int.toNat_natCast]
  rw [if_pos (by rw [octI_len]; omega)]
theorem need8 {n : Int} (h0 : 0 ≤ n) (h1 : n ≤ 9223372036854775807) : needI n ≤ 8 := by unfold needI; (repeat' split) <;> omega
theorem need4 {n : Int} (h0 : 0 ≤ n) (h1 : n ≤ 4294967295) : needI n ≤ 4 := by unfold needI; (repeat' split) <;> omega
theorem need1 {n : Int} (h0 : 0 ≤ n) (h1 : n ≤ 255) : needI n ≤ 1 := by unfold needI; (repeat' split) <;> omega
theorem put8 (l : List Int) (n : Int) (h0 : 0 ≤ n) (h1 : n ≤ 9223372036854775807) (hl : l.length ≤ 1000) : segment_put.f l n 8 = some (l ++ octI n 8) := put_is l n 8 h0 h1 (by omega) (need8 h0 h1) hl
theorem put4 (l : List Int) (n : Int) (h0 : 0 ≤ n) (h1 : n ≤ 4294967295) (hl : l.length ≤ 1000) : segment_put.f l n 4 = some (l ++ octI n 4) := put_is l n 4 h0 (by omega) (by omega) (need4 h0 h1) hl
theorem put1 (l : List Int) (n : Int) (h0 : 0 ≤ n) (h1 : n ≤ 255) (hl : l.length ≤ 1000) : segment_put.f l n 1 = some (l ++ octI n 1) := put_is l n 1 h0 (by omega) (by omega) (need1 h0 h1) hl
/-- The head of a block. -/
def headI (x : S43) : List Int := octI x.f0 4 ++ (octI x.f1 1 ++ octI (x.f2.length : Int) 1)
theorem headI_len (x : S43) : (headI x).length = 6 := by simp [headI, octI_len]
def heads (l : List S43) : List Int := l.flatMap headI
def datas (l : List S43) : List Int := l.flatMap (·.f2)
theorem heads_len : ∀ l : List S43, (heads l).length = 6 * l.length
  | [] => rfl
  | x :: r => by
    have := heads_len r
    unfold heads at this ⊢
    rw [List.flatMap_cons, List.length_append, headI_len, this, List.length_cons]
    omega
/-- What is sealed, ahead of its sum. -/
def plainI (n : Int) (l : List S43) : List Int := padI ([115, 101, 103, 49] ++ octI n 8 ++ octI (l.length : Int) 1 ++ heads l ++ datas l)
def sealI (n : Int) (l : List S43) : List Int := plainI n l ++ octI (crcS (plainI n l)) 4
def okB (x : S43) : Prop := 1 ≤ x.f0 ∧ x.f0 ≤ 2147483647 ∧ 0 ≤ x.f1 ∧ x.f1 ≤ 255 ∧ x.f2.length ≤ 32
theorem bad_iff (x : S43) : ¬ x.bad = true ↔ okB x := by
  unfold S43.bad okB
  simp only [Bool.not_eq_true', Bool.and_eq_false_iff, decide_eq_false_iff_not]
  omega
theorem any_iff (l : List S43) : l.any S43.bad = false ↔ ∀ x ∈ l, okB x := by
  rw [List.any_eq_false]
  exact ⟨fun h x hx => (bad_iff x).1 (h x hx), fun h x hx => (bad_iff x).2 (h x hx)⟩
theorem check_iff (n : Int) (l : List S43) : checkI n l = 0 ↔ (1 ≤ n ∧ n ≤ 1099511627776 ∧ 1 ≤ l.length ∧ l.length ≤ 8 ∧ ∀ x ∈ l, okB x) := by
  rw [← any_iff]
  unfold checkI
  constructor
  · intro h
    by_cases hc : 1 ≤ n ∧ n ≤ 1099511627776 ∧ 1 ≤ l.length ∧ l.length ≤ 8 ∧ l.any S43.bad = false
    · exact hc
    · rw [if_neg hc] at h; cases h
  · intro h
    rw [if_pos h]
theorem check_or (n : Int) (l : List S43) : checkI n l = 0 ∨ checkI n l = 9 := by
  unfold checkI
  split
  · exact .inl rfl
  · exact .inr rfl
theorem datas_len : ∀ l : List S43, (∀ x ∈ l, okB x) → (datas l).length ≤ 32 * l.length
  | [], _ => Nat.le_refl _
  | x :: r, h => by
    have := datas_len r (fun y hy => h y (by simp [hy]))
    have hx := (h x (by simp)).2.2.2.2
    unfold datas at this ⊢
    rw [List.flatMap_cons, List.length_append, List.length_cons]
    omega
theorem padI_len (l : List Int) (h : l.length ≤ 380) : (padI l).length = 380 := by
  unfold padI
  rw [List.length_append, List.length_replicate]
  omega
theorem rdB_nat (l : List S43) (i : Nat) (h : i < l.length) : rd_T43 l (i : Int) = l[i] := by
  unfold rd_T43
  simp [List.getD_eq_getElem?_getD, h]
theorem seal_fin (x : List Int) (c : Int) (hs : crc_Sum.f x = some c) (hp : segment_put.f x (wrap64 c) 4 = some (x ++ octI c 4)) :
    ((crc_Sum.f x).bind fun t138 => ((segment_put.f x (wrap64 (t138)) 4).bind fun t139 => (some (t139, (0 : Int))))) = some (x ++ octI c 4, 0) := by
  rw [hs, Option.bind_some, hp, Option.bind_some]
theorem seal_sum (x : List Int) (hpl : x.length = 380) : segment_put.f x (wrap64 (crcS x)) 4 = some (x ++ octI (crcS x) 4) := by
  have hc := crcS_range x
  generalize crcS x = c at hc ⊢
  rw [w_id (x := c) (by omega) (by omega)]
  exact put4 x c hc.1 hc.2 (by omega)
theorem seal_end (l : List S43) (k : Nat) (p q : List Int) (hp : p.length ≤ 61) (hq : q.length ≤ 256) (h0 : 0 < p.length) :
    segment_Seal.l0 (k + 1) p q l (l.length : Int) (l.length : Int) = some (padI (p ++ q) ++ octI (crcS (padI (p ++ q))) 4, 0) := by
  have hpl : (padI (p ++ q)).length = 380 := padI_len _ (by rw [List.length_append]; omega)
  have h4 := seal_sum _ hpl
  have h5 := seal_fin _ _ (sumS_is (padI (p ++ q))) h4
  have c1 : ¬ (l.length : Int) < (l.length : Int) := Int.lt_irrefl _
  have c2 : p.length + q.length < 380 ∧ 0 < p.length := ⟨by omega, h0⟩
  simp only [segment_Seal.l0]
  rw [if_neg c1, if_pos c2]
  exact h5
theorem seal_step (l : List S43) (k i : Nat) (p q : List Int) (hi : i < l.length) (h8 : l.length ≤ 8) (x : S43) (hx : rd_T43 l (i : Int) = x) (ho : okB x) (hp : p.length ≤ 100) (hq : q.length ≤ 1000) :
    segment_Seal.l0 (k + 1) p q l (l.length : Int) (i : Int) = segment_Seal.l0 k (p ++ octI x.f0 4 ++ octI x.f1 1 ++ octI (x.f2.length : Int) 1) (q ++ x.f2) l (l.length : Int) ((i + 1 : Nat) : Int) := by
  obtain ⟨o1, o2, o3, o4, o5⟩ := ho
  have h4 := put4 p x.f0 (by omega) (by omega) (by omega)
  have h1 := put1 (p ++ octI x.f0 4) x.f1 o3 o4 (by rw [List.length_append, octI_len]; omega)
  have h2 := put1 (p ++ octI x.f0 4 ++ octI x.f1 1) (x.f2.length : Int) (by omega) (by omega) (by rw [List.length_append, List.length_append, octI_len, octI_len]; omega)
  have hw : wrap64 ((i : Int) + 1) = ((i + 1 : Nat) : Int) := by rw [w_id (by omega) (by omega)]; rfl
  have c1 : (i : Int) < (l.length : Int) := by omega
  have c2 : (0 : Int) ≤ (i : Int) := by omega
  have c3 : q.length + x.f2.length < 140737488355328 := by omega
  simp only [segment_Seal.l0, hx]
  rw [if_pos c1, if_pos c2, if_pos c1, h4]
  simp only [Option.bind_some]
  rw [h1]
  simp only [Option.bind_some]
  rw [h2]
  simp only [Option.bind_some]
  rw [if_pos c3, hw]
theorem heads_cons (x : S43) (l : List S43) : heads (x :: l) = headI x ++ heads l := rfl
theorem datas_cons (x : S43) (l : List S43) : datas (x :: l) = x.f2 ++ datas l := rfl
theorem seal_loop (l : List S43) (h8 : l.length ≤ 8) (hok : ∀ x ∈ l, okB x) : ∀ (d k i : Nat) (p q : List Int), i + d = l.length → d < k → p.length + 6 * d ≤ 61 → q.length + 32 * d ≤ 256 → 0 < p.length →
    segment_Seal.l0 k p q l (l.length : Int) (i : Int) = some (padI (p ++ heads (l.drop i) ++ (q ++ datas (l.drop i))) ++ octI (crcS (padI (p ++ heads (l.drop i) ++ (q ++ datas (l.drop i))))) 4, 0) := by
  intro d
  induction d with
  | zero =>
    intro k i p q hi hk hp hq h0
    obtain ⟨k, rfl⟩ : ∃ m, k = m + 1 := ⟨k - 1, by omega⟩
    obtain rfl : i = l.length := by omega
    have e : l.drop l.length = [] := List.drop_eq_nil_of_le (Nat.le_refl _)
    rw [e, seal_end l k p q (by omega) (by omega) h0]
    simp only [heads, datas, List.flatMap_nil, List.append_nil]
  | succ d ih =>
    intro k i p q hi hk hp hq h0
    obtain ⟨k, rfl⟩ : ∃ m, k = m + 1 := ⟨k - 1, by omega⟩
    have hlt : i < l.length := by omega
    have hx := hok l[i] (List.getElem_mem hlt)
    have hr := rdB_nat l i hlt
    have e : l.drop i = l[i] :: l.drop (i + 1) := List.drop_eq_getElem_cons hlt
    rw [e]
    clear e
    generalize l[i] = x at hx hr ⊢
    have o5 := hx.2.2.2.2
    rw [seal_step l k i p q hlt h8 x hr hx (by omega) (by omega)]
    rw [ih k (i + 1) _ _ (by omega) (by omega) (by simp only [List.length_append, octI_len]; omega) (by rw [List.length_append]; omega) (by simp only [List.length_append]; omega)]
    have e2 : p ++ octI x.f0 4 ++ octI x.f1 1 ++ octI (x.f2.length : Int) 1 ++ heads (l.drop (i + 1)) ++ (q ++ x.f2 ++ datas (l.drop (i + 1))) = p ++ heads (x :: l.drop (i + 1)) ++ (q ++ datas (x :: l.drop (i + 1))) := by
      rw [heads_cons, datas_cons]
      unfold headI
      simp only [List.append_assoc]
    rw [e2]
theorem seal_is (k : Nat) (n : Int) (l : List S43) (hk : 8 < k) : segment_Seal.f k n l = some (if checkI n l = 0 then (sealI n l, 0) else ([], 9)) := by
  unfold segment_Seal.f segment_Check.f
  simp only [Option.bind_some]
  by_cases h : checkI n l = 0
  · rw [if_pos h, if_pos h]
    obtain ⟨h1, h2, h3, h4, h5⟩ := (check_iff n l).1 h
    rw [put8 _ _ (by omega) (by omega) (by simp)]
    simp only [Option.bind_some]
    rw [put1 _ _ (by omega) (by omega) (by simp [octI_len])]
    simp only [Option.bind_some]
    have := seal_loop l h4 h5 l.length k 0 ([115, 101, 103, 49] ++ octI n 8 ++ octI (l.length : Int) 1) [] (by omega) (by omega) (by simp only [List.length_append, octI_len, List.length_cons, List.length_nil]; omega) (by simp only [List.length_nil]; omega) (by simp only [List.length_append, octI_len, List.length_cons, List.length_nil]; omega)
    rw [List.drop_zero, List.nil_append] at this
    exact this
  · rw [if_neg h, if_neg h]
    rcases check_or n l with hc | hc
    · exact absurd hc h
    · rw [hc]

theorem pow4_ : (256 : Int) ^ 4 = 4294967296 := by decide
theorem pow8_ : (256 : Int) ^ 8 = 18446744073709551616 := by decide
theorem rd_at (A R : List Int) (x : Int) (i : Nat) (h : A.length = i) : rd (A ++ x :: R) (i : Int) = x := by
  subst h
  rw [rd_nat _ _ (by simp)]
  simp
theorem take_at (A R : List Int) (n : Nat) (h : A.length = n) : (A ++ R).take n = A := by rw [← h]; exact List.take_left
theorem drop_at (A R : List Int) (n : Nat) (h : A.length = n) : (A ++ R).drop n = R := by rw [← h]; exact List.drop_left
theorem octI_one (x : Int) (h0 : 0 ≤ x) (h1 : x ≤ 255) : octI x 1 = [x] := by
  show [x / 256 ^ 0 % 256] = [x]
  rw [Int.pow_zero, Int.ediv_one]
  congr 1
  omega
theorem getI_num (l : List Int) : getI l = wrap64 (mn (numI l) 4611686018427387904) := by unfold getI; rw [numI_tz]
theorem getI_octI (s : Nat) (n : Int) (h0 : 0 ≤ n) (h1 : n < 256 ^ s) (h2 : n ≤ 4611686018427387904) : getI (octI n s) = n := by
  rw [getI_num, numI_octI s n h0 h1]
  have e : mn n 4611686018427387904 = n := by unfold mn; split <;> omega
  rw [e, w_id (by omega) (by omega)]
/-- Octets that hold a number and blocks. -/
structure Holds (b : List Int) (n : Int) (l : List S43) (z c : List Int) : Prop where
  is : b = [115, 101, 103, 49] ++ (octI n 8 ++ ([(l.length : Int)] ++ (heads l ++ (datas l ++ (z ++ c)))))
  four : c.length = 4
  all : b.length = 384
theorem pre_len (n : Int) (k : Int) : ([115, 101, 103, 49] ++ (octI n 8 ++ [k]) : List Int).length = 13 := by simp [octI_len]
theorem Holds.len {b : List Int} {n : Int} {l : List S43} {z c : List Int} (h : Holds b n l z c) : 13 + 6 * l.length + (datas l).length + z.length = 380 := by
  have h1 := h.all
  rw [h.is] at h1
  simp only [List.length_append, octI_len, heads_len, List.length_cons, List.length_nil, h.four] at h1
  omega
theorem Holds.take380 {b : List Int} {n : Int} {l : List S43} {z c : List Int} (h : Holds b n l z c) : b.take 380 = [115, 101, 103, 49] ++ (octI n 8 ++ ([(l.length : Int)] ++ (heads l ++ (datas l ++ z)))) := by
  have h1 := h.len
  have e : b = ([115, 101, 103, 49] ++ (octI n 8 ++ ([(l.length : Int)] ++ (heads l ++ (datas l ++ z))))) ++ c := by rw [h.is]; simp only [List.append_assoc]
  rw [e]
  refine take_at _ _ _ ?_
  simp only [List.length_append, octI_len, heads_len, List.length_cons, List.length_nil]
  omega
theorem Holds.last {b : List Int} {n : Int} {l : List S43} {z c : List Int} (h : Holds b n l z c) : (b.drop 380).take 4 = c := by
  have h1 := h.len
  have e : b = ([115, 101, 103, 49] ++ (octI n 8 ++ ([(l.length : Int)] ++ (heads l ++ (datas l ++ z))))) ++ c := by rw [h.is]; simp only [List.append_assoc]
  rw [e, drop_at _ _ 380 (by simp only [List.length_append, octI_len, heads_len, List.length_cons, List.length_nil]; omega), List.take_of_length_le (by rw [h.four]; exact Nat.le_refl _)]
theorem Holds.num {b : List Int} {n : Int} {l : List S43} {z c : List Int} (h : Holds b n l z c) : (b.drop 4).take 8 = octI n 8 := by
  rw [h.is, drop_at _ _ 4 rfl, take_at _ _ 8 (octI_len _ _)]
theorem Holds.count {b : List Int} {n : Int} {l : List S43} {z c : List Int} (h : Holds b n l z c) : rd b 12 = (l.length : Int) := by
  have e : b = ([115, 101, 103, 49] ++ octI n 8) ++ (l.length : Int) :: (heads l ++ (datas l ++ (z ++ c))) := by rw [h.is]; simp only [List.append_assoc]; rfl
  rw [e]
  exact rd_at _ _ _ 12 (by simp [octI_len])
theorem heads_app (a b : List S43) : heads (a ++ b) = heads a ++ heads b := List.flatMap_append
theorem datas_app (a b : List S43) : datas (a ++ b) = datas a ++ datas b := List.flatMap_append
theorem Holds.head {b : List Int} {n : Int} {l : List S43} {z c : List Int} (h : Holds b n l z c) (i : Nat) (x : S43) (r : List S43) (hx : l = l.take i ++ x :: r) (hi : i < l.length) (ho : okB x) :
    (b.drop (13 + 6 * i)).take 4 = octI x.f0 4 ∧ rd b ((13 + 6 * i + 4 : Nat) : Int) = x.f1 ∧ rd b ((13 + 6 * i + 5 : Nat) : Int) = (x.f2.length : Int) := by
  obtain ⟨o1, o2, o3, o4, o5⟩ := ho
  have hh : heads l = heads (l.take i) ++ (headI x ++ heads r) := by conv => lhs; rw [hx]
                                                                     rw [heads_app, heads_cons]
  have hl : (([115, 101, 103, 49] ++ (octI n 8 ++ [(l.length : Int)]) : List Int) ++ heads (l.take i)).length = 13 + 6 * i := by rw [List.length_append, pre_len, heads_len, List.length_take]; omega
  have e : b = (([115, 101, 103, 49] ++ (octI n 8 ++ [(l.length : Int)])) ++ heads (l.take i)) ++ (octI x.f0 4 ++ (x.f1 :: (x.f2.length : Int) :: (heads r ++ (datas l ++ (z ++ c))))) := by
    rw [h.is, hh]
    unfold headI
    rw [octI_one x.f1 o3 o4, octI_one (x.f2.length : Int) (by omega) (by omega)]
    simp only [List.append_assoc, List.cons_append, List.nil_append]
  generalize ([115, 101, 103, 49] ++ (octI n 8 ++ [(l.length : Int)]) : List Int) ++ heads (l.take i) = A at hl e
  refine ⟨?_, ?_, ?_⟩
  · rw [e, drop_at _ _ _ hl, take_at _ _ 4 (octI_len _ _)]
  · have e2 : b = (A ++ octI x.f0 4) ++ x.f1 :: ((x.f2.length : Int) :: (heads r ++ (datas l ++ (z ++ c)))) := by rw [e, List.append_assoc]
    rw [e2]
    exact rd_at _ _ _ _ (by rw [List.length_append, octI_len, hl])
  · have e2 : b = (A ++ (octI x.f0 4 ++ [x.f1])) ++ (x.f2.length : Int) :: (heads r ++ (datas l ++ (z ++ c))) := by rw [e]; simp only [List.append_assoc, List.cons_append, List.nil_append]
    rw [e2]
    exact rd_at _ _ _ _ (by simp only [List.length_append, octI_len, hl, List.length_cons, List.length_nil])
theorem Holds.data {b : List Int} {n : Int} {l : List S43} {z c : List Int} (h : Holds b n l z c) (i : Nat) (x : S43) (r : List S43) (hx : l = l.take i ++ x :: r) :
    ((b.take 380).drop (13 + 6 * l.length + (datas (l.take i)).length)).take x.f2.length = x.f2 := by
  have hd : datas l = datas (l.take i) ++ (x.f2 ++ datas r) := by conv => lhs; rw [hx]
                                                                  rw [datas_app, datas_cons]
  have e : b.take 380 = (([115, 101, 103, 49] ++ (octI n 8 ++ [(l.length : Int)])) ++ (heads l ++ datas (l.take i))) ++ (x.f2 ++ (datas r ++ z)) := by
    rw [h.take380, hd]
    simp only [List.append_assoc]
  rw [e, drop_at _ _ _ (by rw [List.length_append, pre_len, List.length_append, heads_len]; omega), take_at _ _ _ rfl]
theorem S43.eta (x : S43) : (⟨x.f0, x.f1, x.f2⟩ : S43) = x := rfl
theorem open_fold {b : List Int} {n : Int} {l : List S43} {z c : List Int} (h : Holds b n l z c) (hok : ∀ x ∈ l, okB x) : ∀ i, i ≤ l.length →
    (List.range i).foldl (open_step b) ([], 13 + 6 * l.length) = (l.take i, 13 + 6 * l.length + (datas (l.take i)).length)
  | 0, _ => rfl
  | i + 1, hi => by
    have ih := open_fold h hok i (by omega)
    have hlt : i < l.length := by omega
    have hx : l = l.take i ++ l[i] :: l.drop (i + 1) := by rw [← List.drop_eq_getElem_cons hlt, List.take_append_drop]
    have ho := hok l[i] (List.getElem_mem hlt)
    have ht : l.take (i + 1) = l.take i ++ [l[i]] := List.take_succ_eq_append_getElem hlt
    obtain ⟨a1, a2, a3⟩ := h.head i l[i] _ hx hlt ho
    have a4 := h.data i l[i] _ hx
    rw [List.range_succ, List.foldl_append, ih, ht]
    generalize l[i] = x at *
    have a5 : getI (octI x.f0 4) = x.f0 := by
      have h1_ := ho.1
      have h2_ := ho.2.1
      exact getI_octI 4 x.f0 (by omega) (by rw [pow4_]; omega) (by omega)
    rw [List.foldl_cons, List.foldl_nil]
    unfold open_step
    simp only
    rw [a1, a2, a3, a5, Int.toNat_natCast, a4, datas_app, List.length_append, datas_cons]
    have e : datas ([] : List S43) = [] := rfl
    rw [e, List.append_nil, Nat.add_assoc]
theorem big_no {b : List Int} {n : Int} {l : List S43} {z c : List Int} (h : Holds b n l z c) (hok : ∀ x ∈ l, okB x) : openBig b l.length = false := by
  unfold openBig
  rw [List.any_eq_false]
  intro i hi
  have hlt : i < l.length := List.mem_range.1 hi
  have hx : l = l.take i ++ l[i] :: l.drop (i + 1) := by rw [← List.drop_eq_getElem_cons hlt, List.take_append_drop]
  have ho := hok l[i] (List.getElem_mem hlt)
  obtain ⟨a1, a2, a3⟩ := h.head i l[i] _ hx hlt ho
  rw [a3]
  have := ho.2.2.2.2
  simp only [decide_eq_true_eq]
  omega
theorem max_zeros : ∀ k : Nat, (List.replicate k (0 : Int)).foldl mx 0 = 0
  | 0 => rfl
  | k + 1 => by
    rw [List.replicate_succ, List.foldl_cons]
    exact max_zeros k
theorem rest_is {b : List Int} {n : Int} {l : List S43} {z c : List Int} (h : Holds b n l z c) : (b.take 380).drop (13 + 6 * l.length + (datas l).length) = z := by
  have e : b.take 380 = (([115, 101, 103, 49] ++ (octI n 8 ++ [(l.length : Int)])) ++ (heads l ++ datas l)) ++ z := by
    rw [h.take380]
    simp only [List.append_assoc]
  rw [e, drop_at _ _ _ (by rw [List.length_append, pre_len, List.length_append, heads_len]; omega)]
/-- What holds a segment is read as it. -/
theorem open2_is {b : List Int} {n : Int} {l : List S43} {c : List Int} {k : Nat} (h : Holds b n l (List.replicate k 0) c) (hc : checkI n l = 0) : openSeg2 b = (n, l, 0) := by
  obtain ⟨h1, h2, h3, h4, h5⟩ := (check_iff n l).1 hc
  have hf := open_fold h h5 l.length (Nat.le_refl _)
  rw [List.take_of_length_le (Nat.le_refl _)] at hf
  have hr : openRest b l.length = (l, 13 + 6 * l.length + (datas l).length) := hf
  have hg : getI ((b.drop 4).take 8) = n := by
    rw [h.num]
    exact getI_octI 8 n (by omega) (by rw [pow8_]; omega) (by omega)
  unfold openSeg2
  rw [h.count, if_pos (by omega), Int.toNat_natCast, big_no h h5, if_neg (by decide), hr, hg]
  simp only
  rw [if_pos hc, rest_is h]
  have hm : maxI (0 :: List.replicate k 0) = 0 := max_zeros k
  rw [hm, if_neg (by decide)]

theorem numI_le : ∀ (s : Nat) (q : List Int), Oct q → q.length = s → 0 ≤ numI q ∧ numI q < 256 ^ s
  | 0, q, _, h => by
    obtain rfl := List.length_eq_zero_iff.1 h
    exact ⟨by decide, by decide⟩
  | s + 1, q, ho, h => by
    have hne : q ≠ [] := by rintro rfl; cases h
    obtain ⟨p, x, rfl⟩ : ∃ p x, q = p ++ [x] := ⟨q.dropLast, q.getLast hne, (List.dropLast_concat_getLast hne).symm⟩
    have hx := ho x (by simp)
    have hp := numI_le s p (fun y hy => ho y (by simp [hy])) (by simpa using h)
    rw [numI_snoc, Int.pow_succ]
    generalize (256 : Int) ^ s = t at *
    omega
theorem getI_small (q : List Int) (ho : Oct q) (h4 : q.length = 4) : getI q = numI q := by
  have h := numI_le 4 q ho h4
  have e : (256 : Int) ^ 4 = 4294967296 := by decide
  rw [e] at h
  rw [getI_num]
  have e : mn (numI q) 4611686018427387904 = numI q := by unfold mn; split <;> omega
  rw [e, w_id (by omega) (by omega)]
theorem getI_eight (q : List Int) (ho : Oct q) (h8 : q.length = 8) (h1 : getI q ≤ 1099511627776) : numI q = getI q := by
  have h := numI_le 8 q ho h8
  rw [getI_num] at h1 ⊢
  unfold mn at h1 ⊢
  split
  · rename_i hc
    rw [if_pos hc, w_id (by decide) (by decide)] at h1
    exact absurd h1 (by decide)
  · rename_i hc
    rw [w_id (by omega) (by omega)]
theorem max_le : ∀ (z : List Int) (a : Int), z.foldl mx a ≤ a → a ≤ z.foldl mx a ∧ ∀ x ∈ z, x ≤ a := by
  have up : ∀ (z : List Int) (a : Int), a ≤ z.foldl mx a := by
    intro z
    induction z with
    | nil => exact fun a => Int.le_refl _
    | cons x z ih =>
      intro a
      have h := ih (mx a x)
      have e : a ≤ mx a x := by unfold mx; split <;> omega
      exact Int.le_trans e h
  intro z
  induction z with
  | nil => exact fun a _ => ⟨Int.le_refl _, fun x hx => by cases hx⟩
  | cons x z ih =>
    intro a h
    refine ⟨up _ _, ?_⟩
    have h1 : mx a x ≤ z.foldl mx (mx a x) := up z _
    have h2 : z.foldl mx (mx a x) ≤ a := h
    have h3 : mx a x = a ∧ x ≤ a := by
      have h4 : mx a x ≤ a := Int.le_trans h1 h2
      by_cases hc : a < x
      · rw [show mx a x = x from if_pos hc] at h4
        omega
      · exact ⟨if_neg hc, by omega⟩
    rw [h3.1] at h2
    intro y hy
    rcases List.mem_cons.1 hy with rfl | hy
    · exact h3.2
    · exact (ih a h2).2 y hy
theorem zeros_of (z : List Int) (ho : Oct z) (h : ¬ maxI (0 :: z) > 0) : z = List.replicate z.length 0 := by
  have h1 : z.foldl mx 0 ≤ 0 := by
    have : maxI (0 :: z) = z.foldl mx 0 := rfl
    rw [this] at h
    omega
  rw [List.eq_replicate_iff]
  refine ⟨rfl, fun x hx => ?_⟩
  have := (max_le z 0 h1).2 x hx
  have := (ho x hx).1
  omega
theorem drop_cons (b : List Int) (i : Nat) (h : i < b.length) : b.drop i = rd b (i : Int) :: b.drop (i + 1) := by
  rw [rd_nat b i h]
  exact List.drop_eq_getElem_cons h
theorem cut_cut (b : List Int) (o k m : Nat) (h : o + k ≤ m) : ((b.take m).drop o).take k = (b.drop o).take k := by
  rw [List.drop_take, List.take_take, Nat.min_eq_left (by omega)]
theorem six (b : List Int) (i : Nat) (h : i + 6 ≤ b.length) : (b.drop i).take 6 = (b.drop i).take 4 ++ [rd b ((i + 4 : Nat) : Int), rd b ((i + 5 : Nat) : Int)] := by
  have e : (b.drop i).take (4 + 2) = (b.drop i).take 4 ++ ((b.drop i).drop 4).take 2 := List.take_add
  rw [show (6 : Nat) = 4 + 2 from rfl, e, List.drop_drop, drop_cons b (i + 4) (by omega), drop_cons b (i + 4 + 1) (by omega)]
  rfl
theorem oct_rd (b : List Int) (ho : Oct b) (i : Nat) (h : i < b.length) : 0 ≤ rd b (i : Int) ∧ rd b (i : Int) ≤ 255 := by
  rw [rd_nat b i h]
  exact ho _ (List.getElem_mem h)
/-- What is read of octets: its heads and its data are theirs. -/
theorem fold_back (b : List Int) (ho : Oct b) (hb : b.length = 384) (m : Nat) (hm : m ≤ 8) (hbig : openBig b m = false) : ∀ i, i ≤ m → ∃ (xs : List S43) (t : Nat),
    (List.range i).foldl (open_step b) ([], 13 + 6 * m) = (xs, 13 + 6 * m + t) ∧ xs.length = i ∧ t ≤ 32 * i ∧ heads xs = (b.drop 13).take (6 * i) ∧ (datas xs).length = t ∧ datas xs = (b.drop (13 + 6 * m)).take t
  | 0, _ => ⟨[], 0, rfl, rfl, Nat.le_refl _, by simp [heads], rfl, by simp [datas]⟩
  | i + 1, hi => by
    obtain ⟨xs, t, h1, h2, h3, h4, h5, h6⟩ := fold_back b ho hb m hm hbig i (by omega)
    have hk : rd b ((13 + 6 * i + 5 : Nat) : Int) ≤ 32 := by
      have h := List.any_eq_false.1 hbig i (List.mem_range.2 (by omega))
      simp only [decide_eq_true_eq] at h
      omega
    have hk0 := (oct_rd b ho (13 + 6 * i + 5) (by omega)).1
    have hj := oct_rd b ho (13 + 6 * i + 4) (by omega)
    have h66 := six b (13 + 6 * i) (by omega)
    obtain ⟨k, hkk⟩ : ∃ k : Nat, rd b ((13 + 6 * i + 5 : Nat) : Int) = (k : Int) := ⟨_, (Int.toNat_of_nonneg hk0).symm⟩
    rw [hkk] at hk h66
    have hq : Oct ((b.drop (13 + 6 * i)).take 4) := (ho.drop _).take _
    have hq4 : ((b.drop (13 + 6 * i)).take 4).length = 4 := by rw [List.length_take, List.length_drop]; omega
    have hg := getI_small _ hq hq4
    have hn := octI_num 4 _ hq hq4
    have hdl : ((b.drop (13 + 6 * m + t)).take k).length = k := by rw [List.length_take, List.length_drop]; omega
    have hcut := cut_cut b (13 + 6 * m + t) k 380 (by omega)
    refine ⟨xs ++ [⟨getI ((b.drop (13 + 6 * i)).take 4), rd b ((13 + 6 * i + 4 : Nat) : Int), (b.drop (13 + 6 * m + t)).take k⟩], t + k, ?_, ?_, ?_, ?_, ?_, ?_⟩
    · rw [List.range_succ, List.foldl_append, h1, List.foldl_cons, List.foldl_nil]
      unfold open_step
      simp only
      rw [hkk, Int.toNat_natCast, hcut, Nat.add_assoc (13 + 6 * m) t k]
    · rw [List.length_append, h2]; rfl
    · omega
    · rw [heads_app, h4, heads_cons]
      have e : heads ([] : List S43) = [] := rfl
      have e2 : headI (⟨getI ((b.drop (13 + 6 * i)).take 4), rd b ((13 + 6 * i + 4 : Nat) : Int), (b.drop (13 + 6 * m + t)).take k⟩ : S43) = (b.drop (13 + 6 * i)).take 6 := by
        unfold headI
        simp only
        rw [hdl, hg, hn, octI_one _ hj.1 hj.2, octI_one (k : Int) (by omega) (by omega), h66]
        rfl
      rw [e, List.append_nil, e2, show 6 * (i + 1) = 6 * i + 6 by omega, List.take_add, List.drop_drop]
    · rw [datas_app, List.length_append, h5, datas_cons]
      have e : datas ([] : List S43) = [] := rfl
      rw [e, List.append_nil, hdl]
    · rw [datas_app, h6, datas_cons]
      have e : datas ([] : List S43) = [] := rfl
      rw [e, List.append_nil, List.take_add, List.drop_drop]
theorem holds_of (b : List Int) (ho : Oct b) (hb : b.length = 384) (hp : b.take 4 = [115, 101, 103, 49]) (n : Int) (l : List S43) (h : openSeg2 b = (n, l, 0)) : checkI n l = 0 ∧ ∃ k, Holds b n l (List.replicate k 0) ((b.drop 380).take 4) := by
  have h12 := oct_rd b ho 12 (by omega)
  obtain ⟨m, hm⟩ : ∃ m : Nat, rd b 12 = (m : Int) := ⟨_, (Int.toNat_of_nonneg h12.1).symm⟩
  unfold openSeg2 at h
  rw [hm, Int.toNat_natCast] at h
  by_cases c1 : (m : Int) ≤ 8
  case neg => rw [if_neg c1] at h; cases h
  rw [if_pos c1] at h
  by_cases c2 : openBig b m = true
  case pos => rw [if_pos c2] at h; cases h
  rw [if_neg c2] at h
  have c2 : openBig b m = false := by simpa using c2
  by_cases c3 : checkI (getI ((b.drop 4).take 8)) (openRest b m).1 = 0
  case neg => rw [if_neg c3] at h; cases h
  rw [if_pos c3] at h
  by_cases c4 : maxI (0 :: (b.take 380).drop (openRest b m).2) > 0
  case pos => rw [if_pos c4] at h; cases h
  rw [if_neg c4] at h
  obtain ⟨xs, t, h1, h2, h3, h4, h5, h6⟩ := fold_back b ho hb m (by omega) c2 m (Nat.le_refl _)
  have hr : openRest b m = (xs, 13 + 6 * m + t) := h1
  rw [hr] at h c3 c4
  simp only at h c3 c4
  obtain ⟨rfl, h'⟩ := Prod.mk.inj h
  obtain ⟨rfl, _⟩ := Prod.mk.inj h'
  clear h h' h1 hr
  refine ⟨c3, 380 - (13 + 6 * m + t), ?_, ?_, hb⟩
  · have hn1 := ((check_iff _ _).1 c3).2.1
    have hq : Oct ((b.drop 4).take 8) := (ho.drop _).take _
    have hq8 : ((b.drop 4).take 8).length = 8 := by rw [List.length_take, List.length_drop]; omega
    have e8 : octI (getI ((b.drop 4).take 8)) 8 = (b.drop 4).take 8 := by rw [← getI_eight _ hq hq8 hn1]; exact octI_num 8 _ hq hq8
    have hz := zeros_of _ ((ho.take 380).drop (13 + 6 * m + t)) c4
    have hzl : ((b.take 380).drop (13 + 6 * m + t)).length = 380 - (13 + 6 * m + t) := by rw [List.length_drop, List.length_take]; omega
    rw [hzl] at hz
    rw [← hz, e8, h4, h6, h2, List.drop_take, ← hm]
    have s1 : b = [115, 101, 103, 49] ++ b.drop 4 := by conv => lhs; rw [← List.take_append_drop 4 b, hp]
    have s2 : b.drop 4 = (b.drop 4).take 8 ++ b.drop 12 := by conv => lhs; rw [← List.take_append_drop 8 (b.drop 4), List.drop_drop]
    have s3 : b.drop 12 = [rd b 12] ++ b.drop 13 := drop_cons b 12 (by omega)
    have s4 : b.drop 13 = (b.drop 13).take (6 * m) ++ b.drop (13 + 6 * m) := by conv => lhs; rw [← List.take_append_drop (6 * m) (b.drop 13), List.drop_drop]
    have s5 : b.drop (13 + 6 * m) = (b.drop (13 + 6 * m)).take t ++ b.drop (13 + 6 * m + t) := by conv => lhs; rw [← List.take_append_drop t (b.drop (13 + 6 * m)), List.drop_drop]
    have s6 : b.drop (13 + 6 * m + t) = (b.drop (13 + 6 * m + t)).take (380 - (13 + 6 * m + t)) ++ b.drop 380 := by
      conv => lhs; rw [← List.take_append_drop (380 - (13 + 6 * m + t)) (b.drop (13 + 6 * m + t)), List.drop_drop, show 13 + 6 * m + t + (380 - (13 + 6 * m + t)) = 380 by omega]
    have s7 : (b.drop 380).take 4 = b.drop 380 := List.take_of_length_le (by rw [List.length_drop]; omega)
    rw [s7, ← s6, ← s5, ← s4, ← s3, ← s2, ← s1]
  · rw [List.length_take, List.length_drop]; omega
theorem sealed_of {b : List Int} {n : Int} {l : List S43} {k : Nat} {c : List Int} (h : Holds b n l (List.replicate k 0) c) (hc : checkI n l = 0) (hs : c = octI (crcS (b.take 380)) 4) : sealI n l = b := by
  have h4 := (check_iff n l).1 hc
  have hl := h.len
  have e : plainI n l = b.take 380 := by
    rw [h.take380]
    unfold plainI padI
    rw [octI_one (l.length : Int) (by omega) (by omega)]
    have e2 : 380 - ([115, 101, 103, 49] ++ octI n 8 ++ [(l.length : Int)] ++ heads l ++ datas l : List Int).length = k := by
      rw [List.length_replicate] at hl
      simp only [List.length_append, octI_len, heads_len, List.length_cons, List.length_nil]
      omega
    rw [e2]
    simp only [List.append_assoc]
  unfold sealI
  rw [e, ← hs, ← h.last]
  have e3 : (b.drop 380).take 4 = b.drop 380 := List.take_of_length_le (by rw [List.length_drop, h.all]; decide)
  rw [e3]
  exact List.take_append_drop 380 b

theorem prefix_is (b : List Int) (ho : Oct b) (h4 : 4 ≤ b.length) : bytes_HasPrefix.f b [115, 101, 103, 49] = some (decide (b.take 4 = [115, 101, 103, 49])) := by
  unfold bytes_HasPrefix.f
  have hl : ((([115, 101, 103, 49] : List Int).length : Nat) : Int) = 4 := rfl
  rw [hl, if_pos (by omega), if_pos (by omega), if_pos (by omega)]
  have e : (4 : Int).toNat = 4 := rfl
  rw [e, equal_is _ _ (ho.take 4) (fun x hx => by
    simp only [List.mem_cons, List.not_mem_nil, or_false] at hx
    omega)]
  rfl
theorem open_full (b : List Int) (ho : Oct b) : segment_Open.f b = some (if b.length = 384 then openSeg b (crcS (b.take 380)) (decide (b.take 4 = [115, 101, 103, 49])) else (0, [], 3)) := by
  unfold segment_Open.f
  rw [if_pos (octs_of' ho)]
  by_cases h : b.length = 384
  · rw [if_pos h, if_pos h, sumS_is, prefix_is b ho (by omega)]
    rfl
  · rw [if_neg h, if_neg h]
theorem sealI_holds (n : Int) (l : List S43) (hc : checkI n l = 0) : ∃ k, Holds (sealI n l) n l (List.replicate k 0) (octI (crcS ((sealI n l).take 380)) 4) := by
  obtain ⟨h1, h2, h3, h4, h5⟩ := (check_iff n l).1 hc
  have hd := datas_len l h5
  have hlen : ([115, 101, 103, 49] ++ octI n 8 ++ octI (l.length : Int) 1 ++ heads l ++ datas l : List Int).length ≤ 380 := by
    simp only [List.length_append, octI_len, heads_len, List.length_cons, List.length_nil]
    omega
  have hp : (plainI n l).length = 380 := padI_len _ hlen
  have ht : (sealI n l).take 380 = plainI n l := take_at _ _ 380 hp
  refine ⟨380 - ([115, 101, 103, 49] ++ octI n 8 ++ octI (l.length : Int) 1 ++ heads l ++ datas l : List Int).length, ?_, octI_len _ _, ?_⟩
  · rw [ht]
    show plainI n l ++ octI (crcS (plainI n l)) 4 = _
    generalize octI (crcS (plainI n l)) 4 = C
    unfold plainI padI
    rw [octI_one (l.length : Int) (by omega) (by omega)]
    simp only [List.append_assoc]
  · unfold sealI
    rw [List.length_append, hp, octI_len]
theorem heads_oct : ∀ l : List S43, Oct (heads l)
  | [] => Oct.nil
  | x :: r => by
    rw [heads_cons]
    exact Oct.append (Oct.append (octI_oct _ _) (Oct.append (octI_oct _ _) (octI_oct _ _))) (heads_oct r)
theorem datas_oct : ∀ l : List S43, (∀ x ∈ l, Oct x.f2) → Oct (datas l)
  | [], _ => Oct.nil
  | x :: r, h => by
    rw [datas_cons]
    exact Oct.append (h x (by simp)) (datas_oct r (fun y hy => h y (by simp [hy])))
theorem sealI_oct (n : Int) (l : List S43) (h : ∀ x ∈ l, Oct x.f2) : Oct (sealI n l) := by
  unfold sealI plainI padI
  refine Oct.append (Oct.append (Oct.append (Oct.append (Oct.append (Oct.append ?_ (octI_oct _ _)) (octI_oct _ _)) (heads_oct l)) (datas_oct l h)) ?_) (octI_oct _ _)
  · intro x hx
    simp only [List.mem_cons, List.not_mem_nil, or_false] at hx
    omega
  · intro x hx
    obtain rfl := (List.mem_replicate.1 hx).2
    omega
/-- What was sealed is opened as it was. -/
theorem open_seal (n : Int) (l : List S43) (hc : checkI n l = 0) (ho : ∀ x ∈ l, Oct x.f2) : segment_Open.f (sealI n l) = some (n, l, 0) := by
  obtain ⟨k, h⟩ := sealI_holds n l hc
  have hr := crcS_range ((sealI n l).take 380)
  have hp : (sealI n l).take 4 = [115, 101, 103, 49] := by rw [h.is]; exact take_at _ _ 4 rfl
  rw [open_full _ (sealI_oct n l ho), if_pos h.all, hp]
  unfold openSeg
  rw [h.last, getI_octI 4 _ hr.1 (by rw [pow4_]; omega) (by omega), w_id (by omega) (by omega), if_pos rfl, if_pos (decide_eq_true rfl), open2_is h hc]
theorem open_cases (b : List Int) (ho : Oct b) (n : Int) (l : List S43) (e : Int) (h : segment_Open.f b = some (n, l, e)) : (e ≠ 0 ∧ n = 0 ∧ l = []) ∨ (e = 0 ∧ checkI n l = 0 ∧ sealI n l = b) := by
  rw [open_full b ho] at h
  have h := Option.some.inj h
  have bad : ∀ c : Int, c ≠ 0 → ((0 : Int), ([] : List S43), c) = (n, l, e) → (e ≠ 0 ∧ n = 0 ∧ l = []) := by
    intro c hc hq
    obtain ⟨rfl, h2⟩ := Prod.mk.inj hq
    obtain ⟨rfl, rfl⟩ := Prod.mk.inj h2
    exact ⟨hc, rfl, rfl⟩
  by_cases h384 : b.length = 384
  case neg => rw [if_neg h384] at h; exact .inl (bad 3 (by decide) h)
  rw [if_pos h384] at h
  unfold openSeg at h
  have hr := crcS_range (b.take 380)
  rw [w_id (x := crcS (b.take 380)) (by omega) (by omega)] at h
  by_cases h1 : getI ((b.drop 380).take 4) = crcS (b.take 380)
  case neg => rw [if_neg h1] at h; exact .inl (bad 21 (by decide) h)
  rw [if_pos h1] at h
  by_cases h2 : b.take 4 = [115, 101, 103, 49]
  case neg => rw [if_neg (by rw [decide_eq_false h2]; decide)] at h; exact .inl (bad 22 (by decide) h)
  rw [if_pos (decide_eq_true h2)] at h
  by_cases he : e = 0
  · subst he
    obtain ⟨hc, k, hh⟩ := holds_of b ho h384 h2 n l h
    refine .inr ⟨rfl, hc, sealed_of hh hc ?_⟩
    have hq : Oct ((b.drop 380).take 4) := (ho.drop _).take _
    have hq4 : ((b.drop 380).take 4).length = 4 := by rw [List.length_take, List.length_drop]; omega
    rw [← h1, getI_small _ hq hq4, octI_num 4 _ hq hq4]
  · refine .inl ?_
    unfold openSeg2 at h
    split at h
    · split at h
      · exact bad 9 (by decide) h
      · split at h
        · split at h
          · exact bad 23 (by decide) h
          · exact absurd (Prod.mk.inj (Prod.mk.inj h).2).2.symm he
        · exact bad 9 (by decide) h
    · exact bad 9 (by decide) h
theorem open_some (b : List Int) (ho : Oct b) : ∃ n l e, segment_Open.f b = some (n, l, e) := by
  rw [open_full b ho]
  exact ⟨_, _, _, rfl⟩

theorem alive_is (k : Nat) (hk : 8 < k) : undercroftlaw13_alive.f k = some true := by
  have hc : checkI 1 [(⟨1, 0, [120]⟩ : S43)] = 0 := by decide
  have ho : ∀ x ∈ [(⟨1, 0, [120]⟩ : S43)], Oct x.f2 := by
    intro x hx
    rw [List.mem_singleton.1 hx]
    intro y hy
    rw [List.mem_singleton.1 hy]
    omega
  have hop := open_seal 1 _ hc ho
  obtain ⟨m, hh⟩ := sealI_holds 1 _ hc
  have hp : (sealI 1 [(⟨1, 0, [120]⟩ : S43)]).take 4 = [115, 101, 103, 49] := by rw [hh.is]; exact take_at _ _ 4 rfl
  have hs := seal_is k 1 [(⟨1, 0, [120]⟩ : S43)] hk
  rw [if_pos hc] at hs
  unfold undercroftlaw13_alive.f
  rw [hs, Option.bind_some, hop, Option.bind_some, if_pos ⟨rfl, rfl, hh.all, hp, rfl⟩]

def toB (x : S60) : S43 := ⟨x.f0, x.f1, x.f2⟩
theorem rdR_nat (l : List S60) (i : Nat) (h : i < l.length) : rd_T60 l (i : Int) = l[i] := by
  unfold rd_T60
  simp [List.getD_eq_getElem?_getD, h]
theorem of_loop (l : List S60) (hl : l.length ≤ 3518437208782) (hd : ∀ x ∈ l, x.f2.length * 1 ≤ 140737488351232) : ∀ (d k i : Nat) (acc : List S43), i + d = l.length → d < k → acc.length = i →
    undercroftlaw13_OfBlocks.l0 k l acc (i : Int) = some (acc ++ (l.drop i).map toB) := by
  intro d
  induction d with
  | zero =>
    intro k i acc hi hk ha
    obtain ⟨k, rfl⟩ : ∃ m, k = m + 1 := ⟨k - 1, by omega⟩
    have e : l.drop i = [] := List.drop_eq_nil_of_le (by omega)
    simp only [undercroftlaw13_OfBlocks.l0]
    rw [if_neg (by omega), e, List.map_nil, List.append_nil]
  | succ d ih =>
    intro k i acc hi hk ha
    obtain ⟨k, rfl⟩ : ∃ m, k = m + 1 := ⟨k - 1, by omega⟩
    have hlt : i < l.length := by omega
    have e : l.drop i = l[i] :: l.drop (i + 1) := List.drop_eq_getElem_cons hlt
    have hx := hd l[i] (List.getElem_mem hlt)
    have hr := rdR_nat l i hlt
    have hw : wrap64 ((i : Int) + 1) = ((i + 1 : Nat) : Int) := by rw [w_id (by omega) (by omega)]; rfl
    have c1 : (i : Int) < (l.length : Int) := by omega
    have c2 : (0 : Int) ≤ (i : Int) := by omega
    have c3 : acc.length < 3518437208883 := by omega
    rw [e]
    clear e
    generalize l[i] = x at hx hr ⊢
    have hcp := copyBytes_is x.f2 (by omega)
    have := ih k (i + 1) (acc ++ [toB x]) (by omega) (by omega) (by rw [List.length_append, ha]; rfl)
    simp only [undercroftlaw13_OfBlocks.l0, hr]
    rw [if_pos c1, if_pos c2, hcp]
    simp only [Option.bind_some]
    rw [if_pos c3, hw]
    rw [List.map_cons, show acc ++ toB x :: (l.drop (i + 1)).map toB = acc ++ [toB x] ++ (l.drop (i + 1)).map toB by simp]
    exact this
theorem of_is (k : Nat) (n : Int) (l : List S60) (hk : l.length < k) (hl : l.length * 40 ≤ 140737488351232) (hd : ∀ x ∈ l, x.f2.length * 1 ≤ 140737488351232) : undercroftlaw13_Of.f k n l = some (n, l.map toB) := by
  have h := of_loop l (by omega) hd l.length k 0 [] (by omega) hk rfl
  unfold undercroftlaw13_Of.f undercroftlaw13_OfBlocks.f
  rw [show (0 : Int) = ((0 : Nat) : Int) from rfl, h]
  simp only [Option.bind_some, List.drop_zero, List.nil_append]

theorem ow_at (zs : List Int) (j : Nat) (hj : j < zs.length) : zs.toArray[j]! = zs[j] := by simp [hj]
theorem ow_mem (zs : List Int) (x : Int) : x ∈ Lib.compact zs ↔ x ∈ zs := by
  unfold Lib.compact Lib.compactUpTo
  simp only [List.mem_map, List.mem_filter, List.mem_range]
  constructor
  · rintro ⟨j, ⟨hj, _⟩, rfl⟩
    rw [ow_at zs j hj]
    exact List.getElem_mem _
  · intro h
    obtain ⟨j, hj, rfl⟩ := List.getElem_of_mem h
    have key : ∀ j (hj : j < zs.length), ∃ i, (i < zs.length ∧ Lib.keeps zs.toArray i = true) ∧ zs.toArray[i]! = zs[j] := by
      intro j
      induction j with
      | zero => intro hj; exact ⟨0, ⟨hj, Lib.keeps_lt_one _ 0 (by omega)⟩, ow_at zs 0 hj⟩
      | succ j ih =>
        intro hj
        by_cases he : zs[j + 1] = zs[j]
        · obtain ⟨i, hi, h2⟩ := ih (by omega)
          exact ⟨i, hi, by rw [h2, he]⟩
        · refine ⟨j + 1, ⟨hj, Lib.keeps_pos ?_⟩, ow_at zs _ hj⟩
          rw [Nat.add_sub_cancel, ow_at zs _ hj, ow_at zs _ (by omega)]
          exact he
    exact key j hj
theorem ow_rise (zs : List Int) (hs : zs.Pairwise (fun a b => a ≤ b)) : (Lib.compact zs).Pairwise (fun a b => a < b) := by
  unfold Lib.compact Lib.compactUpTo
  rw [List.pairwise_map]
  have hb : ((List.range zs.length).filter (Lib.keeps zs.toArray)).Pairwise (fun a b => a < b) := List.Pairwise.filter _ List.pairwise_lt_range
  refine List.Pairwise.imp_of_mem ?_ hb
  intro a b ha hb hab
  simp only [List.mem_filter, List.mem_range] at ha hb
  have h1 := hb.2
  unfold Lib.keeps at h1
  have h2 := of_decide_eq_true h1
  have h3 : zs.toArray[b]! ≠ zs.toArray[b - 1]! := by
    rcases h2 with h | h
    · omega
    · exact h
  rw [ow_at zs b hb.1, ow_at zs (b - 1) (by omega)] at h3
  rw [ow_at zs a ha.1, ow_at zs b hb.1]
  rw [List.pairwise_iff_getElem] at hs
  have h4 : zs[a] ≤ zs[b - 1]'(by omega) := by
    by_cases he : a = b - 1
    · subst he; exact Int.le_refl _
    · exact hs a (b - 1) ha.1 (by omega) (by omega)
  have h5 : zs[b - 1]'(by omega) ≤ zs[b] := hs (b - 1) b (by omega) hb.1 (by omega)
  omega
def ownersI (l : List Int) : List Int := Lib.compact (l.mergeSort fun x y => decide (x ≤ y))
theorem ownersI_mem (l : List Int) (x : Int) : x ∈ ownersI l ↔ x ∈ l := by
  unfold ownersI
  rw [ow_mem, List.mem_mergeSort]
theorem ownersI_rise (l : List Int) : (ownersI l).Pairwise (fun a b => a < b) := by
  refine ow_rise _ ?_
  have h := List.pairwise_mergeSort (le := fun x y : Int => decide (x ≤ y)) (fun a b c h1 h2 => by simp at *; omega) (fun a b => by simp; omega) l
  exact h.imp (fun h => of_decide_eq_true h)
theorem wrap_nat (i : Nat) (h : i ≤ 4611686018427387904) : wrap64 ((i : Int) + 1) = ((i + 1 : Nat) : Int) := by unfold wrap64; omega
theorem rdT_nat (l : List S43) (i : Nat) (h : i < l.length) : rd_T43 l (i : Int) = l[i] := by
  unfold rd_T43
  simp [List.getD_eq_getElem?_getD, h]
theorem rdI_nat (l : List Int) (i : Nat) (h : i < l.length) : rd l (i : Int) = l[i] := by
  unfold rd
  simp [List.getD_eq_getElem?_getD, h]
theorem owners_loop (l : List S43) (hl : l.length ≤ 8) : ∀ (d i : Nat) (acc : List Int), i + d = l.length → acc = (l.take i).map (fun x => x.f0) → Ev (fun k => segment_Owners.l0 k acc l (l.length : Int) (i : Int)) (ownersI (l.map fun x => x.f0), 0) := by
  intro d
  induction d with
  | zero =>
    intro i acc hi ha
    refine Ev.step (f := fun _ => some (ownersI (l.map fun x => x.f0), 0)) (fun k => ?_) (Ev.now _)
    rw [segment_Owners.l0, if_neg (by omega), if_pos (by rw [ha, List.length_map, List.length_take]; omega), ha, List.take_of_length_le (by omega)]
    rfl
  | succ d ih =>
    intro i acc hi ha
    have hlt : i < l.length := by omega
    refine Ev.step (f := fun k => segment_Owners.l0 k (acc ++ [l[i].f0]) l (l.length : Int) ((i + 1 : Nat) : Int)) (fun k => ?_) (ih (i + 1) _ (by omega) ?_)
    · rw [segment_Owners.l0, if_pos (by omega), if_pos (by omega), if_pos (by omega), if_pos (by rw [ha, List.length_map, List.length_take]; omega), rdT_nat l i hlt, wrap_nat i (by omega)]
    · rw [ha, List.take_succ_eq_append_getElem hlt, List.map_append]
      rfl
theorem owners_is (n : Int) (l : List S43) : Ev (fun k => segment_Owners.f k n l) (if checkI n l = 0 then (ownersI (l.map fun x => x.f0), 0) else ([], 9)) := by
  have hc : segment_Check.f n l = some (checkI n l) := rfl
  by_cases h : checkI n l = 0
  · rw [if_pos h]
    have h2 := (check_iff n l).1 h
    refine Ev.congr (f := fun k => segment_Owners.l0 k [] l (l.length : Int) ((0 : Nat) : Int)) (fun k => ?_) (owners_loop l (by omega) l.length 0 [] (by omega) (by simp))
    unfold segment_Owners.f
    rw [hc, Option.bind_some, if_pos h]
    rfl
  · rw [if_neg h]
    have h9 : checkI n l = 9 := (check_or n l).resolve_left h
    refine Ev.congr (f := fun _ => some ([], 9)) (fun k => ?_) (Ev.now _)
    unfold segment_Owners.f
    rw [hc, Option.bind_some, if_neg h, h9]
/-- The loop that looks an owner up among the blocks. -/
theorem ow_l1 (n : Int) (l : List S60) (L : List Int) (hl : l.length ≤ 8) (hL : L.length ≤ 4611686018427387904) (hr : L.Pairwise (fun a b => a < b)) (i : Nat) (hi : i < L.length) (hnext : Ev (fun k => undercroftlaw13_SegmentOwners.l0 k L ((i + 1 : Nat) : Int) n l) true) : ∀ (d m : Nat) (b : Bool), m + d = l.length → (b = true ∨ ∃ j, m ≤ j ∧ ∃ h : j < l.length, l[j].f0 = L[i]) → Ev (fun k => undercroftlaw13_SegmentOwners.l1 k L (i : Int) b (m : Int) n l) true := by
  intro d
  induction d with
  | zero =>
    intro m b hm hb
    have hbt : b = true := by
      rcases hb with h | ⟨j, h1, h2, _⟩
      · exact h
      · omega
    subst hbt
    refine Ev.step (f := fun k => undercroftlaw13_SegmentOwners.l0 k L ((i + 1 : Nat) : Int) n l) (fun k => ?_) hnext
    rw [undercroftlaw13_SegmentOwners.l1, if_neg (by omega), if_pos rfl]
    by_cases h0 : i = 0
    · rw [if_neg (by omega), wrap_nat i (by omega)]
    · have hw : wrap64 ((i : Int) - 1) = ((i - 1 : Nat) : Int) := by unfold wrap64; omega
      have hlt : L[i - 1]'(by omega) < L[i] := (List.pairwise_iff_getElem.1 hr) (i - 1) i (by omega) hi (by omega)
      rw [if_pos (by omega), if_pos (by omega), if_pos (by omega), hw, if_pos (by omega), if_pos (by omega), rdI_nat L i hi, rdI_nat L (i - 1) (by omega), if_neg (by omega), wrap_nat i (by omega)]
  | succ d ih =>
    intro m b hm hb
    have hlt : m < l.length := by omega
    cases b with
    | true =>
      refine Ev.step (f := fun k => undercroftlaw13_SegmentOwners.l1 k L (i : Int) true ((m + 1 : Nat) : Int) n l) (fun k => ?_) (ih (m + 1) true (by omega) (.inl rfl))
      rw [undercroftlaw13_SegmentOwners.l1, if_pos (by omega), if_pos rfl, wrap_nat m (by omega)]
    | false =>
      have hq : (l[m].f0 == L[i]) = true ∨ ∃ j, m + 1 ≤ j ∧ ∃ h : j < l.length, l[j].f0 = L[i] := by
        rcases hb with h | ⟨j, h1, h2, h3⟩
        · cases h
        · by_cases he : j = m
          · subst he; exact .inl (by simpa using h3)
          · exact .inr ⟨j, by omega, h2, h3⟩
      refine Ev.step (f := fun k => undercroftlaw13_SegmentOwners.l1 k L (i : Int) (l[m].f0 == L[i]) ((m + 1 : Nat) : Int) n l) (fun k => ?_) (ih (m + 1) _ (by omega) hq)
      rw [undercroftlaw13_SegmentOwners.l1, if_pos (by omega), if_neg (by decide), if_pos (by omega), if_pos (by omega), if_pos (by omega), rdI_nat L i hi, rdR_nat l m hlt, wrap_nat m (by omega)]
/-- The loop that looks a block's owner up among the owners. -/
theorem ow_l3 (n : Int) (l : List S60) (L : List Int) (hl : l.length ≤ 8) (hL : L.length ≤ 4611686018427387904) (i : Nat) (hi : i < l.length) (hnext : Ev (fun k => undercroftlaw13_SegmentOwners.l2 k L ((i + 1 : Nat) : Int) n l) true) : ∀ (d m : Nat) (b : Bool), m + d = L.length → (b = true ∨ ∃ j, m ≤ j ∧ ∃ h : j < L.length, l[i].f0 = L[j]) → Ev (fun k => undercroftlaw13_SegmentOwners.l3 k L (i : Int) b (m : Int) n l) true := by
  intro d
  induction d with
  | zero =>
    intro m b hm hb
    have hbt : b = true := by
      rcases hb with h | ⟨j, h1, h2, _⟩
      · exact h
      · omega
    subst hbt
    refine Ev.step (f := fun k => undercroftlaw13_SegmentOwners.l2 k L ((i + 1 : Nat) : Int) n l) (fun k => ?_) hnext
    rw [undercroftlaw13_SegmentOwners.l3, if_neg (by omega), if_pos rfl, wrap_nat i (by omega)]
  | succ d ih =>
    intro m b hm hb
    have hlt : m < L.length := by omega
    cases b with
    | true =>
      refine Ev.step (f := fun k => undercroftlaw13_SegmentOwners.l3 k L (i : Int) true ((m + 1 : Nat) : Int) n l) (fun k => ?_) (ih (m + 1) true (by omega) (.inl rfl))
      rw [undercroftlaw13_SegmentOwners.l3, if_pos (by omega), if_pos rfl, wrap_nat m (by omega)]
    | false =>
      have hq : (l[i].f0 == L[m]) = true ∨ ∃ j, m + 1 ≤ j ∧ ∃ h : j < L.length, l[i].f0 = L[j] := by
        rcases hb with h | ⟨j, h1, h2, h3⟩
        · cases h
        · by_cases he : j = m
          · subst he; exact .inl (by simpa using h3)
          · exact .inr ⟨j, by omega, h2, h3⟩
      refine Ev.step (f := fun k => undercroftlaw13_SegmentOwners.l3 k L (i : Int) (l[i].f0 == L[m]) ((m + 1 : Nat) : Int) n l) (fun k => ?_) (ih (m + 1) _ (by omega) hq)
      rw [undercroftlaw13_SegmentOwners.l3, if_pos (by omega), if_neg (by decide), if_pos (by omega), if_pos (by omega), if_pos (by omega), rdI_nat L m hlt, rdR_nat l i hi, wrap_nat m (by omega)]
theorem ow_l2 (n : Int) (l : List S60) (L : List Int) (hl : l.length ≤ 8) (hL : L.length ≤ 4611686018427387904) (hm : ∀ x ∈ l, x.f0 ∈ L) : ∀ (d i : Nat), i + d = l.length → Ev (fun k => undercroftlaw13_SegmentOwners.l2 k L (i : Int) n l) true := by
  intro d
  induction d with
  | zero =>
    intro i hi
    refine Ev.step (f := fun _ => some true) (fun k => ?_) (Ev.now _)
    rw [undercroftlaw13_SegmentOwners.l2, if_neg (by omega)]
  | succ d ih =>
    intro i hi
    have hlt : i < l.length := by omega
    obtain ⟨j, hj, he⟩ := List.getElem_of_mem (hm _ (List.getElem_mem hlt))
    refine Ev.step (f := fun k => undercroftlaw13_SegmentOwners.l3 k L (i : Int) false ((0 : Nat) : Int) n l) (fun k => ?_) (ow_l3 n l L hl hL i hlt (ih (i + 1) (by omega)) L.length 0 false (by omega) (.inr ⟨j, Nat.zero_le _, hj, he.symm⟩))
    rw [undercroftlaw13_SegmentOwners.l2, if_pos (by omega)]
    rfl
theorem ow_l0 (n : Int) (l : List S60) (L : List Int) (hl : l.length ≤ 8) (hL : L.length ≤ 4611686018427387904) (hr : L.Pairwise (fun a b => a < b)) (hm : ∀ x ∈ l, x.f0 ∈ L) (hm2 : ∀ y ∈ L, ∃ x ∈ l, x.f0 = y) : ∀ (d i : Nat), i + d = L.length → Ev (fun k => undercroftlaw13_SegmentOwners.l0 k L (i : Int) n l) true := by
  intro d
  induction d with
  | zero =>
    intro i hi
    refine Ev.step (f := fun k => undercroftlaw13_SegmentOwners.l2 k L ((0 : Nat) : Int) n l) (fun k => ?_) (ow_l2 n l L hl hL hm l.length 0 (by omega))
    rw [undercroftlaw13_SegmentOwners.l0, if_neg (by omega)]
    rfl
  | succ d ih =>
    intro i hi
    have hlt : i < L.length := by omega
    obtain ⟨x, hx, he⟩ := hm2 _ (List.getElem_mem hlt)
    obtain ⟨j, hj, hjx⟩ := List.getElem_of_mem hx
    refine Ev.step (f := fun k => undercroftlaw13_SegmentOwners.l1 k L (i : Int) false ((0 : Nat) : Int) n l) (fun k => ?_) (ow_l1 n l L hl hL hr i hlt (ih (i + 1) (by omega)) l.length 0 false (by omega) (.inr ⟨j, Nat.zero_le _, hj, by rw [hjx]; exact he⟩))
    rw [undercroftlaw13_SegmentOwners.l0, if_pos (by omega)]
    rfl
theorem compact_len (zs : List Int) : (Lib.compact zs).length ≤ zs.length := by
  unfold Lib.compact Lib.compactUpTo
  rw [List.length_map]
  refine Nat.le_trans (List.length_filter_le _ _) ?_
  rw [List.length_range]
  exact Nat.le_refl _
theorem SegmentOwners (l0 : S24) (h0 : ok24 l0) : ∃ k, undercroftlaw13_SegmentOwners.f k l0.f0 l0.f1 = some true := by
  have hof : Ev (fun k => undercroftlaw13_Of.f k l0.f0 l0.f1) (l0.f0, l0.f1.map toB) := ⟨l0.f1.length + 1, fun k hk => of_is k l0.f0 l0.f1 (by omega) h0.2.1 (fun x hx => (h0.2.2.2 x hx).2.2.1)⟩
  have ha : Ev undercroftlaw13_alive.f true := ⟨9, fun k hk => alive_is k (by omega)⟩
  have how := owners_is l0.f0 (l0.f1.map toB)
  have hnum : ∀ x : Int, undercroftlaw13_num.f x = some x := fun x => rfl
  have hf0 : (l0.f1.map toB).map (fun x => x.f0) = l0.f1.map (fun x => x.f0) := by rw [List.map_map]; rfl
  refine Ev.rounds ?_
  unfold undercroftlaw13_SegmentOwners.f
  refine Ev.bind ha ?_
  refine Ev.congr (f := fun k => (undercroftlaw13_Of.f k l0.f0 l0.f1).bind fun bt133 => ((segment_Owners.f k bt133.1 bt133.2).bind fun bt137 => ((undercroftlaw13_num.f bt137.2).bind fun t141 => (if t141 = 0 then (undercroftlaw13_SegmentOwners.l0 k bt137.1 0 l0.f0 l0.f1) else (some ((bt137.1.length : Int) == 0)))))) (fun k => by rw [if_pos rfl]) ?_
  refine Ev.bind hof ?_
  refine Ev.bind how ?_
  by_cases hc : checkI l0.f0 (l0.f1.map toB) = 0
  · have h2 := (check_iff _ _).1 hc
    have h8 : l0.f1.length ≤ 8 := by have := h2.2.2.2.1; rwa [List.length_map] at this
    have hm : ∀ x ∈ l0.f1, x.f0 ∈ ownersI (l0.f1.map fun x => x.f0) := fun x hx => (ownersI_mem _ _).2 (List.mem_map_of_mem hx)
    have hm2 : ∀ y ∈ ownersI (l0.f1.map fun x => x.f0), ∃ x ∈ l0.f1, x.f0 = y := fun y hy => List.mem_map.1 ((ownersI_mem _ _).1 hy)
    have hL : (ownersI (l0.f1.map fun x => x.f0)).length ≤ 4611686018427387904 := by
      refine Nat.le_trans (compact_len _) ?_
      rw [List.length_mergeSort, List.length_map]
      omega
    have hgo := ow_l0 l0.f0 l0.f1 _ h8 hL (ownersI_rise _) hm hm2 _ 0 (Nat.zero_add _)
    refine Ev.congr (f := fun k => undercroftlaw13_SegmentOwners.l0 k (ownersI (l0.f1.map fun x => x.f0)) ((0 : Nat) : Int) l0.f0 l0.f1) (fun k => ?_) hgo
    rw [if_pos hc, hnum, Option.bind_some, if_pos rfl, hf0]
    rfl
  · refine Ev.congr (f := fun _ => some true) (fun k => ?_) (Ev.now _)
    rw [if_neg hc, hnum, Option.bind_some, if_neg (by decide)]
    rfl

end Go.Proofs.YtokjiinlhghggaaDoor.Pure
