/- A file that was written shares nothing with what was handed in: for every file, every place and every octets, no condition beyond the form's reach. -/
import Derived.Test.YtomebhohkonhlaaDoorPFowx
import Derived.Test.YtomebhohkonhlaaDoorInFileOwn
import Derived.Lib.Bytes
namespace Go.Proofs.YtomebhohkonhlaaDoor.Pure
open Go.RowKit Go.Proofs.YtomebhohkonhlaaDoor.PFow Go.Proofs.YtomebhohkonhlaaDoorW.PrintWords Go.Proofs.YtomebhohkonhlaaDoorW.PrintLast Go.Proofs.YtomebhohkonhlaaDoorW.PrintMore
set_option linter.unusedVariables false
set_option linter.unusedSimpArgs false

theorem w_id {x : Int} (h0 : -9223372036854775808 ≤ x) (h1 : x ≤ 9223372036854775807) : wrap64 x = x := by unfold wrap64; omega
theorem wf_i64 {a : Int} (h : (Lit.int .i64 a).wf = true) : -9223372036854775808 ≤ a ∧ a ≤ 9223372036854775807 := by
  simpa [Lit.wf, IntKind.min, IntKind.max, IntKind.signed, IntKind.bits] using h
theorem wf_u8 {a : Int} (h : (Lit.int .u8 a).wf = true) : 0 ≤ a ∧ a ≤ 255 := by
  simpa [Lit.wf, IntKind.min, IntKind.max, IntKind.signed, IntKind.bits] using h
theorem wf_u32 {a : Int} (h : (Lit.int .u32 a).wf = true) : 0 ≤ a ∧ a ≤ 4294967295 := by
  simpa [Lit.wf, IntKind.min, IntKind.max, IntKind.signed, IntKind.bits] using h
theorem wf_u64 {a : Int} (h : (Lit.int .u64 a).wf = true) : 0 ≤ a ∧ a ≤ 18446744073709551615 := by
  simpa [Lit.wf, IntKind.min, IntKind.max, IntKind.signed, IntKind.bits] using h
/-- All are octets. -/
def Oct (l : List Int) : Prop := ∀ x ∈ l, 0 ≤ x ∧ x ≤ 255
theorem Oct.of_wf {l : List Int} (h : ∀ x ∈ l, (Lit.int .u8 x).wf = true) : Oct l := fun x hx => wf_u8 (h x hx)
theorem Oct.nil : Oct [] := fun _ h => by cases h
theorem Oct.append {a b : List Int} (ha : Oct a) (hb : Oct b) : Oct (a ++ b) := fun x hx => (List.mem_append.1 hx).elim (ha x) (hb x)
theorem Oct.take {a : List Int} (ha : Oct a) (n : Nat) : Oct (a.take n) := fun x hx => ha x (List.mem_of_mem_take hx)
theorem Oct.drop {a : List Int} (ha : Oct a) (n : Nat) : Oct (a.drop n) := fun x hx => ha x (List.mem_of_mem_drop hx)
theorem rd_nat (l : List Int) (k : Nat) (h : k < l.length) : rd l (k : Int) = l[k] := by
  unfold rd
  simp [List.getD_eq_getElem?_getD, h]

theorem copyBytes_is (a : List Int) (h : a.length < 140737488355328) : undercroftplain_CopyBytes.f a = some a := by
  unfold undercroftplain_CopyBytes.f
  rw [if_pos (by simpa using h)]
  simp

theorem spoil_loop (n : Nat) (hm : n ≤ 9223372036854775806) : ∀ (d k i : Nat) (a : List Int), a.length = n → i + d = n → d < k → ∃ b, undercroftplain_Spoil.l0 k a (i : Int) = some b ∧ b.length = n := by
  intro d
  induction d with
  | zero =>
    intro k i a ha hi hk
    obtain ⟨k, rfl⟩ : ∃ m, k = m + 1 := ⟨k - 1, by omega⟩
    simp only [undercroftplain_Spoil.l0]
    rw [if_neg (by omega)]
    exact ⟨a, rfl, ha⟩
  | succ d ih =>
    intro k i a ha hi hk
    obtain ⟨k, rfl⟩ : ∃ m, k = m + 1 := ⟨k - 1, by omega⟩
    simp only [undercroftplain_Spoil.l0]
    rw [if_pos (by omega), if_pos (by omega), w_id (by omega) (by omega)]
    obtain ⟨b, hb, hl⟩ := ih k (i + 1) (a.set i (Go.bits .xor .u8 (rd a (i : Int)) 85)) (by simpa using ha) (by omega) (by omega)
    exact ⟨b, by exact_mod_cast hb, hl⟩
theorem spoil_is (a : List Int) (k : Nat) (hk : a.length < k) (hm : a.length ≤ 9223372036854775806) : ∃ b, undercroftplain_Spoil.f k a = some b := by
  obtain ⟨b, hb, _⟩ := spoil_loop a.length hm a.length k 0 a rfl (by omega) hk
  exact ⟨b, hb⟩

theorem sameBytes_loop (a b : List Int) (hl : a.length = b.length) (hm : a.length ≤ 9223372036854775807) : ∀ (d k i : Nat), i + d = a.length → d < k → a.take i = b.take i →
    undercroftplain_SameBytes.l0 k a b (i : Int) = some (decide (a = b)) := by
  intro d
  induction d with
  | zero =>
    intro k i hi hk ht
    obtain ⟨k, rfl⟩ : ∃ m, k = m + 1 := ⟨k - 1, by omega⟩
    simp only [undercroftplain_SameBytes.l0]
    rw [if_neg (by omega)]
    have : a = b := by
      rw [List.take_of_length_le (by omega), List.take_of_length_le (by omega)] at ht
      exact ht
    rw [decide_eq_true this]
  | succ d ih =>
    intro k i hi hk ht
    obtain ⟨k, rfl⟩ : ∃ m, k = m + 1 := ⟨k - 1, by omega⟩
    simp only [undercroftplain_SameBytes.l0]
    rw [if_pos (by omega), if_pos (by omega), if_pos (by omega), rd_nat a i (by omega), rd_nat b i (by omega)]
    by_cases h : a[i]'(by omega) = b[i]'(by omega)
    · rw [if_pos h, w_id (by omega) (by omega)]
      have := ih k (i + 1) (by omega) (by omega) (by
        rw [List.take_succ_eq_append_getElem (by omega), List.take_succ_eq_append_getElem (by omega), ht, h])
      exact_mod_cast this
    · rw [if_neg h]
      have : a ≠ b := by
        rintro rfl
        exact h rfl
      rw [decide_eq_false this]
theorem sameBytes_is (a b : List Int) (k : Nat) (hk : a.length < k) (hm : a.length ≤ 9223372036854775807) : undercroftplain_SameBytes.f k a b = some (decide (a = b)) := by
  unfold undercroftplain_SameBytes.f
  by_cases hl : a.length = b.length
  · rw [if_pos (by omega)]
    exact sameBytes_loop a b hl hm a.length k 0 (by omega) hk rfl
  · rw [if_neg (by omega)]
    have : a ≠ b := by
      rintro rfl
      exact hl rfl
    rw [decide_eq_false this]

/-! #### a file is its octets -/
/-- Octet p of a view. -/
def octs (m : VM) (p : Nat) : Int := ((m (p / 32)).getD zeros32).getD (p % 32) 0
def blkO (o : Nat → Int) (i : Nat) : List Int := (List.range 32).map fun k => o (32 * i + k)
/-- The file of such octets. -/
def fileOf (o : Nat → Int) : List S39 := ((List.range 76).filter fun i => !zeroI (blkO o i)).map fun (i : Nat) => (⟨(i : Int), blkO o i⟩ : S39)
def WfM (m : VM) : Prop := ∀ i b, m i = some b → b.length = 32
theorem blkO_len (o : Nat → Int) (i : Nat) : (blkO o i).length = 32 := by simp [blkO]
theorem blkO_get (o : Nat → Int) (i k : Nat) (hk : k < 32) : (blkO o i)[k]? = some (o (32 * i + k)) := by simp [blkO, hk]
theorem blkO_getD (o : Nat → Int) (i k : Nat) (hk : k < 32) : (blkO o i).getD k 0 = o (32 * i + k) := by rw [List.getD_eq_getElem?_getD, blkO_get o i k hk]; rfl
theorem blkO_congr {o o' : Nat → Int} {i : Nat} (h : ∀ k, k < 32 → o (32 * i + k) = o' (32 * i + k)) : blkO o i = blkO o' i := by
  unfold blkO
  exact List.map_congr_left (fun k hk => h k (List.mem_range.1 hk))
theorem fileOf_congr {o o' : Nat → Int} (h : ∀ p, p < 2432 → o p = o' p) : fileOf o = fileOf o' := by
  have hb : ∀ i, i < 76 → blkO o i = blkO o' i := fun i hi => blkO_congr (fun k hk => h _ (by omega))
  unfold fileOf
  have e1 : (List.range 76).filter (fun i => !zeroI (blkO o i)) = (List.range 76).filter (fun i => !zeroI (blkO o' i)) := List.filter_congr (fun i hi => by rw [hb i (List.mem_range.1 hi)])
  rw [e1]
  exact List.map_congr_left (fun i hi => by rw [hb i (List.mem_range.1 (List.mem_filter.1 hi).1)])
theorem zeroI_iff {l : List Int} : zeroI l = true ↔ ∀ k, l.getD k 0 = 0 := by
  unfold zeroI
  rw [List.all_eq_true]
  constructor
  · intro h k
    rw [List.getD_eq_getElem?_getD]
    cases hk : l[k]? with
    | none => rfl
    | some x => simpa using h x (List.mem_of_getElem? hk)
  · intro h x hx
    obtain ⟨k, hk⟩ := List.getElem?_of_mem hx
    have := h k
    rw [List.getD_eq_getElem?_getD, hk] at this
    simpa using this
theorem zeros32_getD (k : Nat) : zeros32.getD k 0 = 0 := zeroI_iff.1 (by rfl) k
theorem blk_octs {m : VM} (hm : WfM m) (i : Nat) : blkO (octs m) i = (m i).getD zeros32 := by
  have hl : ((m i).getD zeros32).length = 32 := by
    cases h : m i with
    | none => rfl
    | some b => exact hm i b h
  apply List.ext_getElem?
  intro k
  by_cases hk : k < 32
  · rw [blkO_get _ _ _ hk]
    unfold octs
    rw [show (32 * i + k) / 32 = i by omega, show (32 * i + k) % 32 = k by omega, List.getD_eq_getElem?_getD, List.getElem?_eq_getElem (by omega)]
    rfl
  · rw [List.getElem?_eq_none (by rw [blkO_len]; omega), List.getElem?_eq_none (by omega)]
theorem fileI_octs {m : VM} (hm : WfM m) : fileI m = fileOf (octs m) := by
  unfold fileI fileOf
  have e1 : (List.range 76).filter (goodI m) = (List.range 76).filter (fun i => !zeroI (blkO (octs m) i)) := List.filter_congr (fun i _ => by
    rw [blk_octs hm]
    unfold goodI
    cases h : m i with
    | none => rfl
    | some b => rfl)
  rw [e1]
  exact List.map_congr_left (fun i _ => by rw [blk_octs hm])
theorem octs_none (p : Nat) : octs (fun _ => none) p = 0 := zeros32_getD _
theorem octs_putM (m : VM) (i : Nat) (b : List Int) (p : Nat) : octs (putM m i b) p = if p / 32 = i then b.getD (p % 32) 0 else octs m p := by
  unfold octs putM
  split <;> rfl
theorem wfM_none : WfM (fun _ => none) := fun i b h => by cases h
theorem wfM_put {m : VM} (hm : WfM m) {i : Nat} {b : List Int} (hb : b.length = 32) : WfM (putM m i b) := fun j c hj => by
  unfold putM at hj
  split at hj
  · obtain rfl := Option.some.inj hj; exact hb
  · exact hm j c hj
/-! what is looked at -/
theorem wfM_look : ∀ {l : List S39}, (∀ b ∈ l, b.f1.length = 32) → WfM (lookI l) := by
  intro l
  unfold lookI
  have h : ∀ (l : List S39) (m : VM), WfM m → (∀ b ∈ l, b.f1.length = 32) → WfM (l.foldl (fun m b => putM m b.f0.toNat b.f1) m) := by
    intro l
    induction l with
    | nil => intro m hm _; exact hm
    | cons b r ih => intro m hm hb; exact ih _ (wfM_put hm (hb b List.mem_cons_self)) (fun c hc => hb c (List.mem_cons_of_mem _ hc))
  exact h l _ wfM_none
theorem look_fold_none : ∀ (l : List S39) (m : VM) (i : Nat), (∀ b ∈ l, b.f0.toNat ≠ i) → (l.foldl (fun m b => putM m b.f0.toNat b.f1) m) i = m i
  | [], _, _, _ => rfl
  | b :: r, m, i, h => by
    show (r.foldl _ (putM m b.f0.toNat b.f1)) i = _
    rw [look_fold_none r _ i (fun c hc => h c (List.mem_cons_of_mem _ hc))]
    unfold putM
    rw [if_neg (fun e => h b List.mem_cons_self e.symm)]
/-- In a list that rises each block is found. -/
theorem look_mem : ∀ (l : List S39) (m : VM), l.Pairwise (fun a b => a.f0 < b.f0) → (∀ b ∈ l, 0 ≤ b.f0) → ∀ b ∈ l, (l.foldl (fun m b => putM m b.f0.toNat b.f1) m) b.f0.toNat = some b.f1
  | [], _, _, _, b, hb => by cases hb
  | a :: r, m, hp, h0, b, hb => by
    obtain ⟨h1, h2⟩ := List.pairwise_cons.1 hp
    show (r.foldl _ (putM m a.f0.toNat a.f1)) b.f0.toNat = _
    rcases List.mem_cons.1 hb with rfl | hb
    · rw [look_fold_none r _ _ (fun c hc => by
        have e1 := h1 c hc
        have e2 := h0 b List.mem_cons_self
        omega)]
      unfold putM
      rw [if_pos rfl]
    · exact look_mem r _ h2 (fun c hc => h0 c (List.mem_cons_of_mem _ hc)) b hb
/-- What may be is the file of what is looked at. -/
theorem look_back {sz : Int} {l : List S39} (h : checkI sz l = 0) : fileI (lookI l) = l ∧ (∀ p : Nat, sz ≤ (p : Int) → octs (lookI l) p = 0) := by
  obtain ⟨⟨hs1, hs2⟩, hl, hok⟩ := check_good h
  have hc : checkL ((sz + 31) / 32) sz (-1) l = 0 := by
    unfold checkI at h
    rw [if_neg (by omega), if_neg (by omega)] at h
    exact h
  obtain ⟨i1, i2⟩ := checkL_good (by omega) hc
  have hm := look_mem l (fun _ => none) i2 (fun b hb => (hok b hb).1)
  have hmm : ∀ b ∈ l, lookI l b.f0.toNat = some b.f1 := hm
  have hno : ∀ i, (∀ b ∈ l, b.f0.toNat ≠ i) → lookI l i = none := fun i hi => look_fold_none l _ i hi
  refine ⟨?_, fun p hp => ?_⟩
  · have hk : l.map (fun b => b.f0.toNat) = (List.range 76).filter (goodI (lookI l)) := by
      refine inc_eq ?_ (List.Pairwise.filter _ List.pairwise_lt_range) (fun i => ?_)
      · rw [List.pairwise_map]
        refine List.Pairwise.imp_of_mem (fun {a b} ha hb hab => ?_) i2
        have e1 := (hok a ha).1
        omega
      · rw [List.mem_map, List.mem_filter, List.mem_range]
        constructor
        · rintro ⟨b, hb, rfl⟩
          have e1 := (hok b hb)
          refine ⟨by omega, ?_⟩
          unfold goodI
          rw [hmm b hb]
          simp [(i1 b hb).2.2.2.1]
        · rintro ⟨hi, hg⟩
          rcases Classical.em (∃ b ∈ l, b.f0.toNat = i) with ⟨b, hb, e⟩ | hn
          · exact ⟨b, hb, e⟩
          · have := hno i (fun b hb e => hn ⟨b, hb, e⟩)
            unfold goodI at hg
            rw [this] at hg
            cases hg
    rw [fileI_of hk, List.map_map]
    conv => rhs; rw [← List.map_id l]
    refine List.map_congr_left (fun b hb => ?_)
    have e1 := (hok b hb)
    show (⟨((b.f0.toNat : Nat) : Int), (lookI l b.f0.toNat).getD zeros32⟩ : S39) = b
    rw [hmm b hb]
    obtain ⟨b0, b1⟩ := b
    simp only at e1
    have e2 : ((b0.toNat : Nat) : Int) = b0 := by omega
    simp only [e2, Option.getD_some]
  · unfold octs
    rcases Classical.em (∃ b ∈ l, b.f0.toNat = p / 32) with ⟨b, hb, e⟩ | hn
    · rw [← e, hmm b hb]
      obtain ⟨j1, j2, j3, j4, j5⟩ := i1 b hb
      have e1 := (hok b hb)
      have hlt : sz - 32 * b.f0 < 32 := by omega
      have hz := zeroI_iff.1 (j5 hlt) (p % 32 - (sz - 32 * b.f0).toNat)
      rw [List.getD_eq_getElem?_getD, List.getElem?_drop, show (sz - 32 * b.f0).toNat + (p % 32 - (sz - 32 * b.f0).toNat) = p % 32 by omega] at hz
      rw [List.getD_eq_getElem?_getD]
      exact hz
    · rw [hno (p / 32) (fun b hb e => hn ⟨b, hb, e⟩)]
      exact zeros32_getD _

/-! #### what is written, cut, read -/
def putO (o : Nat → Int) (off : Nat) (d : List Int) (p : Nat) : Int := if off ≤ p ∧ p < off + d.length then d.getD (p - off) 0 else o p
theorem stepN_le (o : Nat) (d : List Int) : stepN o d ≤ d.length ∧ stepN o d ≤ 32 - o % 32 := ⟨Nat.min_le_left _ _, Nat.min_le_right _ _⟩
theorem stepN_pos (o : Nat) (d : List Int) (h : 0 < d.length) : 0 < stepN o d := Nat.lt_min.2 ⟨h, by omega⟩
theorem look32 {m : VM} (hm : WfM m) (i : Nat) : ((m i).getD zeros32).length = 32 := by
  cases h : m i with
  | none => rfl
  | some b => exact hm i b h
theorem stepB_len {m : VM} (hm : WfM m) (o : Nat) (d : List Int) : (stepB m o d).length = 32 := by
  have h1 := look32 hm (o / 32)
  obtain ⟨h2, h3⟩ := stepN_le o d
  unfold stepB
  simp only [List.length_append, List.length_take, List.length_drop, h1]
  omega
theorem getD_three {a b c : List Int} (k : Nat) : (a ++ b ++ c).getD k 0 = if k < a.length then a.getD k 0 else if k < a.length + b.length then b.getD (k - a.length) 0 else c.getD (k - a.length - b.length) 0 := by
  simp only [List.getD_eq_getElem?_getD]
  by_cases h1 : k < a.length
  · rw [if_pos h1, List.append_assoc, List.getElem?_append_left h1]
  · rw [if_neg h1]
    by_cases h2 : k < a.length + b.length
    · rw [if_pos h2, List.getElem?_append_left (by rw [List.length_append]; exact h2), List.getElem?_append_right (by omega)]
    · rw [if_neg h2, List.getElem?_append_right (by rw [List.length_append]; omega), List.length_append, Nat.sub_add_eq]
theorem getD_take {l : List Int} {n k : Nat} (h : k < n) : (l.take n).getD k 0 = l.getD k 0 := by simp only [List.getD_eq_getElem?_getD, List.getElem?_take, if_pos h]
theorem getD_drop (l : List Int) (n k : Nat) : (l.drop n).getD k 0 = l.getD (n + k) 0 := by simp only [List.getD_eq_getElem?_getD, List.getElem?_drop]
theorem octs_step {m : VM} (hm : WfM m) (o : Nat) (d : List Int) : octs (putM m (o / 32) (stepB m o d)) = putO (octs m) o (d.take (stepN o d)) := by
  have h1 := look32 hm (o / 32)
  obtain ⟨h2, h3⟩ := stepN_le o d
  have htl : (d.take (stepN o d)).length = stepN o d := by rw [List.length_take]; omega
  have hal : (((m (o / 32)).getD zeros32).take (o % 32)).length = o % 32 := by rw [List.length_take, h1]; omega
  funext p
  rw [octs_putM]
  unfold putO
  rw [htl]
  by_cases hp : p / 32 = o / 32
  · rw [if_pos hp]
    unfold stepB
    rw [getD_three, hal, htl]
    by_cases c1 : p % 32 < o % 32
    · rw [if_pos c1, if_neg (by omega), getD_take c1]
      unfold octs
      rw [hp]
    · rw [if_neg c1]
      by_cases c2 : p % 32 < o % 32 + stepN o d
      · rw [if_pos c2, if_pos (by omega), show p % 32 - o % 32 = p - o by omega]
      · rw [if_neg c2, if_neg (by omega), getD_drop]
        unfold octs
        rw [hp, show o % 32 + stepN o d + (p % 32 - o % 32 - stepN o d) = p % 32 by omega]
  · rw [if_neg hp, if_neg (by omega)]
theorem putO_putO (o : Nat → Int) (off n : Nat) (d : List Int) (hn : n ≤ d.length) : putO (putO o off (d.take n)) (off + n) (d.drop n) = putO o off d := by
  funext p
  unfold putO
  rw [List.length_take, List.length_drop, Nat.min_eq_left hn]
  by_cases c1 : off + n ≤ p ∧ p < off + n + (d.length - n)
  · rw [if_pos c1, if_pos (by omega), getD_drop]
    congr 1
    omega
  · rw [if_neg c1]
    by_cases c2 : off ≤ p ∧ p < off + n
    · rw [if_pos c2, if_pos (by omega), getD_take (by omega)]
    · rw [if_neg c2, if_neg (by omega)]
theorem write_octs : ∀ (k : Nat) (m : VM) (o : Nat) (d : List Int), WfM m → d.length ≤ k → octs (writeK k m o d) = putO (octs m) o d ∧ WfM (writeK k m o d)
  | 0, m, o, d, hm, h => by
    have : d = [] := List.eq_nil_of_length_eq_zero (by omega)
    subst this
    refine ⟨?_, hm⟩
    funext p
    show octs m p = _
    unfold putO
    rw [if_neg (by simp)]
  | k + 1, m, o, d, hm, h => by
    unfold writeK
    by_cases h0 : d.length = 0
    · rw [if_pos h0]
      refine ⟨?_, hm⟩
      funext p
      unfold putO
      rw [if_neg (by omega)]
    · rw [if_neg h0]
      have hp := stepN_pos o d (by omega)
      obtain ⟨ih1, ih2⟩ := write_octs k (putM m (o / 32) (stepB m o d)) (o + stepN o d) (d.drop (stepN o d)) (wfM_put hm (stepB_len hm o d)) (by rw [List.length_drop]; omega)
      exact ⟨by rw [ih1, octs_step hm, putO_putO _ _ _ _ (stepN_le o d).1], ih2⟩
theorem octs_cut {m : VM} (hm : WfM m) (size : Int) : octs (cutM m size) = (fun (p : Nat) => if (p : Int) < size then octs m p else 0) ∧ WfM (cutM m size) := by
  refine ⟨?_, fun i b h => ?_⟩
  · funext p
    unfold octs cutM
    cases h : m (p / 32) with
    | none =>
      show zeros32.getD _ 0 = if _ then zeros32.getD _ 0 else 0
      rw [zeros32_getD]
      split <;> rfl
    | some b =>
      have hb := hm _ b h
      show (cutB (cutL size (p / 32)) b).getD (p % 32) 0 = if (p : Int) < size then b.getD (p % 32) 0 else 0
      unfold cutB
      have hc : (p % 32 < cutL size (p / 32)) ↔ (p : Int) < size := by unfold cutL; omega
      have hl := cutL_le size (p / 32)
      have ht : (b.take (cutL size (p / 32))).length = cutL size (p / 32) := by rw [List.length_take, hb]; omega
      simp only [List.getD_eq_getElem?_getD]
      by_cases c : p % 32 < cutL size (p / 32)
      · rw [if_pos (hc.1 c), List.getElem?_append_left (by rw [ht]; exact c), List.getElem?_take, if_pos c]
      · rw [if_neg (fun h_ => c (hc.2 h_)), List.getElem?_append_right (by rw [ht]; omega), List.getElem?_replicate]
        split <;> rfl
  · unfold cutM at h
    obtain ⟨c, hc, rfl⟩ := Option.map_eq_some_iff.1 h
    exact cutB_len (cutL_le _ _) (hm i c hc)
theorem readStep_is {off : Nat} {out : List Int} {m : VM} {b : S39} (hb : b.f1.length = 32) (h0 : 0 ≤ b.f0) (hout : ∀ k, k < out.length → out.getD k 0 = octs m (off + k)) : ∀ k, k < (readStep off out b).length → (readStep off out b).getD k 0 = octs (putM m b.f0.toNat b.f1) (off + k) := by
  intro k hk
  rw [readStep_len hb] at hk
  rw [octs_putM]
  obtain ⟨i, hi⟩ : ∃ i : Nat, b.f0 = (i : Int) := ⟨b.f0.toNat, by omega⟩
  rw [hi, Int.toNat_natCast]
  unfold readStep
  rw [hi]
  by_cases c : 32 * (i : Int) - (off : Int) + 32 ≤ 0 ∨ (out.length : Int) ≤ 32 * (i : Int) - (off : Int)
  · rw [if_pos c, if_neg (by omega)]
    exact hout k hk
  · rw [if_neg c]
    obtain ⟨o, ho⟩ : ∃ o : Nat, o = (max (32 * (i : Int) - (off : Int)) 0).toNat := ⟨_, rfl⟩
    obtain ⟨s, hs⟩ : ∃ s : Nat, s = (max (-(32 * (i : Int) - (off : Int))) 0).toNat := ⟨_, rfl⟩
    obtain ⟨n, hn⟩ : ∃ n : Nat, n = Nat.min (32 - s) (out.length - o) := ⟨_, rfl⟩
    have hn1 : n ≤ 32 - s := by rw [hn]; exact Nat.min_le_left _ _
    have hn2 : n ≤ out.length - o := by rw [hn]; exact Nat.min_le_right _ _
    have hn3 : n = 32 - s ∨ n = out.length - o := by
      rw [hn]
      rcases Nat.le_total (32 - s) (out.length - o) with h | h
      · exact .inl (Nat.min_eq_left h)
      · exact .inr (Nat.min_eq_right h)
    rw [← ho, ← hs, ← hn, getD_three]
    have h1 : (out.take o).length = o := by rw [List.length_take]; omega
    have h2 : ((b.f1.drop s).take n).length = n := by rw [List.length_take, List.length_drop, hb]; omega
    rw [h1, h2]
    by_cases c1 : k < o
    · rw [if_pos c1, getD_take c1, if_neg (by omega)]
      exact hout k hk
    · rw [if_neg c1]
      by_cases c2 : k < o + n
      · rw [if_pos c2, getD_take (by omega), getD_drop, if_pos (by omega)]
        congr 1
        omega
      · rw [if_neg c2, getD_drop, if_neg (by omega), show o + n + (k - o - n) = k by omega]
        exact hout k hk
theorem readL_is {off : Nat} : ∀ {l : List S39} {out : List Int} {m : VM}, (∀ b ∈ l, b.f1.length = 32 ∧ 0 ≤ b.f0) → (∀ k, k < out.length → out.getD k 0 = octs m (off + k)) → ∀ k, k < out.length → (readL off out l).getD k 0 = octs (l.foldl (fun m b => putM m b.f0.toNat b.f1) m) (off + k)
  | [], _, _, _, h => h
  | b :: r, out, m, hb, h => by
    have h1 := readStep_is (hb b List.mem_cons_self).1 (hb b List.mem_cons_self).2 h
    have h2 := readL_is (l := r) (fun c hc => hb c (List.mem_cons_of_mem _ hc)) h1
    rw [readStep_len (hb b List.mem_cons_self).1] at h2
    exact h2
theorem read_octs {off n : Nat} {l : List S39} (hl : ∀ b ∈ l, b.f1.length = 32 ∧ 0 ≤ b.f0) : readL off (List.replicate n 0) l = (List.range n).map fun k => octs (lookI l) (off + k) := by
  have hlen : (readL off (List.replicate n 0) l).length = n := by rw [readL_len (fun b hb => (hl b hb).1), List.length_replicate]
  have h := readL_is (off := off) (out := List.replicate n 0) (m := fun _ => none) hl (fun k hk => by
    rw [octs_none, List.getD_eq_getElem?_getD, List.getElem?_replicate]
    split <;> rfl)
  rw [List.length_replicate] at h
  apply List.ext_getElem?
  intro k
  by_cases hk : k < n
  · have h1 := h k hk
    rw [List.getD_eq_getElem?_getD, List.getElem?_eq_getElem (by omega)] at h1
    rw [List.getElem?_eq_getElem (by omega), List.getElem?_map, List.getElem?_range hk]
    exact congrArg some h1
  · rw [List.getElem?_eq_none (by omega), List.getElem?_eq_none (by simp; omega)]
/-! which may be -/
theorem badB_no {n sz last : Int} {b : S39} (h1 : last < b.f0) (h2 : b.f0 < n) (h3 : b.f1.length = 32) (h4 : zeroI b.f1 = false) (h5 : sz - 32 * b.f0 < 32 → zeroI (b.f1.drop (sz - 32 * b.f0).toNat) = true) : badB n sz last b = false := by
  unfold badB
  rw [decide_eq_false (by omega), decide_eq_false (by omega), h3, h4]
  by_cases c : sz - 32 * b.f0 < 32
  · simp [h5 c]
  · simp [c]
theorem checkL_ok {n sz : Int} : ∀ {l : List S39} {last : Int}, l.Pairwise (fun a b => a.f0 < b.f0) → (∀ b ∈ l, last < b.f0 ∧ b.f0 < n ∧ b.f1.length = 32 ∧ zeroI b.f1 = false ∧ (sz - 32 * b.f0 < 32 → zeroI (b.f1.drop (sz - 32 * b.f0).toNat) = true)) → checkL n sz last l = 0
  | [], _, _, _ => rfl
  | b :: r, last, hp, h => by
    obtain ⟨h1, h2⟩ := List.pairwise_cons.1 hp
    obtain ⟨a1, a2, a3, a4, a5⟩ := h b List.mem_cons_self
    unfold checkL
    rw [badB_no a1 a2 a3 a4 a5, if_neg (by decide)]
    exact checkL_ok h2 (fun c hc => ⟨h1 c hc, (h c (List.mem_cons_of_mem _ hc)).2⟩)
theorem fileOf_check {sz : Int} {o : Nat → Int} (h0 : 0 ≤ sz) (h1 : sz ≤ 2432) (ho : ∀ p : Nat, sz ≤ (p : Int) → o p = 0) : checkI sz (fileOf o) = 0 := by
  unfold checkI
  rw [if_neg (by omega), if_neg (by omega)]
  refine checkL_ok ?_ (fun b hb => ?_)
  · unfold fileOf
    rw [List.pairwise_map]
    refine (List.Pairwise.filter _ List.pairwise_lt_range).imp (fun h => ?_)
    simp only
    omega
  · unfold fileOf at hb
    obtain ⟨i, hi, rfl⟩ := List.mem_map.1 hb
    obtain ⟨hi1, hi2⟩ := List.mem_filter.1 hi
    have hi3 := List.mem_range.1 hi1
    have hz : zeroI (blkO o i) = false := by simpa using hi2
    refine ⟨by simp only; omega, ?_, blkO_len o i, hz, fun hc => ?_⟩
    · rcases Classical.em ((i : Int) < (sz + 31) / 32) with h | h
      · exact h
      · exfalso
        have : zeroI (blkO o i) = true := zeroI_iff.2 (fun k => by
          by_cases hk : k < 32
          · rw [blkO_getD o i k hk]
            exact ho _ (by omega)
          · rw [List.getD_eq_getElem?_getD, List.getElem?_eq_none (by rw [blkO_len]; omega)]
            rfl)
        rw [this] at hz
        cases hz
    · have hc : sz - 32 * (i : Int) < 32 := hc
      show zeroI ((blkO o i).drop (sz - 32 * (i : Int)).toNat) = true
      refine zeroI_iff.2 (fun k => ?_)
      rw [getD_drop]
      by_cases hk : (sz - 32 * (i : Int)).toNat + k < 32
      · rw [blkO_getD o i _ hk]
        exact ho _ (by omega)
      · rw [List.getD_eq_getElem?_getD, List.getElem?_eq_none (by rw [blkO_len]; omega)]
        rfl
/-- The octets of a file that is made of them. -/
theorem look_fileOf {sz : Int} {o : Nat → Int} (h0 : 0 ≤ sz) (h1 : sz ≤ 2432) (ho : ∀ p : Nat, sz ≤ (p : Int) → o p = 0) : ∀ p, octs (lookI (fileOf o)) p = o p := by
  have hc := fileOf_check h0 h1 ho
  obtain ⟨e1, e2⟩ := look_back hc
  intro p
  by_cases hp : (p : Int) < sz
  · have hwf : WfM (lookI (fileOf o)) := wfM_look (fun b hb => by
      obtain ⟨_, _, h⟩ := check_good hc
      exact (h b hb).2.2)
    rw [fileI_octs hwf] at e1
    have hpi : p / 32 < 76 := by omega
    -- the blocks at p / 32 are one
    have hbl : blkO (octs (lookI (fileOf o))) (p / 32) = blkO o (p / 32) := by
      have hz : ∀ (q : Nat → Int), (zeroI (blkO q (p / 32)) = false ↔ ∃ b ∈ fileOf q, b.f0 = ((p / 32 : Nat) : Int)) := fun q => by
        constructor
        · intro h
          exact ⟨⟨((p / 32 : Nat) : Int), blkO q (p / 32)⟩, List.mem_map.2 ⟨p / 32, List.mem_filter.2 ⟨List.mem_range.2 hpi, by simp [h]⟩, rfl⟩, rfl⟩
        · rintro ⟨b, hb, e⟩
          obtain ⟨i, hi, rfl⟩ := List.mem_map.1 hb
          have hi2 := (List.mem_filter.1 hi).2
          have : i = p / 32 := by simp only at e; omega
          subst this
          simpa using hi2
      cases c1 : zeroI (blkO o (p / 32)) with
      | true =>
        have c2 : zeroI (blkO (octs (lookI (fileOf o))) (p / 32)) = true := by
          cases c3 : zeroI (blkO (octs (lookI (fileOf o))) (p / 32)) with
          | true => rfl
          | false =>
            have := (hz _).1 c3
            rw [e1] at this
            rw [(hz o).2 this] at c1
            cases c1
        apply List.ext_getElem?
        intro k
        by_cases hk : k < 32
        · have a1 := zeroI_iff.1 c1 k
          have a2 := zeroI_iff.1 c2 k
          rw [blkO_getD _ _ _ hk] at a1 a2
          rw [blkO_get _ _ _ hk, blkO_get _ _ _ hk, a1, a2]
        · rw [List.getElem?_eq_none (by rw [blkO_len]; omega), List.getElem?_eq_none (by rw [blkO_len]; omega)]
      | false =>
        have hm1 : (⟨((p / 32 : Nat) : Int), blkO o (p / 32)⟩ : S39) ∈ fileOf (octs (lookI (fileOf o))) := by
          rw [e1]
          exact List.mem_map.2 ⟨p / 32, List.mem_filter.2 ⟨List.mem_range.2 hpi, by simp [c1]⟩, rfl⟩
        obtain ⟨i, _, e⟩ := List.mem_map.1 hm1
        injection e with e3 e4
        have : i = p / 32 := by omega
        rw [this] at e4
        exact e4
    have h3 := congrArg (fun l => l.getD (p % 32) 0) hbl
    rw [blkO_getD _ _ _ (by omega), blkO_getD _ _ _ (by omega), show 32 * (p / 32) + p % 32 = p by omega] at h3
    exact h3
  · rw [e2 p (by omega), ho p (by omega)]

/-! #### the law's copies; the document's text, file and check -/
def t57 (x : S39) : S57 := ⟨x.f0, x.f1⟩
def t39 (x : S57) : S39 := ⟨x.f0, x.f1⟩
theorem t39_t57 (x : S39) : t39 (t57 x) = x := rfl
theorem t57_t39 (x : S57) : t57 (t39 x) = x := rfl
theorem map_back (l : List S57) : (l.map t39).map t57 = l := by
  rw [List.map_map]
  exact (List.map_congr_left (fun x _ => t57_t39 x)).trans (List.map_id l)
theorem map_fore (l : List S39) : (l.map t57).map t39 = l := by
  rw [List.map_map]
  exact (List.map_congr_left (fun x _ => t39_t57 x)).trans (List.map_id l)
theorem rd57 (l : List S57) (j : Nat) (h : j < l.length) : rd_T57 l (j : Int) = l[j] := by
  unfold rd_T57
  rw [Int.toNat_natCast, List.getD_eq_getElem?_getD, List.getElem?_eq_getElem h]
  rfl
theorem rd39 (l : List S39) (j : Nat) (h : j < l.length) : rd_T39 l (j : Int) = l[j] := by
  unfold rd_T39
  rw [Int.toNat_natCast, List.getD_eq_getElem?_getD, List.getElem?_eq_getElem h]
  rfl
theorem take_snoc {α : Type} (l : List α) (j : Nat) (h : j < l.length) : l.take (j + 1) = l.take j ++ [l[j]] := by rw [List.take_add_one, List.getElem?_eq_getElem h]; rfl

theorem law_of_loop {sz : Int} {l : List S57} (h1 : l.length ≤ 4398046510976) (h2 : ∀ b ∈ l, b.f1.length ≤ 140737488351232) : ∀ (d j : Nat), l.length - j = d → j ≤ l.length →
    Ev (fun k => undercroftlaw07_Of.l0 k (j : Int) sz l sz ((l.take j).map t39)) (sz, l.map t39) := by
  intro d
  induction d with
  | zero =>
    intro j hd hj
    refine Ev.step (f := fun _ => some (sz, l.map t39)) (fun k => ?_) (Ev.now _)
    simp only [undercroftlaw07_Of.l0]
    rw [if_neg (by omega), List.take_of_length_le (by omega)]
  | succ d ih =>
    intro j hd hj
    have hlt : j < l.length := by omega
    refine Ev.step (f := fun k => undercroftlaw07_Of.l0 k ((j + 1 : Nat) : Int) sz l sz ((l.take (j + 1)).map t39)) (fun k => ?_) (ih (j + 1) (by omega) (by omega))
    simp only [undercroftlaw07_Of.l0]
    rw [if_pos (by omega), if_pos (by omega), rd57 l j hlt, copyBytes_is _ (by have := h2 _ (List.getElem_mem hlt); omega)]
    show (if ((l.take j).map t39).length < 4398046511104 then _ else _) = _
    rw [if_pos (by rw [List.length_map, List.length_take]; omega), w_id (by omega) (by omega), take_snoc l j hlt, List.map_append]
    rfl
theorem law_of {sz : Int} {l : List S57} (h1 : l.length ≤ 4398046510976) (h2 : ∀ b ∈ l, b.f1.length ≤ 140737488351232) : Ev (fun k => undercroftlaw07_Of.f k sz l) (sz, l.map t39) :=
  Ev.congr (fun _ => rfl) (law_of_loop h1 h2 l.length 0 (by omega) (Nat.zero_le _))

/-- One octet of a block, laid into a text. -/
def textS (b : S57) (x : List Int) (k : Nat) : List Int := if wrap64 (wrap64 (32 * b.f0) + (k : Int)) ≥ 0 then (if wrap64 (wrap64 (32 * b.f0) + (k : Int)) < (x.length : Int) then x.set (wrap64 (wrap64 (32 * b.f0) + (k : Int))).toNat (b.f1.getD k 0) else x) else x
def textK (b : S57) : Nat → Nat → List Int → List Int
  | 0, _, x => x
  | d + 1, k, x => textK b d (k + 1) (textS b x k)
def textL : List S57 → List Int → List Int
  | [], x => x
  | b :: r, x => textL r (textK b b.f1.length 0 x)
theorem textS_len (b : S57) (x : List Int) (k : Nat) : (textS b x k).length = x.length := by
  unfold textS
  split
  · split
    · exact List.length_set
    · rfl
  · rfl
theorem text_inner {sz : Int} {l : List S57} (hl : l.length ≤ 4398046510976) {j : Nat} (hj : j < l.length) (hb : l[j].f1.length ≤ 140737488351232) {r : List Int} : ∀ (d k : Nat) (x : List Int), k + d = l[j].f1.length →
    Ev (fun n => undercroftref07_Text.l0 n (textK l[j] d k x) ((j + 1 : Nat) : Int) sz l) r → Ev (fun n => undercroftref07_Text.l1 n x (j : Int) (k : Int) sz l) r := by
  intro d
  induction d with
  | zero =>
    intro k x hk he
    refine Ev.step (f := fun n => undercroftref07_Text.l0 n (textK l[j] 0 k x) ((j + 1 : Nat) : Int) sz l) (fun n => ?_) he
    simp only [undercroftref07_Text.l1]
    rw [if_pos (by omega), if_pos (by omega), rd57 l j hj, if_neg (by omega), w_id (by omega) (by omega)]
    rfl
  | succ d ih =>
    intro k x hk he
    have h1 := ih (k + 1) (textS l[j] x k) (by omega) he
    refine Ev.step (f := fun n => undercroftref07_Text.l1 n (textS l[j] x k) (j : Int) ((k + 1 : Nat) : Int) sz l) (fun n => ?_) h1
    simp only [undercroftref07_Text.l1]
    rw [if_pos (by omega), if_pos (by omega), rd57 l j hj, if_pos (by omega)]
    have hw : wrap64 ((k : Int) + 1) = ((k + 1 : Nat) : Int) := by rw [w_id (by omega) (by omega)]; rfl
    have hr : rd l[j].f1 (k : Int) = l[j].f1.getD k 0 := by unfold rd; rw [Int.toNat_natCast]
    rw [hw]
    unfold textS
    by_cases c1 : wrap64 (wrap64 (32 * l[j].f0) + (k : Int)) ≥ 0
    · rw [if_pos c1, if_pos c1]
      by_cases c2 : wrap64 (wrap64 (32 * l[j].f0) + (k : Int)) < (x.length : Int)
      · rw [if_pos c2, if_pos c2, if_pos (by omega), if_pos c1, hr]
      · rw [if_neg c2, if_neg c2, if_pos c1]
    · rw [if_neg c1, if_neg c1]
theorem text_loop {sz : Int} {l : List S57} (hl : l.length ≤ 4398046510976) (hb : ∀ b ∈ l, b.f1.length ≤ 140737488351232) : ∀ (d j : Nat) (x : List Int), l.length - j = d → j ≤ l.length →
    Ev (fun n => undercroftref07_Text.l0 n x (j : Int) sz l) (textL (l.drop j) x) := by
  intro d
  induction d with
  | zero =>
    intro j x hd hj
    refine Ev.step (f := fun _ => some (textL (l.drop j) x)) (fun k => ?_) (Ev.now _)
    simp only [undercroftref07_Text.l0]
    rw [if_neg (by omega), List.drop_eq_nil_of_le (by omega)]
    rfl
  | succ d ih =>
    intro j x hd hj
    have hlt : j < l.length := by omega
    have h1 := ih (j + 1) (textK l[j] l[j].f1.length 0 x) (by omega) (by omega)
    have h2 := text_inner (sz := sz) hl hlt (hb _ (List.getElem_mem hlt)) l[j].f1.length 0 x (by omega) h1
    rw [List.drop_eq_getElem_cons hlt]
    refine Ev.step (f := fun n => undercroftref07_Text.l1 n x (j : Int) 0 sz l) (fun n => ?_) h2
    simp only [undercroftref07_Text.l0]
    rw [if_pos (by omega)]
theorem text_ev {sz : Int} {l : List S57} (h0 : 0 ≤ sz) (h1 : sz ≤ 2432) (hl : l.length ≤ 4398046510976) (hb : ∀ b ∈ l, b.f1.length ≤ 140737488351232) : Ev (fun k => undercroftref07_Text.f k sz l) (textL l (List.replicate sz.toNat 0)) := by
  refine Ev.congr (f := fun k => undercroftref07_Text.l0 k (List.replicate sz.toNat 0) 0 sz l) (fun k => ?_) (text_loop hl hb l.length 0 _ (by omega) (Nat.zero_le _))
  unfold undercroftref07_Text.f
  rw [if_pos h0, if_pos (by omega)]
theorem textK_len (b : S57) : ∀ (d k : Nat) (x : List Int), (textK b d k x).length = x.length
  | 0, _, _ => rfl
  | d + 1, k, x => by
    show (textK b d (k + 1) (textS b x k)).length = _
    rw [textK_len b d, textS_len]
theorem textL_len : ∀ (l : List S57) (x : List Int), (textL l x).length = x.length
  | [], _ => rfl
  | b :: r, x => by
    show (textL r _).length = _
    rw [textL_len r, textK_len]
theorem textS_oct {b : S57} {x : List Int} {k : Nat} (hb : Oct b.f1) (hx : Oct x) : Oct (textS b x k) := by
  unfold textS
  split
  · split
    · intro y hy
      rcases List.mem_or_eq_of_mem_set hy with h | h
      · exact hx y h
      · rw [h, List.getD_eq_getElem?_getD]
        cases hk : b.f1[k]? with
        | none => exact ⟨by simp, by simp⟩
        | some z => exact hb z (List.mem_of_getElem? hk)
    · exact hx
  · exact hx
theorem textK_oct {b : S57} (hb : Oct b.f1) : ∀ (d k : Nat) (x : List Int), Oct x → Oct (textK b d k x)
  | 0, _, _, h => h
  | d + 1, k, x, h => textK_oct hb d (k + 1) _ (textS_oct hb h)
theorem textL_oct : ∀ (l : List S57) (x : List Int), (∀ b ∈ l, Oct b.f1) → Oct x → Oct (textL l x)
  | [], _, _, h => h
  | b :: r, x, hb, h => textL_oct r _ (fun c hc => hb c (List.mem_cons_of_mem _ hc)) (textK_oct (hb b List.mem_cons_self) _ _ _ h)
/-- A block in its place: the octets of its place are its. -/
theorem textK_get {b : S57} {i : Nat} (hi : b.f0 = (i : Int)) (hi76 : i < 76) : ∀ (d k : Nat) (x : List Int), k + d ≤ 32 → ∀ p, p < x.length → (textK b d k x).getD p 0 = if 32 * i + k ≤ p ∧ p < 32 * i + k + d then b.f1.getD (p - 32 * i) 0 else x.getD p 0
  | 0, k, x, _, p, _ => by
    show x.getD p 0 = _
    rw [if_neg (by omega)]
  | d + 1, k, x, hk, p, hp => by
    show (textK b d (k + 1) (textS b x k)).getD p 0 = _
    rw [textK_get hi hi76 d (k + 1) _ (by omega) p (by rw [textS_len]; exact hp)]
    have hs : (textS b x k).getD p 0 = if p = 32 * i + k then b.f1.getD k 0 else x.getD p 0 := by
      unfold textS
      have e1 : wrap64 (wrap64 (32 * b.f0) + (k : Int)) = ((32 * i + k : Nat) : Int) := by rw [hi]; unfold wrap64; omega
      rw [e1, if_pos (by omega)]
      by_cases c : ((32 * i + k : Nat) : Int) < (x.length : Int)
      · rw [if_pos c, Int.toNat_natCast, List.getD_eq_getElem?_getD, List.getElem?_set]
        by_cases c2 : 32 * i + k = p
        · rw [if_pos c2, if_pos (by omega), if_pos c2.symm]
          rfl
        · rw [if_neg c2, if_neg (fun h => c2 h.symm), List.getD_eq_getElem?_getD]
      · rw [if_neg c, if_neg (by omega)]
    rw [hs]
    by_cases c1 : 32 * i + (k + 1) ≤ p ∧ p < 32 * i + (k + 1) + d
    · rw [if_pos c1, if_pos (by omega)]
    · rw [if_neg c1]
      by_cases c2 : p = 32 * i + k
      · rw [if_pos c2, if_pos (by omega)]
        congr 1
        omega
      · rw [if_neg c2, if_neg (by omega)]
theorem textL_get : ∀ (l : List S57) (m : VM) (x : List Int), (∀ b ∈ l, 0 ≤ b.f0 ∧ b.f0 < 76 ∧ b.f1.length = 32) → (∀ p, p < x.length → x.getD p 0 = octs m p) → ∀ p, p < x.length → (textL l x).getD p 0 = octs ((l.map t39).foldl (fun m b => putM m b.f0.toNat b.f1) m) p
  | [], _, _, _, h => h
  | b :: r, m, x, hb, h => by
    obtain ⟨h1, h2, h3⟩ := hb b List.mem_cons_self
    obtain ⟨i, hi⟩ : ∃ i : Nat, b.f0 = (i : Int) := ⟨b.f0.toNat, by omega⟩
    have ih := textL_get r (putM m b.f0.toNat b.f1) (textK b b.f1.length 0 x) (fun c hc => hb c (List.mem_cons_of_mem _ hc)) (fun p hp => by
      rw [textK_len] at hp
      rw [textK_get hi (by omega) _ 0 x (by omega) p hp, octs_putM, hi, Int.toNat_natCast, h3]
      by_cases c : p / 32 = i
      · rw [if_pos (by omega), if_pos c, show p - 32 * i = p % 32 by omega]
      · rw [if_neg (by omega), if_neg c]
        exact h p hp)
    rw [textK_len] at ih
    exact ih

/-! the document's file of a text -/
def oT (t : List Int) (p : Nat) : Int := t.getD p 0
def partO (t : List Int) (i k : Nat) : List Int := (List.range 32).map fun j => if j < k then oT t (32 * i + j) else 0
theorem partO_len (t : List Int) (i k : Nat) : (partO t i k).length = 32 := by simp [partO]
theorem partO_get (t : List Int) (i k j : Nat) (h : j < 32) : (partO t i k)[j]? = some (if j < k then oT t (32 * i + j) else 0) := by simp [partO, h]
theorem partO_zero (t : List Int) (i : Nat) : partO t i 0 = List.replicate 32 0 := by
  apply List.ext_getElem?
  intro j
  by_cases h : j < 32
  · rw [partO_get _ _ _ _ h, if_neg (by omega), List.getElem?_replicate, if_pos h]
  · rw [List.getElem?_eq_none (by rw [partO_len]; omega), List.getElem?_eq_none (by simp; omega)]
theorem partO_step (t : List Int) (i k : Nat) (h : k < 32) : (partO t i k).set k (oT t (32 * i + k)) = partO t i (k + 1) := by
  apply List.ext_getElem?
  intro j
  rw [List.getElem?_set]
  by_cases hj : j < 32
  · rw [partO_get _ _ _ _ hj, partO_get _ _ _ _ hj]
    by_cases c : k = j
    · subst c
      rw [if_pos rfl, if_pos (by rw [partO_len]; exact h), if_pos (by omega)]
    · rw [if_neg c]
      by_cases c2 : j < k
      · rw [if_pos c2, if_pos (by omega)]
      · rw [if_neg c2, if_neg (by omega)]
  · rw [List.getElem?_eq_none (by rw [partO_len]; omega), if_neg (by omega), List.getElem?_eq_none (by rw [partO_len]; omega)]
theorem partO_full (t : List Int) (i k : Nat) (h : 32 ≤ k ∨ t.length ≤ 32 * i + k) : partO t i k = blkO (oT t) i := by
  apply List.ext_getElem?
  intro j
  by_cases hj : j < 32
  · rw [partO_get _ _ _ _ hj, blkO_get _ _ _ hj]
    by_cases c : j < k
    · rw [if_pos c]
    · rw [if_neg c]
      unfold oT
      rw [List.getD_eq_getElem?_getD, List.getElem?_eq_none (by omega)]
      rfl
  · rw [List.getElem?_eq_none (by rw [partO_len]; omega), List.getElem?_eq_none (by rw [blkO_len]; omega)]
theorem partO_some (t : List Int) (i k : Nat) (hk : k < 32) : (!zeroI (partO t i (k + 1))) = ((!zeroI (partO t i k)) || (oT t (32 * i + k) != 0)) := by
  have key : zeroI (partO t i (k + 1)) = (zeroI (partO t i k) && (oT t (32 * i + k) == 0)) := by
    rw [Bool.eq_iff_iff, Bool.and_eq_true, zeroI_iff, zeroI_iff, beq_iff_eq]
    have hg : ∀ n j, (partO t i n).getD j 0 = if j < 32 ∧ j < n then oT t (32 * i + j) else 0 := fun n j => by
      rw [List.getD_eq_getElem?_getD]
      by_cases hj : j < 32
      · rw [partO_get _ _ _ _ hj]
        by_cases c : j < n
        · rw [if_pos c, if_pos ⟨hj, c⟩]; rfl
        · rw [if_neg c, if_neg (fun h => c h.2)]; rfl
      · rw [List.getElem?_eq_none (by rw [partO_len]; omega), if_neg (fun h => hj h.1)]; rfl
    constructor
    · intro h
      refine ⟨fun j => ?_, ?_⟩
      · have := h j
        rw [hg] at this ⊢
        by_cases c : j < 32 ∧ j < k
        · rw [if_pos c]; rw [if_pos ⟨c.1, by omega⟩] at this; exact this
        · rw [if_neg c]
      · have := h k
        rw [hg, if_pos ⟨hk, by omega⟩] at this
        exact this
    · rintro ⟨h1, h2⟩ j
      rw [hg]
      by_cases c : j < 32 ∧ j < k + 1
      · rw [if_pos c]
        by_cases c2 : j = k
        · rw [c2]; exact h2
        · have := h1 j
          rw [hg, if_pos ⟨c.1, by omega⟩] at this
          exact this
      · rw [if_neg c]
  rw [key, Bool.not_and]
  rfl
/-- The file's blocks of the first i places. -/
def madeTo (t : List Int) (i : Nat) : List S57 := ((List.range i).filter fun j => !zeroI (blkO (oT t) j)).map fun (j : Nat) => (⟨(j : Int), blkO (oT t) j⟩ : S57)
theorem madeTo_step (t : List Int) (i : Nat) : madeTo t (i + 1) = madeTo t i ++ (if !zeroI (blkO (oT t) i) then [(⟨(i : Int), blkO (oT t) i⟩ : S57)] else []) := by
  unfold madeTo
  rw [List.range_succ, List.filter_append, List.map_append]
  congr 1
  by_cases h : (!zeroI (blkO (oT t) i)) = true
  · rw [if_pos h]
    simp [h]
  · rw [if_neg h]
    simp [h]
theorem madeTo_len (t : List Int) (i : Nat) : (madeTo t i).length ≤ i := by
  unfold madeTo
  rw [List.length_map]
  exact Nat.le_trans (List.length_filter_le _ _) (by simp)
theorem madeTo_all (t : List Int) : madeTo t 76 = (fileOf (oT t)).map t57 := by
  unfold madeTo fileOf
  rw [List.map_map]
  rfl
theorem madeTo_more (t : List Int) (i : Nat) (hi : t.length ≤ 32 * i) : ∀ d, madeTo t (i + d) = madeTo t i
  | 0 => rfl
  | d + 1 => by
    rw [show i + (d + 1) = (i + d) + 1 by omega, madeTo_step, madeTo_more t i hi d]
    have hz : zeroI (blkO (oT t) (i + d)) = true := zeroI_iff.2 (fun k => by
      by_cases hk : k < 32
      · rw [blkO_getD _ _ _ hk]
        unfold oT
        rw [List.getD_eq_getElem?_getD, List.getElem?_eq_none (by omega)]
        rfl
      · rw [List.getD_eq_getElem?_getD, List.getElem?_eq_none (by rw [blkO_len]; omega)]
        rfl)
    rw [hz]
    simp
theorem made_inner {t : List Int} (ht : t.length ≤ 2432) {i : Nat} (hi : i ≤ 76) {r : Int × List S57} (he : Ev (fun n => undercroftref07_Made.l0 n t ((32 * (i + 1) : Nat) : Int) (t.length : Int) (madeTo t (i + 1))) r) : ∀ (d k : Nat), k + d = 32 → 32 * i + k ≤ t.length + 32 →
    Ev (fun n => undercroftref07_Made.l1 n t ((32 * i : Nat) : Int) (partO t i k) (!zeroI (partO t i k)) (k : Int) (t.length : Int) (madeTo t i)) r := by
  have fin : ∀ k, (32 ≤ k ∨ t.length ≤ 32 * i + k) → ∀ n, (if (!zeroI (partO t i k)) = true then (if (madeTo t i).length < 4398046511104 then (undercroftref07_Made.l0 n t (wrap64 (((32 * i : Nat) : Int) + 32)) (t.length : Int) (madeTo t i ++ [(⟨wrap64 (Int.tdiv ((32 * i : Nat) : Int) 32), partO t i k⟩ : S57)])) else (none)) else (undercroftref07_Made.l0 n t (wrap64 (((32 * i : Nat) : Int) + 32)) (t.length : Int) (madeTo t i))) = undercroftref07_Made.l0 n t ((32 * (i + 1) : Nat) : Int) (t.length : Int) (madeTo t (i + 1)) := by
    intro k hk n
    rw [partO_full t i k hk, madeTo_step]
    have e1 : wrap64 (((32 * i : Nat) : Int) + 32) = ((32 * (i + 1) : Nat) : Int) := by unfold wrap64; omega
    have e2 : wrap64 (Int.tdiv ((32 * i : Nat) : Int) 32) = (i : Int) := by
      rw [Int.tdiv_eq_ediv_of_nonneg (by omega)]
      unfold wrap64
      omega
    rw [e1, e2]
    by_cases c : (!zeroI (blkO (oT t) i)) = true
    · rw [if_pos c, if_pos (by have := madeTo_len t i; omega), if_pos c]
    · rw [if_neg c, if_neg c, List.append_nil]
  intro d
  induction d with
  | zero =>
    intro k hk _
    refine Ev.step (f := fun n => undercroftref07_Made.l0 n t ((32 * (i + 1) : Nat) : Int) (t.length : Int) (madeTo t (i + 1))) (fun n => ?_) he
    simp only [undercroftref07_Made.l1]
    rw [if_neg (by omega)]
    exact fin k (.inl (by omega)) n
  | succ d ih =>
    intro k hk hkt
    have e1 : wrap64 (((32 * i : Nat) : Int) + (k : Int)) = ((32 * i + k : Nat) : Int) := by unfold wrap64; omega
    by_cases c : 32 * i + k < t.length
    · refine Ev.step (f := fun n => undercroftref07_Made.l1 n t ((32 * i : Nat) : Int) (partO t i (k + 1)) (!zeroI (partO t i (k + 1))) ((k + 1 : Nat) : Int) (t.length : Int) (madeTo t i)) (fun n => ?_) (ih (k + 1) (by omega) (by omega))
      simp only [undercroftref07_Made.l1]
      rw [if_pos (by omega), e1, if_pos (by omega), if_pos (by omega), if_pos (by omega), if_pos (by rw [partO_len]; omega)]
      have e2 : rd t ((32 * i + k : Nat) : Int) = oT t (32 * i + k) := by unfold rd oT; rw [Int.toNat_natCast]
      have e3 : wrap64 ((k : Int) + 1) = ((k + 1 : Nat) : Int) := by unfold wrap64; omega
      have e4 : rd (partO t i (k + 1)) (k : Int) = oT t (32 * i + k) := by
        unfold rd
        rw [Int.toNat_natCast, List.getD_eq_getElem?_getD, partO_get _ _ _ _ (by omega), if_pos (by omega)]
        rfl
      rw [e2, e3]
      show (if (!zeroI (partO t i k)) = true then undercroftref07_Made.l1 n t _ ((partO t i k).set (k : Int).toNat (oT t (32 * i + k))) true _ _ _ else undercroftref07_Made.l1 n t _ ((partO t i k).set (k : Int).toNat (oT t (32 * i + k))) (rd ((partO t i k).set (k : Int).toNat (oT t (32 * i + k))) (k : Int) != 0) _ _ _) = _
      rw [Int.toNat_natCast, partO_step t i k (by omega), e4, partO_some t i k (by omega)]
      by_cases c2 : (!zeroI (partO t i k)) = true
      · rw [if_pos c2, c2, Bool.true_or]
      · rw [if_neg c2]
        have c3 : (!zeroI (partO t i k)) = false := by simpa using c2
        rw [c3, Bool.false_or]
    · refine Ev.step (f := fun n => undercroftref07_Made.l0 n t ((32 * (i + 1) : Nat) : Int) (t.length : Int) (madeTo t (i + 1))) (fun n => ?_) he
      simp only [undercroftref07_Made.l1]
      rw [if_pos (by omega), e1, if_neg (by omega)]
      exact fin k (.inr (by omega)) n
theorem made_loop {t : List Int} (ht : t.length ≤ 2432) : ∀ (d i : Nat), 76 - i = d → i ≤ 76 → Ev (fun n => undercroftref07_Made.l0 n t ((32 * i : Nat) : Int) (t.length : Int) (madeTo t i)) ((t.length : Int), (fileOf (oT t)).map t57) := by
  intro d
  induction d with
  | zero =>
    intro i hd hi
    have : i = 76 := by omega
    subst this
    refine Ev.step (f := fun _ => some ((t.length : Int), (fileOf (oT t)).map t57)) (fun n => ?_) (Ev.now _)
    simp only [undercroftref07_Made.l0]
    rw [if_neg (by omega), madeTo_all]
  | succ d ih =>
    intro i hd hi
    by_cases c : 32 * i < t.length
    · have h1 := made_inner ht hi (ih (i + 1) (by omega) (by omega)) 32 0 (by omega) (by omega)
      rw [partO_zero] at h1
      refine Ev.step (f := fun n => undercroftref07_Made.l1 n t ((32 * i : Nat) : Int) (List.replicate 32 0) false 0 (t.length : Int) (madeTo t i)) (fun n => ?_) h1
      simp only [undercroftref07_Made.l0]
      rw [if_pos (by omega), if_pos (by omega)]
    · refine Ev.step (f := fun _ => some ((t.length : Int), (fileOf (oT t)).map t57)) (fun n => ?_) (Ev.now _)
      simp only [undercroftref07_Made.l0]
      rw [if_neg (by omega), ← madeTo_all, ← madeTo_more t i (by omega) (76 - i), show i + (76 - i) = 76 by omega]
theorem made_ev {t : List Int} (ht : t.length ≤ 2432) : Ev (fun n => undercroftref07_Made.f n t) ((t.length : Int), (fileOf (oT t)).map t57) :=
  Ev.congr (fun _ => rfl) (made_loop ht 76 0 (by omega) (by omega))

theorem oct_zeros (n : Nat) : Oct (List.replicate n (0 : Int)) := fun x hx => by rw [(List.mem_replicate.1 hx).2]; exact ⟨by simp, by simp⟩
theorem oct_blk {t : List Int} (ht : Oct t) (i : Nat) : Oct (blkO (oT t) i) := by
  intro x hx
  unfold blkO at hx
  obtain ⟨k, _, rfl⟩ := List.mem_map.1 hx
  unfold oT
  rw [List.getD_eq_getElem?_getD]
  cases h : t[32 * i + k]? with
  | none => exact ⟨by simp, by simp⟩
  | some z => exact ht z (List.mem_of_getElem? h)
theorem oct_fileOf {t : List Int} (ht : Oct t) : ∀ x ∈ (fileOf (oT t)).map t57, Oct x.f1 := by
  intro x hx
  obtain ⟨y, hy, rfl⟩ := List.mem_map.1 hx
  unfold fileOf at hy
  obtain ⟨i, _, rfl⟩ := List.mem_map.1 hy
  exact oct_blk ht i
theorem oT_map (n : Nat) (o : Nat → Int) (ho : ∀ p, n ≤ p → o p = 0) (p : Nat) : oT ((List.range n).map o) p = o p := by
  unfold oT
  rw [List.getD_eq_getElem?_getD, List.getElem?_map]
  by_cases h : p < n
  · rw [List.getElem?_range h]; rfl
  · rw [List.getElem?_eq_none (by simpa using h), ho p (by omega)]; rfl

/-! #### same, check -/
theorem str_inj {a b : List Int} (ha : Oct a) (hb : Oct b) (e : (strOfNums a).toList = (strOfNums b).toList) : a = b := by
  rw [Lib.strOfNums_toList, Lib.strOfNums_toList] at e
  unfold Lib.bytesOf at e
  apply List.ext_getElem
  · have := congrArg List.length e
    simpa using this
  · intro i h1 h2
    have := congrArg (fun l => l[i]?) e
    simp only [List.getElem?_map, List.getElem?_eq_getElem h1, List.getElem?_eq_getElem h2, Option.map_some, Option.some.injEq] at this
    have p := ha _ (List.getElem_mem h1)
    have q := hb _ (List.getElem_mem h2)
    have e2 := congrArg UInt8.toNat this
    simp only [UInt8.toNat_ofNat'] at e2
    omega
theorem same_loop {a b : Int} {l m : List S57} (hlm : l.length = m.length) (hl : l.length ≤ 4398046510976) (hol : ∀ x ∈ l, Oct x.f1) (hom : ∀ x ∈ m, Oct x.f1) : ∀ (d j : Nat), l.length - j = d → j ≤ l.length → l.take j = m.take j →
    ∃ r, Ev (fun n => undercroftref07_Same.l0 n (j : Int) a l b m) r ∧ (r = true ↔ l = m) := by
  intro d
  induction d with
  | zero =>
    intro j hd hj ht
    refine ⟨true, Ev.step (f := fun _ => some true) (fun n => ?_) (Ev.now _), ?_⟩
    · simp only [undercroftref07_Same.l0]
      rw [if_neg (by omega)]
    · rw [List.take_of_length_le (by omega), List.take_of_length_le (by omega)] at ht
      exact ⟨fun _ => ht, fun _ => rfl⟩
  | succ d ih =>
    intro j hd hj ht
    have h1 : j < l.length := by omega
    have h2 : j < m.length := by omega
    by_cases c : l[j].f0 = m[j].f0 ∧ l[j].f1 = m[j].f1
    · have he : l[j] = m[j] := by
        obtain ⟨c1, c2⟩ := c
        cases hx : l[j]
        cases hy : m[j]
        rw [hx, hy] at c1 c2
        simp only at c1 c2
        rw [c1, c2]
      obtain ⟨r, hr, hi⟩ := ih (j + 1) (by omega) (by omega) (by rw [take_snoc l j h1, take_snoc m j h2, ht, he])
      refine ⟨r, Ev.step (f := fun n => undercroftref07_Same.l0 n ((j + 1 : Nat) : Int) a l b m) (fun n => ?_) hr, hi⟩
      simp only [undercroftref07_Same.l0]
      rw [if_pos (by omega), if_pos (by omega), if_pos (by omega), rd57 l j h1, rd57 m j h2, if_pos c.1, c.2, if_pos rfl, w_id (by omega) (by omega)]
      rfl
    · refine ⟨false, Ev.step (f := fun _ => some false) (fun n => ?_) (Ev.now _), ⟨fun h => (by cases h), fun h => ?_⟩⟩
      · simp only [undercroftref07_Same.l0]
        rw [if_pos (by omega), if_pos (by omega), if_pos (by omega), rd57 l j h1, rd57 m j h2]
        by_cases c1 : l[j].f0 = m[j].f0
        · rw [if_pos c1, if_neg (fun e => c ⟨c1, str_inj (hol _ (List.getElem_mem h1)) (hom _ (List.getElem_mem h2)) e⟩)]
        · rw [if_neg c1]
      · subst h
        exact absurd ⟨rfl, rfl⟩ c
theorem same_ev {a b : Int} {l m : List S57} (hl : l.length ≤ 4398046510976) (hol : ∀ x ∈ l, Oct x.f1) (hom : ∀ x ∈ m, Oct x.f1) : ∃ r, Ev (fun n => undercroftref07_Same.f n a l b m) r ∧ (r = true ↔ a = b ∧ l = m) := by
  have no : ∀ (P : Prop), ¬ P → ∃ r, Ev (fun n => undercroftref07_Same.j0 n true a l b m) r ∧ (r = true ↔ P) := fun P hP => by
    refine ⟨false, Ev.step (f := fun _ => some false) (fun n => ?_) (Ev.now _), ⟨fun h => (by cases h), fun h => absurd h hP⟩⟩
    simp only [undercroftref07_Same.j0]
    rfl
  by_cases c : a = b
  · by_cases c2 : l.length = m.length
    · obtain ⟨r, hr, hi⟩ := same_loop (a := a) (b := b) c2 hl hol hom l.length 0 (by omega) (Nat.zero_le _) rfl
      refine ⟨r, Ev.congr (f := fun n => undercroftref07_Same.j0 n false a l b m) (fun n => ?_) (Ev.step (f := fun n => undercroftref07_Same.l0 n 0 a l b m) (fun n => ?_) hr), ⟨fun h => ⟨c, hi.1 h⟩, fun h => hi.2 h.2⟩⟩
      · unfold undercroftref07_Same.f
        rw [if_pos c, show ((l.length : Int) != (m.length : Int)) = false by rw [c2]; simp]
      · simp only [undercroftref07_Same.j0]
        rw [if_neg (by decide)]
    · obtain ⟨r, hr, hi⟩ := no (a = b ∧ l = m) (fun h => c2 (by rw [h.2]))
      refine ⟨r, Ev.congr (f := fun n => undercroftref07_Same.j0 n true a l b m) (fun n => ?_) hr, hi⟩
      unfold undercroftref07_Same.f
      rw [if_pos c, show ((l.length : Int) != (m.length : Int)) = true by simp; omega]
  · obtain ⟨r, hr, hi⟩ := no (a = b ∧ l = m) (fun h => c h.1)
    refine ⟨r, Ev.congr (f := fun n => undercroftref07_Same.j0 n true a l b m) (fun n => ?_) hr, hi⟩
    unfold undercroftref07_Same.f
    rw [if_neg c]
/-- What is known of a file that came in. -/
structure In57 (l : List S57) : Prop where
  len : l.length ≤ 4398046510976
  data : ∀ b ∈ l, b.f1.length ≤ 140737488351232
  oct : ∀ b ∈ l, Oct b.f1
/-- A text of a file that may be. -/
theorem text_is {sz : Int} {l : List S57} (h : checkI sz (l.map t39) = 0) : textL l (List.replicate sz.toNat 0) = (List.range sz.toNat).map (octs (lookI (l.map t39))) := by
  obtain ⟨_, _, hok⟩ := check_good h
  have hb : ∀ b ∈ l, 0 ≤ b.f0 ∧ b.f0 < 76 ∧ b.f1.length = 32 := fun b hb => hok (t39 b) (List.mem_map.2 ⟨b, hb, rfl⟩)
  have hg := textL_get l (fun _ => none) (List.replicate sz.toNat 0) hb (fun p hp => by
    rw [octs_none, List.getD_eq_getElem?_getD, List.getElem?_replicate]
    split <;> rfl)
  apply List.ext_getElem?
  intro p
  by_cases hp : p < sz.toNat
  · have h1 := hg p (by simpa using hp)
    have hl : p < (textL l (List.replicate sz.toNat 0)).length := by rw [textL_len]; simpa using hp
    rw [List.getD_eq_getElem?_getD, List.getElem?_eq_getElem hl] at h1
    rw [List.getElem?_eq_getElem hl, List.getElem?_map, List.getElem?_range hp]
    exact congrArg some h1
  · rw [List.getElem?_eq_none (by rw [textL_len]; simpa using hp), List.getElem?_eq_none (by simpa using hp)]
/-- The document's check and the program's refuse the same. -/
theorem check57 {sz : Int} {l : List S57} (hin : In57 l) : ∃ c, Ev (fun k => undercroftref07_Check.f k sz l) c ∧ c = checkI sz (l.map t39) := by
  by_cases h0 : sz < 0
  · refine ⟨9, Ev.congr (f := fun _ => some 9) (fun k => ?_) (Ev.now _), ?_⟩
    · unfold undercroftref07_Check.f
      rw [if_pos h0]
    · unfold checkI
      rw [if_pos h0]
  · by_cases h1 : 2432 < sz
    · refine ⟨9, Ev.congr (f := fun _ => some 9) (fun k => ?_) (Ev.now _), ?_⟩
      · unfold undercroftref07_Check.f
        rw [if_neg h0, if_pos h1]
      · unfold checkI
        rw [if_neg h0, if_pos h1]
    · obtain ⟨T, hT⟩ : ∃ T, T = textL l (List.replicate sz.toNat 0) := ⟨_, rfl⟩
      have hTl : (T.length : Int) = sz := by rw [hT, textL_len, List.length_replicate]; omega
      have hTo : Oct T := by rw [hT]; exact textL_oct l _ hin.oct (oct_zeros _)
      have e1 := text_ev (l := l) (by omega) (by omega : sz ≤ 2432) hin.len hin.data
      rw [← hT] at e1
      have e2 := made_ev (t := T) (by omega)
      obtain ⟨r, e3, hr⟩ := same_ev (a := sz) (b := (T.length : Int)) hin.len hin.oct (oct_fileOf hTo)
      refine ⟨if r = true then 0 else 9, ?_, ?_⟩
      · refine Ev.congr (f := fun k => (undercroftref07_Text.f k sz l).bind fun t169 => ((undercroftref07_Made.f k t169).bind fun bt172 => ((undercroftref07_Same.f k sz l bt172.1 bt172.2).bind fun t176 => (if t176 = true then (some 0) else (some 9))))) (fun k => ?_) ?_
        · unfold undercroftref07_Check.f
          rw [if_neg h0, if_neg (by omega)]
        · refine Ev.bind e1 (Ev.bind e2 (Ev.bind e3 ?_))
          refine Ev.congr (f := fun _ => some (if r = true then 0 else 9)) (fun k => ?_) (Ev.now _)
          split <;> rfl
      · cases hr1 : r with
        | true =>
          rw [if_pos rfl]
          obtain ⟨_, hl⟩ := hr.1 hr1
          have : l.map t39 = fileOf (oT T) := by rw [hl, map_fore]
          rw [this]
          refine (fileOf_check (by omega) (by omega) (fun p hp => ?_)).symm
          unfold oT
          rw [List.getD_eq_getElem?_getD, List.getElem?_eq_none (by omega)]
          rfl
        | false =>
          rw [if_neg (by decide)]
          rcases checkI_two sz (l.map t39) with hz | hz
          · exfalso
            have : r = true := hr.2 ⟨hTl.symm, by
              obtain ⟨b1, b2⟩ := look_back hz
              obtain ⟨_, _, hok⟩ := check_good hz
              have hwf := wfM_look (l := l.map t39) (fun b hb => (hok b hb).2.2)
              rw [fileI_octs hwf] at b1
              have e4 : fileOf (oT T) = l.map t39 := by
                rw [← b1]
                refine fileOf_congr (fun p _ => ?_)
                rw [hT, text_is hz]
                exact oT_map _ _ (fun p hp => b2 p (by omega)) p
              rw [e4, map_back]⟩
            rw [this] at hr1
            cases hr1
          · exact hz.symm

/-! #### the program's answers, in octets -/
structure IsF (sz : Int) (l : List S39) (o : Nat → Int) : Prop where
  low : 0 ≤ sz
  high : sz ≤ 2432
  is : l = fileOf o
  tail : ∀ p : Nat, sz ≤ (p : Int) → o p = 0
theorem IsF.check {sz : Int} {l : List S39} {o : Nat → Int} (h : IsF sz l o) : checkI sz l = 0 := by rw [h.is]; exact fileOf_check h.low h.high h.tail
theorem IsF.octs {sz : Int} {l : List S39} {o : Nat → Int} (h : IsF sz l o) (p : Nat) : Pure.octs (lookI l) p = o p := by rw [h.is]; exact look_fileOf h.low h.high h.tail p
theorem IsF.wf {sz : Int} {l : List S39} {o : Nat → Int} (h : IsF sz l o) : WfM (lookI l) := by
  obtain ⟨_, _, hok⟩ := check_good h.check
  exact wfM_look (fun b hb => (hok b hb).2.2)
theorem IsF.ok {sz : Int} {l : List S39} {o : Nat → Int} (h : IsF sz l o) : ∀ b ∈ l, b.f1.length = 32 ∧ 0 ≤ b.f0 := by
  obtain ⟨_, _, hok⟩ := check_good h.check
  exact fun b hb => ⟨(hok b hb).2.2, (hok b hb).1⟩
theorem isF_of {sz : Int} {l : List S39} (h : checkI sz l = 0) : IsF sz l (octs (lookI l)) := by
  obtain ⟨⟨h1, h2⟩, _, hok⟩ := check_good h
  obtain ⟨b1, b2⟩ := look_back h
  exact ⟨h1, h2, by rw [← fileI_octs (wfM_look (fun b hb => (hok b hb).2.2)), b1], b2⟩
theorem isF_none : IsF 0 [] (fun _ => 0) := ⟨by decide, by decide, by kernel_rfl, fun _ _ => rfl⟩
theorem putO_tail {sz : Int} {o : Nat → Int} {off : Nat} {d : List Int} (ho : ∀ p : Nat, sz ≤ (p : Int) → o p = 0) : ∀ p : Nat, max sz ((off + d.length : Nat) : Int) ≤ (p : Int) → putO o off d p = 0 := fun p hp => by
  unfold putO
  rw [if_neg (by omega)]
  exact ho p (by omega)
theorem IsF.write {sz : Int} {l : List S39} {o : Nat → Int} (h : IsF sz l o) {off : Nat} {d : List Int} (hd : 0 < d.length) (hr : off + d.length ≤ 2432) : ∃ l', writeR sz l (off : Int) d = (max sz ((off + d.length : Nat) : Int), l', 0) ∧ IsF (max sz ((off + d.length : Nat) : Int)) l' (putO o off d) := by
  refine ⟨fileI (writeI (lookI l) off d), ?_, ?_⟩
  · unfold writeR
    rw [if_pos h.check, if_neg (by omega), if_neg (by omega), if_neg (by rintro (h_ | h_) <;> omega), Int.toNat_natCast]
  · have h1 := h.low
    have h2 := h.high
    obtain ⟨e1, e2⟩ := write_octs d.length (lookI l) off d h.wf (Nat.le_refl _)
    refine ⟨by omega, by omega, ?_, putO_tail h.tail⟩
    show fileI (writeK d.length (lookI l) off d) = _
    rw [fileI_octs e2, e1]
    refine fileOf_congr (fun p _ => ?_)
    unfold putO
    split
    · rfl
    · exact h.octs p
theorem IsF.write_none {sz : Int} {l : List S39} {o : Nat → Int} (h : IsF sz l o) {off : Int} (ho : 0 ≤ off) : writeR sz l off [] = (sz, l, 0) := by
  unfold writeR
  rw [if_pos h.check, if_neg (by omega), if_pos (by rfl), (look_back h.check).1]
theorem IsF.read {sz : Int} {l : List S39} {o : Nat → Int} (h : IsF sz l o) {off n : Int} (h0 : 0 ≤ off) (h1 : 0 ≤ n) (h2 : off < sz) : readR sz l off n = ((List.range (min n (sz - off)).toNat).map (fun k => o (off.toNat + k)), 0) := by
  unfold readR
  rw [if_pos h.check, if_neg (by omega), if_neg (by omega), read_octs h.ok]
  congr 1
  exact List.map_congr_left (fun k _ => h.octs _)
theorem IsF.read_none {sz : Int} {l : List S39} {o : Nat → Int} (h : IsF sz l o) {off n : Int} (h0 : 0 ≤ off) (h1 : 0 ≤ n) (h2 : sz ≤ off) : readR sz l off n = ([], 0) := by
  unfold readR
  rw [if_pos h.check, if_neg (by omega), if_pos h2]

theorem sameBytes_ev (a : List Int) (hm : a.length ≤ 9223372036854775807) : Ev (fun k => undercroftplain_SameBytes.f k a a) true := ⟨a.length + 1, fun k hk => by
  show undercroftplain_SameBytes.f k a a = some true
  rw [sameBytes_is a a k (by omega) hm, decide_eq_true rfl]⟩
theorem alike_loop {a b : Int} {l : List S39} (hl : l.length ≤ 4398046510976) (hd : ∀ x ∈ l, x.f1.length ≤ 9223372036854775807) : ∀ (d j : Nat), l.length - j = d → j ≤ l.length → Ev (fun k => undercroftlaw07_Alike.l0 k (j : Int) a l b (l.map t57)) 0 := by
  intro d
  induction d with
  | zero =>
    intro j hd hj
    refine Ev.step (f := fun _ => some 0) (fun k => ?_) (Ev.now _)
    simp only [undercroftlaw07_Alike.l0]
    rw [if_neg (by omega)]
  | succ d ih =>
    intro j hd2 hj
    have h1 : j < l.length := by omega
    have h2 : j < (l.map t57).length := by rw [List.length_map]; exact h1
    have e1 : (l.map t57)[j] = t57 l[j] := List.getElem_map ..
    refine Ev.step (f := fun k => (undercroftplain_SameBytes.f k l[j].f1 l[j].f1).bind fun t133 => (if t133 = true then (undercroftlaw07_Alike.l0 k ((j + 1 : Nat) : Int) a l b (l.map t57)) else (some 1))) (fun k => ?_) ?_
    · simp only [undercroftlaw07_Alike.l0]
      rw [if_pos (by omega), if_pos (by omega), if_pos (by omega), rd39 l j h1, rd57 _ j h2, e1, if_pos (by rfl), w_id (by omega) (by omega)]
      rfl
    · refine Ev.bind (sameBytes_ev _ (hd _ (List.getElem_mem h1))) ?_
      refine Ev.congr (fun k => if_pos rfl) (ih (j + 1) (by omega) (by omega))
/-- A file is alike to itself, told by the document. -/
theorem alike_ev {a : Int} {l : List S39} (hl : l.length ≤ 4398046510976) (hd : ∀ x ∈ l, x.f1.length ≤ 9223372036854775807) : Ev (fun k => undercroftlaw07_Alike.f k a l a (l.map t57)) 0 := by
  refine Ev.congr (f := fun k => undercroftlaw07_Alike.j0 k false a l a (l.map t57)) (fun k => ?_) (Ev.step (f := fun k => undercroftlaw07_Alike.l0 k 0 a l a (l.map t57)) (fun k => ?_) (alike_loop hl hd l.length 0 (by omega) (Nat.zero_le _)))
  · unfold undercroftlaw07_Alike.f
    rw [if_pos rfl, List.length_map]
    simp
  · simp only [undercroftlaw07_Alike.j0]
    rw [if_neg (by decide)]
theorem fileOf_len (o : Nat → Int) : (fileOf o).length ≤ 76 := by
  unfold fileOf
  rw [List.length_map]
  exact Nat.le_trans (List.length_filter_le _ _) (by simp)
theorem fileOf_data (o : Nat → Int) : ∀ x ∈ fileOf o, x.f1.length ≤ 9223372036854775807 := by
  intro x hx
  unfold fileOf at hx
  obtain ⟨i, _, rfl⟩ := List.mem_map.1 hx
  show (blkO o i).length ≤ _
  rw [blkO_len]
  decide

theorem oT_set (x : List Int) (n : Nat) (v : Int) (p : Nat) (hn : n < x.length) : oT (x.set n v) p = if p = n then v else oT x p := by
  unfold oT
  rw [List.getD_eq_getElem?_getD, List.getD_eq_getElem?_getD, List.getElem?_set]
  by_cases c : n = p
  · rw [if_pos c, if_pos hn, if_pos c.symm]
    rfl
  · rw [if_neg c, if_neg (fun h => c h.symm)]
theorem oT_snoc (x : List Int) (p : Nat) : oT (x ++ [0]) p = oT x p := by
  unfold oT
  rw [List.getD_eq_getElem?_getD, List.getD_eq_getElem?_getD, List.getElem?_append]
  split
  · rfl
  · rename_i h
    rw [List.getElem?_eq_none (by omega : x.length ≤ p)]
    cases h2 : p - x.length with
    | zero => rfl
    | succ n => rfl
theorem putO_nil (o : Nat → Int) (off : Nat) (p : Nat) : putO o off [] p = o p := by
  unfold putO
  rw [if_neg (by simp only [List.length_nil]; omega)]
theorem putO_next (o : Nat → Int) (off : Nat) (d : List Int) (j : Nat) (h : j < d.length) (p : Nat) : putO o off (d.take (j + 1)) p = if p = off + j then d[j] else putO o off (d.take j) p := by
  unfold putO
  rw [List.length_take, List.length_take, Nat.min_eq_left (by omega), Nat.min_eq_left (by omega)]
  by_cases c : p = off + j
  · subst c
    rw [if_pos (by omega), if_pos rfl, Nat.add_sub_cancel_left, getD_take (by omega), List.getD_eq_getElem?_getD, List.getElem?_eq_getElem h]
    rfl
  · rw [if_neg c]
    by_cases c2 : off ≤ p ∧ p < off + j
    · rw [if_pos c2, if_pos (by omega), getD_take (by omega), getD_take (by omega)]
    · rw [if_neg c2, if_neg (by omega)]
theorem refput_loop {off : Nat} {d : List Int} {o : Nat → Int} (hr : off + d.length ≤ 2432) {M : Nat} (hM : off + d.length ≤ M) (hM2 : M ≤ 2432) : ∀ (n j : Nat) (x : List Int), d.length - j = n → j ≤ d.length → x.length = M → (∀ p, oT x p = putO o off (d.take j) p) →
    Ev (fun k => undercroftref07_Write.l1 k (off : Int) d x (j : Int)) ((M : Int), (fileOf (putO o off d)).map t57, 0) := by
  intro n
  induction n with
  | zero =>
    intro j x hn hj hx ho
    have he : j = d.length := by omega
    subst he
    refine Ev.step (f := fun k => (undercroftref07_Made.f k x).bind fun bt195 => (some (bt195.1, bt195.2, 0))) (fun k => ?_) ?_
    · simp only [undercroftref07_Write.l1]
      rw [if_neg (by omega)]
    · have h1 := made_ev (t := x) (by omega)
      rw [hx, fileOf_congr (o := oT x) (o' := putO o off d) (fun p _ => by rw [ho p, List.take_length])] at h1
      exact Ev.bind h1 (Ev.now _)
  | succ n ih =>
    intro j x hn hj hx ho
    have hlt : j < d.length := by omega
    refine Ev.step (f := fun k => undercroftref07_Write.l1 k (off : Int) d (x.set (off + j) d[j]) ((j + 1 : Nat) : Int)) (fun k => ?_) (ih (j + 1) (x.set (off + j) d[j]) (by omega) (by omega) (by rw [List.length_set]; exact hx) (fun p => by rw [oT_set _ _ _ _ (by omega), putO_next o off d j hlt, ho p]))
    · simp only [undercroftref07_Write.l1]
      have e1 : wrap64 ((off : Int) + (j : Int)) = ((off + j : Nat) : Int) := by rw [w_id (by omega) (by omega)]; omega
      have e2 : wrap64 ((j : Int) + 1) = ((j + 1 : Nat) : Int) := by rw [w_id (by omega) (by omega)]; omega
      rw [e1, e2, if_pos (by omega), if_pos (by omega), if_pos (by omega), if_pos (by omega), rd_nat d j hlt, Int.toNat_natCast]
theorem refpad_loop {off : Nat} {d : List Int} {o : Nat → Int} (hr : off + d.length ≤ 2432) : ∀ (n : Nat) (x : List Int), off + d.length - x.length = n → x.length ≤ 2432 → (∀ p, oT x p = o p) →
    Ev (fun k => undercroftref07_Write.l0 k (off : Int) d x) (((max x.length (off + d.length) : Nat) : Int), (fileOf (putO o off d)).map t57, 0) := by
  intro n
  induction n with
  | zero =>
    intro x hn hx ho
    refine Ev.step (f := fun k => undercroftref07_Write.l1 k (off : Int) d x ((0 : Nat) : Int)) (fun k => ?_) (refput_loop hr (by omega) (by omega) d.length 0 x rfl (Nat.zero_le _) (by omega) (fun p => by rw [List.take_zero, putO_nil, ho p]))
    simp only [undercroftref07_Write.l0]
    rw [w_id (by omega) (by omega), if_neg (by omega)]
    rfl
  | succ n ih =>
    intro x hn hx ho
    have h1 := ih (x ++ [0]) (by rw [List.length_append, List.length_singleton]; omega) (by rw [List.length_append, List.length_singleton]; omega) (fun p => by rw [oT_snoc, ho p])
    have e : max (x ++ [0]).length (off + d.length) = max x.length (off + d.length) := by rw [List.length_append, List.length_singleton]; omega
    rw [e] at h1
    refine Ev.step (fun k => ?_) h1
    simp only [undercroftref07_Write.l0]
    rw [w_id (by omega) (by omega), if_pos (by omega), if_pos (by omega)]
theorem text57 {sz : Int} {l : List S57} (hin : In57 l) {o : Nat → Int} (h : IsF sz (l.map t39) o) : ∃ t, Ev (fun k => undercroftref07_Text.f k sz l) t ∧ (t.length : Int) = sz ∧ (∀ p, oT t p = o p) := by
  refine ⟨_, text_ev h.low h.high hin.len hin.data, ?_, fun p => ?_⟩
  · rw [textL_len, List.length_replicate]
    have := h.low
    omega
  · rw [text_is h.check, oT_map _ _ (fun p hp => ?_), h.octs]
    rw [h.octs]
    exact h.tail p (by have := h.low; omega)
/-- The page's write is the code's. -/
theorem write57 {sz : Int} {l : List S57} (hin : In57 l) {off : Int} {d : List Int} (hoff : -9223372036854775808 ≤ off ∧ off ≤ 9223372036854775807) : Ev (fun k => undercroftref07_Write.f k sz l off d) ((writeR sz (l.map t39) off d).1, (writeR sz (l.map t39) off d).2.1.map t57, (writeR sz (l.map t39) off d).2.2) ∧ (writeR sz (l.map t39) off d).2.1.length ≤ 76 ∧ (∀ x ∈ (writeR sz (l.map t39) off d).2.1, x.f1.length ≤ 9223372036854775807) := by
  obtain ⟨c, hck, hc⟩ := check57 (sz := sz) hin
  unfold undercroftref07_Write.f
  rcases checkI_two sz (l.map t39) with hz | hz
  · rw [hc, hz] at hck
    have F := isF_of hz
    by_cases c1 : off < 0
    · have e1 : writeR sz (l.map t39) off d = (0, [], 4) := by unfold writeR; rw [if_pos hz, if_pos c1]
      rw [e1]
      refine ⟨Ev.bind hck ?_, by decide, fun x hx => by cases hx⟩
      refine Ev.congr (fun k => (if_pos rfl).trans (if_pos c1)) (Ev.now _)
    · obtain ⟨ofn, rfl⟩ : ∃ n : Nat, off = (n : Int) := ⟨off.toNat, by omega⟩
      obtain ⟨t, ht, htl, hto⟩ := text57 hin F
      have htl2 : t.length ≤ 2432 := by have := F.high; omega
      by_cases c2 : d.length = 0
      · have hd : d = [] := List.length_eq_zero_iff.1 c2
        subst hd
        rw [F.write_none (by omega)]
        refine ⟨Ev.bind hck ?_, by rw [F.is]; exact fileOf_len _, by rw [F.is]; exact fileOf_data _⟩
        refine Ev.congr (f := fun k => (undercroftref07_Text.f k sz l).bind fun t180 => ((undercroftref07_Made.f k t180).bind fun bt183 => (some (bt183.1, bt183.2, 0)))) (fun k => (if_pos rfl).trans ((if_neg c1).trans (if_pos rfl))) ?_
        refine Ev.bind ht ?_
        have h1 := made_ev (t := t) htl2
        rw [htl, fileOf_congr (o := oT t) (o' := octs (lookI (l.map t39))) (fun p _ => hto p), ← F.is] at h1
        exact Ev.bind h1 (Ev.now _)
      · have c2' : ¬ ((d.length : Int) = 0) := by omega
        by_cases c3 : (ofn : Int) > 2432 ∨ (d.length : Int) > 2432 - (ofn : Int)
        · have e1 : writeR sz (l.map t39) (ofn : Int) d = (0, [], 107) := by unfold writeR; rw [if_pos hz, if_neg c1, if_neg c2, if_pos c3]
          rw [e1]
          refine ⟨Ev.bind hck ?_, by decide, fun x hx => by cases hx⟩
          refine Ev.congr (fun k => (if_pos rfl).trans ((if_neg c1).trans (if_neg c2'))) ?_
          by_cases c4 : (ofn : Int) > 2432
          · exact Ev.congr (fun k => if_pos c4) (Ev.now _)
          · refine Ev.congr (fun k => (if_neg c4).trans (if_pos ?_)) (Ev.now _)
            rw [w_id (by omega) (by omega)]
            omega
        · obtain ⟨l', e1, f1⟩ := F.write (off := ofn) (d := d) (by omega) (by omega)
          rw [e1]
          refine ⟨Ev.bind hck ?_, by rw [f1.is]; exact fileOf_len _, by rw [f1.is]; exact fileOf_data _⟩
          refine Ev.congr (f := fun k => (undercroftref07_Text.f k sz l).bind fun t187 => (undercroftref07_Write.l0 k (ofn : Int) d t187)) (fun k => (if_pos rfl).trans ((if_neg c1).trans ((if_neg c2').trans ((if_neg (by omega)).trans (if_neg (by rw [w_id (by omega) (by omega)]; omega)))))) ?_
          refine Ev.bind ht ?_
          have h1 := refpad_loop (off := ofn) (d := d) (o := octs (lookI (l.map t39))) (by omega) _ t rfl htl2 hto
          rw [← f1.is] at h1
          have e3 : ((max t.length (ofn + d.length) : Nat) : Int) = max sz ((ofn + d.length : Nat) : Int) := by omega
          rw [e3] at h1
          exact h1
  · rw [hc, hz] at hck
    have e1 : writeR sz (l.map t39) off d = (0, [], 9) := by
      unfold writeR
      rw [if_neg (by rw [hz]; decide)]
    rw [e1]
    refine ⟨Ev.bind hck ?_, by decide, fun x hx => by cases hx⟩
    exact Ev.congr (fun k => if_neg (by decide)) (Ev.now _)

theorem spoil_all {l : List S39} (h : ∀ b ∈ l, b.f1.length ≤ 140737488351232) : ∀ k, 140737488351233 ≤ k → (l.all fun y => (undercroftplain_Spoil.f k y.f1).isSome) = true := fun k hk => by
  rw [List.all_eq_true]
  intro b hb
  have := h b hb
  obtain ⟨r, hr⟩ := spoil_is b.f1 k (by omega) (by omega)
  rw [hr]
  rfl
theorem FileOwn (l0 : S24) (l1 : Int) (l2 : List Int) (h0 : ok24 l0) (h1 : (Lit.int .i64 l1).wf = true) (h2 : (l2.length * 1 ≤ 140737488351232 ∧ l2.length ≤ maxLen ∧ ∀ y25 ∈ l2, (Lit.int .u8 y25).wf = true)) : ∃ k, undercroftlaw07_FileOwn.f k l0.f0 l0.f1 l1 l2 = some true := by
  obtain ⟨sz, l⟩ := l0
  obtain ⟨_, hlen, _, hall⟩ := h0
  simp only at hlen hall ⊢
  have hin : In57 l := ⟨by omega, fun b hb => by have := (hall b hb).2.1; omega, fun b hb => Oct.of_wf (hall b hb).2.2.2⟩
  refine Ev.rounds (g := fun k => undercroftlaw07_FileOwn.f k sz l l1 l2) ?_
  unfold undercroftlaw07_FileOwn.f
  refine Ev.bind (law_of hin.len hin.data) ?_
  have hcb : undercroftplain_CopyBytes.f l2 = some l2 := copyBytes_is l2 (by omega)
  simp only [hcb, Option.bind_some, file_Write.f]
  obtain ⟨w1, w2, w3⟩ := write57 (sz := sz) (off := l1) (d := l2) hin (wf_i64 h1)
  refine Ev.bind w1 ?_
  obtain ⟨b, hb⟩ := spoil_is l2 (l2.length + 1) (by omega) (by omega)
  refine Ev.bind (Ev.of (fun k => undercroftplain_Spoil.mono l2 k) hb) ?_
  obtain ⟨n, hn⟩ := alike_ev (a := (writeR sz (l.map t39) l1 l2).1) (l := (writeR sz (l.map t39) l1 l2).2.1) (Nat.le_trans w2 (by decide)) w3
  have hb39 : ∀ x ∈ l.map t39, x.f1.length ≤ 140737488351232 := fun x hx => by
    obtain ⟨y, hy, rfl⟩ := List.mem_map.1 hx
    exact hin.data y hy
  refine ⟨max n 140737488351233, fun k hk => ?_⟩
  have h3 := spoil_all hb39 k (by omega)
  have h4 : (l.map t39).length ≤ 4611686018427387904 := by rw [List.length_map]; have := hin.len; omega
  simp only [hn k (by omega), Option.bind_some]
  rw [if_pos ⟨h3, h4, trivial⟩]
  rfl

end Go.Proofs.YtomebhohkonhlaaDoor.Pure
