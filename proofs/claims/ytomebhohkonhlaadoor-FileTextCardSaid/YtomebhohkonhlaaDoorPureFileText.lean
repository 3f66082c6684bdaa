/- Behind any writes and cuts a file reads as the text that they make: for every steps, every place and every number, no condition beyond the form's reach. -/
import Derived.Test.YtomebhohkonhlaaDoorPFtxx
import Derived.Test.YtomebhohkonhlaaDoorInFileText
import Derived.Lib.Bytes
namespace Go.Proofs.YtomebhohkonhlaaDoor.Pure
open Go.RowKit Go.Proofs.YtomebhohkonhlaaDoor.PFtx Go.Proofs.YtomebhohkonhlaaDoorW.PrintWords Go.Proofs.YtomebhohkonhlaaDoorW.PrintLast Go.Proofs.YtomebhohkonhlaaDoorW.PrintMore
set_option linter.unusedVariables false
set_option linter.unusedSimpArgs false

theorem w_id {x : Int} (h0 : -9223372036854775808 ≤ x) (h1 : x ≤ 9223372036854775807) : wrap64 x = x := by unfold wrap64; omega
theorem wf_i64 {a : Int} (h : (Lit.int .i64 a).wf = true) : -9223372036854775808 ≤ a ∧ a ≤ 9223372036854775807 := by
  simpa [Lit.wf, IntKind.min, IntKind.max, IntKind.signed, IntKind.bits] using h
theorem wf_u8 {a : Int} (h : (Lit.int .u8 a).wf = true) : 0 ≤ a ∧ a ≤ 255 := by
  simpa [Lit.wf, IntKind.min, IntKind.max, IntKind.signed, IntKind.bits] using h
theorem wf_u32 {a : Int} (h : (Lit.int .u32 a).wf = true) : 0 ≤ a ∧ a ≤ 4294967295 := by
  simpa [Lit.wf, IntKind.min, IntKind.max, IntKind.signed, IntKind.bits] using h
theorem wf_u64 {a : Int} (h : (Lit.int .u64 a).wf = true) : 0 ≤ a ∧ a ≤ 18446744073709551615 := by
  simpa [Lit.wf, IntKind.min, IntKind.max, IntKind.signed, IntKind.bits] using h
/-- All are octets. -/
def Oct (l : List Int) : Prop := ∀ x ∈ l, 0 ≤ x ∧ x ≤ 255
theorem Oct.of_wf {l : List Int} (h : ∀ x ∈ l, (Lit.int .u8 x).wf = true) : Oct l := fun x hx => wf_u8 (h x hx)
theorem Oct.nil : Oct [] := fun _ h => by cases h
theorem Oct.append {a b : List Int} (ha : Oct a) (hb : Oct b) : Oct (a ++ b) := fun x hx => (List.mem_append.1 hx).elim (ha x) (hb x)
theorem Oct.take {a : List Int} (ha : Oct a) (n : Nat) : Oct (a.take n) := fun x hx => ha x (List.mem_of_mem_take hx)
theorem Oct.drop {a : List Int} (ha : Oct a) (n : Nat) : Oct (a.drop n) := fun x hx => ha x (List.mem_of_mem_drop hx)
theorem rd_nat (l : List Int) (k : Nat) (h : k < l.length) : rd l (k : Int) = l[k] := by
  unfold rd
  simp [List.getD_eq_getElem?_getD, h]

theorem copyBytes_is (a : List Int) (h : a.length < 140737488355328) : undercroftplain_CopyBytes.f a = some a := by
  unfold undercroftplain_CopyBytes.f
  rw [if_pos (by simpa using h)]
  simp

theorem sameBytes_loop (a b : List Int) (hl : a.length = b.length) (hm : a.length ≤ 9223372036854775807) : ∀ (d k i : Nat), i + d = a.length → d < k → a.take i = b.take i →
    undercroftplain_SameBytes.l0 k a b (i : Int) = some (decide (a = b)) := by
  intro d
  induction d with
  | zero =>
    intro k i hi hk ht
    obtain ⟨k, rfl⟩ : ∃ m, k = m + 1 := ⟨k - 1, by omega⟩
    simp only [undercroftplain_SameBytes.l0]
    rw [if_neg (by omega)]
    have : a = b := by
      rw [List.take_of_length_le (by omega), List.take_of_length_le (by omega)] at ht
      exact ht
    rw [decide_eq_true this]
  | succ d ih =>
    intro k i hi hk ht
    obtain ⟨k, rfl⟩ : ∃ m, k = m + 1 := ⟨k - 1, by omega⟩
    simp only [undercroftplain_SameBytes.l0]
    rw [if_pos (by omega), if_pos (by omega), if_pos (by omega), rd_nat a i (by omega), rd_nat b i (by omega)]
    by_cases h : a[i]'(by omega) = b[i]'(by omega)
    · rw [if_pos h, w_id (by omega) (by omega)]
      have := ih k (i + 1) (by omega) (by omega) (by
        rw [List.take_succ_eq_append_getElem (by omega), List.take_succ_eq_append_getElem (by omega), ht, h])
      exact_mod_cast this
    · rw [if_neg h]
      have : a ≠ b := by
        rintro rfl
        exact h rfl
      rw [decide_eq_false this]
theorem sameBytes_is (a b : List Int) (k : Nat) (hk : a.length < k) (hm : a.length ≤ 9223372036854775807) : undercroftplain_SameBytes.f k a b = some (decide (a = b)) := by
  unfold undercroftplain_SameBytes.f
  by_cases hl : a.length = b.length
  · rw [if_pos (by omega)]
    exact sameBytes_loop a b hl hm a.length k 0 (by omega) hk rfl
  · rw [if_neg (by omega)]
    have : a ≠ b := by
      rintro rfl
      exact hl rfl
    rw [decide_eq_false this]

/-! #### a file is its octets -/
/-- Octet p of a view. -/
def octs (m : VM) (p : Nat) : Int := ((m (p / 32)).getD zeros32).getD (p % 32) 0
def blkO (o : Nat → Int) (i : Nat) : List Int := (List.range 32).map fun k => o (32 * i + k)
/-- The file of such octets. -/
def fileOf (o : Nat → Int) : List S39 := ((List.range 76).filter fun i => !zeroI (blkO o i)).map fun (i : Nat) => (⟨(i : Int), blkO o i⟩ : S39)
def WfM (m : VM) : Prop := ∀ i b, m i = some b → b.length = 32
theorem blkO_len (o : Nat → Int) (i : Nat) : (blkO o i).length = 32 := by simp [blkO]
theorem blkO_get (o : Nat → Int) (i k : Nat) (hk : k < 32) : (blkO o i)[k]? = some (o (32 * i + k)) := by simp [blkO, hk]
theorem blkO_getD (o : Nat → Int) (i k : Nat) (hk : k < 32) : (blkO o i).getD k 0 = o (32 * i + k) := by rw [List.getD_eq_getElem?_getD, blkO_get o i k hk]; rfl
theorem blkO_congr {o o' : Nat → Int} {i : Nat} (h : ∀ k, k < 32 → o (32 * i + k) = o' (32 * i + k)) : blkO o i = blkO o' i := by
  unfold blkO
  exact List.map_congr_left (fun k hk => h k (List.mem_range.1 hk))
theorem fileOf_congr {o o' : Nat → Int} (h : ∀ p, p < 2432 → o p = o' p) : fileOf o = fileOf o' := by
  have hb : ∀ i, i < 76 → blkO o i = blkO o' i := fun i hi => blkO_congr (fun k hk => h _ (by omega))
  unfold fileOf
  have e1 : (List.range 76).filter (fun i => !zeroI (blkO o i)) = (List.range 76).filter (fun i => !zeroI (blkO o' i)) := List.filter_congr (fun i hi => by rw [hb i (List.mem_range.1 hi)])
  rw [e1]
  exact List.map_congr_left (fun i hi => by rw [hb i (List.mem_range.1 (List.mem_filter.1 hi).1)])
theorem zeroI_iff {l : List Int} : zeroI l = true ↔ ∀ k, l.getD k 0 = 0 := by
  unfold zeroI
  rw [List.all_eq_true]
  constructor
  · intro h k
    rw [List.getD_eq_getElem?_getD]
    cases hk : l[k]? with
    | none => rfl
    | some x => simpa using h x (List.mem_of_getElem? hk)
  · intro h x hx
    obtain ⟨k, hk⟩ := List.getElem?_of_mem hx
    have := h k
    rw [List.getD_eq_getElem?_getD, hk] at this
    simpa using this
theorem zeros32_getD (k : Nat) : zeros32.getD k 0 = 0 := zeroI_iff.1 (by rfl) k
theorem blk_octs {m : VM} (hm : WfM m) (i : Nat) : blkO (octs m) i = (m i).getD zeros32 := by
  have hl : ((m i).getD zeros32).length = 32 := by
    cases h : m i with
    | none => rfl
    | some b => exact hm i b h
  apply List.ext_getElem?
  intro k
  by_cases hk : k < 32
  · rw [blkO_get _ _ _ hk]
    unfold octs
    rw [show (32 * i + k) / 32 = i by omega, show (32 * i + k) % 32 = k by omega, List.getD_eq_getElem?_getD, List.getElem?_eq_getElem (by omega)]
    rfl
  · rw [List.getElem?_eq_none (by rw [blkO_len]; omega), List.getElem?_eq_none (by omega)]
theorem fileI_octs {m : VM} (hm : WfM m) : fileI m = fileOf (octs m) := by
  unfold fileI fileOf
  have e1 : (List.range 76).filter (goodI m) = (List.range 76).filter (fun i => !zeroI (blkO (octs m) i)) := List.filter_congr (fun i _ => by
    rw [blk_octs hm]
    unfold goodI
    cases h : m i with
    | none => rfl
    | some b => rfl)
  rw [e1]
  exact List.map_congr_left (fun i _ => by rw [blk_octs hm])
theorem octs_none (p : Nat) : octs (fun _ => none) p = 0 := zeros32_getD _
theorem octs_putM (m : VM) (i : Nat) (b : List Int) (p : Nat) : octs (putM m i b) p = if p / 32 = i then b.getD (p % 32) 0 else octs m p := by
  unfold octs putM
  split <;> rfl
theorem wfM_none : WfM (fun _ => none) := fun i b h => by cases h
theorem wfM_put {m : VM} (hm : WfM m) {i : Nat} {b : List Int} (hb : b.length = 32) : WfM (putM m i b) := fun j c hj => by
  unfold putM at hj
  split at hj
  · obtain rfl := Option.some.inj hj; exact hb
  · exact hm j c hj
/-! what is looked at -/
theorem wfM_look : ∀ {l : List S39}, (∀ b ∈ l, b.f1.length = 32) → WfM (lookI l) := by
  intro l
  unfold lookI
  have h : ∀ (l : List S39) (m : VM), WfM m → (∀ b ∈ l, b.f1.length = 32) → WfM (l.foldl (fun m b => putM m b.f0.toNat b.f1) m) := by
    intro l
    induction l with
    | nil => intro m hm _; exact hm
    | cons b r ih => intro m hm hb; exact ih _ (wfM_put hm (hb b List.mem_cons_self)) (fun c hc => hb c (List.mem_cons_of_mem _ hc))
  exact h l _ wfM_none
theorem look_fold_none : ∀ (l : List S39) (m : VM) (i : Nat), (∀ b ∈ l, b.f0.toNat ≠ i) → (l.foldl (fun m b => putM m b.f0.toNat b.f1) m) i = m i
  | [], _, _, _ => rfl
  | b :: r, m, i, h => by
    show (r.foldl _ (putM m b.f0.toNat b.f1)) i = _
    rw [look_fold_none r _ i (fun c hc => h c (List.mem_cons_of_mem _ hc))]
    unfold putM
    rw [if_neg (fun e => h b List.mem_cons_self e.symm)]
/-- In a list that rises each block is found. -/
theorem look_mem : ∀ (l : List S39) (m : VM), l.Pairwise (fun a b => a.f0 < b.f0) → (∀ b ∈ l, 0 ≤ b.f0) → ∀ b ∈ l, (l.foldl (fun m b => putM m b.f0.toNat b.f1) m) b.f0.toNat = some b.f1
  | [], _, _, _, b, hb => by cases hb
  | a :: r, m, hp, h0, b, hb => by
    obtain ⟨h1, h2⟩ := List.pairwise_cons.1 hp
    show (r.foldl _ (putM m a.f0.toNat a.f1)) b.f0.toNat = _
    rcases List.mem_cons.1 hb with rfl | hb
    · rw [look_fold_none r _ _ (fun c hc => by
        have e1 := h1 c hc
        have e2 := h0 b List.mem_cons_self
        omega)]
      unfold putM
      rw [if_pos rfl]
    · exact look_mem r _ h2 (fun c hc => h0 c (List.mem_cons_of_mem _ hc)) b hb
/-- What may be is the file of what is looked at. -/
theorem look_back {sz : Int} {l : List S39} (h : checkI sz l = 0) : fileI (lookI l) = l ∧ (∀ p : Nat, sz ≤ (p : Int) → octs (lookI l) p = 0) := by
  obtain ⟨⟨hs1, hs2⟩, hl, hok⟩ := check_good h
  have hc : checkL ((sz + 31) / 32) sz (-1) l = 0 := by
    unfold checkI at h
    rw [if_neg (by omega), if_neg (by omega)] at h
    exact h
  obtain ⟨i1, i2⟩ := checkL_good (by omega) hc
  have hm := look_mem l (fun _ => none) i2 (fun b hb => (hok b hb).1)
  have hmm : ∀ b ∈ l, lookI l b.f0.toNat = some b.f1 := hm
  have hno : ∀ i, (∀ b ∈ l, b.f0.toNat ≠ i) → lookI l i = none := fun i hi => look_fold_none l _ i hi
  refine ⟨?_, fun p hp => ?_⟩
  · have hk : l.map (fun b => b.f0.toNat) = (List.range 76).filter (goodI (lookI l)) := by
      refine inc_eq ?_ (List.Pairwise.filter _ List.pairwise_lt_range) (fun i => ?_)
      · rw [List.pairwise_map]
        refine List.Pairwise.imp_of_mem (fun {a b} ha hb hab => ?_) i2
        have e1 := (hok a ha).1
        omega
      · rw [List.mem_map, List.mem_filter, List.mem_range]
        constructor
        · rintro ⟨b, hb, rfl⟩
          have e1 := (hok b hb)
          refine ⟨by omega, ?_⟩
          unfold goodI
          rw [hmm b hb]
          simp [(i1 b hb).2.2.2.1]
        · rintro ⟨hi, hg⟩
          rcases Classical.em (∃ b ∈ l, b.f0.toNat = i) with ⟨b, hb, e⟩ | hn
          · exact ⟨b, hb, e⟩
          · have := hno i (fun b hb e => hn ⟨b, hb, e⟩)
            unfold goodI at hg
            rw [this] at hg
            cases hg
    rw [fileI_of hk, List.map_map]
    conv => rhs; rw [← List.map_id l]
    refine List.map_congr_left (fun b hb => ?_)
    have e1 := (hok b hb)
    show (⟨((b.f0.toNat : Nat) : Int), (lookI l b.f0.toNat).getD zeros32⟩ : S39) = b
    rw [hmm b hb]
    obtain ⟨b0, b1⟩ := b
    simp only at e1
    have e2 : ((b0.toNat : Nat) : Int) = b0 := by omega
    simp only [e2, Option.getD_some]
  · unfold octs
    rcases Classical.em (∃ b ∈ l, b.f0.toNat = p / 32) with ⟨b, hb, e⟩ | hn
    · rw [← e, hmm b hb]
      obtain ⟨j1, j2, j3, j4, j5⟩ := i1 b hb
      have e1 := (hok b hb)
      have hlt : sz - 32 * b.f0 < 32 := by omega
      have hz := zeroI_iff.1 (j5 hlt) (p % 32 - (sz - 32 * b.f0).toNat)
      rw [List.getD_eq_getElem?_getD, List.getElem?_drop, show (sz - 32 * b.f0).toNat + (p % 32 - (sz - 32 * b.f0).toNat) = p % 32 by omega] at hz
      rw [List.getD_eq_getElem?_getD]
      exact hz
    · rw [hno (p / 32) (fun b hb e => hn ⟨b, hb, e⟩)]
      exact zeros32_getD _

/-! #### what is written, cut, read -/
def putO (o : Nat → Int) (off : Nat) (d : List Int) (p : Nat) : Int := if off ≤ p ∧ p < off + d.length then d.getD (p - off) 0 else o p
theorem stepN_le (o : Nat) (d : List Int) : stepN o d ≤ d.length ∧ stepN o d ≤ 32 - o % 32 := ⟨Nat.min_le_left _ _, Nat.min_le_right _ _⟩
theorem stepN_pos (o : Nat) (d : List Int) (h : 0 < d.length) : 0 < stepN o d := Nat.lt_min.2 ⟨h, by omega⟩
theorem look32 {m : VM} (hm : WfM m) (i : Nat) : ((m i).getD zeros32).length = 32 := by
  cases h : m i with
  | none => rfl
  | some b => exact hm i b h
theorem stepB_len {m : VM} (hm : WfM m) (o : Nat) (d : List Int) : (stepB m o d).length = 32 := by
  have h1 := look32 hm (o / 32)
  obtain ⟨h2, h3⟩ := stepN_le o d
  unfold stepB
  simp only [List.length_append, List.length_take, List.length_drop, h1]
  omega
theorem getD_three {a b c : List Int} (k : Nat) : (a ++ b ++ c).getD k 0 = if k < a.length then a.getD k 0 else if k < a.length + b.length then b.getD (k - a.length) 0 else c.getD (k - a.length - b.length) 0 := by
  simp only [List.getD_eq_getElem?_getD]
  by_cases h1 : k < a.length
  · rw [if_pos h1, List.append_assoc, List.getElem?_append_left h1]
  · rw [if_neg h1]
    by_cases h2 : k < a.length + b.length
    · rw [if_pos h2, List.getElem?_append_left (by rw [List.length_append]; exact h2), List.getElem?_append_right (by omega)]
    · rw [if_neg h2, List.getElem?_append_right (by rw [List.length_append]; omega), List.length_append, Nat.sub_add_eq]
theorem getD_take {l : List Int} {n k : Nat} (h : k < n) : (l.take n).getD k 0 = l.getD k 0 := by simp only [List.getD_eq_getElem?_getD, List.getElem?_take, if_pos h]
theorem getD_drop (l : List Int) (n k : Nat) : (l.drop n).getD k 0 = l.getD (n + k) 0 := by simp only [List.getD_eq_getElem?_getD, List.getElem?_drop]
theorem octs_step {m : VM} (hm : WfM m) (o : Nat) (d : List Int) : octs (putM m (o / 32) (stepB m o d)) = putO (octs m) o (d.take (stepN o d)) := by
  have h1 := look32 hm (o / 32)
  obtain ⟨h2, h3⟩ := stepN_le o d
  have htl : (d.take (stepN o d)).length = stepN o d := by rw [List.length_take]; omega
  have hal : (((m (o / 32)).getD zeros32).take (o % 32)).length = o % 32 := by rw [List.length_take, h1]; omega
  funext p
  rw [octs_putM]
  unfold putO
  rw [htl]
  by_cases hp : p / 32 = o / 32
  · rw [if_pos hp]
    unfold stepB
    rw [getD_three, hal, htl]
    by_cases c1 : p % 32 < o % 32
    · rw [if_pos c1, if_neg (by omega), getD_take c1]
      unfold octs
      rw [hp]
    · rw [if_neg c1]
      by_cases c2 : p % 32 < o % 32 + stepN o d
      · rw [if_pos c2, if_pos (by omega), show p % 32 - o % 32 = p - o by omega]
      · rw [if_neg c2, if_neg (by omega), getD_drop]
        unfold octs
        rw [hp, show o % 32 + stepN o d + (p % 32 - o % 32 - stepN o d) = p % 32 by omega]
  · rw [if_neg hp, if_neg (by omega)]
theorem putO_putO (o : Nat → Int) (off n : Nat) (d : List Int) (hn : n ≤ d.length) : putO (putO o off (d.take n)) (off + n) (d.drop n) = putO o off d := by
  funext p
  unfold putO
  rw [List.length_take, List.length_drop, Nat.min_eq_left hn]
  by_cases c1 : off + n ≤ p ∧ p < off + n + (d.length - n)
  · rw [if_pos c1, if_pos (by omega), getD_drop]
    congr 1
    omega
  · rw [if_neg c1]
    by_cases c2 : off ≤ p ∧ p < off + n
    · rw [if_pos c2, if_pos (by omega), getD_take (by omega)]
    · rw [if_neg c2, if_neg (by omega)]
theorem write_octs : ∀ (k : Nat) (m : VM) (o : Nat) (d : List Int), WfM m → d.length ≤ k → octs (writeK k m o d) = putO (octs m) o d ∧ WfM (writeK k m o d)
  | 0, m, o, d, hm, h => by
    have : d = [] := List.eq_nil_of_length_eq_zero (by omega)
    subst this
    refine ⟨?_, hm⟩
    funext p
    show octs m p = _
    unfold putO
    rw [if_neg (by simp)]
  | k + 1, m, o, d, hm, h => by
    unfold writeK
    by_cases h0 : d.length = 0
    · rw [if_pos h0]
      refine ⟨?_, hm⟩
      funext p
      unfold putO
      rw [if_neg (by omega)]
    · rw [if_neg h0]
      have hp := stepN_pos o d (by omega)
      obtain ⟨ih1, ih2⟩ := write_octs k (putM m (o / 32) (stepB m o d)) (o + stepN o d) (d.drop (stepN o d)) (wfM_put hm (stepB_len hm o d)) (by rw [List.length_drop]; omega)
      exact ⟨by rw [ih1, octs_step hm, putO_putO _ _ _ _ (stepN_le o d).1], ih2⟩
theorem octs_cut {m : VM} (hm : WfM m) (size : Int) : octs (cutM m size) = (fun (p : Nat) => if (p : Int) < size then octs m p else 0) ∧ WfM (cutM m size) := by
  refine ⟨?_, fun i b h => ?_⟩
  · funext p
    unfold octs cutM
    cases h : m (p / 32) with
    | none =>
      show zeros32.getD _ 0 = if _ then zeros32.getD _ 0 else 0
      rw [zeros32_getD]
      split <;> rfl
    | some b =>
      have hb := hm _ b h
      show (cutB (cutL size (p / 32)) b).getD (p % 32) 0 = if (p : Int) < size then b.getD (p % 32) 0 else 0
      unfold cutB
      have hc : (p % 32 < cutL size (p / 32)) ↔ (p : Int) < size := by unfold cutL; omega
      have hl := cutL_le size (p / 32)
      have ht : (b.take (cutL size (p / 32))).length = cutL size (p / 32) := by rw [List.length_take, hb]; omega
      simp only [List.getD_eq_getElem?_getD]
      by_cases c : p % 32 < cutL size (p / 32)
      · rw [if_pos (hc.1 c), List.getElem?_append_left (by rw [ht]; exact c), List.getElem?_take, if_pos c]
      · rw [if_neg (fun h_ => c (hc.2 h_)), List.getElem?_append_right (by rw [ht]; omega), List.getElem?_replicate]
        split <;> rfl
  · unfold cutM at h
    obtain ⟨c, hc, rfl⟩ := Option.map_eq_some_iff.1 h
    exact cutB_len (cutL_le _ _) (hm i c hc)
theorem readStep_is {off : Nat} {out : List Int} {m : VM} {b : S39} (hb : b.f1.length = 32) (h0 : 0 ≤ b.f0) (hout : ∀ k, k < out.length → out.getD k 0 = octs m (off + k)) : ∀ k, k < (readStep off out b).length → (readStep off out b).getD k 0 = octs (putM m b.f0.toNat b.f1) (off + k) := by
  intro k hk
  rw [readStep_len hb] at hk
  rw [octs_putM]
  obtain ⟨i, hi⟩ : ∃ i : Nat, b.f0 = (i : Int) := ⟨b.f0.toNat, by omega⟩
  rw [hi, Int.toNat_natCast]
  unfold readStep
  rw [hi]
  by_cases c : 32 * (i : Int) - (off : Int) + 32 ≤ 0 ∨ (out.length : Int) ≤ 32 * (i : Int) - (off : Int)
  · rw [if_pos c, if_neg (by omega)]
    exact hout k hk
  · rw [if_neg c]
    obtain ⟨o, ho⟩ : ∃ o : Nat, o = (max (32 * (i : Int) - (off : Int)) 0).toNat := ⟨_, rfl⟩
    obtain ⟨s, hs⟩ : ∃ s : Nat, s = (max (-(32 * (i : Int) - (off : Int))) 0).toNat := ⟨_, rfl⟩
    obtain ⟨n, hn⟩ : ∃ n : Nat, n = Nat.min (32 - s) (out.length - o) := ⟨_, rfl⟩
    have hn1 : n ≤ 32 - s := by rw [hn]; exact Nat.min_le_left _ _
    have hn2 : n ≤ out.length - o := by rw [hn]; exact Nat.min_le_right _ _
    have hn3 : n = 32 - s ∨ n = out.length - o := by
      rw [hn]
      rcases Nat.le_total (32 - s) (out.length - o) with h | h
      · exact .inl (Nat.min_eq_left h)
      · exact .inr (Nat.min_eq_right h)
    rw [← ho, ← hs, ← hn, getD_three]
    have h1 : (out.take o).length = o := by rw [List.length_take]; omega
    have h2 : ((b.f1.drop s).take n).length = n := by rw [List.length_take, List.length_drop, hb]; omega
    rw [h1, h2]
    by_cases c1 : k < o
    · rw [if_pos c1, getD_take c1, if_neg (by omega)]
      exact hout k hk
    · rw [if_neg c1]
      by_cases c2 : k < o + n
      · rw [if_pos c2, getD_take (by omega), getD_drop, if_pos (by omega)]
        congr 1
        omega
      · rw [if_neg c2, getD_drop, if_neg (by omega), show o + n + (k - o - n) = k by omega]
        exact hout k hk
theorem readL_is {off : Nat} : ∀ {l : List S39} {out : List Int} {m : VM}, (∀ b ∈ l, b.f1.length = 32 ∧ 0 ≤ b.f0) → (∀ k, k < out.length → out.getD k 0 = octs m (off + k)) → ∀ k, k < out.length → (readL off out l).getD k 0 = octs (l.foldl (fun m b => putM m b.f0.toNat b.f1) m) (off + k)
  | [], _, _, _, h => h
  | b :: r, out, m, hb, h => by
    have h1 := readStep_is (hb b List.mem_cons_self).1 (hb b List.mem_cons_self).2 h
    have h2 := readL_is (l := r) (fun c hc => hb c (List.mem_cons_of_mem _ hc)) h1
    rw [readStep_len (hb b List.mem_cons_self).1] at h2
    exact h2
theorem read_octs {off n : Nat} {l : List S39} (hl : ∀ b ∈ l, b.f1.length = 32 ∧ 0 ≤ b.f0) : readL off (List.replicate n 0) l = (List.range n).map fun k => octs (lookI l) (off + k) := by
  have hlen : (readL off (List.replicate n 0) l).length = n := by rw [readL_len (fun b hb => (hl b hb).1), List.length_replicate]
  have h := readL_is (off := off) (out := List.replicate n 0) (m := fun _ => none) hl (fun k hk => by
    rw [octs_none, List.getD_eq_getElem?_getD, List.getElem?_replicate]
    split <;> rfl)
  rw [List.length_replicate] at h
  apply List.ext_getElem?
  intro k
  by_cases hk : k < n
  · have h1 := h k hk
    rw [List.getD_eq_getElem?_getD, List.getElem?_eq_getElem (by omega)] at h1
    rw [List.getElem?_eq_getElem (by omega), List.getElem?_map, List.getElem?_range hk]
    exact congrArg some h1
  · rw [List.getElem?_eq_none (by omega), List.getElem?_eq_none (by simp; omega)]
/-! which may be -/
theorem badB_no {n sz last : Int} {b : S39} (h1 : last < b.f0) (h2 : b.f0 < n) (h3 : b.f1.length = 32) (h4 : zeroI b.f1 = false) (h5 : sz - 32 * b.f0 < 32 → zeroI (b.f1.drop (sz - 32 * b.f0).toNat) = true) : badB n sz last b = false := by
  unfold badB
  rw [decide_eq_false (by omega), decide_eq_false (by omega), h3, h4]
  by_cases c : sz - 32 * b.f0 < 32
  · simp [h5 c]
  · simp [c]
theorem checkL_ok {n sz : Int} : ∀ {l : List S39} {last : Int}, l.Pairwise (fun a b => a.f0 < b.f0) → (∀ b ∈ l, last < b.f0 ∧ b.f0 < n ∧ b.f1.length = 32 ∧ zeroI b.f1 = false ∧ (sz - 32 * b.f0 < 32 → zeroI (b.f1.drop (sz - 32 * b.f0).toNat) = true)) → checkL n sz last l = 0
  | [], _, _, _ => rfl
  | b :: r, last, hp, h => by
    obtain ⟨h1, h2⟩ := List.pairwise_cons.1 hp
    obtain ⟨a1, a2, a3, a4, a5⟩ := h b List.mem_cons_self
    unfold checkL
    rw [badB_no a1 a2 a3 a4 a5, if_neg (by decide)]
    exact checkL_ok h2 (fun c hc => ⟨h1 c hc, (h c (List.mem_cons_of_mem _ hc)).2⟩)
theorem fileOf_check {sz : Int} {o : Nat → Int} (h0 : 0 ≤ sz) (h1 : sz ≤ 2432) (ho : ∀ p : Nat, sz ≤ (p : Int) → o p = 0) : checkI sz (fileOf o) = 0 := by
  unfold checkI
  rw [if_neg (by omega), if_neg (by omega)]
  refine checkL_ok ?_ (fun b hb => ?_)
  · unfold fileOf
    rw [List.pairwise_map]
    refine (List.Pairwise.filter _ List.pairwise_lt_range).imp (fun h => ?_)
    simp only
    omega
  · unfold fileOf at hb
    obtain ⟨i, hi, rfl⟩ := List.mem_map.1 hb
    obtain ⟨hi1, hi2⟩ := List.mem_filter.1 hi
    have hi3 := List.mem_range.1 hi1
    have hz : zeroI (blkO o i) = false := by simpa using hi2
    refine ⟨by simp only; omega, ?_, blkO_len o i, hz, fun hc => ?_⟩
    · rcases Classical.em ((i : Int) < (sz + 31) / 32) with h | h
      · exact h
      · exfalso
        have : zeroI (blkO o i) = true := zeroI_iff.2 (fun k => by
          by_cases hk : k < 32
          · rw [blkO_getD o i k hk]
            exact ho _ (by omega)
          · rw [List.getD_eq_getElem?_getD, List.getElem?_eq_none (by rw [blkO_len]; omega)]
            rfl)
        rw [this] at hz
        cases hz
    · have hc : sz - 32 * (i : Int) < 32 := hc
      show zeroI ((blkO o i).drop (sz - 32 * (i : Int)).toNat) = true
      refine zeroI_iff.2 (fun k => ?_)
      rw [getD_drop]
      by_cases hk : (sz - 32 * (i : Int)).toNat + k < 32
      · rw [blkO_getD o i _ hk]
        exact ho _ (by omega)
      · rw [List.getD_eq_getElem?_getD, List.getElem?_eq_none (by rw [blkO_len]; omega)]
        rfl
/-- The octets of a file that is made of them. -/
theorem look_fileOf {sz : Int} {o : Nat → Int} (h0 : 0 ≤ sz) (h1 : sz ≤ 2432) (ho : ∀ p : Nat, sz ≤ (p : Int) → o p = 0) : ∀ p, octs (lookI (fileOf o)) p = o p := by
  have hc := fileOf_check h0 h1 ho
  obtain ⟨e1, e2⟩ := look_back hc
  intro p
  by_cases hp : (p : Int) < sz
  · have hwf : WfM (lookI (fileOf o)) := wfM_look (fun b hb => by
      obtain ⟨_, _, h⟩ := check_good hc
      exact (h b hb).2.2)
    rw [fileI_octs hwf] at e1
    have hpi : p / 32 < 76 := by omega
    -- the blocks at p / 32 are one
    have hbl : blkO (octs (lookI (fileOf o))) (p / 32) = blkO o (p / 32) := by
      have hz : ∀ (q : Nat → Int), (zeroI (blkO q (p / 32)) = false ↔ ∃ b ∈ fileOf q, b.f0 = ((p / 32 : Nat) : Int)) := fun q => by
        constructor
        · intro h
          exact ⟨⟨((p / 32 : Nat) : Int), blkO q (p / 32)⟩, List.mem_map.2 ⟨p / 32, List.mem_filter.2 ⟨List.mem_range.2 hpi, by simp [h]⟩, rfl⟩, rfl⟩
        · rintro ⟨b, hb, e⟩
          obtain ⟨i, hi, rfl⟩ := List.mem_map.1 hb
          have hi2 := (List.mem_filter.1 hi).2
          have : i = p / 32 := by simp only at e; omega
          subst this
          simpa using hi2
      cases c1 : zeroI (blkO o (p / 32)) with
      | true =>
        have c2 : zeroI (blkO (octs (lookI (fileOf o))) (p / 32)) = true := by
          cases c3 : zeroI (blkO (octs (lookI (fileOf o))) (p / 32)) with
          | true => rfl
          | false =>
            have := (hz _).1 c3
            rw [e1] at this
            rw [(hz o).2 this] at c1
            cases c1
        apply List.ext_getElem?
        intro k
        by_cases hk : k < 32
        · have a1 := zeroI_iff.1 c1 k
          have a2 := zeroI_iff.1 c2 k
          rw [blkO_getD _ _ _ hk] at a1 a2
          rw [blkO_get _ _ _ hk, blkO_get _ _ _ hk, a1, a2]
        · rw [List.getElem?_eq_none (by rw [blkO_len]; omega), List.getElem?_eq_none (by rw [blkO_len]; omega)]
      | false =>
        have hm1 : (⟨((p / 32 : Nat) : Int), blkO o (p / 32)⟩ : S39) ∈ fileOf (octs (lookI (fileOf o))) := by
          rw [e1]
          exact List.mem_map.2 ⟨p / 32, List.mem_filter.2 ⟨List.mem_range.2 hpi, by simp [c1]⟩, rfl⟩
        obtain ⟨i, _, e⟩ := List.mem_map.1 hm1
        injection e with e3 e4
        have : i = p / 32 := by omega
        rw [this] at e4
        exact e4
    have h3 := congrArg (fun l => l.getD (p % 32) 0) hbl
    rw [blkO_getD _ _ _ (by omega), blkO_getD _ _ _ (by omega), show 32 * (p / 32) + p % 32 = p by omega] at h3
    exact h3
  · rw [e2 p (by omega), ho p (by omega)]

/-! #### the program's answers, in octets -/
structure IsF (sz : Int) (l : List S39) (o : Nat → Int) : Prop where
  low : 0 ≤ sz
  high : sz ≤ 2432
  is : l = fileOf o
  tail : ∀ p : Nat, sz ≤ (p : Int) → o p = 0
theorem IsF.check {sz : Int} {l : List S39} {o : Nat → Int} (h : IsF sz l o) : checkI sz l = 0 := by rw [h.is]; exact fileOf_check h.low h.high h.tail
theorem IsF.octs {sz : Int} {l : List S39} {o : Nat → Int} (h : IsF sz l o) (p : Nat) : Pure.octs (lookI l) p = o p := by rw [h.is]; exact look_fileOf h.low h.high h.tail p
theorem IsF.wf {sz : Int} {l : List S39} {o : Nat → Int} (h : IsF sz l o) : WfM (lookI l) := by
  obtain ⟨_, _, hok⟩ := check_good h.check
  exact wfM_look (fun b hb => (hok b hb).2.2)
theorem IsF.ok {sz : Int} {l : List S39} {o : Nat → Int} (h : IsF sz l o) : ∀ b ∈ l, b.f1.length = 32 ∧ 0 ≤ b.f0 := by
  obtain ⟨_, _, hok⟩ := check_good h.check
  exact fun b hb => ⟨(hok b hb).2.2, (hok b hb).1⟩
theorem isF_of {sz : Int} {l : List S39} (h : checkI sz l = 0) : IsF sz l (octs (lookI l)) := by
  obtain ⟨⟨h1, h2⟩, _, hok⟩ := check_good h
  obtain ⟨b1, b2⟩ := look_back h
  exact ⟨h1, h2, by rw [← fileI_octs (wfM_look (fun b hb => (hok b hb).2.2)), b1], b2⟩
theorem isF_none : IsF 0 [] (fun _ => 0) := ⟨by decide, by decide, by kernel_rfl, fun _ _ => rfl⟩
theorem putO_tail {sz : Int} {o : Nat → Int} {off : Nat} {d : List Int} (ho : ∀ p : Nat, sz ≤ (p : Int) → o p = 0) : ∀ p : Nat, max sz ((off + d.length : Nat) : Int) ≤ (p : Int) → putO o off d p = 0 := fun p hp => by
  unfold putO
  rw [if_neg (by omega)]
  exact ho p (by omega)
theorem IsF.write {sz : Int} {l : List S39} {o : Nat → Int} (h : IsF sz l o) {off : Nat} {d : List Int} (hd : 0 < d.length) (hr : off + d.length ≤ 2432) : ∃ l', writeR sz l (off : Int) d = (max sz ((off + d.length : Nat) : Int), l', 0) ∧ IsF (max sz ((off + d.length : Nat) : Int)) l' (putO o off d) := by
  refine ⟨fileI (writeI (lookI l) off d), ?_, ?_⟩
  · unfold writeR
    rw [if_pos h.check, if_neg (by omega), if_neg (by omega), if_neg (by rintro (h_ | h_) <;> omega), Int.toNat_natCast]
  · have h1 := h.low
    have h2 := h.high
    obtain ⟨e1, e2⟩ := write_octs d.length (lookI l) off d h.wf (Nat.le_refl _)
    refine ⟨by omega, by omega, ?_, putO_tail h.tail⟩
    show fileI (writeK d.length (lookI l) off d) = _
    rw [fileI_octs e2, e1]
    refine fileOf_congr (fun p _ => ?_)
    unfold putO
    split
    · rfl
    · exact h.octs p
theorem IsF.write_none {sz : Int} {l : List S39} {o : Nat → Int} (h : IsF sz l o) {off : Int} (ho : 0 ≤ off) : writeR sz l off [] = (sz, l, 0) := by
  unfold writeR
  rw [if_pos h.check, if_neg (by omega), if_pos (by rfl), (look_back h.check).1]
theorem IsF.read {sz : Int} {l : List S39} {o : Nat → Int} (h : IsF sz l o) {off n : Int} (h0 : 0 ≤ off) (h1 : 0 ≤ n) (h2 : off < sz) : readR sz l off n = ((List.range (min n (sz - off)).toNat).map (fun k => o (off.toNat + k)), 0) := by
  unfold readR
  rw [if_pos h.check, if_neg (by omega), if_neg (by omega), read_octs h.ok]
  congr 1
  exact List.map_congr_left (fun k _ => h.octs _)
theorem IsF.read_none {sz : Int} {l : List S39} {o : Nat → Int} (h : IsF sz l o) {off n : Int} (h0 : 0 ≤ off) (h1 : 0 ≤ n) (h2 : sz ≤ off) : readR sz l off n = ([], 0) := by
  unfold readR
  rw [if_pos h.check, if_neg (by omega), if_pos h2]

theorem IsF.cut {sz : Int} {l : List S39} {o : Nat → Int} (h : IsF sz l o) {size : Int} (h0 : 0 ≤ size) (h1 : size ≤ 2432) : ∃ l', truncR sz l size = (size, l', 0) ∧ IsF size l' (fun (p : Nat) => if (p : Int) < size then o p else 0) := by
  refine ⟨fileI (cutM (lookI l) size), ?_, ?_⟩
  · unfold truncR
    rw [if_pos h.check, if_neg (by omega), if_neg (by omega)]
  · obtain ⟨e1, e2⟩ := octs_cut h.wf size
    refine ⟨h0, h1, ?_, fun p hp => if_neg (by omega)⟩
    rw [fileI_octs e2, e1]
    refine fileOf_congr (fun p _ => ?_)
    show (if (p : Int) < size then Pure.octs (lookI l) p else 0) = (if (p : Int) < size then o p else 0)
    split
    · exact h.octs p
    · rfl

def oT (t : List Int) (p : Nat) : Int := t.getD p 0
theorem oT_set (x : List Int) (n : Nat) (v : Int) (p : Nat) (hn : n < x.length) : oT (x.set n v) p = if p = n then v else oT x p := by
  unfold oT
  rw [List.getD_eq_getElem?_getD, List.getD_eq_getElem?_getD, List.getElem?_set]
  by_cases c : n = p
  · rw [if_pos c, if_pos hn, if_pos c.symm]
    rfl
  · rw [if_neg c, if_neg (fun h => c h.symm)]
theorem oT_snoc (x : List Int) (p : Nat) : oT (x ++ [0]) p = oT x p := by
  unfold oT
  rw [List.getD_eq_getElem?_getD, List.getD_eq_getElem?_getD, List.getElem?_append]
  split
  · rfl
  · rename_i h
    rw [List.getElem?_eq_none (by omega : x.length ≤ p)]
    cases h2 : p - x.length with
    | zero => rfl
    | succ n => rfl
theorem putO_nil (o : Nat → Int) (off : Nat) (p : Nat) : putO o off [] p = o p := by
  unfold putO
  rw [if_neg (by simp only [List.length_nil]; omega)]
theorem putO_next (o : Nat → Int) (off : Nat) (d : List Int) (j : Nat) (h : j < d.length) (p : Nat) : putO o off (d.take (j + 1)) p = if p = off + j then d[j] else putO o off (d.take j) p := by
  unfold putO
  rw [List.length_take, List.length_take, Nat.min_eq_left (by omega), Nat.min_eq_left (by omega)]
  by_cases c : p = off + j
  · subst c
    rw [if_pos (by omega), if_pos rfl, Nat.add_sub_cancel_left, getD_take (by omega), List.getD_eq_getElem?_getD, List.getElem?_eq_getElem h]
    rfl
  · rw [if_neg c]
    by_cases c2 : off ≤ p ∧ p < off + j
    · rw [if_pos c2, if_pos (by omega), getD_take (by omega), getD_take (by omega)]
    · rw [if_neg c2, if_neg (by omega)]
theorem sameBytes_ev (a : List Int) (hm : a.length ≤ 9223372036854775807) : Ev (fun k => undercroftplain_SameBytes.f k a a) true := ⟨a.length + 1, fun k hk => by
  show undercroftplain_SameBytes.f k a a = some true
  rw [sameBytes_is a a k (by omega) hm, decide_eq_true rfl]⟩

/-- A file and the text that it is. -/
structure Tx (fs : Int) (fb : List S39) (want : List Int) : Prop where
  f : IsF fs fb (oT want)
  sz : (want.length : Int) = fs
theorem IsF.congr {sz : Int} {l : List S39} {o o' : Nat → Int} (h : IsF sz l o) (e : ∀ p, o p = o' p) : IsF sz l o' := by
  have : o = o' := funext e
  rw [← this]
  exact h
theorem part_is (t : List Int) (a m : Nat) (h : a + m ≤ t.length) : (List.range m).map (fun k => oT t (a + k)) = (t.take (a + m)).drop a := by
  apply List.ext_getElem
  · rw [List.length_map, List.length_range, List.length_drop, List.length_take]
    omega
  · intro i h1 h2
    rw [List.length_map, List.length_range] at h1
    rw [List.getElem_map, List.getElem_range, List.getElem_drop, List.getElem_take]
    unfold oT
    rw [List.getD_eq_getElem?_getD, List.getElem?_eq_getElem (by omega)]
    rfl
theorem Tx.read {fs : Int} {fb : List S39} {t : List Int} (h : Tx fs fb t) {a : Int} {n : Int} (h0 : 0 ≤ a) (h1 : 0 ≤ n) : readR fs fb a n = ((t.take ((mn a (t.length : Int)).toNat + (mn n ((t.length : Int) - mn a (t.length : Int))).toNat)).drop (mn a (t.length : Int)).toNat, 0) := by
  have hs := h.sz
  by_cases c : fs ≤ a
  · rw [h.f.read_none h0 h1 c]
    have e1 : mn a (t.length : Int) = (t.length : Int) := by unfold mn; split <;> omega
    rw [e1, Int.toNat_natCast, List.drop_eq_nil_of_le (by rw [List.length_take]; omega)]
  · rw [h.f.read h0 h1 (by omega)]
    have e1 : mn a (t.length : Int) = a := by unfold mn; split <;> omega
    have e2 : mn n ((t.length : Int) - a) = min n (fs - a) := by rw [hs]; unfold mn; split <;> omega
    rw [e1, e2, part_is t a.toNat _ (by omega)]
theorem Tx.all {fs : Int} {fb : List S39} {t : List Int} (h : Tx fs fb t) : readR fs fb 0 5000 = (t, 0) := by
  have hs := h.sz
  have hh := h.f.high
  rw [h.read (by decide) (by decide)]
  have e1 : mn 0 (t.length : Int) = 0 := by unfold mn; split <;> omega
  have e2 : mn 5000 ((t.length : Int) - 0) = (t.length : Int) := by unfold mn; split <;> omega
  rw [e1, e2, Int.toNat_natCast, Int.toNat_zero, Nat.zero_add, List.take_length, List.drop_zero]
theorem text_exit {x0 : List S49} {off n : Int} (h1 : -9223372036854775808 ≤ off ∧ off ≤ 9223372036854775807) (h2 : -9223372036854775808 ≤ n ∧ n ≤ 9223372036854775807) {fs : Int} {fb : List S39} {t : List Int} (h : Tx fs fb t) {i : Int} : Ev (fun k => undercroftlaw07_FileText.j1 k x0 off n t i false fs fb) true := by
  have hs := h.sz
  have hh := h.f.high
  have hsb := sameBytes_ev t (by omega)
  obtain ⟨pa, pe, hp⟩ : ∃ pa pe, readR fs fb off n = (pa, pe) := ⟨_, _, rfl⟩
  refine Ev.step (f := fun k => (undercroftplain_SameBytes.f k t t).bind fun t188 => (undercroftlaw07_FileText.j6 k off n t pa pe (!t188))) (fun k => ?_) (Ev.bind hsb ?_)
  · simp only [undercroftlaw07_FileText.j1]
    rw [if_neg (by decide)]
    simp only [file_Read.f, undercroftlaw07_num.f, Option.bind_some, h.all, hp]
    rw [if_pos trivial, if_pos hs.symm]
  by_cases c : off < 0 ∨ n < 0
  · have e1 : readR fs fb off n = ([], 4) := by
      unfold readR
      rw [if_pos h.f.check, if_pos c]
    rw [hp] at e1
    injection e1 with e2 e3
    subst e2 e3
    refine Ev.step (f := fun k => undercroftlaw07_FileText.j7 k off n t [] 4 true) (fun k => ?_) ?_
    · simp only [undercroftlaw07_FileText.j6]
      rw [if_neg (by decide)]
      by_cases c1 : off < 0
      · rw [if_pos c1]
      · rw [if_neg c1, decide_eq_true (by omega)]
    · refine Ev.step (f := fun _ => some true) (fun k => ?_) (Ev.now _)
      simp only [undercroftlaw07_FileText.j7, undercroftlaw07_num.f, Option.bind_some]
      rfl
  · have e1 := h.read (a := off) (n := n) (by omega) (by omega)
    rw [hp] at e1
    injection e1 with e2 e3
    subst e2 e3
    obtain ⟨a, ha⟩ : ∃ a, a = mn off (t.length : Int) := ⟨_, rfl⟩
    obtain ⟨m, hm⟩ : ∃ m, m = mn n ((t.length : Int) - a) := ⟨_, rfl⟩
    have ha2 : 0 ≤ a ∧ a ≤ (t.length : Int) := by rw [ha]; unfold mn; split <;> omega
    have hm2 : 0 ≤ m ∧ m ≤ (t.length : Int) - a := by rw [hm]; unfold mn; split <;> omega
    rw [← ha, ← hm]
    have hs2 := sameBytes_ev ((t.take (a.toNat + m.toNat)).drop a.toNat) (by rw [List.length_drop, List.length_take]; omega)
    refine Ev.step (f := fun k => undercroftlaw07_FileText.j7 k off n t ((t.take (a.toNat + m.toNat)).drop a.toNat) 0 false) (fun k => ?_) ?_
    · simp only [undercroftlaw07_FileText.j6]
      rw [if_neg (by decide), if_neg (by omega), decide_eq_false (by omega)]
    · refine Ev.step (f := fun k => (undercroftplain_SameBytes.f k ((t.take (a.toNat + m.toNat)).drop a.toNat) ((t.take (a.toNat + m.toNat)).drop a.toNat)).bind fun t195 => some t195) (fun k => ?_) (Ev.bind hs2 (Ev.now true))
      simp only [undercroftlaw07_FileText.j7, undercroftlaw07_num.f, Option.bind_some]
      have w1 : wrap64 ((t.length : Int) - a) = (t.length : Int) - a := w_id (by omega) (by omega)
      rw [if_neg (by decide), if_pos trivial, ← ha, w1, ← hm]
      have w2 : wrap64 (a + m) = a + m := w_id (by omega) (by omega)
      have w3 : (a + m).toNat = a.toNat + m.toNat := by omega
      rw [w2, if_pos (by omega), if_pos (by omega), if_pos (by omega), w3]
theorem text_pad {x0 : List S49} {off n : Int} {i : Nat} (hi : i < x0.length) {fs : Int} {fb : List S39} {r : Bool} {g : Nat} (hg : g ≤ 2432) (hst : (rd_T49 x0 (i : Int)).f1 = (g : Int)) : ∀ (d : Nat) (t : List Int), g - t.length = d →
    (∀ t' : List Int, t'.length = max t.length g → (∀ p, oT t' p = oT t p) → Ev (fun k => undercroftlaw07_FileText.l1 k x0 off n t' (i : Int) fs fb) r) → Ev (fun k => undercroftlaw07_FileText.l1 k x0 off n t (i : Int) fs fb) r := by
  intro d
  induction d with
  | zero => exact fun t hd K => K t (by omega) (fun _ => rfl)
  | succ d ih =>
    intro t hd K
    refine Ev.step (f := fun k => undercroftlaw07_FileText.l1 k x0 off n (t ++ [0]) (i : Int) fs fb) (fun k => ?_) (ih (t ++ [0]) (by rw [List.length_append, List.length_singleton]; omega) (fun t' h1 h2 => K t' ?_ (fun p => by rw [h2, oT_snoc])))
    · simp only [undercroftlaw07_FileText.l1]
      rw [if_pos (by omega), if_pos (by omega), hst, if_pos (by omega), if_pos (by omega)]
    · rw [h1, List.length_append, List.length_singleton]
      omega
theorem wr_add {a b : Nat} (h : a + b ≤ 4864) : wrap64 ((a : Int) + (b : Int)) = ((a + b : Nat) : Int) := by rw [w_id (by omega) (by omega)]; omega
theorem wr_one {a : Nat} (h : a ≤ 4398046510976) : wrap64 ((a : Int) + 1) = ((a + 1 : Nat) : Int) := by rw [w_id (by omega) (by omega)]; omega
theorem len_put {L0 g j : Nat} {t : List Int} (hl : t.length = max L0 (g + j)) (c : g + j < t.length) : t.length = max L0 (g + (j + 1)) := by omega
theorem len_app {L0 g j : Nat} {t : List Int} (hl : t.length = max L0 (g + j)) (c : ¬ g + j < t.length) : t.length + 1 = max L0 (g + (j + 1)) := by omega
set_option maxHeartbeats 800000 in
theorem text_put {x0 : List S49} {off n : Int} {i : Nat} (hi : i < x0.length) {fs : Int} {fb : List S39} {r : Bool} {g : Nat} {ds : List Int} (hr : g + ds.length ≤ 2432) (hst : (rd_T49 x0 (i : Int)).f1 = (g : Int)) (hsd : (rd_T49 x0 (i : Int)).f2 = ds) {L0 : Nat} {o : Nat → Int} (hL : g ≤ L0) (hL2 : L0 ≤ 2432)
    (K : ∀ t' : List Int, t'.length = max L0 (g + ds.length) → (∀ p, oT t' p = putO o g ds p) → Ev (fun k => undercroftlaw07_FileText.l0 k x0 off n t' (wrap64 ((i : Int) + 1)) fs fb) r) : ∀ (d j : Nat) (t : List Int), ds.length - j = d → j ≤ ds.length → t.length = max L0 (g + j) → (∀ p, oT t p = putO o g (ds.take j) p) →
    Ev (fun k => undercroftlaw07_FileText.l2 k x0 off n t (i : Int) (j : Int) fs fb) r := by
  intro d
  induction d with
  | zero =>
    intro j t hd hj hl ho
    have he : j = ds.length := by omega
    subst he
    refine Ev.step (fun k => ?_) (K t hl (fun p => by rw [ho p, List.take_length]))
    simp only [undercroftlaw07_FileText.l2]
    rw [if_pos (by omega), if_pos (by omega), hsd, if_neg (by omega)]
  | succ d ih =>
    intro j t hd hj hl ho
    have hlt : j < ds.length := by omega
    have b1 : g + j ≤ 4864 := by omega
    have b2 : j ≤ 4398046510976 := by omega
    have b3 : ds.length - (j + 1) = d := by omega
    have b4 : j + 1 ≤ ds.length := hlt
    have b5 : t.length < 140737488355328 := by omega
    have b6 : ¬ g + j < t.length → g + j = t.length := by omega
    have E1 := Aside0.mk (wr_add b1)
    have E2 := Aside0.mk (wr_one b2)
    have i1 : (0 : Int) ≤ (i : Int) := Int.natCast_nonneg _
    have i2 : (i : Int) < (x0.length : Int) := Int.ofNat_lt.2 hi
    have i3 : (j : Int) < (ds.length : Int) := Int.ofNat_lt.2 hlt
    have i4 : (0 : Int) ≤ (j : Int) := Int.natCast_nonneg _
    have i5 : (0 : Int) ≤ ((g + j : Nat) : Int) := Int.natCast_nonneg _
    by_cases c : g + j < t.length
    · refine Ev.step (f := fun k => undercroftlaw07_FileText.l2 k x0 off n (t.set (g + j) ds[j]) (i : Int) ((j + 1 : Nat) : Int) fs fb) (fun k => ?_) (ih (j + 1) (t.set (g + j) ds[j]) b3 b4 (by rw [List.length_set]; exact len_put hl c) (fun p => by rw [oT_set _ _ _ _ c, putO_next o g ds j hlt, ho p]))
      simp only [undercroftlaw07_FileText.l2]
      rw [if_pos i1, if_pos i2, hsd, hst, E1.out, E2.out, if_pos i3, if_pos (Int.ofNat_lt.2 c), if_pos i4, if_pos i5, rd_nat ds j hlt, Int.toNat_natCast]
    · refine Ev.step (f := fun k => undercroftlaw07_FileText.l2 k x0 off n (t ++ [ds[j]]) (i : Int) ((j + 1 : Nat) : Int) fs fb) (fun k => ?_) (ih (j + 1) (t ++ [ds[j]]) b3 b4 (by rw [List.length_append, List.length_singleton]; exact len_app hl c) (fun p => ?_))
      · simp only [undercroftlaw07_FileText.l2]
        rw [if_pos i1, if_pos i2, hsd, hst, E1.out, E2.out, if_pos i3, if_neg (fun h => c (Int.ofNat_lt.1 h)), if_pos i4, if_pos b5, rd_nat ds j hlt]
      · have hgl : g + j = t.length := b6 c
        rw [putO_next o g ds j hlt, ← ho p, hgl]
        unfold oT
        rw [List.getD_eq_getElem?_getD, List.getD_eq_getElem?_getD, List.getElem?_append]
        by_cases c2 : p < t.length
        · rw [if_pos c2, if_neg (by omega)]
        · rw [if_neg c2]
          by_cases c3 : p = t.length
          · rw [if_pos c3, c3, Nat.sub_self]
            rfl
          · rw [if_neg c3, List.getElem?_eq_none (by omega : t.length ≤ p), List.getElem?_eq_none (by rw [List.length_singleton]; omega)]
theorem rd49 (l : List S49) (j : Nat) (h : j < l.length) : rd_T49 l (j : Int) = l[j] := by
  unfold rd_T49
  rw [Int.toNat_natCast, List.getD_eq_getElem?_getD, List.getElem?_eq_getElem h]
  rfl
set_option maxHeartbeats 3200000 in
theorem text_loop {x0 : List S49} (hx : x0.length ≤ 4398046510976) (hok : ∀ y ∈ x0, (-9223372036854775808 ≤ y.f1 ∧ y.f1 ≤ 9223372036854775807) ∧ y.f2.length ≤ 140737488351232) {off n : Int} (h1 : -9223372036854775808 ≤ off ∧ off ≤ 9223372036854775807) (h2 : -9223372036854775808 ≤ n ∧ n ≤ 9223372036854775807) : ∀ (d i : Nat) (fs : Int) (fb : List S39) (t : List Int), x0.length - i = d → i ≤ x0.length → Tx fs fb t →
    Ev (fun k => undercroftlaw07_FileText.l0 k x0 off n t (i : Int) fs fb) true := by
  intro d
  induction d with
  | zero =>
    intro i fs fb t hd hi h
    refine Ev.step (f := fun k => undercroftlaw07_FileText.j1 k x0 off n t (i : Int) false fs fb) (fun k => ?_) (text_exit h1 h2 h)
    simp only [undercroftlaw07_FileText.l0]
    rw [if_neg (by omega)]
  | succ d ih =>
    intro i fs fb t hd hi h
    have hlt : i < x0.length := by omega
    refine Ev.step (f := fun k => undercroftlaw07_FileText.j1 k x0 off n t (i : Int) (decide ((i : Int) < 60)) fs fb) (fun k => ?_) ?_
    · simp only [undercroftlaw07_FileText.l0]
      rw [if_pos (by omega)]
    by_cases c60 : (i : Int) < 60
    case neg =>
      rw [decide_eq_false c60]
      exact text_exit h1 h2 h
    rw [decide_eq_true c60]
    have HW := Aside0.mk (wr_one (a := i) (by omega))
    obtain ⟨hoff, hdl⟩ := hok _ (List.getElem_mem hlt)
    have hrd := rd49 x0 i hlt
    obtain ⟨y, hy⟩ : ∃ y, y = x0[i] := ⟨_, rfl⟩
    rw [← hy] at hoff hdl hrd
    have hs := h.sz
    have hh := h.f.high
    have next : ∀ fs' fb' t', Tx fs' fb' t' → Ev (fun k => undercroftlaw07_FileText.l0 k x0 off n t' (wrap64 ((i : Int) + 1)) fs' fb') true := fun fs' fb' t' h' => by
      rw [HW.out]
      exact ih (i + 1) fs' fb' t' (by omega) (by omega) h'
    by_cases cw : y.f0 = 0
    · -- a write
      obtain ⟨g1, g2, ge, hg⟩ : ∃ g1 g2 ge, writeR fs fb y.f1 y.f2 = (g1, g2, ge) := ⟨_, _, _, rfl⟩
      refine Ev.step (f := fun k => undercroftlaw07_FileText.j2 k x0 off n t (i : Int) ge fs fb g1 g2) (fun k => ?_) ?_
      · simp only [undercroftlaw07_FileText.j1]
        rw [if_pos trivial, if_pos (by omega), if_pos (by omega), hrd, if_pos cw]
        simp only [file_Write.f, Option.bind_some, hg]
      by_cases cn : y.f1 < 0
      · have e1 : writeR fs fb y.f1 y.f2 = (0, [], 4) := by unfold writeR; rw [if_pos h.f.check, if_pos cn]
        rw [hg] at e1
        injection e1 with e2 e3
        injection e3 with e3 e4
        subst e4
        refine Ev.step (fun k => ?_) (next _ _ _ h)
        simp only [undercroftlaw07_FileText.j2, undercroftlaw07_num.f, Option.bind_some]
        rw [if_neg (by decide), if_pos (by omega), if_pos (by omega), hrd, if_neg (by omega)]
      obtain ⟨g, hgn⟩ : ∃ g : Nat, y.f1 = (g : Int) := ⟨y.f1.toNat, by omega⟩
      by_cases c0 : y.f2 = []
      · have e1 : writeR fs fb y.f1 y.f2 = (fs, fb, 0) := by rw [c0]; exact h.f.write_none (by omega)
        rw [hg] at e1
        injection e1 with e2 e3
        injection e3 with e3 e4
        subst e2 e3 e4
        refine Ev.step (f := fun k => undercroftlaw07_FileText.j3 k x0 off n t (i : Int) true g1 g2) (fun k => ?_) ?_
        · simp only [undercroftlaw07_FileText.j2, undercroftlaw07_num.f, Option.bind_some]
          rw [if_pos trivial, if_pos (by omega), if_pos (by omega), hrd, if_pos cw, c0]
          rfl
        · refine Ev.step (fun k => ?_) (next _ _ _ h)
          simp only [undercroftlaw07_FileText.j3]
          rw [if_pos trivial]
      have hd0 : 0 < y.f2.length := List.length_pos_iff.2 c0
      by_cases cb : g + y.f2.length ≤ 2432
      · obtain ⟨l', e1, f1⟩ := h.f.write (off := g) (d := y.f2) hd0 cb
        rw [← hgn, hg] at e1
        injection e1 with e2 e3
        injection e3 with e3 e4
        subst e2 e3 e4
        refine Ev.step (f := fun k => undercroftlaw07_FileText.j3 k x0 off n t (i : Int) false (max fs ((g + y.f2.length : Nat) : Int)) g2) (fun k => ?_) ?_
        · simp only [undercroftlaw07_FileText.j2, undercroftlaw07_num.f, Option.bind_some]
          rw [if_pos trivial, if_pos (by omega), if_pos (by omega), hrd, if_pos cw, show ((y.f2.length : Int) == 0) = false from beq_eq_false_iff_ne.2 (by omega)]
        refine Ev.step (f := fun k => undercroftlaw07_FileText.l1 k x0 off n t (i : Int) (max fs ((g + y.f2.length : Nat) : Int)) g2) (fun k => ?_) ?_
        · simp only [undercroftlaw07_FileText.j3]
          rw [if_neg (by decide)]
        refine text_pad hlt (g := g) (by omega) (by rw [hrd, hgn]) _ t rfl (fun t' hl' ho' => ?_)
        refine Ev.step (f := fun k => undercroftlaw07_FileText.l2 k x0 off n t' (i : Int) ((0 : Nat) : Int) (max fs ((g + y.f2.length : Nat) : Int)) g2) (fun k => ?_) ?_
        · simp only [undercroftlaw07_FileText.l1]
          rw [if_pos (by omega), if_pos (by omega), hrd, hgn, if_neg (by omega), if_pos cw]
          rfl
        refine text_put hlt (g := g) (ds := y.f2) cb (by rw [hrd, hgn]) (by rw [hrd]) (L0 := t'.length) (o := oT t) (by omega) (by omega) (fun t2 hl2 ho2 => next _ _ _ ⟨f1.congr (fun p => (ho2 p).symm), ?_⟩) y.f2.length 0 t' rfl (Nat.zero_le _) (by omega) (fun p => by rw [List.take_zero, putO_nil, ho' p])
        rw [hl2]
        omega
      · have e1 : writeR fs fb y.f1 y.f2 = (0, [], 107) := by unfold writeR; rw [if_pos h.f.check, if_neg cn, if_neg (by omega), if_pos (by omega)]
        rw [hg] at e1
        injection e1 with e2 e3
        injection e3 with e3 e4
        subst e4
        refine Ev.step (fun k => ?_) (next _ _ _ h)
        simp only [undercroftlaw07_FileText.j2, undercroftlaw07_num.f, Option.bind_some]
        rw [if_neg (by decide), if_pos (by omega), if_pos (by omega), hrd, if_pos (by omega)]
        by_cases c5 : y.f1 ≤ 2432
        · rw [if_pos c5, if_pos cw, if_neg (by rw [w_id (by omega) (by omega)]; omega)]
        · rw [if_neg c5]
  -- a cut
    · obtain ⟨g1, g2, ge, hg⟩ : ∃ g1 g2 ge, truncR fs fb y.f1 = (g1, g2, ge) := ⟨_, _, _, rfl⟩
      refine Ev.step (f := fun k => undercroftlaw07_FileText.j2 k x0 off n t (i : Int) ge fs fb g1 g2) (fun k => ?_) ?_
      · simp only [undercroftlaw07_FileText.j1]
        rw [if_pos trivial, if_pos (by omega), if_pos (by omega), hrd, if_neg cw]
        simp only [file_Truncate.f, Option.bind_some, hg]
      by_cases cn : y.f1 < 0
      · have e1 : truncR fs fb y.f1 = (0, [], 4) := by unfold truncR; rw [if_pos h.f.check, if_pos cn]
        rw [hg] at e1
        injection e1 with e2 e3
        injection e3 with e3 e4
        subst e4
        refine Ev.step (fun k => ?_) (next _ _ _ h)
        simp only [undercroftlaw07_FileText.j2, undercroftlaw07_num.f, Option.bind_some]
        rw [if_neg (by decide), if_pos (by omega), if_pos (by omega), hrd, if_neg (by omega)]
      by_cases cb : y.f1 ≤ 2432
      · obtain ⟨l', e1, f1⟩ := h.f.cut (size := y.f1) (by omega) cb
        rw [hg] at e1
        injection e1 with e2 e3
        injection e3 with e3 e4
        subst e2 e3 e4
        obtain ⟨g, hgn⟩ : ∃ g : Nat, y.f1 = (g : Int) := ⟨y.f1.toNat, by omega⟩
        rw [hgn] at f1
        rw [hgn]
        refine Ev.step (f := fun k => undercroftlaw07_FileText.j3 k x0 off n t (i : Int) false (g : Int) g2) (fun k => ?_) ?_
        · simp only [undercroftlaw07_FileText.j2, undercroftlaw07_num.f, Option.bind_some]
          rw [if_pos trivial, if_pos (by omega), if_pos (by omega), hrd, if_neg cw]
        refine Ev.step (f := fun k => undercroftlaw07_FileText.l1 k x0 off n t (i : Int) (g : Int) g2) (fun k => ?_) ?_
        · simp only [undercroftlaw07_FileText.j3]
          rw [if_neg (by decide)]
        refine text_pad hlt (g := g) (by omega) (by rw [hrd, hgn]) _ t rfl (fun t' hl' ho' => ?_)
        refine Ev.step (fun k => ?_) (next (g : Int) g2 (t'.take g) ⟨f1.congr (fun p => ?_), ?_⟩)
        · simp only [undercroftlaw07_FileText.l1]
          rw [if_pos (by omega), if_pos (by omega), hrd, hgn, if_neg (by omega), if_neg cw, if_pos (by omega), if_pos (by omega), Int.toNat_natCast, copyBytes_is _ (by rw [List.length_take]; omega)]
          rfl
        · by_cases c6 : (p : Int) < (g : Int)
          · rw [if_pos c6]
            show oT t p = oT (t'.take g) p
            rw [← ho' p]
            exact (getD_take (by omega)).symm
          · rw [if_neg c6]
            show 0 = oT (t'.take g) p
            unfold oT
            rw [List.getD_eq_getElem?_getD, List.getElem?_eq_none (by rw [List.length_take]; omega)]
            rfl
        · rw [List.length_take]
          omega
      · have e1 : truncR fs fb y.f1 = (0, [], 107) := by unfold truncR; rw [if_pos h.f.check, if_neg cn, if_pos (by omega)]
        rw [hg] at e1
        injection e1 with e2 e3
        injection e3 with e3 e4
        subst e4
        refine Ev.step (fun k => ?_) (next _ _ _ h)
        simp only [undercroftlaw07_FileText.j2, undercroftlaw07_num.f, Option.bind_some]
        rw [if_neg (by decide), if_pos (by omega), if_pos (by omega), hrd, if_pos (by omega), if_neg cb]
theorem FileText (l0 : List S49) (l1 : Int) (l2 : Int) (h0 : (l0.length * 40 ≤ 140737488351232 ∧ l0.length ≤ maxLen ∧ ∀ y47 ∈ l0, ok49 y47)) (h1 : (Lit.int .i64 l1).wf = true) (h2 : (Lit.int .i64 l2).wf = true) : ∃ k, undercroftlaw07_FileText.f k l0 l1 l2 = some true := by
  refine Ev.rounds (g := fun k => undercroftlaw07_FileText.f k l0 l1 l2) ?_
  have hs : Tx 0 [] [] := ⟨isF_none.congr (fun _ => rfl), rfl⟩
  have := text_loop (x0 := l0) (by omega) (fun y hy => by
    obtain ⟨_, q1, q2⟩ := h0.2.2 y hy
    exact ⟨wf_i64 q1, by have := q2.1; omega⟩) (wf_i64 h1) (wf_i64 h2) l0.length 0 0 [] [] (by omega) (Nat.zero_le _) hs
  exact Ev.congr (fun k => rfl) this

end Go.Proofs.YtomebhohkonhlaaDoor.Pure
