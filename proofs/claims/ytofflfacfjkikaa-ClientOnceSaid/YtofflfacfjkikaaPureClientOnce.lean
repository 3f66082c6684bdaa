/- ONCE: of whatever requests, one behind the other: each is new at most once; what was told last is told again: for every list of requests. -/
import Derived.Test.YtofflfacfjkikaaPOncx
import Derived.Test.YtofflfacfjkikaaInClientOnce
namespace Go.Proofs.Ytofflfacfjkikaa.Pure
open Go.RowKit Go.Proofs.Ytofflfacfjkikaa.POnc Go.Proofs.YtofflfacfjkikaaW.PrintWords Go.Proofs.YtofflfacfjkikaaW.PrintLast Go.Proofs.YtofflfacfjkikaaW.PrintMore
set_option linter.unusedVariables false
set_option linter.unusedSimpArgs false

theorem w_id {x : Int} (h0 : -9223372036854775808 ≤ x) (h1 : x ≤ 9223372036854775807) : wrap64 x = x := by unfold wrap64; omega
theorem wf_i64 {a : Int} (h : (Lit.int .i64 a).wf = true) : -9223372036854775808 ≤ a ∧ a ≤ 9223372036854775807 := by
  simpa [Lit.wf, IntKind.min, IntKind.max, IntKind.signed, IntKind.bits] using h
theorem wf_u8 {a : Int} (h : (Lit.int .u8 a).wf = true) : 0 ≤ a ∧ a ≤ 255 := by
  simpa [Lit.wf, IntKind.min, IntKind.max, IntKind.signed, IntKind.bits] using h
theorem wf_u32 {a : Int} (h : (Lit.int .u32 a).wf = true) : 0 ≤ a ∧ a ≤ 4294967295 := by
  simpa [Lit.wf, IntKind.min, IntKind.max, IntKind.signed, IntKind.bits] using h
theorem wf_u64 {a : Int} (h : (Lit.int .u64 a).wf = true) : 0 ≤ a ∧ a ≤ 18446744073709551615 := by
  simpa [Lit.wf, IntKind.min, IntKind.max, IntKind.signed, IntKind.bits] using h
/-- All are octets. -/
def Oct (l : List Int) : Prop := ∀ x ∈ l, 0 ≤ x ∧ x ≤ 255
theorem Oct.of_wf {l : List Int} (h : ∀ x ∈ l, (Lit.int .u8 x).wf = true) : Oct l := fun x hx => wf_u8 (h x hx)
theorem Oct.nil : Oct [] := fun _ h => by cases h
theorem Oct.append {a b : List Int} (ha : Oct a) (hb : Oct b) : Oct (a ++ b) := fun x hx => (List.mem_append.1 hx).elim (ha x) (hb x)
theorem Oct.take {a : List Int} (ha : Oct a) (n : Nat) : Oct (a.take n) := fun x hx => ha x (List.mem_of_mem_take hx)
theorem Oct.drop {a : List Int} (ha : Oct a) (n : Nat) : Oct (a.drop n) := fun x hx => ha x (List.mem_of_mem_drop hx)
theorem rd_nat (l : List Int) (k : Nat) (h : k < l.length) : rd l (k : Int) = l[k] := by
  unfold rd
  simp [List.getD_eq_getElem?_getD, h]

abbrev SC := S51
/-- The reference's row for the program, and back. -/
theorem rdC (l : List SC) (i : Nat) (h : i < l.length) : rd_T51 l (i : Int) = l[i] := by
  unfold rd_T51
  rw [Int.toNat_natCast, List.getD_eq_getElem?_getD, List.getElem?_eq_getElem h]; rfl
/-- May a session ask under a number? -/
def whoOk (s n : Int) : Bool := decide (1 ≤ s) && decide (s ≤ 2147483647) && decide (1 ≤ n) && decide (n ≤ 1099511627776)
theorem may_is (s n : Int) : client_may.f s n = some (whoOk s n) := by
  unfold client_may.f whoOk
  by_cases h1 : s ≥ 1
  · rw [if_pos h1]
    by_cases h2 : s ≤ 2147483647
    · rw [if_pos h2]
      by_cases h3 : n ≥ 1
      · rw [if_pos h3]; simp [show (1 : Int) ≤ s from h1, h2, show (1 : Int) ≤ n from h3]
      · rw [if_neg h3]; simp [show ¬ (1 : Int) ≤ n from h3]
    · rw [if_neg h2]; simp [h2]
  · rw [if_neg h1]; simp [show ¬ (1 : Int) ≤ s from h1]
def stepOk (l : List SC) (i : Nat) : Bool := whoOk (l.getD i z51).f0 (l.getD i z51).f1 && decide ((l.getD i z51).f2.length ≤ 4096) && (i == 0 || decide ((l.getD (i - 1) z51).f0 < (l.getD i z51).f0))
theorem getD_lt (l : List SC) (i : Nat) (h : i < l.length) : l.getD i z51 = l[i] := by
  simp [List.getD_eq_getElem?_getD, h]
theorem clcheck_loop (l : List SC) (hl : l.length ≤ 140737488351232) : ∀ (d i : Nat), i + d = l.length → Ev (fun k => client_Check.l0 k l l (l.length : Int) (i : Int)) (if (List.range' i d).all (fun i => decide (i < 64) && stepOk l i) = true then 0 else 9) := by
  intro d
  induction d with
  | zero =>
    intro i hi
    refine Ev.step (f := fun _ => some 0) (fun k => ?_) (by simp; exact Ev.now _)
    simp only [client_Check.l0]
    rw [if_neg (by omega)]
  | succ d ih =>
    intro i hi
    rw [List.range'_succ, List.all_cons]
    have hlt : i < l.length := by omega
    have hx := rdC l i hlt
    have hst : stepOk l i = (whoOk l[i].f0 l[i].f1 && decide (l[i].f2.length ≤ 4096) && (i == 0 || decide ((l.getD (i - 1) z51).f0 < l[i].f0))) := by unfold stepOk; rw [getD_lt l i hlt]
    have bad : ∀ (b : Bool), b = false → Ev (fun _ => some (9 : Int)) (if (b && (List.range' (i + 1) d).all (fun i => decide (i < 64) && stepOk l i)) = true then 0 else 9) := fun b hb => by
      rw [hb, Bool.false_and, if_neg (by decide)]; exact Ev.now _
    by_cases h64 : i < 64
    case neg =>
      refine Ev.step (f := fun _ => some 9) (fun k => ?_) (bad _ (by simp [h64]))
      simp only [client_Check.l0]
      rw [if_pos (by omega), if_pos (by omega), if_pos (by omega), if_pos (by omega)]
    cases hw : whoOk l[i].f0 l[i].f1 with
    | false =>
      refine Ev.step (f := fun _ => some 9) (fun k => ?_) (bad _ (by rw [hst, hw]; simp))
      simp only [client_Check.l0]
      rw [if_pos (by omega), if_pos (by omega), if_pos (by omega), if_neg (by omega), hx, may_is, hw]; rfl
    | true =>
      by_cases hlen : l[i].f2.length ≤ 4096
      case neg =>
        refine Ev.step (f := fun _ => some 9) (fun k => ?_) (bad _ (by rw [hst, hw]; simp [hlen]))
        simp only [client_Check.l0]
        rw [if_pos (by omega), if_pos (by omega), if_pos (by omega), if_neg (by omega), hx, may_is, hw]
        simp only [Option.bind_some]
        rw [if_pos trivial, if_pos (by omega)]
      by_cases h0 : i = 0
      · subst h0
        have e : (decide (0 < 64) && stepOk l 0) = true := by rw [hst, hw]; simp [hlen]
        rw [e, Bool.true_and]
        refine Ev.step (f := fun k => client_Check.l0 k l l (l.length : Int) ((0 + 1 : Nat) : Int)) (fun k => ?_) (ih 1 (by omega))
        simp only [client_Check.l0]
        rw [if_pos (by omega), if_pos (by omega), if_pos (by omega), if_neg (by omega), hx, may_is, hw]
        simp only [Option.bind_some]
        rw [if_pos trivial, if_neg (by omega), if_neg (by omega), w_id (by omega) (by omega)]
        rfl
      · have hp := rdC l (i - 1) (by omega)
        have e1 : ((i - 1 : Nat) : Int) = (i : Int) - 1 := by omega
        rw [e1] at hp
        have hg := getD_lt l (i - 1) (by omega)
        by_cases hlt2 : l[i - 1].f0 < l[i].f0
        · have e : (decide (i < 64) && stepOk l i) = true := by rw [hst, hw, hg]; simp [hlen, h64, hlt2]
          rw [e, Bool.true_and]
          refine Ev.step (f := fun k => client_Check.l0 k l l (l.length : Int) ((i + 1 : Nat) : Int)) (fun k => ?_) (ih (i + 1) (by omega))
          simp only [client_Check.l0]
          rw [if_pos (by omega), if_pos (by omega), if_pos (by omega), if_neg (by omega), hx, may_is, hw]
          simp only [Option.bind_some]
          rw [if_pos trivial, if_neg (by omega), if_pos (by omega), w_id (by omega) (by omega), if_pos (by omega), if_pos (by omega), hp, if_neg (by omega), w_id (by omega) (by omega)]
          rfl
        · refine Ev.step (f := fun _ => some 9) (fun k => ?_) (bad _ (by rw [hst, hw, hg]; simp [hlen, h64, hlt2, h0]))
          simp only [client_Check.l0]
          rw [if_pos (by omega), if_pos (by omega), if_pos (by omega), if_neg (by omega), hx, may_is, hw]
          simp only [Option.bind_some]
          rw [if_pos trivial, if_neg (by omega), if_pos (by omega), w_id (by omega) (by omega), if_pos (by omega), if_pos (by omega), hp, if_pos (by omega)]
def Rising (l : List SC) : Prop := l.Pairwise (fun a b => a.f0 < b.f0)
/-- May a table be? -/
def Good (l : List SC) : Prop := l.length ≤ 64 ∧ (∀ x ∈ l, whoOk x.f0 x.f1 = true ∧ x.f2.length ≤ 4096) ∧ Rising l
instance (l : List SC) : Decidable (Good l) := by unfold Good Rising; infer_instance
def checkI (l : List SC) : Int := if Good l then 0 else 9
theorem good_iff (l : List SC) : (List.range l.length).all (fun i => decide (i < 64) && stepOk l i) = true ↔ Good l := by
  unfold Good Rising
  rw [List.all_eq_true]
  constructor
  · intro h
    have hs : ∀ i, i < l.length → i < 64 ∧ stepOk l i = true := fun i hi => by
      have := h i (List.mem_range.2 hi)
      simpa using this
    refine ⟨?_, fun x hx => ?_, ?_⟩
    · rcases Nat.lt_or_ge 64 l.length with h | h
      · have := (hs 64 h).1; omega
      · exact h
    · obtain ⟨i, hi, rfl⟩ := List.getElem_of_mem hx
      have := (hs i hi).2
      simp only [stepOk, Bool.and_eq_true, getD_lt l i hi, decide_eq_true_eq] at this
      exact ⟨this.1.1, this.1.2⟩
    · rw [List.pairwise_iff_getElem]
      have adj : ∀ i (hi : i + 1 < l.length), (l[i]'(by omega)).f0 < l[i + 1].f0 := fun i hi => by
        have := (hs (i + 1) hi).2
        simp only [stepOk, Bool.and_eq_true, getD_lt l (i + 1) hi, Nat.add_sub_cancel, getD_lt l i (by omega)] at this
        simpa using this.2
      intro i j hi hj hij
      obtain ⟨d, rfl⟩ : ∃ d, j = i + 1 + d := ⟨j - i - 1, by omega⟩
      clear hij
      induction d with
      | zero => exact adj i hj
      | succ d ih => exact Int.lt_trans (ih (by omega)) (adj (i + 1 + d) hj)
  · rintro ⟨h0, h1, h2⟩ i hi
    have hi := List.mem_range.1 hi
    have h64 : i < 64 := by omega
    simp only [stepOk, Bool.and_eq_true, getD_lt l i hi, decide_eq_true_eq]
    refine ⟨h64, ⟨(h1 _ (List.getElem_mem hi)).1, (h1 _ (List.getElem_mem hi)).2⟩, ?_⟩
    by_cases h0 : i = 0
    · simp [h0]
    · rw [getD_lt l (i - 1) (by omega)]
      have := (List.pairwise_iff_getElem.1 h2) (i - 1) i (by omega) hi (by omega)
      simp [this]
theorem checkI_is (l : List SC) : (if (List.range' 0 l.length).all (fun i => decide (i < 64) && stepOk l i) = true then (0 : Int) else 9) = checkI l := by
  unfold checkI
  have := good_iff l
  rw [List.range_eq_range'] at this
  by_cases h : (List.range' 0 l.length).all (fun i => decide (i < 64) && stepOk l i) = true
  · rw [if_pos h, if_pos (this.1 h)]
  · rw [if_neg h, if_neg (fun g => h (this.2 g))]
theorem cl_check (l : List SC) (hl : l.length ≤ 140737488351232) : Ev (fun k => client_Check.f k l) (checkI l) := by
  rw [← checkI_is l]
  exact clcheck_loop l hl l.length 0 (by omega)
/-- What lies ahead of a session, what does not, and what lies behind it. -/
def lo (l : List SC) (s : Int) : List SC := l.filter fun y => decide (y.f0 < s)
def hi (l : List SC) (s : Int) : List SC := l.filter fun y => !decide (y.f0 < s)
def fnd (l : List SC) (s : Int) : Option SC := l.find? fun y => y.f0 == s
theorem lo_cons (y : SC) (l : List SC) (s : Int) : lo (y :: l) s = if y.f0 < s then y :: lo l s else lo l s := by
  unfold lo; rw [List.filter_cons]; by_cases h : y.f0 < s <;> simp [h]
theorem hi_cons (y : SC) (l : List SC) (s : Int) : hi (y :: l) s = if y.f0 < s then hi l s else y :: hi l s := by
  unfold hi; rw [List.filter_cons]; by_cases h : y.f0 < s <;> simp [h]
theorem lo_none {l : List SC} {s : Int} (h : ∀ x ∈ l, s ≤ x.f0) : lo l s = [] := by
  unfold lo; rw [List.filter_eq_nil_iff]; intro x hx; have := h x hx; simp; omega
theorem hi_all {l : List SC} {s : Int} (h : ∀ x ∈ l, s ≤ x.f0) : hi l s = l := by
  unfold hi; rw [List.filter_eq_self]; intro x hx; have := h x hx; simp; omega
theorem fnd_none {l : List SC} {s : Int} (h : ∀ x ∈ l, s < x.f0) : fnd l s = none := by
  unfold fnd; rw [List.find?_eq_none]; intro x hx; have := h x hx; simp; omega
theorem fnd_cons (y : SC) (l : List SC) (s : Int) : fnd (y :: l) s = if y.f0 = s then some y else fnd l s := by
  unfold fnd
  rw [List.find?_cons]
  by_cases h : y.f0 = s
  · simp [h]
  · have e : (y.f0 == s) = false := by simpa using h
    rw [e, if_neg h]
theorem split_at (s : Int) : ∀ (l : List SC), Rising l → l = lo l s ++ hi l s
  | [], _ => rfl
  | y :: r, h => by
    have h' := List.pairwise_cons.1 h
    have ih := split_at s r h'.2
    rw [lo_cons, hi_cons]
    by_cases hy : y.f0 < s
    · rw [if_pos hy, if_pos hy, List.cons_append, ← ih]
    · rw [if_neg hy, if_neg hy]
      have ha : ∀ x ∈ r, s ≤ x.f0 := fun x hx => by have := h'.1 x hx; omega
      rw [lo_none ha, hi_all ha]; rfl
theorem hi_head (s : Int) : ∀ (l : List SC), Rising l → fnd l s = match hi l s with | [] => none | y :: _ => if y.f0 = s then some y else none
  | [], _ => rfl
  | y :: r, h => by
    have h' := List.pairwise_cons.1 h
    have ih := hi_head s r h'.2
    rw [fnd_cons, hi_cons]
    by_cases hy : y.f0 < s
    · rw [if_pos hy, if_neg (by omega), ih]
    · rw [if_neg hy]
      by_cases e : y.f0 = s
      · simp [e]
      · have ha : ∀ x ∈ r, s < x.f0 := fun x hx => by have := h'.1 x hx; omega
        rw [if_neg e, fnd_none ha]; simp [e]
def isI (l : List SC) (s : Int) : Bool := (fnd l s).isSome
/-- What a number is to a session; what it was told. -/
def whatI (l : List SC) (s n : Int) : Int := match fnd l s with | none => 0 | some y => if y.f1 = n then 1 else if y.f1 > n then 2 else 0
def replyI (l : List SC) (s n : Int) : List Int := match fnd l s with | none => [] | some y => if y.f1 = n then y.f2 else []
def behind (l : List SC) (s : Int) : List SC := if isI l s = true then (hi l s).drop 1 else hi l s
theorem bs_spec (p : Nat → Bool) (n : Nat) (hmono : ∀ a b, a ≤ b → b < n → p b = true → p a = true) : ∀ (f i j : Nat), i ≤ j → j ≤ n → j - i < f → (∀ h, h < i → p h = true) → (∀ h, j ≤ h → h < n → p h = false) →
    bsI p f i j ≤ n ∧ (∀ h, h < bsI p f i j → p h = true) ∧ (∀ h, bsI p f i j ≤ h → h < n → p h = false)
  | 0, _, _, _, _, hf, _, _ => by omega
  | f + 1, i, j, hij, hjn, hf, h1, h2 => by
    unfold bsI
    by_cases hlt : i < j
    · rw [if_pos hlt]
      by_cases hp : p ((i + j) / 2) = true
      · rw [if_pos hp]
        exact bs_spec p n hmono f _ j (by omega) hjn (by omega) (fun h hh => hmono h ((i + j) / 2) (by omega) (by omega) hp) h2
      · rw [if_neg hp]
        refine bs_spec p n hmono f i _ (by omega) (by omega) (by omega) h1 (fun h hh hn => ?_)
        cases hc : p h with
        | false => rfl
        | true => exact absurd (hmono ((i + j) / 2) h hh hn hc) hp
    · rw [if_neg hlt]
      exact ⟨by omega, h1, fun h hh hn => h2 h (by omega) hn⟩
theorem cmpI_neg (a b : Int) : decide (cmpI a b < 0) = decide (a < b) := by
  unfold cmpI
  by_cases h : a < b
  · simp [h]
  · by_cases h2 : a > b <;> simp [h, h2]
theorem cmpI_zero (a b : Int) : (cmpI a b == 0) = (a == b) := by
  unfold cmpI
  by_cases h : a < b
  · have : a ≠ b := by omega
    simp [h, this]
  · by_cases h2 : a > b
    · have : a ≠ b := by omega
      simp [h, h2, this]
    · have : a = b := by omega
      simp [this]
theorem find_is (l : List SC) (s n : Int) (hg : Good l) : client_find.f l s n = some (((lo l s).length : Int), isI l s, whatI l s n) := by
  have hs := split_at s l hg.2.2
  have hlen : l.length = (lo l s).length + (hi l s).length := by rw [← List.length_append, ← hs]
  have hp : ∀ h, h < l.length → lessAt l s h = decide (h < (lo l s).length) := fun h hh => by
    unfold lessAt
    rw [rdC l h hh, cmpI_neg]
    by_cases hlt : h < (lo l s).length
    · have e : l[h] = (lo l s)[h] := by rw [List.getElem_of_eq hs, List.getElem_append_left hlt]
      have hm : l[h] ∈ lo l s := by rw [e]; exact List.getElem_mem hlt
      have := (List.mem_filter.1 hm).2
      rw [this]; simp [hlt]
    · have e : l[h] = (hi l s)[h - (lo l s).length]'(by omega) := by rw [List.getElem_of_eq hs, List.getElem_append_right (by omega)]
      have hm : l[h] ∈ hi l s := by rw [e]; exact List.getElem_mem _
      have := (List.mem_filter.1 hm).2
      have e2 : decide (l[h].f0 < s) = false := by simpa using this
      rw [e2]; simp [hlt]
  have hb := bs_spec (lessAt l s) l.length (fun a b hab hbn hpb => by
    rw [hp b hbn] at hpb
    rw [hp a (by omega)]
    have := of_decide_eq_true hpb
    exact decide_eq_true (by omega)) (l.length + 1) 0 l.length (by omega) (by omega) (by omega) (fun h hh => by omega) (fun h h1 h2 => by omega)
  have hR : bsI (lessAt l s) (l.length + 1) 0 l.length = (lo l s).length := by
    obtain ⟨b1, b2, b3⟩ := hb
    rcases Nat.lt_trichotomy (bsI (lessAt l s) (l.length + 1) 0 l.length) (lo l s).length with h | h | h
    · have := b3 _ (Nat.le_refl _) (by omega)
      rw [hp _ (by omega)] at this
      have := of_decide_eq_false this
      omega
    · exact h
    · have := b2 _ h
      rw [hp _ (by omega)] at this
      have := of_decide_eq_true this
      omega
  have hf := hi_head s l hg.2.2
  unfold client_find.f
  rw [if_pos (by have := hg.1; omega), hR]
  have hfa : foundAt l s (lo l s).length = isI l s := by
    unfold foundAt isI
    cases hh : hi l s with
    | nil => rw [hh] at hlen hf; rw [if_neg (by simp at hlen; omega), hf]; rfl
    | cons y r =>
      rw [hh] at hlen hf
      have hlt : (lo l s).length < l.length := by simp at hlen; omega
      have e : l[(lo l s).length] = y := by rw [List.getElem_of_eq hs, List.getElem_append_right (by omega)]; simp [hh]
      rw [if_pos hlt, rdC l _ hlt, e, cmpI_zero, hf]
      by_cases h : y.f0 = s <;> simp [h]
  rw [hfa]
  congr 3
  unfold isI whatI
  cases hh : hi l s with
  | nil => rw [hh] at hf; rw [hf]; rfl
  | cons y r =>
    rw [hh] at hlen hf
    have hlt : (lo l s).length < l.length := by simp at hlen; omega
    have e : l[(lo l s).length] = y := by rw [List.getElem_of_eq hs, List.getElem_append_right (by omega)]; simp [hh]
    rw [rdC l _ hlt, e, hf]
    by_cases h : y.f0 = s <;> simp [h]
def askI (l : List SC) (s n : Int) : Int × List Int × Int := if Good l then (if whoOk s n = true then (whatI l s n, replyI l s n, 0) else (0, [], 4)) else (0, [], 9)
def doneI (l : List SC) (s n : Int) (r : List Int) : List SC × Int := if Good l then (if whoOk s n = true then (if r.length ≤ 4096 then (if whatI l s n = 0 then (if isI l s = false ∧ 64 ≤ l.length then ([], 51) else (lo l s ++ [⟨s, n, r⟩] ++ behind l s, 0)) else ([], 81)) else ([], 5)) else ([], 4)) else ([], 9)
theorem asked_is (l : List SC) (s n : Int) (hl : l.length ≤ 140737488351232) : Ev (fun k => client_asked.f k l s n) (if Good l then (if whoOk s n = true then 0 else 4) else 9) := by
  unfold client_asked.f
  refine Ev.bind (cl_check l hl) ?_
  unfold checkI
  by_cases hg : Good l
  · simp only [if_pos hg, if_true]
    rw [may_is]
    simp only [Option.bind_some]
    cases whoOk s n <;> exact Ev.now _
  · simp only [if_neg hg]
    rw [if_neg (by decide)]
    exact Ev.now _
theorem at_lo {l : List SC} {s : Int} (hg : Rising l) {y : SC} (hy : fnd l s = some y) : ∃ h : (lo l s).length < l.length, l[(lo l s).length] = y := by
  have hs := split_at s l hg
  have hf := hi_head s l hg
  have hlen : l.length = (lo l s).length + (hi l s).length := by rw [← List.length_append, ← hs]
  cases hh : hi l s with
  | nil => rw [hh, hy] at hf; cases hf
  | cons z r =>
    rw [hh, hy] at hf
    rw [hh] at hlen
    have hlt : (lo l s).length < l.length := by simp at hlen; omega
    have e : l[(lo l s).length] = z := by rw [List.getElem_of_eq hs, List.getElem_append_right (by omega)]; simp [hh]
    by_cases h : z.f0 = s
    · simp [h] at hf
      exact ⟨hlt, by rw [e, hf]⟩
    · simp [h] at hf
theorem fnd_mem {l : List SC} {s : Int} {y : SC} (h : fnd l s = some y) : y ∈ l ∧ y.f0 = s := by
  unfold fnd at h
  exact ⟨List.mem_of_find?_eq_some h, by have := List.find?_some h; simpa using this⟩
theorem cl_ask (l : List SC) (s n : Int) (hl : l.length ≤ 140737488351232) : Ev (fun k => client_Ask.f k l s n) (askI l s n) := by
  unfold client_Ask.f
  refine Ev.bind (asked_is l s n hl) ?_
  unfold askI
  by_cases hg : Good l
  · simp only [if_pos hg]
    cases hw : whoOk s n with
    | false => simp; exact Ev.now _
    | true =>
      simp only [if_true]
      rw [find_is l s n hg]
      simp only [Option.bind_some]
      by_cases h1 : whatI l s n = 1
      · rw [if_pos h1]
        cases hy : fnd l s with
        | none => unfold whatI at h1; rw [hy] at h1; cases h1
        | some y =>
          obtain ⟨hlt, he⟩ := at_lo hg.2.2 hy
          have hyn : y.f1 = n := by
            unfold whatI at h1
            rw [hy] at h1
            simp only at h1
            by_cases h : y.f1 = n
            · exact h
            · rw [if_neg h] at h1
              by_cases h2 : y.f1 > n
              · rw [if_pos h2] at h1; cases h1
              · rw [if_neg h2] at h1; cases h1
          have hr : replyI l s n = y.f2 := by unfold replyI; rw [hy]; simp [hyn]
          have hb := (hg.2.1 y (fnd_mem hy).1).2
          rw [if_pos (by omega), if_pos (by omega), rdC l _ hlt, he, hr]
          unfold bytes_Clone.f
          rw [if_pos (by omega)]
          exact Ev.now _
      · have hr : replyI l s n = [] := by
          unfold replyI
          unfold whatI at h1
          cases hy : fnd l s with
          | none => rfl
          | some y =>
            rw [hy] at h1
            simp only at h1 ⊢
            by_cases h : y.f1 = n
            · rw [if_pos h] at h1; exact absurd rfl h1
            · rw [if_neg h]
        rw [if_neg h1, hr]
        exact Ev.now _
  · simp only [if_neg hg]
    rw [if_neg (by decide)]
    exact Ev.now _
theorem lo_len (l : List SC) (s : Int) : (lo l s).length ≤ l.length := List.length_filter_le _ _
theorem take_lo {l : List SC} (s : Int) (h : Rising l) : l.take (lo l s).length = lo l s := by
  have hs := split_at s l h
  generalize lo l s = A at *
  generalize hi l s = B at *
  subst hs
  exact List.take_left
theorem drop_lo {l : List SC} (s : Int) (h : Rising l) : l.drop (lo l s).length = hi l s := by
  have hs := split_at s l h
  generalize lo l s = A at *
  generalize hi l s = B at *
  subst hs
  exact List.drop_left
theorem set_mid {α : Type} (l : List α) (i : Nat) (x : α) (h : i < l.length) : l.set i x = l.take i ++ [x] ++ (l.drop i).drop 1 := by
  rw [List.drop_drop, List.set_eq_take_append_cons_drop, if_pos h]
  simp [Nat.add_comm]
theorem cl_done (l : List SC) (s n : Int) (r : List Int) (hl : l.length ≤ 140737488351232) : Ev (fun k => client_Done.f k l s n r) (doneI l s n r) := by
  unfold client_Done.f
  refine Ev.bind (asked_is l s n hl) ?_
  unfold doneI
  by_cases hg : Good l
  · simp only [if_pos hg]
    cases hw : whoOk s n with
    | false => simp; exact Ev.now _
    | true =>
      simp only [if_true]
      by_cases hr : r.length ≤ 4096
      case neg => rw [if_neg hr, if_neg hr]; exact Ev.now _
      rw [if_pos hr, if_pos hr, find_is l s n hg]
      simp only [Option.bind_some]
      by_cases h0 : whatI l s n = 0
      case neg => rw [if_neg h0, if_neg h0]; exact Ev.now _
      rw [if_pos h0, if_pos h0]
      have hall : (l.all fun x => decide (x.f2.length ≤ 4096)) = true := by
        rw [List.all_eq_true]; intro x hx; simpa using (hg.2.1 x hx).2
      rw [if_pos hall]
      have hlo := lo_len l s
      cases hi_ : isI l s with
      | true =>
        rw [if_pos rfl, if_neg (show ¬ (true = false ∧ 64 ≤ l.length) by simp)]
        cases hy : fnd l s with
        | none => unfold isI at hi_; rw [hy] at hi_; cases hi_
        | some y =>
          obtain ⟨hlt, he⟩ := at_lo hg.2.2 hy
          rw [if_pos ⟨by omega, by omega, hg.1⟩, Int.toNat_natCast, set_mid l _ _ hlt, take_lo s hg.2.2, drop_lo s hg.2.2]
          unfold behind
          rw [if_pos hi_]
          exact Ev.now _
      | false =>
        rw [if_neg (by decide)]
        by_cases h64 : 64 ≤ l.length
        · rw [if_pos h64, if_pos (show false = false ∧ 64 ≤ l.length from ⟨rfl, h64⟩)]; exact Ev.now _
        · rw [if_neg h64, if_neg (show ¬ (false = false ∧ 64 ≤ l.length) from fun h => h64 h.2), if_pos ⟨by omega, by omega⟩, Int.toNat_natCast, take_lo s hg.2.2, drop_lo s hg.2.2]
          unfold behind
          rw [if_neg (by rw [hi_]; decide)]
          exact Ev.now _
  · simp only [if_neg hg]
    rw [if_neg (by decide)]
    exact Ev.now _
/-- How the reference looks for a session. -/
theorem behind_len (l : List SC) (s : Int) : (behind l s).length ≤ (hi l s).length := by
  unfold behind
  split <;> simp
theorem done_len {l : List SC} (s : Int) (x : SC) (hg : Good l) : (lo l s ++ [x] ++ behind l s).length = if isI l s = true then l.length else l.length + 1 := by
  have hs := split_at s l hg.2.2
  have hlen : l.length = (lo l s).length + (hi l s).length := by rw [← List.length_append, ← hs]
  unfold behind
  cases hi_ : isI l s with
  | true =>
    have : 1 ≤ (hi l s).length := by
      cases hh : hi l s with
      | nil =>
        have hf := hi_head s l hg.2.2
        rw [hh] at hf
        unfold isI at hi_; rw [hf] at hi_; cases hi_
      | cons y r => simp
    simp; omega
  | false => simp; omega
theorem done_mem {l : List SC} {s : Int} {x z : SC} (hz : z ∈ lo l s ++ [x] ++ behind l s) : z = x ∨ z ∈ l := by
  rcases List.mem_append.1 hz with h | h
  · rcases List.mem_append.1 h with h | h
    · exact .inr (List.mem_filter.1 h).1
    · exact .inl (List.mem_singleton.1 h)
  · right
    unfold behind at h
    split at h
    · exact (List.mem_filter.1 (List.mem_of_mem_drop h)).1
    · exact (List.mem_filter.1 h).1
theorem done_bound {l : List SC} (s n : Int) (r : List Int) : ∀ z ∈ (doneI l s n r).1, z.f2.length ≤ 4096 := by
  intro z hz
  unfold doneI at hz
  split at hz
  · rename_i hg
    split at hz
    · split at hz
      · rename_i hr
        split at hz
        · split at hz
          · cases hz
          · rcases done_mem hz with h | h
            · rw [h]; exact hr
            · exact (hg.2.1 z h).2
        · cases hz
      · cases hz
    · cases hz
  · cases hz
theorem done_length {l : List SC} (s n : Int) (r : List Int) : (doneI l s n r).1.length ≤ 65 := by
  unfold doneI
  repeat' split
  all_goals first | (simp; done) | skip
  rename_i hg _ _ _ _
  have := done_len s ⟨s, n, r⟩ hg
  have h64 := hg.1
  show (lo l s ++ [(⟨s, n, r⟩ : SC)] ++ behind l s).length ≤ 65
  rw [this]
  split <;> omega
theorem good_nil : Good [] := ⟨by simp, (fun x hx => by cases hx), List.Pairwise.nil⟩
theorem alive_is : Ev undercroftlaw20_alive.f true := by
  have h1 : doneI [] 1 5 [120] = ([⟨1, 5, [120]⟩], 0) := by kernel_rfl
  have a1 : askI [⟨1, 5, [120]⟩] 1 5 = (1, [120], 0) := by kernel_rfl
  have a2 : askI [⟨1, 5, [120]⟩] 1 4 = (2, [], 0) := by kernel_rfl
  have a3 : askI [⟨1, 5, [120]⟩] 1 6 = (0, [], 0) := by kernel_rfl
  have a4 : askI [⟨1, 5, [120]⟩] 2 1 = (0, [], 0) := by kernel_rfl
  have d1 := cl_done [] 1 5 [120] (by simp)
  have c1 := cl_ask [⟨1, 5, [120]⟩] 1 5 (by simp)
  have c2 := cl_ask [⟨1, 5, [120]⟩] 1 4 (by simp)
  have c3 := cl_ask [⟨1, 5, [120]⟩] 1 6 (by simp)
  have c4 := cl_ask [⟨1, 5, [120]⟩] 2 1 (by simp)
  rw [h1] at d1; rw [a1] at c1; rw [a2] at c2; rw [a3] at c3; rw [a4] at c4
  unfold undercroftlaw20_alive.f
  refine Ev.bind d1 (Ev.bind c1 (Ev.bind c2 (Ev.bind c3 (Ev.bind c4 ?_))))
  refine Ev.congr (f := fun _ => some true) (fun k => ?_) (Ev.now _)
  exact if_pos ⟨rfl, rfl, rfl, rfl, rfl, rfl, rfl, rfl⟩

theorem find_other {l : List SC} {s o : Int} (hg : Rising l) (h : o ≠ s) (x : SC) (hx : x.f0 = s) : fnd (lo l s ++ [x] ++ behind l s) o = fnd l o := by
  have hs := split_at s l hg
  have hb : fnd (behind l s) o = fnd (hi l s) o := by
    unfold behind
    cases hi_ : isI l s with
    | false => rfl
    | true =>
      have hf := hi_head s l hg
      cases hh : hi l s with
      | nil => rfl
      | cons y r =>
        rw [hh] at hf
        have hy : y.f0 = s := by
          unfold isI at hi_
          rw [hf] at hi_
          by_cases e : y.f0 = s
          · exact e
          · simp [e] at hi_
        rw [if_pos rfl, List.drop_one, List.tail_cons, fnd_cons, if_neg (by omega)]
  have e : fnd l o = (fnd (lo l s) o).or (fnd (hi l s) o) := by
    conv => lhs; rw [hs]
    unfold fnd
    rw [List.find?_append]
  have e2 : fnd [x] o = none := by rw [fnd_cons, if_neg (by omega)]; rfl
  have e3 : fnd (lo l s ++ [x] ++ behind l s) o = ((fnd (lo l s) o).or (fnd [x] o)).or (fnd (behind l s) o) := by
    unfold fnd
    rw [List.find?_append, List.find?_append]
  rw [e3, e2, hb, e, Option.or_none]
theorem done_good {l : List SC} {s n : Int} {r : List Int} (hg : Good l) (hw : whoOk s n = true) (hr : r.length ≤ 4096) (h51 : ¬ (isI l s = false ∧ 64 ≤ l.length)) : Good (lo l s ++ [⟨s, n, r⟩] ++ behind l s) := by
  have hs := split_at s l hg.2.2
  have hR : Rising (lo l s ++ hi l s) := by rw [← hs]; exact hg.2.2
  obtain ⟨r1, r2, r3⟩ := List.pairwise_append.1 hR
  have hbs : ∀ x ∈ behind l s, s < x.f0 := by
    have hf := hi_head s l hg.2.2
    unfold behind
    cases hh : hi l s with
    | nil => intro x hx; split at hx <;> simp at hx
    | cons y t =>
      rw [hh] at hf r2
      have r2' := List.pairwise_cons.1 r2
      have hym : y ∈ hi l s := by rw [hh]; exact List.mem_cons_self
      have hys : ¬ y.f0 < s := by have := (List.mem_filter.1 hym).2; simpa using this
      have ht : ∀ x ∈ t, s < x.f0 := fun x hx => by have := r2'.1 x hx; omega
      unfold isI
      rw [hf]
      by_cases e : y.f0 = s
      · simp only [e, if_true, Option.isSome_some]
        intro x hx; exact ht x (by simpa using hx)
      · simp only [e, if_false, Option.isSome_none, Bool.false_eq_true]
        intro x hx
        rcases List.mem_cons.1 hx with rfl | hx
        · omega
        · exact ht x hx
  refine ⟨?_, fun x hx => ?_, ?_⟩
  · have h1 := done_len s ⟨s, n, r⟩ hg
    have h64 := hg.1
    rw [h1]
    cases hi_ : isI l s with
    | true => simpa using h64
    | false =>
      have : ¬ 64 ≤ l.length := fun h => h51 ⟨hi_, h⟩
      simp; omega
  · rcases done_mem hx with rfl | h
    · exact ⟨hw, hr⟩
    · exact hg.2.1 x h
  · have hlo : ∀ x ∈ lo l s, x.f0 < s := fun x hx => by have := (List.mem_filter.1 hx).2; simpa using this
    have hbr : Rising (behind l s) := by
      unfold behind
      split
      · exact r2.sublist (List.drop_sublist _ _)
      · exact r2
    refine List.pairwise_append.2 ⟨List.pairwise_append.2 ⟨r1, List.pairwise_singleton _ _, fun a ha b hb => ?_⟩, hbr, fun a ha b hb => ?_⟩
    · rw [List.mem_singleton.1 hb]; exact hlo a ha
    · have := hbs b hb
      rcases List.mem_append.1 ha with h | h
      · have := hlo a h; omega
      · rw [List.mem_singleton.1 h]; exact this

abbrev SA := S46
theorem lo_fnd {l : List SC} {s : Int} : fnd (lo l s) s = none := by
  unfold fnd
  rw [List.find?_eq_none]
  intro x hx
  have := (List.mem_filter.1 hx).2
  simp at this ⊢
  omega
theorem find_same {l : List SC} {s : Int} (x : SC) (hx : x.f0 = s) : fnd (lo l s ++ [x] ++ behind l s) s = some x := by
  have h1 := lo_fnd (l := l) (s := s)
  unfold fnd at h1 ⊢
  rw [List.find?_append, List.find?_append, h1]
  simp [hx]
structure Inv (l : List SA) (i : Nat) (t : List SC) (d : List Bool) : Prop where
  good : Good t
  dlen : d.length = l.length
  off : ∀ k, i ≤ k → d.getD k false = false
  fnd : ∀ s, fnd t s = if once_last l d s i < 0 then none else some ⟨s, (l.getD (once_last l d s i).toNat z46).f1, [once_last l d s i]⟩
  mono : ∀ k, k < i → d.getD k false = true → ∃ y, Pure.fnd t (l.getD k z46).f0 = some y ∧ (l.getD k z46).f1 ≤ y.f1
theorem last_off (l : List SA) (d : List Bool) (s : Int) (i : Nat) (h : d.getD i false = false) : once_last l d s (i + 1) = once_last l d s i := by
  show (if d.getD i false = true ∧ _ then _ else _) = _
  rw [if_neg (by rw [h]; simp)]
theorem last_set (l : List SA) (d : List Bool) (s : Int) (j : Nat) (b : Bool) : ∀ i, i ≤ j → once_last l (d.set j b) s i = once_last l d s i
  | 0, _ => rfl
  | i + 1, h => by
    show (if (d.set j b).getD i false = true ∧ _ then _ else once_last l (d.set j b) s i) = (if d.getD i false = true ∧ _ then _ else once_last l d s i)
    rw [last_set l d s j b i (by omega)]
    have : (d.set j b).getD i false = d.getD i false := by
      simp only [List.getD_eq_getElem?_getD]
      rw [List.getElem?_set_ne (by omega)]
    rw [this]
theorem last_lt (l : List SA) (d : List Bool) (s : Int) : ∀ i, once_last l d s i = -1 ∨ (0 ≤ once_last l d s i ∧ once_last l d s i < (i : Int))
  | 0 => .inl rfl
  | i + 1 => by
    have h := last_lt l d s i
    by_cases h2 : d.getD i false = true ∧ (l.getD i z46).f0 = s
    · have e : once_last l d s (i + 1) = (i : Int) := if_pos h2
      rw [e]; right; omega
    · have e : once_last l d s (i + 1) = once_last l d s i := if_neg h2
      rw [e]; omega
theorem twice_no (l : List SA) (d : List Bool) (x : SA) (n : Int) (i : Nat) (h : ∀ k, k < i → d.getD k false = true → (l.getD k z46).f0 = x.f0 → (l.getD k z46).f1 = x.f1 → n ≠ 0) : once_twice l d x n i = false := by
  induction i with
  | zero => rfl
  | succ i ih =>
    have h1 := ih (fun k hk => h k (by omega))
    have h2 := h i (by omega)
    unfold once_twice
    rw [h1]
    simp
    intro a b c
    exact h2 (by simpa using a) (by simpa using b) (by simpa using c)
theorem inv_start (l : List SA) : Inv l 0 [] (List.replicate l.length false) := by
  refine ⟨good_nil, by simp, fun k _ => ?_, fun s => ?_, fun k hk => by omega⟩
  · simp only [List.getD_eq_getElem?_getD, List.getElem?_replicate]
    split <;> rfl
  · have e : once_last l (List.replicate l.length false) s 0 = -1 := rfl
    rw [e, if_pos (by decide)]; rfl
theorem inv_skip {l : List SA} {i : Nat} {t : List SC} {d : List Bool} (h : Inv l i t d) : Inv l (i + 1) t d := by
  have ho := h.off i (by omega)
  refine ⟨h.good, h.dlen, fun k hk => h.off k (by omega), fun s => ?_, fun k hk hd => ?_⟩
  · rw [last_off _ _ _ _ ho]; exact h.fnd s
  · by_cases e : k = i
    · subst e; rw [ho] at hd; cases hd
    · exact h.mono k (by omega) hd
theorem once_step_is (l : List SA) (i : Nat) (hi : i < l.length) (h100 : i < 100) (t : List SC) (d : List Bool) (h : Inv l i t d) : ∃ s', Ev (fun k => once_step k l i (t, d)) s' ∧ Inv l (i + 1) s'.1 s'.2 := by
  obtain ⟨x, hx⟩ : ∃ x, x = l.getD i z46 := ⟨_, rfl⟩
  have h64 := h.good.1
  have hl : t.length ≤ 140737488351232 := by omega
  have hf := h.fnd x.f0
  have hla := last_lt l d x.f0 i
  unfold once_step
  simp only
  rw [← hx]
  by_cases hw : whoOk x.f0 x.f1 = true
  · have ha : askI t x.f0 x.f1 = (whatI t x.f0 x.f1, replyI t x.f0 x.f1, 0) := by unfold askI; rw [if_pos h.good, if_pos hw]
    have hwhat : whatI t x.f0 x.f1 = once_want l x (once_last l d x.f0 i) := by
      unfold whatI once_want
      rw [hf]
      by_cases hn : once_last l d x.f0 i < 0
      · rw [if_pos hn, if_neg (by omega), if_neg (by omega)]
      · rw [if_neg hn]
        simp only
        by_cases e : (l.getD (once_last l d x.f0 i).toNat z46).f1 = x.f1
        · rw [if_pos e, if_pos ⟨by omega, e⟩]
        · rw [if_neg e]
          by_cases e2 : (l.getD (once_last l d x.f0 i).toNat z46).f1 > x.f1
          · rw [if_pos e2, if_neg (by intro h; exact e h.2), if_pos ⟨by omega, e2⟩]
          · rw [if_neg e2, if_neg (by intro h; exact e h.2), if_neg (by intro h; exact e2 h.2)]
    have hr1 : whatI t x.f0 x.f1 = 1 → replyI t x.f0 x.f1 = [once_last l d x.f0 i] := by
      unfold whatI replyI
      rw [hf]
      by_cases hn : once_last l d x.f0 i < 0
      · rw [if_pos hn]; intro h; cases h
      · rw [if_neg hn]
        simp only
        intro h1
        by_cases e : (l.getD (once_last l d x.f0 i).toNat z46).f1 = x.f1
        · rw [if_pos e]
        · rw [if_neg e] at h1
          split at h1 <;> cases h1
    have hr2 : whatI t x.f0 x.f1 ≠ 1 → replyI t x.f0 x.f1 = [] := by
      unfold whatI replyI
      cases hy : Pure.fnd t x.f0 with
      | none => intro _; rfl
      | some y =>
        simp only
        intro h1
        by_cases e : y.f1 = x.f1
        · rw [if_pos e] at h1; exact absurd rfl h1
        · rw [if_neg e]
    have htw : once_twice l d x (whatI t x.f0 x.f1) i = false := by
      refine twice_no l d x _ i (fun k hk hd h0 h1 hz => ?_)
      obtain ⟨y, hy, hle⟩ := h.mono k hk hd
      rw [h0] at hy
      rw [h1] at hle
      unfold whatI at hz
      rw [hy] at hz
      simp only at hz
      by_cases e : y.f1 = x.f1
      · rw [if_pos e] at hz; cases hz
      · rw [if_neg e, if_pos (by omega)] at hz; cases hz
    have hok := And.intro htw (And.intro hwhat (And.intro hr1 hr2))
    have hask := cl_ask t x.f0 x.f1 hl
    rw [ha] at hask
    have hdone := cl_done t x.f0 x.f1 [(i : Int)] hl
    by_cases hz : whatI t x.f0 x.f1 = 0
    · by_cases h51 : isI t x.f0 = false ∧ 64 ≤ t.length
      · have hd : doneI t x.f0 x.f1 [(i : Int)] = ([], 51) := by
          unfold doneI
          rw [if_pos h.good, if_pos hw, if_pos (by simp), if_pos hz, if_pos h51]
        rw [hd] at hdone
        refine ⟨(t, d), Ev.bind hask ?_, inv_skip h⟩
        simp only [if_true]
        simp only [if_pos hok]
        refine Ev.bind hdone ?_
        simp only [if_pos hz, if_neg (show ¬ (51 : Int) = 0 by decide), if_pos h51.2]
        exact Ev.now _
      · have hd : doneI t x.f0 x.f1 [(i : Int)] = (lo t x.f0 ++ [⟨x.f0, x.f1, [(i : Int)]⟩] ++ behind t x.f0, 0) := by
          unfold doneI
          rw [if_pos h.good, if_pos hw, if_pos (by simp), if_pos hz, if_neg h51]
        rw [hd] at hdone
        refine ⟨(lo t x.f0 ++ [⟨x.f0, x.f1, [(i : Int)]⟩] ++ behind t x.f0, d.set i true), Ev.bind hask ?_, ?_⟩
        · simp only [if_true]
          simp only [if_pos hok]
          refine Ev.bind hdone ?_
          simp only [if_pos hz, if_true]
          exact Ev.now _
        · have hset : (d.set i true).getD i false = true := by
            simp only [List.getD_eq_getElem?_getD]
            rw [List.getElem?_set_self (by rw [h.dlen]; exact hi)]; rfl
          have hoth : ∀ k, k ≠ i → (d.set i true).getD k false = d.getD k false := fun k hk => by
            simp only [List.getD_eq_getElem?_getD]
            rw [List.getElem?_set_ne (by omega)]
          have hlast : ∀ s, once_last l (d.set i true) s (i + 1) = if x.f0 = s then (i : Int) else once_last l d s i := fun s => by
            show (if (d.set i true).getD i false = true ∧ (l.getD i z46).f0 = s then (i : Int) else once_last l (d.set i true) s i) = _
            rw [hset, last_set _ _ _ _ _ _ (Nat.le_refl _), ← hx]
            simp
          refine ⟨done_good h.good hw (by simp) h51, by rw [List.length_set]; exact h.dlen, fun k hk => ?_, fun s => ?_, fun k hk hd => ?_⟩
          · rw [hoth k (by omega)]; exact h.off k (by omega)
          · show Pure.fnd (lo t x.f0 ++ [⟨x.f0, x.f1, [(i : Int)]⟩] ++ behind t x.f0) s = _
            rw [hlast s]
            by_cases e : x.f0 = s
            · rw [if_pos e, if_neg (by omega), ← e, find_same (l := t) (s := x.f0) (⟨x.f0, x.f1, [(i : Int)]⟩ : SC) rfl, Int.toNat_natCast, ← hx]
            · rw [if_neg e, find_other h.good.2.2 (fun h => e h.symm) _ rfl]
              exact h.fnd s
          · by_cases e : k = i
            · subst e
              rw [← hx]
              exact ⟨_, find_same _ rfl, Int.le_refl _⟩
            · rw [hoth k e] at hd
              obtain ⟨y, hy, hle⟩ := h.mono k (by omega) hd
              by_cases e2 : (l.getD k z46).f0 = x.f0
              · refine ⟨_, by rw [e2]; exact find_same _ rfl, ?_⟩
                rw [e2] at hy
                unfold whatI at hz
                rw [hy] at hz
                simp only at hz
                by_cases e3 : y.f1 = x.f1
                · rw [if_pos e3] at hz; cases hz
                · rw [if_neg e3] at hz
                  by_cases e4 : y.f1 > x.f1
                  · rw [if_pos e4] at hz; cases hz
                  · show (l.getD k z46).f1 ≤ x.f1
                    omega
              · exact ⟨y, by rw [find_other h.good.2.2 e2 _ rfl]; exact hy, hle⟩
    · have hd : doneI t x.f0 x.f1 [(i : Int)] = ([], 81) := by
        unfold doneI
        rw [if_pos h.good, if_pos hw, if_pos (by simp), if_neg hz]
      rw [hd] at hdone
      refine ⟨(t, d), Ev.bind hask ?_, inv_skip h⟩
      simp only [if_true]
      simp only [if_pos hok]
      refine Ev.bind hdone ?_
      simp only [if_neg hz, if_true]
      exact Ev.now _
  · have hno : ¬ (1 ≤ x.f0 ∧ x.f0 < 2147483648 ∧ 1 ≤ x.f1 ∧ x.f1 ≤ 1099511627776) := by intro hh; apply hw; unfold whoOk; simp; omega
    have ha : askI t x.f0 x.f1 = (0, [], 4) := by unfold askI; rw [if_pos h.good, if_neg hw]
    have hask := cl_ask t x.f0 x.f1 hl
    rw [ha] at hask
    refine ⟨(t, d), Ev.bind hask ?_, inv_skip h⟩
    simp only [if_neg (show ¬ (4 : Int) = 0 by decide), if_neg hno]
    exact Ev.now _
theorem once_run_is (l : List SA) : ∀ (d i : Nat) (t : List SC) (b : List Bool), i + d ≤ l.length → i + d ≤ 100 → Inv l i t b → ∃ s', Ev (fun k => once_run k l d i (t, b)) s' ∧ Good s'.1
  | 0, i, t, b, _, _, h => ⟨(t, b), Ev.now _, h.good⟩
  | d + 1, i, t, b, h1, h2, h => by
    obtain ⟨s1, e1, v1⟩ := once_step_is l i (by omega) (by omega) t b h
    obtain ⟨s2, e2, v2⟩ := once_run_is l d (i + 1) s1.1 s1.2 (by omega) (by omega) v1
    exact ⟨s2, Ev.bind e1 e2, v2⟩
theorem ClientOnce (l0 : List S46) (h0 : (l0.length * 16 ≤ 140737488351232 ∧ l0.length ≤ maxLen ∧ ∀ y22 ∈ l0, ok46 y22)) : ∃ k, undercroftlaw20_ClientOnce.f k l0 = some true := by
  refine Ev.rounds (g := fun k => undercroftlaw20_ClientOnce.f k l0) ?_
  unfold undercroftlaw20_ClientOnce.f
  refine Ev.bind alive_is ?_
  have hle : l0.length ≤ 140737488351232 := by have := h0.1; omega
  simp only [hle, and_self, if_true]
  obtain ⟨s', e, hg⟩ := once_run_is l0 (min l0.length 100) 0 [] _ (by omega) (by omega) (inv_start l0)
  refine Ev.bind e ?_
  have hc := cl_check s'.1 (by have := hg.1; omega)
  unfold checkI at hc
  rw [if_pos hg] at hc
  refine Ev.bind hc ?_
  simp only [if_true]
  exact Ev.now _

end Go.Proofs.Ytofflfacfjkikaa.Pure
