/- Entries are read back from their octets; what is read is built again of what was read: for entries and octets of bulk at most 1048576. -/
import Derived.Test.YtiglgckhikipeaaDoorPDocx
import Derived.Test.YtiglgckhikipeaaDoorInDirBack
import Derived.Lib.IndexLaws
namespace Go.Proofs.YtiglgckhikipeaaDoor.Pure
open Go.RowKit Go.Proofs.YtiglgckhikipeaaDoor.PDoc Go.Proofs.YtiglgckhikipeaaDoorW.PrintWords Go.Proofs.YtiglgckhikipeaaDoorW.PrintLast Go.Proofs.YtiglgckhikipeaaDoorW.PrintMore
set_option linter.unusedVariables false
set_option linter.unusedSimpArgs false

theorem w_id {x : Int} (h0 : -9223372036854775808 ≤ x) (h1 : x ≤ 9223372036854775807) : wrap64 x = x := by unfold wrap64; omega
theorem wf_i64 {a : Int} (h : (Lit.int .i64 a).wf = true) : -9223372036854775808 ≤ a ∧ a ≤ 9223372036854775807 := by
  simpa [Lit.wf, IntKind.min, IntKind.max, IntKind.signed, IntKind.bits] using h
theorem wf_u8 {a : Int} (h : (Lit.int .u8 a).wf = true) : 0 ≤ a ∧ a ≤ 255 := by
  simpa [Lit.wf, IntKind.min, IntKind.max, IntKind.signed, IntKind.bits] using h
theorem wf_u32 {a : Int} (h : (Lit.int .u32 a).wf = true) : 0 ≤ a ∧ a ≤ 4294967295 := by
  simpa [Lit.wf, IntKind.min, IntKind.max, IntKind.signed, IntKind.bits] using h
theorem wf_u64 {a : Int} (h : (Lit.int .u64 a).wf = true) : 0 ≤ a ∧ a ≤ 18446744073709551615 := by
  simpa [Lit.wf, IntKind.min, IntKind.max, IntKind.signed, IntKind.bits] using h
/-- All are octets. -/
def Oct (l : List Int) : Prop := ∀ x ∈ l, 0 ≤ x ∧ x ≤ 255
theorem Oct.of_wf {l : List Int} (h : ∀ x ∈ l, (Lit.int .u8 x).wf = true) : Oct l := fun x hx => wf_u8 (h x hx)
theorem Oct.nil : Oct [] := fun _ h => by cases h
theorem Oct.append {a b : List Int} (ha : Oct a) (hb : Oct b) : Oct (a ++ b) := fun x hx => (List.mem_append.1 hx).elim (ha x) (hb x)
theorem Oct.take {a : List Int} (ha : Oct a) (n : Nat) : Oct (a.take n) := fun x hx => ha x (List.mem_of_mem_take hx)
theorem Oct.drop {a : List Int} (ha : Oct a) (n : Nat) : Oct (a.drop n) := fun x hx => ha x (List.mem_of_mem_drop hx)
theorem rd_nat (l : List Int) (k : Nat) (h : k < l.length) : rd l (k : Int) = l[k] := by
  unfold rd
  simp [List.getD_eq_getElem?_getD, h]

theorem less_irrefl : ∀ a : List UInt8, Op.bytesLess a a = false
  | [] => rfl
  | x :: a => by
    have h : ¬ x < x := fun h3 => by have : x.toNat < x.toNat := h3; omega
    simp [Op.bytesLess, less_irrefl a, h]
theorem less_trans : ∀ {a b c : List UInt8}, Op.bytesLess a b = true → Op.bytesLess b c = true → Op.bytesLess a c = true
  | _, _, [], _, h => by simp [Op.bytesLess] at h
  | [], _, z :: c, _, _ => rfl
  | x :: a, [], _, h, _ => by simp [Op.bytesLess] at h
  | x :: a, y :: b, z :: c, h, k => by
    simp only [Op.bytesLess, Bool.or_eq_true, Bool.and_eq_true, decide_eq_true_eq, beq_iff_eq, UInt8.lt_iff_toNat_lt] at h k ⊢
    rcases h with h | ⟨rfl, h⟩
    · rcases k with k | ⟨rfl, k⟩
      · exact .inl (by omega)
      · exact .inl h
    · rcases k with k | ⟨rfl, k⟩
      · exact .inl k
      · exact .inr ⟨rfl, less_trans h k⟩
theorem less_asymm {a b : List UInt8} (h : Op.bytesLess a b = true) : Op.bytesLess b a = false := by
  cases h2 : Op.bytesLess b a with
  | false => rfl
  | true => have := less_trans h h2; rw [less_irrefl] at this; cases this
theorem less_or {a b : List UInt8} (h : Op.bytesLess a b = false) (h2 : a ≠ b) : Op.bytesLess b a = true := by
  have e := Own.bytesLess_total a b
  have h3 : (a == b) = false := by simpa using h2
  rw [h, h3] at e
  simpa using e.symm
theorem bext {a b : ByteArray} (h : a.toList = b.toList) : a = b := by
  rw [Lib.toList_data, Lib.toList_data] at h
  apply ByteArray.ext
  exact Array.ext' h
theorem size_toList (s : ByteArray) : s.toList.length = s.size := by rw [Lib.toList_data]; exact data_length s
/-- May a name be? -/
def nameOk (s : ByteArray) : Bool := decide (1 ≤ s.size) && decide (s.size ≤ 16) && !(s.toList == [46]) && !(s.toList == [46, 46]) && !(s.toList.contains 47) && !(s.toList.contains 0)
def nameI (s : ByteArray) : Int := if nameOk s = true then 0 else 106
theorem contains_is (s : ByteArray) (c : UInt8) : strings_Contains.f s ⟨#[c]⟩ = some (s.toList.contains c) := by
  show some (decide (0 ≤ Lib.indexByte s.data.toList c)) = _
  rw [Lib.toList_data]
  congr 1
  have hge := Lib.indexByte_ge s.data.toList c
  by_cases h : Lib.indexByte s.data.toList c = -1
  · have hn := Lib.indexByte_none h
    have : s.data.toList.contains c = false := by
      rw [Bool.eq_false_iff]
      intro hc
      have := List.mem_of_elem_eq_true hc
      obtain ⟨k, hk, e⟩ := List.getElem_of_mem this
      exact hn k (by rw [List.getElem?_eq_getElem hk, e])
    rw [this, h]; rfl
  · obtain ⟨o, ho⟩ : ∃ o : Nat, Lib.indexByte s.data.toList c = o := ⟨(Lib.indexByte s.data.toList c).toNat, by omega⟩
    have hs := (Lib.indexByte_some ho).1
    have : s.data.toList.contains c = true := List.elem_eq_true_of_mem (List.mem_of_getElem? hs)
    rw [this, ho]
    simp
theorem dir_name (s : ByteArray) : dir_Name.f s = some (nameI s) := by
  unfold dir_Name.f nameI
  have hz := size_toList s
  by_cases h1 : s.toList = []
  · rw [if_pos h1, if_neg]
    rw [h1] at hz
    simp at hz
    simp [nameOk, ← hz]
  rw [if_neg h1]
  have h1' : 1 ≤ s.size := by
    rcases Nat.eq_zero_or_pos s.size with h | h
    · rw [h] at hz; exact absurd (List.eq_nil_of_length_eq_zero hz) h1
    · exact h
  by_cases h2 : s.toList = [46]
  · rw [if_pos h2, if_neg]; simp [nameOk, h2]
  rw [if_neg h2]
  by_cases h3 : s.toList = [46, 46]
  · rw [if_pos h3, if_neg]; simp [nameOk, h3]
  rw [if_neg h3]
  by_cases h4 : (s.size : Int) > 16
  · rw [if_pos h4, if_neg]
    have : ¬ s.size ≤ 16 := by omega
    simp [nameOk, this]
  rw [if_neg h4, contains_is, contains_is]
  have h4' : s.size ≤ 16 := by omega
  simp only [Option.bind_some]
  have e2 : (s.toList == [46]) = false := by simpa using h2
  have e3 : (s.toList == [46, 46]) = false := by simpa using h3
  cases h5 : s.toList.contains 47 <;> cases h6 : s.toList.contains 0 <;> simp only [nameOk, h1', h4', e2, e3, h5, h6, decide_true, Bool.not_false, Bool.not_true, Bool.and_true, Bool.and_false, Bool.true_and, Bool.false_and, if_true, if_false, Bool.false_eq_true, Bool.or_true, Bool.or_false, Bool.true_or, Bool.false_or, Option.bind_some]
theorem bt_toList (s : ByteArray) (i : Nat) (h : i < s.size) : bt s (i : Int) = ((s.toList[i]'(by rw [size_toList]; exact h)).toNat : Int) := by
  have e : s.toList = s.data.toList := Lib.toList_data s
  simp only [e]
  simp [bt, h]
  rfl
theorem refname_loop (s : ByteArray) (hs : s.size ≤ 16) : ∀ (d i : Nat), i + d = s.size → Ev (fun k => undercroftref08_Name.l0 k s (i : Int)) (if ((s.toList.drop i).contains 47 || (s.toList.drop i).contains 0) = true then 106 else 0) := by
  intro d
  induction d with
  | zero =>
    intro i hi
    refine Ev.step (f := fun _ => some 0) (fun k => ?_) ?_
    · simp only [undercroftref08_Name.l0]
      rw [if_neg (by omega)]
    · rw [List.drop_eq_nil_of_le (by rw [size_toList]; omega)]
      exact Ev.now _
  | succ d ih =>
    intro i hi
    have hlt : i < s.toList.length := by rw [size_toList]; omega
    rw [List.drop_eq_getElem_cons hlt, List.contains_cons, List.contains_cons]
    have hb := bt_toList s i (by omega)
    generalize hx : s.toList[i] = x at *
    by_cases h0 : x = 0
    · subst h0
      refine Ev.step (f := fun _ => some 106) (fun k => ?_) ?_
      · simp only [undercroftref08_Name.l0]
        rw [if_pos (by omega), if_pos (by omega), hb, if_pos (by rfl)]
      · simp; exact Ev.now _
    by_cases h1 : x = 47
    · subst h1
      refine Ev.step (f := fun _ => some 106) (fun k => ?_) ?_
      · simp only [undercroftref08_Name.l0]
        rw [if_pos (by omega), if_pos (by omega), hb, if_neg (by decide), if_pos (by rfl)]
      · simp; exact Ev.now _
    · have e0 : ((0 : UInt8) == x) = false := by simpa using fun e => h0 e.symm
      have e1 : ((47 : UInt8) == x) = false := by simpa using fun e => h1 e.symm
      rw [e0, e1, Bool.false_or, Bool.false_or]
      refine Ev.step (f := fun k => undercroftref08_Name.l0 k s ((i + 1 : Nat) : Int)) (fun k => ?_) (ih (i + 1) (by omega))
      simp only [undercroftref08_Name.l0]
      rw [if_pos (by omega), if_pos (by omega), hb, if_neg, if_neg, w_id (by omega) (by omega)]
      · rfl
      · intro e; exact h1 (UInt8.toNat_inj.1 (by have : x.toNat = 47 := by omega
                                                 exact this))
      · intro e; exact h0 (UInt8.toNat_inj.1 (by have : x.toNat = 0 := by omega
                                                 exact this))
theorem ref_name (s : ByteArray) : Ev (fun k => undercroftref08_Name.f k s) (nameI s) := by
  have hz := size_toList s
  have bad : nameOk s = false → Ev (fun k => undercroftref08_Name.j0 k s true) (nameI s) := fun h => by
    refine Ev.step (f := fun _ => some 106) (fun k => ?_) (by unfold nameI; rw [h]; exact Ev.now _)
    simp only [undercroftref08_Name.j0]; rw [if_pos trivial]
  by_cases h1 : (s.size : Int) < 1
  · refine Ev.congr (fun k => ?_) (bad (by have : ¬ 1 ≤ s.size := by omega
                                           simp [nameOk, this]))
    unfold undercroftref08_Name.f; rw [if_pos h1]
  by_cases h2 : (s.size : Int) > 16
  · refine Ev.congr (fun k => ?_) (bad (by have : ¬ s.size ≤ 16 := by omega
                                           simp [nameOk, this]))
    unfold undercroftref08_Name.f; rw [if_neg h1, if_pos h2]
  by_cases h3 : s.toList = [46]
  · refine Ev.congr (fun k => ?_) (bad (by simp [nameOk, h3]))
    unfold undercroftref08_Name.f; rw [if_neg h1, if_neg h2, if_pos h3]
  by_cases h4 : s.toList = [46, 46]
  · refine Ev.congr (fun k => ?_) (bad (by simp [nameOk, h4]))
    unfold undercroftref08_Name.f; rw [if_neg h1, if_neg h2, if_neg h3, h4]; rfl
  · have e3 : (s.toList == [46]) = false := by simpa using h3
    have e4 : (s.toList == [46, 46]) = false := by simpa using h4
    have hl := refname_loop s (by omega) s.size 0 (by omega)
    rw [List.drop_zero] at hl
    have hn : nameI s = if (s.toList.contains 47 || s.toList.contains 0) = true then 106 else 0 := by
      have a1 : 1 ≤ s.size := by omega
      have a2 : s.size ≤ 16 := by omega
      unfold nameI
      cases h5 : s.toList.contains 47 <;> cases h6 : s.toList.contains 0 <;> simp only [nameOk, a1, a2, e3, e4, h5, h6, decide_true, Bool.not_false, Bool.not_true, Bool.and_true, Bool.and_false, Bool.true_and, Bool.false_and, if_true, if_false, Bool.false_eq_true, Bool.or_true, Bool.or_false, Bool.true_or, Bool.false_or, Option.bind_some]
    rw [hn]
    refine Ev.congr (f := fun k => undercroftref08_Name.j0 k s false) (fun k => ?_) (Ev.step (fun k => ?_) hl)
    · unfold undercroftref08_Name.f; rw [if_neg h1, if_neg h2, if_neg h3, e4]
    · simp only [undercroftref08_Name.j0]; rw [if_neg (by decide)]; rfl
/-- May an entry be? -/
def entOk (s : ByteArray) (n : Int) : Bool := nameOk s && decide (1 ≤ n) && decide (n ≤ 2147483647)
theorem dir_may (s : ByteArray) (n : Int) : dir_Entry_may.f s n = some (entOk s n) := by
  unfold dir_Entry_may.f entOk
  rw [dir_name]
  simp only [Option.bind_some, nameI]
  cases nameOk s with
  | false => rfl
  | true =>
    rw [if_pos rfl, if_pos rfl]
    by_cases h : n ≥ 1
    · rw [if_pos h]; simp [show (1 : Int) ≤ n from h]
    · rw [if_neg h]; simp [show ¬ (1 : Int) ≤ n from h]
theorem ref_ino (n : Int) : undercroftref08_ino.f n = some (decide (1 ≤ n) && decide (n ≤ 2147483647)) := by
  unfold undercroftref08_ino.f
  by_cases h : n ≥ 1
  · rw [if_pos h]; simp [show (1 : Int) ≤ n from h]
  · rw [if_neg h]; simp [show ¬ (1 : Int) ≤ n from h]
abbrev SR := S43
/-- The reference's entry for the program. -/
def toE (x : SR) : S42 := ⟨x.f0, x.f1⟩
theorem rdE (l : List SR) (i : Nat) : rd_T42 (l.map toE) (i : Int) = toE (l.getD i z43) := by
  unfold rd_T42
  rw [Int.toNat_natCast]
  simp only [List.getD_eq_getElem?_getD, List.getElem?_map]
  cases l[i]? <;> rfl
theorem rdR (l : List SR) (i : Nat) : rd_T43 l (i : Int) = l.getD i z43 := by
  unfold rd_T43
  rw [Int.toNat_natCast]
theorem getD_lt (l : List SR) (i : Nat) (h : i < l.length) : l.getD i z43 = l[i] := by
  simp [List.getD_eq_getElem?_getD, h]
def stepOk (l : List SR) (i : Nat) : Bool := entOk (l.getD i z43).f0 (l.getD i z43).f1 && (i == 0 || Op.bytesLess (l.getD (i - 1) z43).f0.toList (l.getD i z43).f0.toList)
theorem dircheck_loop (l : List SR) (hl : l.length ≤ 63) : ∀ (d i : Nat), i + d = l.length → Ev (fun k => dir_Check.l0 k (l.map toE) (l.map toE) (l.length : Int) (i : Int)) (if (List.range' i d).all (stepOk l) = true then 0 else 9) := by
  intro d
  induction d with
  | zero =>
    intro i hi
    refine Ev.step (f := fun _ => some 0) (fun k => ?_) (by simp; exact Ev.now _)
    simp only [dir_Check.l0]
    rw [if_neg (by omega)]
  | succ d ih =>
    intro i hi
    rw [List.range'_succ, List.all_cons]
    have hlm : (l.map toE).length = l.length := by simp
    have hm : dir_Entry_may.f (rd_T42 (l.map toE) (i : Int)).f0 (rd_T42 (l.map toE) (i : Int)).f1 = some (entOk (l.getD i z43).f0 (l.getD i z43).f1) := by rw [rdE]; exact dir_may _ _
    cases he : entOk (l.getD i z43).f0 (l.getD i z43).f1 with
    | false =>
      have hst : stepOk l i = false := by unfold stepOk; rw [he]; rfl
      rw [hst, Bool.false_and, if_neg (by decide)]
      refine Ev.step (f := fun _ => some 9) (fun k => ?_) (Ev.now _)
      simp only [dir_Check.l0]
      rw [if_pos (by omega), if_pos (by omega), if_pos (by omega), hm, he]; rfl
    | true =>
      by_cases h0 : i = 0
      · subst h0
        have hst : stepOk l 0 = true := by unfold stepOk; rw [he]; rfl
        rw [hst, Bool.true_and]
        refine Ev.step (f := fun k => dir_Check.l0 k (l.map toE) (l.map toE) (l.length : Int) ((0 + 1 : Nat) : Int)) (fun k => ?_) (ih 1 (by omega))
        simp only [dir_Check.l0]
        rw [if_pos (by omega), if_pos (by omega), if_pos (by omega), hm, he]
        simp only [Option.bind_some]
        rw [if_pos trivial, if_neg (by omega), w_id (by omega) (by omega)]
        rfl
      · have hp := rdE l (i - 1)
        have e1 : ((i - 1 : Nat) : Int) = (i : Int) - 1 := by omega
        rw [e1] at hp
        have hbl : Op.bytesLess (rd_T42 (l.map toE) ((i : Int) - 1)).f0.toList (rd_T42 (l.map toE) (i : Int)).f0.toList = Op.bytesLess (l.getD (i - 1) z43).f0.toList (l.getD i z43).f0.toList := by rw [hp, rdE]; rfl
        have h00 : (i == 0) = false := by simpa using h0
        cases hb : Op.bytesLess (l.getD (i - 1) z43).f0.toList (l.getD i z43).f0.toList with
        | true =>
          have hst : stepOk l i = true := by unfold stepOk; rw [he, hb, h00]; rfl
          rw [hst, Bool.true_and]
          rw [hb] at hbl
          refine Ev.step (f := fun k => dir_Check.l0 k (l.map toE) (l.map toE) (l.length : Int) ((i + 1 : Nat) : Int)) (fun k => ?_) (ih (i + 1) (by omega))
          simp only [dir_Check.l0]
          rw [if_pos (by omega), if_pos (by omega), if_pos (by omega), hm, he]
          simp only [Option.bind_some]
          rw [if_pos trivial, if_pos (by omega), w_id (by omega) (by omega), if_pos (by omega), if_pos (by omega), if_pos hbl, w_id (by omega) (by omega)]
          rfl
        | false =>
          have hst : stepOk l i = false := by unfold stepOk; rw [he, hb, h00]; rfl
          rw [hst, Bool.false_and, if_neg (by decide)]
          rw [hb] at hbl
          refine Ev.step (f := fun _ => some 9) (fun k => ?_) (Ev.now _)
          simp only [dir_Check.l0]
          rw [if_pos (by omega), if_pos (by omega), if_pos (by omega), hm, he]
          simp only [Option.bind_some]
          rw [if_pos trivial, if_pos (by omega), w_id (by omega) (by omega), if_pos (by omega), if_pos (by omega), if_neg (by rw [hbl]; decide)]
theorem refcheck_loop (l : List SR) (hl : l.length ≤ 63) : ∀ (d i : Nat), i + d = l.length → Ev (fun k => undercroftref08_Check.l0 k l (i : Int)) (if (List.range' i d).all (stepOk l) = true then 0 else 9) := by
  intro d
  induction d with
  | zero =>
    intro i hi
    refine Ev.step (f := fun _ => some 0) (fun k => ?_) (by simp; exact Ev.now _)
    simp only [undercroftref08_Check.l0]
    rw [if_neg (by omega)]
  | succ d ih =>
    intro i hi
    rw [List.range'_succ, List.all_cons]
    have hx := rdR l i
    obtain ⟨K0, hK0⟩ := ref_name (l.getD i z43).f0
    have go : ∀ (g : Nat → Option Int) (r : Int), (∀ k, K0 ≤ k → undercroftref08_Check.l0 (k + 1) l (i : Int) = g k) → Ev g r → Ev (fun k => undercroftref08_Check.l0 k l (i : Int)) r := fun g r h ⟨K1, h1⟩ =>
      ⟨max K0 K1 + 1, fun k hk => by
        obtain ⟨m, rfl⟩ : ∃ m, k = m + 1 := ⟨k - 1, by omega⟩
        show undercroftref08_Check.l0 (m + 1) l (i : Int) = some r
        rw [h m (by omega), h1 m (by omega)]⟩
    have start : ∀ k, K0 ≤ k → undercroftref08_Check.l0 (k + 1) l (i : Int) = (if nameI (l.getD i z43).f0 = 0 then (if (decide (1 ≤ (l.getD i z43).f1) && decide ((l.getD i z43).f1 ≤ 2147483647)) = true then (if (i : Int) > 0 then (if 0 ≤ (wrap64 ((i : Int) - 1)) then (if (wrap64 ((i : Int) - 1)) < (l.length : Int) then (if ((Op.bytesLess (((rd_T43 l (wrap64 ((i : Int) - 1))).f0).toList) (((rd_T43 l (i : Int)).f0).toList)) = true) then (undercroftref08_Check.l0 k l (wrap64 ((i : Int) + 1))) else (some 9)) else (none)) else (none)) else (undercroftref08_Check.l0 k l (wrap64 ((i : Int) + 1)))) else (some 9)) else (some 9)) := fun k hk => by
      simp only [undercroftref08_Check.l0]
      rw [if_pos (by omega), if_pos (by omega), hx, show undercroftref08_Name.f k (l.getD i z43).f0 = some _ from hK0 k hk]
      simp only [Option.bind_some, ref_ino]
    have hent : entOk (l.getD i z43).f0 (l.getD i z43).f1 = (nameOk (l.getD i z43).f0 && (decide (1 ≤ (l.getD i z43).f1) && decide ((l.getD i z43).f1 ≤ 2147483647))) := by unfold entOk; rw [Bool.and_assoc]
    have hn0 : nameI (l.getD i z43).f0 = if nameOk (l.getD i z43).f0 = true then 0 else 106 := rfl
    cases hn : nameOk (l.getD i z43).f0 with
    | false =>
      have hst : stepOk l i = false := by unfold stepOk; rw [hent, hn]; rfl
      rw [hst, Bool.false_and, if_neg (by decide)]
      refine go (fun _ => some 9) _ (fun k hk => ?_) (Ev.now _)
      rw [start k hk, if_neg (by rw [hn0, hn]; decide)]
    | true =>
      rw [hn, if_pos rfl] at hn0
      cases hd : (decide (1 ≤ (l.getD i z43).f1) && decide ((l.getD i z43).f1 ≤ 2147483647)) with
      | false =>
        have hst : stepOk l i = false := by unfold stepOk; rw [hent, hn, hd]; rfl
        rw [hst, Bool.false_and, if_neg (by decide)]
        refine go (fun _ => some 9) _ (fun k hk => ?_) (Ev.now _)
        rw [start k hk, if_pos hn0, hd, if_neg (by decide)]
      | true =>
        by_cases h0 : i = 0
        · subst h0
          have hst : stepOk l 0 = true := by unfold stepOk; rw [hent, hn, hd]; rfl
          rw [hst, Bool.true_and]
          refine go (fun k => undercroftref08_Check.l0 k l ((0 + 1 : Nat) : Int)) _ (fun k hk => ?_) (ih 1 (by omega))
          rw [start k hk, if_pos hn0, hd, if_pos rfl, if_neg (by omega), w_id (by omega) (by omega)]
          rfl
        · have hp := rdR l (i - 1)
          have e1 : ((i - 1 : Nat) : Int) = (i : Int) - 1 := by omega
          rw [e1] at hp
          have h00 : (i == 0) = false := by simpa using h0
          cases hb : Op.bytesLess (l.getD (i - 1) z43).f0.toList (l.getD i z43).f0.toList with
          | true =>
            have hst : stepOk l i = true := by unfold stepOk; rw [hent, hn, hd, hb, h00]; rfl
            rw [hst, Bool.true_and]
            refine go (fun k => undercroftref08_Check.l0 k l ((i + 1 : Nat) : Int)) _ (fun k hk => ?_) (ih (i + 1) (by omega))
            rw [start k hk, if_pos hn0, hd, if_pos rfl, if_pos (by omega), w_id (by omega) (by omega), if_pos (by omega), if_pos (by omega), hp, hx, if_pos hb, w_id (by omega) (by omega)]
            rfl
          | false =>
            have hst : stepOk l i = false := by unfold stepOk; rw [hent, hn, hd, hb, h00]; rfl
            rw [hst, Bool.false_and, if_neg (by decide)]
            refine go (fun _ => some 9) _ (fun k hk => ?_) (Ev.now _)
            rw [start k hk, if_pos hn0, hd, if_pos rfl, if_pos (by omega), w_id (by omega) (by omega), if_pos (by omega), if_pos (by omega), hp, hx, if_neg (by rw [hb]; decide)]
/-- May entries be? -/
def Good (l : List SR) : Prop := l.length ≤ 63 ∧ (∀ x ∈ l, entOk x.f0 x.f1 = true) ∧ l.Pairwise (fun a b => Op.bytesLess a.f0.toList b.f0.toList = true)
instance (l : List SR) : Decidable (Good l) := by unfold Good; infer_instance
def checkI (l : List SR) : Int := if Good l then 0 else 9
theorem good_iff (l : List SR) : (l.length ≤ 63 ∧ (List.range l.length).all (stepOk l) = true) ↔ Good l := by
  unfold Good
  refine and_congr_right fun _ => ?_
  rw [List.all_eq_true]
  constructor
  · intro h
    have hs : ∀ i, i < l.length → stepOk l i = true := fun i hi => h i (List.mem_range.2 hi)
    refine ⟨fun x hx => ?_, ?_⟩
    · obtain ⟨i, hi, rfl⟩ := List.getElem_of_mem hx
      have := hs i hi
      simp only [stepOk, Bool.and_eq_true, getD_lt l i hi] at this
      exact this.1
    · rw [List.pairwise_iff_getElem]
      have adj : ∀ i (hi : i + 1 < l.length), Op.bytesLess (l[i]'(by omega)).f0.toList l[i + 1].f0.toList = true := fun i hi => by
        have := hs (i + 1) hi
        simp only [stepOk, Bool.and_eq_true, getD_lt l (i + 1) hi, Nat.add_sub_cancel, getD_lt l i (by omega)] at this
        simpa using this.2
      intro i j hi hj hij
      obtain ⟨d, rfl⟩ : ∃ d, j = i + 1 + d := ⟨j - i - 1, by omega⟩
      clear hij
      induction d with
      | zero => exact adj i hj
      | succ d ih => exact less_trans (ih (by omega)) (adj (i + 1 + d) hj)
  · rintro ⟨h1, h2⟩ i hi
    have hi := List.mem_range.1 hi
    simp only [stepOk, Bool.and_eq_true, getD_lt l i hi]
    refine ⟨h1 _ (List.getElem_mem hi), ?_⟩
    by_cases h0 : i = 0
    · simp [h0]
    · rw [getD_lt l (i - 1) (by omega), (List.pairwise_iff_getElem.1 h2) (i - 1) i (by omega) hi (by omega)]
      simp
theorem checkI_is (l : List SR) (hl : l.length ≤ 63) : (if (List.range' 0 l.length).all (stepOk l) = true then (0 : Int) else 9) = checkI l := by
  unfold checkI
  have := good_iff l
  rw [List.range_eq_range'] at this
  by_cases h : (List.range' 0 l.length).all (stepOk l) = true
  · rw [if_pos h, if_pos (this.1 ⟨hl, h⟩)]
  · rw [if_neg h, if_neg (fun g => h (this.2 g).2)]
theorem dir_check (l : List SR) : Ev (fun k => dir_Check.f k (l.map toE)) (checkI l) := by
  by_cases hl : l.length ≤ 63
  · rw [← checkI_is l hl]
    refine Ev.congr (fun k => ?_) (dircheck_loop l hl l.length 0 (by omega))
    unfold dir_Check.f
    simp only [List.length_map]
    rw [if_neg (by omega)]
    rfl
  · have : checkI l = 9 := by unfold checkI; rw [if_neg (fun g => hl g.1)]
    rw [this]
    refine Ev.congr (f := fun _ => some 9) (fun k => ?_) (Ev.now _)
    unfold dir_Check.f
    simp only [List.length_map]
    rw [if_pos (by omega)]
theorem ref_check (l : List SR) : Ev (fun k => undercroftref08_Check.f k l) (checkI l) := by
  by_cases hl : l.length ≤ 63
  · rw [← checkI_is l hl]
    refine Ev.congr (fun k => ?_) (refcheck_loop l hl l.length 0 (by omega))
    unfold undercroftref08_Check.f
    rw [if_neg (by omega)]
    rfl
  · have : checkI l = 9 := by unfold checkI; rw [if_neg (fun g => hl g.1)]
    rw [this]
    refine Ev.congr (f := fun _ => some 9) (fun k => ?_) (Ev.now _)
    unfold undercroftref08_Check.f
    rw [if_pos (by omega)]
/-- What lies ahead of a name, and what does not. -/
def lo (l : List SR) (n : ByteArray) : List SR := l.filter fun y => Op.bytesLess y.f0.toList n.toList
def hi (l : List SR) (n : ByteArray) : List SR := l.filter fun y => !Op.bytesLess y.f0.toList n.toList
theorem split_at (n : ByteArray) : ∀ (l : List SR), l.Pairwise (fun a b => Op.bytesLess a.f0.toList b.f0.toList = true) → l = lo l n ++ hi l n
  | [], _ => rfl
  | y :: r, h => by
    rw [List.pairwise_cons] at h
    have ih := split_at n r h.2
    cases hy : Op.bytesLess y.f0.toList n.toList with
    | true =>
      have e1 : lo (y :: r) n = y :: lo r n := by simp [lo, hy]
      have e2 : hi (y :: r) n = hi r n := by simp [hi, hy]
      rw [e1, e2, List.cons_append, ← ih]
    | false =>
      have hall : ∀ x ∈ r, Op.bytesLess x.f0.toList n.toList = false := fun x hx => by
        cases hx2 : Op.bytesLess x.f0.toList n.toList with
        | false => rfl
        | true => rw [less_trans (h.1 x hx) hx2] at hy; cases hy
      have e1 : lo (y :: r) n = [] := by
        simp only [lo, List.filter_cons, hy]
        rw [if_neg (by decide), List.filter_eq_nil_iff]
        intro x hx; rw [hall x hx]; decide
      have e2 : hi (y :: r) n = y :: r := by
        simp only [hi]
        rw [List.filter_eq_self]
        intro x hx
        rcases List.mem_cons.1 hx with rfl | hx
        · rw [hy]; rfl
        · rw [hall x hx]; rfl
      rw [e1, e2, List.nil_append]
theorem take_lo (l : List SR) (n : ByteArray) (h : l.Pairwise (fun a b => Op.bytesLess a.f0.toList b.f0.toList = true)) : l.take (lo l n).length = lo l n := by
  have hs := split_at n l h
  generalize lo l n = A at *
  generalize hi l n = B at *
  subst hs
  exact List.take_left
theorem drop_lo (l : List SR) (n : ByteArray) (h : l.Pairwise (fun a b => Op.bytesLess a.f0.toList b.f0.toList = true)) : l.drop (lo l n).length = hi l n := by
  have hs := split_at n l h
  generalize lo l n = A at *
  generalize hi l n = B at *
  subst hs
  exact List.drop_left
theorem bs_spec (p : Nat → Bool) (n : Nat) (hmono : ∀ a b, a ≤ b → b < n → p b = true → p a = true) : ∀ (f i j : Nat), i ≤ j → j ≤ n → j - i < f → (∀ h, h < i → p h = true) → (∀ h, j ≤ h → h < n → p h = false) →
    bsI p f i j ≤ n ∧ (∀ h, h < bsI p f i j → p h = true) ∧ (∀ h, bsI p f i j ≤ h → h < n → p h = false)
  | 0, _, _, _, _, hf, _, _ => by omega
  | f + 1, i, j, hij, hjn, hf, h1, h2 => by
    unfold bsI
    by_cases hlt : i < j
    · rw [if_pos hlt]
      by_cases hp : p ((i + j) / 2) = true
      · rw [if_pos hp]
        exact bs_spec p n hmono f _ j (by omega) hjn (by omega) (fun h hh => hmono h ((i + j) / 2) (by omega) (by omega) hp) h2
      · rw [if_neg hp]
        refine bs_spec p n hmono f i _ (by omega) (by omega) (by omega) h1 (fun h hh hn => ?_)
        cases hc : p h with
        | false => rfl
        | true => exact absurd (hmono ((i + j) / 2) h hh hn hc) hp
    · rw [if_neg hlt]
      exact ⟨by omega, h1, fun h hh hn => h2 h (by omega) hn⟩
theorem cmpB_neg (a b : ByteArray) : decide (cmpB a b < 0) = Op.bytesLess a.toList b.toList := by
  unfold cmpB
  cases Op.bytesLess a.toList b.toList with
  | true => rfl
  | false =>
    rw [if_neg (by decide)]
    cases (a.toList == b.toList) <;> rfl
theorem cmpB_zero (a b : ByteArray) (h : Op.bytesLess a.toList b.toList = false) : (cmpB a b == 0) = (a.toList == b.toList) := by
  unfold cmpB
  rw [h, if_neg (by decide)]
  cases (a.toList == b.toList) <;> rfl
/-- Is a name there? -/
def isI (l : List SR) (n : ByteArray) : Bool := match hi l n with
  | [] => false
  | y :: _ => y.f0.toList == n.toList
theorem search_is (l : List SR) (n : ByteArray) (hg : Good l) : dir_search.f (l.map toE) n = some (((lo l n).length : Int), isI l n) := by
  have hs := split_at n l hg.2.2
  have hlen : l.length = (lo l n).length + (hi l n).length := by rw [← List.length_append, ← hs]
  have hp : ∀ h, h < l.length → lessAt (l.map toE) n h = decide (h < (lo l n).length) := fun h hh => by
    unfold lessAt
    rw [rdE, cmpB_neg, getD_lt l h hh]
    show Op.bytesLess l[h].f0.toList n.toList = _
    by_cases hlt : h < (lo l n).length
    · have e : l[h] = (lo l n)[h] := by rw [List.getElem_of_eq hs, List.getElem_append_left hlt]
      have hm : l[h] ∈ lo l n := by rw [e]; exact List.getElem_mem hlt
      have := (List.mem_filter.1 hm).2
      rw [this]; simp [hlt]
    · have e : l[h] = (hi l n)[h - (lo l n).length]'(by omega) := by rw [List.getElem_of_eq hs, List.getElem_append_right (by omega)]
      have hm : l[h] ∈ hi l n := by rw [e]; exact List.getElem_mem _
      have := (List.mem_filter.1 hm).2
      have e2 : Op.bytesLess l[h].f0.toList n.toList = false := by simpa using this
      rw [e2]; simp [hlt]
  have hb := bs_spec (lessAt (l.map toE) n) l.length (fun a b hab hbn hpb => by
    rw [hp b hbn] at hpb
    rw [hp a (by omega)]
    have := of_decide_eq_true hpb
    exact decide_eq_true (by omega)) (l.length + 1) 0 l.length (by omega) (by omega) (by omega) (fun h hh => by omega) (fun h h1 h2 => by omega)
  have hR : bsI (lessAt (l.map toE) n) (l.length + 1) 0 l.length = (lo l n).length := by
    obtain ⟨b1, b2, b3⟩ := hb
    rcases Nat.lt_trichotomy (bsI (lessAt (l.map toE) n) (l.length + 1) 0 l.length) (lo l n).length with h | h | h
    · have := b3 _ (Nat.le_refl _) (by omega)
      rw [hp _ (by omega)] at this
      have := of_decide_eq_false this
      omega
    · exact h
    · have := b2 _ h
      rw [hp _ (by omega)] at this
      have := of_decide_eq_true this
      omega
  unfold dir_search.f
  simp only [List.length_map]
  rw [if_pos (by have := hg.1; omega), hR]
  congr 2
  unfold foundAt isI
  simp only [List.length_map]
  cases hh : hi l n with
  | nil =>
    rw [hh] at hlen
    rw [if_neg (by simp at hlen; omega)]
  | cons y r =>
    rw [hh] at hlen
    have hlt : (lo l n).length < l.length := by simp at hlen; omega
    rw [if_pos hlt, rdE, getD_lt l _ hlt]
    have e : l[(lo l n).length] = y := by
      rw [List.getElem_of_eq hs, List.getElem_append_right (by omega)]
      simp [hh]
    rw [e]
    have hm : y ∈ hi l n := by rw [hh]; exact List.mem_cons_self
    have e2 : Op.bytesLess y.f0.toList n.toList = false := by simpa using (List.mem_filter.1 hm).2
    exact cmpB_zero _ _ e2
theorem less_ne {a b : List UInt8} (h : Op.bytesLess a b = true) : (a == b) = false := by
  rw [beq_eq_false_iff_ne]
  rintro rfl
  rw [less_irrefl] at h; cases h
/-- Behind the first that is not ahead of a name all are behind the name. -/
theorem hi_tail (l : List SR) (n : ByteArray) (hs : l.Pairwise (fun a b => Op.bytesLess a.f0.toList b.f0.toList = true)) {y : SR} {r : List SR} (h : hi l n = y :: r) : ∀ x ∈ r, Op.bytesLess n.toList x.f0.toList = true := by
  intro x hx
  have hp : (hi l n).Pairwise (fun a b => Op.bytesLess a.f0.toList b.f0.toList = true) := hs.filter _
  rw [h, List.pairwise_cons] at hp
  have hyx := hp.1 x hx
  have hm : y ∈ hi l n := by rw [h]; exact List.mem_cons_self
  have e2 : Op.bytesLess y.f0.toList n.toList = false := by simpa using (List.mem_filter.1 hm).2
  by_cases e : y.f0.toList = n.toList
  · rw [← e]; exact hyx
  · exact less_trans (less_or e2 e) hyx
theorem hi_all (l : List SR) (n : ByteArray) (hs : l.Pairwise (fun a b => Op.bytesLess a.f0.toList b.f0.toList = true)) (h : isI l n = false) : ∀ x ∈ hi l n, Op.bytesLess n.toList x.f0.toList = true := by
  cases hh : hi l n with
  | nil => intro x hx; cases hx
  | cons y r =>
    intro x hx
    rcases List.mem_cons.1 hx with rfl | hx
    · unfold isI at h
      rw [hh] at h
      have hm : x ∈ hi l n := by rw [hh]; exact List.mem_cons_self
      have e2 : Op.bytesLess x.f0.toList n.toList = false := by simpa using (List.mem_filter.1 hm).2
      exact less_or e2 (by simpa using h)
    · exact hi_tail l n hs hh x hx
def addI (l : List SR) (x : SR) : List SR × Int := if Good l then (if nameOk x.f0 = true then (if entOk x.f0 x.f1 = true then (if isI l x.f0 = true then ([], 102) else if 63 ≤ l.length then ([], 51) else (lo l x.f0 ++ [x] ++ hi l x.f0, 0)) else ([], 4)) else ([], 106)) else ([], 9)
theorem dir_add (l : List SR) (a : ByteArray) (b : Int) : Ev (fun k => dir_Add.f k (l.map toE) a b) ((addI l ⟨a, b⟩).1.map toE, (addI l ⟨a, b⟩).2) := by
  unfold dir_Add.f
  refine Ev.bind (dir_check l) ?_
  unfold checkI addI
  by_cases hg : Good l
  · simp only [if_pos hg, if_true]
    rw [dir_name, search_is l a hg, dir_may]
    simp only [Option.bind_some, nameI]
    cases hn : nameOk a with
    | false => simp; exact Ev.now _
    | true =>
      rw [if_pos rfl, if_pos rfl, if_pos rfl]
      cases he : entOk a b with
      | false => simp; exact Ev.now _
      | true =>
        rw [if_pos rfl, if_pos rfl]
        cases hi_ : isI l a with
        | true => simp; exact Ev.now _
        | false =>
          simp only [Bool.false_eq_true, if_false, List.length_map]
          by_cases h63 : 63 ≤ l.length
          · rw [if_pos h63, if_pos h63]; exact Ev.now _
          · have hs := split_at a l hg.2.2
            have hle : (lo l a).length ≤ l.length := List.length_filter_le _ _
            rw [if_neg h63, if_neg h63, if_pos ⟨by omega, by rw [Int.toNat_natCast]; exact hle⟩, Int.toNat_natCast]
            have e1 : (l.map toE).take (lo l a).length = (lo l a).map toE := by
              rw [← List.map_take, take_lo l a hg.2.2]
            have e2 : (l.map toE).drop (lo l a).length = (hi l a).map toE := by
              rw [← List.map_drop, drop_lo l a hg.2.2]
            rw [e1, e2]
            simp only [List.map_append, List.map_cons, List.map_nil]
            exact Ev.now _
  · simp only [if_neg hg]
    rw [if_neg (by decide)]
    exact Ev.now _
theorem of_loop (l : List SR) (hl : l.length * 24 ≤ 140737488351232) : ∀ (d i : Nat), i + d = l.length → Ev (fun k => undercroftlaw08_Of.l0 k l ((l.take i).map toE) (i : Int)) (l.map toE) := by
  intro d
  induction d with
  | zero =>
    intro i hi
    rw [List.take_of_length_le (by omega)]
    refine Ev.step (f := fun _ => some (l.map toE)) (fun k => ?_) (Ev.now _)
    simp only [undercroftlaw08_Of.l0]
    rw [if_neg (by omega)]
  | succ d ih =>
    intro i hi
    have hlt : i < l.length := by omega
    have hx := rdR l i
    rw [getD_lt l i hlt] at hx
    refine Ev.step (f := fun k => undercroftlaw08_Of.l0 k l ((l.take (i + 1)).map toE) ((i + 1 : Nat) : Int)) (fun k => ?_) (ih (i + 1) (by omega))
    simp only [undercroftlaw08_Of.l0]
    rw [if_pos (by omega), if_pos (by omega), if_pos (by simp; omega), hx, w_id (by omega) (by omega), List.take_succ_eq_append_getElem hlt, List.map_append]
    rfl
theorem of_is (l : List SR) (hl : l.length * 24 ≤ 140737488351232) : Ev (fun k => undercroftlaw08_Of.f k l) (l.map toE) := of_loop l hl l.length 0 (by omega)
theorem alike_loop (l : List SR) (hl : l.length ≤ 140737488351232) : ∀ (d i : Nat), i + d = l.length → Ev (fun k => undercroftlaw08_Alike.l0 k (l.map toE) l (i : Int)) 0 := by
  intro d
  induction d with
  | zero =>
    intro i hi
    refine Ev.step (f := fun _ => some 0) (fun k => ?_) (Ev.now _)
    simp only [undercroftlaw08_Alike.l0, List.length_map]
    rw [if_neg (by omega)]
  | succ d ih =>
    intro i hi
    have hlt : i < l.length := by omega
    have hc : (!((rd_T42 (l.map toE) (i : Int)).f0.toList == (rd_T43 l (i : Int)).f0.toList) || !((rd_T42 (l.map toE) (i : Int)).f1 == (rd_T43 l (i : Int)).f1)) = false := by
      rw [rdE, rdR]; simp [toE]
    refine Ev.step (f := fun k => undercroftlaw08_Alike.l0 k (l.map toE) l ((i + 1 : Nat) : Int)) (fun k => ?_) (ih (i + 1) (by omega))
    simp only [undercroftlaw08_Alike.l0, List.length_map]
    rw [if_pos (by omega), if_pos (by omega), if_pos (by omega), if_neg (by rw [hc]; decide), w_id (by omega) (by omega)]
    rfl
theorem alike_is (l : List SR) (hl : l.length ≤ 140737488351232) : Ev (fun k => undercroftlaw08_Alike.f k (l.map toE) l) 0 := by
  refine Ev.congr (fun k => ?_) (alike_loop l hl l.length 0 (by omega))
  unfold undercroftlaw08_Alike.f
  simp only [List.length_map]
  rw [if_pos trivial]
  rfl
theorem good_nil : Good [] := ⟨by simp, (fun x hx => by cases hx), List.Pairwise.nil⟩
theorem alive_is : Ev undercroftlaw08_alive.f true := by
  have n1 : nameOk ⟨#[98]⟩ = true := by decide +kernel
  have n2 : nameOk ⟨#[97]⟩ = true := by decide +kernel
  have e1 : entOk ⟨#[98]⟩ 2 = true := by decide +kernel
  have e2 : entOk ⟨#[97]⟩ 3 = true := by decide +kernel
  have b1 : Op.bytesLess (⟨#[98]⟩ : ByteArray).toList (⟨#[97]⟩ : ByteArray).toList = false := by decide +kernel
  have b2 : ((⟨#[98]⟩ : ByteArray).toList == (⟨#[97]⟩ : ByteArray).toList) = false := by decide +kernel
  have h1 : addI [] ⟨⟨#[98]⟩, 2⟩ = ([⟨⟨#[98]⟩, 2⟩], 0) := by
    unfold addI
    rw [if_pos good_nil, if_pos n1, if_pos e1, if_neg (by decide), if_neg (by decide)]
    rfl
  have g1 : Good [⟨⟨#[98]⟩, 2⟩] := ⟨by simp, fun x hx => by simp at hx; subst hx; exact e1, List.pairwise_singleton _ _⟩
  have l1 : lo [⟨⟨#[98]⟩, 2⟩] ⟨#[97]⟩ = [] := by unfold lo; rw [List.filter_cons, b1]; rfl
  have l2 : hi [⟨⟨#[98]⟩, 2⟩] ⟨#[97]⟩ = [⟨⟨#[98]⟩, 2⟩] := by unfold hi; rw [List.filter_cons, b1]; rfl
  have h2 : addI [⟨⟨#[98]⟩, 2⟩] ⟨⟨#[97]⟩, 3⟩ = ([⟨⟨#[97]⟩, 3⟩, ⟨⟨#[98]⟩, 2⟩], 0) := by
    unfold addI
    have i1 : isI [⟨⟨#[98]⟩, 2⟩] ⟨#[97]⟩ = false := by unfold isI; rw [l2]; exact b2
    rw [if_pos g1, if_pos n2, if_pos e2, if_neg (by rw [i1]; decide), if_neg (by decide), l1, l2]
    rfl
  have d1 := dir_add [] ⟨#[98]⟩ 2
  have d2 := dir_add [⟨⟨#[98]⟩, 2⟩] ⟨#[97]⟩ 3
  rw [h1] at d1
  rw [h2] at d2
  unfold undercroftlaw08_alive.f
  refine Ev.bind d1 (Ev.bind d2 ?_)
  have h3 : dir_Name.f (⟨#[97, 47, 98]⟩ : ByteArray) = some 106 := by rw [dir_name]; decide +kernel
  have h4 : (rd_T42 (List.map toE [⟨⟨#[97]⟩, 3⟩, ⟨⟨#[98]⟩, 2⟩]) 0).f0.toList = ([97] : List UInt8) := by
    show (⟨#[97]⟩ : ByteArray).toList = [97]
    rw [Lib.toList_data]
  refine Ev.congr (f := fun _ => some true) (fun k => ?_) (Ev.now _)
  simp only [undercroftlaw08_num.f, Option.bind_some, h3]
  rw [if_pos (by rw [w_id (by omega) (by omega)]; rfl), if_pos (by rfl), if_pos (by decide), if_pos h4]
  rfl

theorem sameBytes_loop (a b : List Int) (hl : a.length = b.length) (hm : a.length ≤ 9223372036854775807) : ∀ (d k i : Nat), i + d = a.length → d < k → a.take i = b.take i →
    undercroftplain_SameBytes.l0 k a b (i : Int) = some (decide (a = b)) := by
  intro d
  induction d with
  | zero =>
    intro k i hi hk ht
    obtain ⟨k, rfl⟩ : ∃ m, k = m + 1 := ⟨k - 1, by omega⟩
    simp only [undercroftplain_SameBytes.l0]
    rw [if_neg (by omega)]
    have : a = b := by
      rw [List.take_of_length_le (by omega), List.take_of_length_le (by omega)] at ht
      exact ht
    rw [decide_eq_true this]
  | succ d ih =>
    intro k i hi hk ht
    obtain ⟨k, rfl⟩ : ∃ m, k = m + 1 := ⟨k - 1, by omega⟩
    simp only [undercroftplain_SameBytes.l0]
    rw [if_pos (by omega), if_pos (by omega), if_pos (by omega), rd_nat a i (by omega), rd_nat b i (by omega)]
    by_cases h : a[i]'(by omega) = b[i]'(by omega)
    · rw [if_pos h, w_id (by omega) (by omega)]
      have := ih k (i + 1) (by omega) (by omega) (by
        rw [List.take_succ_eq_append_getElem (by omega), List.take_succ_eq_append_getElem (by omega), ht, h])
      exact_mod_cast this
    · rw [if_neg h]
      have : a ≠ b := by
        rintro rfl
        exact h rfl
      rw [decide_eq_false this]
theorem sameBytes_is (a b : List Int) (k : Nat) (hk : a.length < k) (hm : a.length ≤ 9223372036854775807) : undercroftplain_SameBytes.f k a b = some (decide (a = b)) := by
  unfold undercroftplain_SameBytes.f
  by_cases hl : a.length = b.length
  · rw [if_pos (by omega)]
    exact sameBytes_loop a b hl hm a.length k 0 (by omega) hk rfl
  · rw [if_neg (by omega)]
    have : a ≠ b := by
      rintro rfl
      exact hl rfl
    rw [decide_eq_false this]

theorem copyBytes_is (a : List Int) (h : a.length < 140737488355328) : undercroftplain_CopyBytes.f a = some a := by
  unfold undercroftplain_CopyBytes.f
  rw [if_pos (by simpa using h)]
  simp

theorem tz_split : ∀ (l : List Int), ∃ z, l = List.replicate z 0 ++ tz l
  | [] => ⟨0, rfl⟩
  | x :: r => by
    obtain ⟨z, hz⟩ := tz_split r
    unfold tz
    split
    · rename_i h
      refine ⟨z + 1, ?_⟩
      rw [List.replicate_succ, List.cons_append, ← hz, h]
    · exact ⟨0, by simp⟩
theorem numI_rep : ∀ (z : Nat) (l : List Int), numI (List.replicate z 0 ++ l) = numI l
  | 0, l => by simp
  | z + 1, l => by
    rw [List.replicate_succ, List.cons_append]
    show (List.replicate z 0 ++ l).foldl (fun n x => n * 256 + x) (0 * 256 + 0) = _
    exact numI_rep z l
theorem octs_of' {l : List Int} (h : Oct l) : octs l = true := List.all_eq_true.2 (fun x hx => by have := h x hx; simp; omega)
theorem num_take (l : List Int) (h : Oct l) (h8 : (tz l).length ≤ 8) (i : Nat) (hi : i < l.length) : 0 ≤ numI (l.take i) ∧ numI (l.take i) < 72057594037927936 := by
  obtain ⟨z, hz⟩ := tz_split l
  have hlen : l.length = z + (tz l).length := by conv => lhs; rw [hz]
                                                 simp
  by_cases hiz : i ≤ z
  · have e : l.take i = List.replicate i 0 ++ [] := by
      rw [hz, List.take_append_of_le_length (by simpa using hiz), List.take_replicate, Nat.min_eq_left hiz, List.append_nil]
    rw [e, numI_rep]
    exact ⟨by decide, by decide⟩
  · have e : l.take i = List.replicate z 0 ++ (tz l).take (i - z) := by
      conv => lhs; rw [hz]
      rw [List.take_append, List.take_of_length_le (by simp; omega), List.length_replicate]
    rw [e, numI_rep]
    have hl : ((tz l).take (i - z)).length = i - z := by rw [List.length_take]; omega
    have ho : octs ((tz l).take (i - z)) = true := List.all_eq_true.2 (fun x hx => List.all_eq_true.1 (octs_tz (octs_of' h)) x (List.mem_of_mem_take hx))
    have hb := numI_bound (i - z) _ hl ho
    exact ⟨hb.1, Int.lt_of_lt_of_le hb.2 (pow7 (by omega))⟩

theorem or_i64 (u i v : Nat) (h : v < 2 ^ i) (hu : u * 2 ^ i + v < 4294967296) : Go.bits .or .i64 ((u * 2 ^ i : Nat) : Int) ((v : Nat) : Int) = ((u * 2 ^ i + v : Nat) : Int) := by
  have h1 : (BitVec.ofInt 64 ((u * 2 ^ i : Nat) : Int)).toNat = u * 2 ^ i := by
    rw [BitVec.ofInt_natCast, BitVec.toNat_ofNat]; exact Nat.mod_eq_of_lt (by omega)
  have h2 : (BitVec.ofInt 64 (v : Int)).toNat = v := by
    rw [BitVec.ofInt_natCast, BitVec.toNat_ofNat]; exact Nat.mod_eq_of_lt (by omega)
  have e := Nat.shiftLeft_add_eq_or_of_lt h u
  rw [Nat.shiftLeft_eq] at e
  show IntKind.i64.wrap ((BitVec.ofInt 64 ((u * 2 ^ i : Nat) : Int) ||| BitVec.ofInt 64 (v : Int)).toNat : Int) = _
  rw [BitVec.toNat_or, h1, h2, ← e]
  generalize u * 2 ^ i + v = y at *
  simp [IntKind.wrap, IntKind.bits, IntKind.signed]
  omega
theorem five_ (a b c : Nat) : (((a * 256 + b) * 65536 + c * 256 : Nat) : Int) = (((a * 65536 + b * 256 + c) * 256 : Nat) : Int) := by
  have h : (a * 256 + b) * 65536 + c * 256 = (a * 65536 + b * 256 + c) * 256 := by
    rw [Nat.add_mul, Nat.add_mul, Nat.add_mul, Nat.mul_assoc a, Nat.mul_assoc a, Nat.mul_assoc b]
  rw [h]
theorem six_ (a b c d : Nat) : (((a * 65536 + b * 256 + c) * 256 + d : Nat) : Int) = ((((0 : Int) * 256 + a) * 256 + b) * 256 + c) * 256 + d := by
  have h : (a * 65536 + b * 256 + c) * 256 + d = ((a * 256 + b) * 256 + c) * 256 + d := by
    rw [Nat.add_mul (a * 256) b 256, Nat.mul_assoc a]
  rw [h, Int.zero_mul, Int.zero_add]
  simp
theorem or_four (a b c d : Int) (ha : 0 ≤ a ∧ a ≤ 255) (hb : 0 ≤ b ∧ b ≤ 255) (hc : 0 ≤ c ∧ c ≤ 255) (hd : 0 ≤ d ∧ d ≤ 255) :
    Go.bits .or .i64 (Go.bits .or .i64 (Go.bits .or .i64 (wrap64 ((wrap64 a) * 16777216)) (wrap64 ((wrap64 b) * 65536))) (wrap64 ((wrap64 c) * 256))) (wrap64 d) = numI [a, b, c, d] := by
  rw [w_id (x := a) (by omega) (by omega), w_id (x := b) (by omega) (by omega), w_id (x := c) (by omega) (by omega), w_id (x := d) (by omega) (by omega), w_id (by omega) (by omega), w_id (by omega) (by omega), w_id (by omega) (by omega)]
  obtain ⟨a, rfl⟩ : ∃ m : Nat, a = (m : Int) := ⟨a.toNat, by omega⟩
  obtain ⟨b, rfl⟩ : ∃ m : Nat, b = (m : Int) := ⟨b.toNat, by omega⟩
  obtain ⟨c, rfl⟩ : ∃ m : Nat, c = (m : Int) := ⟨c.toNat, by omega⟩
  obtain ⟨d, rfl⟩ : ∃ m : Nat, d = (m : Int) := ⟨d.toNat, by omega⟩
  have e1 := or_i64 a 24 (b * 65536) (by omega) (by omega)
  have e2 := or_i64 (a * 256 + b) 16 (c * 256) (by omega) (by omega)
  have e3 := or_i64 (a * 65536 + b * 256 + c) 8 d (by omega) (by omega)
  rw [show (2 : Nat) ^ 24 = 16777216 from by decide] at e1
  rw [show (2 : Nat) ^ 16 = 65536 from by decide] at e2
  rw [show (2 : Nat) ^ 8 = 256 from by decide] at e3
  have f1 : ((a : Int) * 16777216) = ((a * 16777216 : Nat) : Int) := by omega
  have f2 : ((b : Int) * 65536) = ((b * 65536 : Nat) : Int) := by omega
  have f3 : ((a * 16777216 + b * 65536 : Nat) : Int) = (((a * 256 + b) * 65536 : Nat) : Int) := by omega
  have f4 : ((c : Int) * 256) = ((c * 256 : Nat) : Int) := by omega
  have f5 : (((a * 256 + b) * 65536 + c * 256 : Nat) : Int) = (((a * 65536 + b * 256 + c) * 256 : Nat) : Int) := five_ a b c
  rw [f1, f2, e1, f3, f4, e2, f5, e3]
  have g : numI [(a : Int), (b : Int), (c : Int), (d : Int)] = ((((0 : Int) * 256 + a) * 256 + b) * 256 + c) * 256 + d := rfl
  rw [g]
  exact six_ a b c d
/-- The entries of octets: what the page says. -/
def decI : Nat → List Int → List SR → List SR × Int
  | 0, _, _ => ([], 8)
  | _ + 1, [], acc => if Good acc then (acc, 0) else ([], 9)
  | f + 1, n :: r, acc => if r.length < n.toNat + 4 then ([], 8) else decI f (r.drop (n.toNat + 4)) (acc ++ [⟨strOfNums (r.take n.toNat), numI ((r.drop n.toNat).take 4)⟩])
theorem decI_good : ∀ (f : Nat) (b : List Int) (acc : List SR), ((decI f b acc).2 = 0 ∧ Good (decI f b acc).1) ∨ ((decI f b acc).2 ≠ 0 ∧ (decI f b acc).1 = [])
  | 0, _, _ => .inr ⟨by simp [decI], rfl⟩
  | f + 1, [], acc => by
    unfold decI
    by_cases h : Good acc
    · rw [if_pos h]; exact .inl ⟨rfl, h⟩
    · rw [if_neg h]; exact .inr ⟨by simp, rfl⟩
  | f + 1, n :: r, acc => by
    unfold decI
    by_cases h : r.length < n.toNat + 4
    · rw [if_pos h]; exact .inr ⟨by simp, rfl⟩
    · rw [if_neg h]; exact decI_good f _ _
theorem get4 {l : List Int} (h : Oct l) (h4 : l.length = 4) : octets_Get.f l = some (numI l, 0) := by
  unfold octets_Get.f
  have ht := tz_length l
  rw [if_pos ⟨octs_of' h, by omega⟩, if_pos (by omega)]
  obtain ⟨z, hz⟩ := tz_split l
  have e : numI l = numI (tz l) := by
    conv => lhs; rw [hz]
    exact numI_rep z (tz l)
  rw [e]
theorem mid4 (r : List Int) (m : Nat) : (r.take (m + 4)).drop m = (r.drop m).take 4 := by rw [List.drop_take]; congr 1; omega
set_option maxHeartbeats 4000000 in
theorem dir_dec : ∀ (f : Nat) (b : List Int) (acc : List SR), b.length < f → Oct b → b.length + acc.length ≤ 1048576 → Ev (fun k => dir_Decode.l0 k b (acc.map toE)) ((decI f b acc).1.map toE, (decI f b acc).2)
  | 0, b, acc, h, _, _ => by omega
  | f + 1, [], acc, _, _, _ => by
    have hc := dir_check acc
    refine Ev.step (f := fun k => (dir_Check.f k (acc.map toE)).bind fun t => if t = 0 then some (acc.map toE, 0) else some ([], t)) (fun k => ?_) ?_
    · simp only [dir_Decode.l0]; rw [if_neg (by simp)]
    · refine Ev.bind hc ?_
      unfold checkI decI
      by_cases hg : Good acc
      · simp only [if_pos hg, if_true]; exact Ev.now _
      · simp only [if_neg hg]; rw [if_neg (by decide)]; exact Ev.now _
  | f + 1, n :: r, acc, hf, ho, hb => by
    have hn := ho n List.mem_cons_self
    obtain ⟨m, rfl⟩ : ∃ m : Nat, n = (m : Int) := ⟨n.toNat, by omega⟩
    have hor : Oct r := fun x hx => ho x (List.mem_cons_of_mem _ hx)
    simp only [List.length_cons] at hf hb
    have hrd : rd ((m : Int) :: r) 0 = (m : Int) := rfl
    have hw0 : wrap64 (m : Int) = m := w_id (by omega) (by omega)
    have hw1 : wrap64 ((m : Int) + 1) = ((m + 1 : Nat) : Int) := by rw [w_id (by omega) (by omega)]; rfl
    have hw5 : wrap64 ((m : Int) + 5) = ((m + 5 : Nat) : Int) := by rw [w_id (by omega) (by omega)]; rfl
    have hlen : ((m : Int) :: r).length = r.length + 1 := rfl
    by_cases hs : r.length < m + 4
    · have e : decI (f + 1) ((m : Int) :: r) acc = ([], 8) := by
        show (if r.length < (m : Int).toNat + 4 then _ else _) = _
        rw [if_pos (by omega)]
      rw [e]
      refine Ev.step (f := fun _ => some ([], 8)) (fun k => ?_) (Ev.now _)
      simp only [dir_Decode.l0, hrd, hw0, hw1, hw5, hlen]
      rw [if_pos (by omega), if_pos (by omega), if_pos (by omega)]
    · have e : decI (f + 1) ((m : Int) :: r) acc = decI f (r.drop (m + 4)) (acc ++ [⟨strOfNums (r.take m), numI ((r.drop m).take 4)⟩]) := by
        show (if r.length < (m : Int).toNat + 4 then _ else _) = _
        rw [if_neg (by omega)]
        rfl
      rw [e]
      have ih := dir_dec f (r.drop (m + 4)) (acc ++ [⟨strOfNums (r.take m), numI ((r.drop m).take 4)⟩]) (by rw [List.length_drop]; omega) (hor.drop _) (by simp; omega)
      have d1 : (((m : Int) :: r).take (m + 5)).drop (m + 1) = (r.drop m).take 4 := mid4 r m
      have d2 : (((m : Int) :: r).take (m + 1)).drop 1 = r.take m := rfl
      have d3 : ((m : Int) :: r).drop (m + 5) = r.drop (m + 4) := rfl
      have h4 : ((r.drop m).take 4).length = 4 := by rw [List.length_take, List.length_drop]; omega
      have hg := get4 ((hor.drop m).take 4) h4
      have hnum := numI_bound 4 ((r.drop m).take 4) h4 (octs_of' ((hor.drop m).take 4))
      have hw : wrap64 (numI ((r.drop m).take 4)) = numI ((r.drop m).take 4) := w_id (by omega) (by omega)
      refine Ev.step (f := fun k => dir_Decode.l0 k (r.drop (m + 4)) ((acc ++ [(⟨strOfNums (r.take m), numI ((r.drop m).take 4)⟩ : SR)]).map toE)) (fun k => ?_) ih
      simp only [dir_Decode.l0, hrd, hw0, hw1, hw5, hlen, Int.toNat_natCast, d1, d2, d3, hg, Option.bind_some, hw, List.length_map]
      rw [if_pos (by omega), if_pos (by omega), if_neg (by omega), if_pos (by omega), if_pos (by omega), if_pos (by omega), if_pos (by omega), if_pos (by omega), if_pos (by omega), if_pos (by omega), List.map_append]
      rfl
theorem ws_ (p m L : Nat) (hm : m ≤ 255) (hL : L ≤ 1048576) (hp : p < L) : wrap64 (m : Int) = m ∧ wrap64 ((m : Int) + 5) = (m : Int) + 5 ∧ wrap64 ((L : Int) - p) = (L : Int) - p ∧ wrap64 ((p : Int) + 1) = ((p + 1 : Nat) : Int) ∧ wrap64 ((p : Int) + 5) = ((p + 5 : Nat) : Int) ∧ wrap64 (((p + 1 : Nat) : Int) + m) = ((p + 1 + m : Nat) : Int) ∧ wrap64 (((p + 5 : Nat) : Int) + m) = ((p + 1 + (m + 4) : Nat) : Int) ∧ wrap64 (wrap64 ((p : Int) + m) + 5) = ((p + 1 + (m + 4) : Nat) : Int) := by
  unfold wrap64
  refine ⟨?_, ?_, ?_, ?_, ?_, ?_, ?_, ?_⟩ <;> omega
theorem ref_short (l : List Int) (hl : l.length ≤ 1048576) (k p m : Nat) (acc : List SR) (hlt : p < l.length) (hm : m ≤ 255) (hrd : rd l (p : Int) = (m : Int)) (hs : l.length < p + 5 + m) : undercroftref08_Decode.l0 (k + 1) l acc (p : Int) = some ([], 8) := by
  obtain ⟨hw0, hwm, hwl, hw1, hw5, hw1m, hw5m, hwn⟩ := ws_ p m l.length hm hl hlt
  simp only [undercroftref08_Decode.l0, hrd, hw0, hwm, hwl]
  clear hw0 hwm hwl hw1 hw5 hw1m hw5m hwn hrd
  rw [if_pos (by omega), if_pos (by omega), if_pos (by omega)]
theorem cut_mid_ (l : List Int) (p m : Nat) : (l.take (p + 1 + m)).drop (p + 1) = (l.drop (p + 1)).take m := by rw [List.drop_take]; congr 1; omega
theorem cut_four_ (l : List Int) (p m : Nat) : (l.take (p + 1 + (m + 4))).drop (p + 1 + m) = ((l.drop (p + 1)).drop m).take 4 := by rw [List.drop_take, List.drop_drop]; congr 1; omega
theorem ref_step (l : List Int) (hl : l.length ≤ 1048576) (k p m : Nat) (acc : List SR) (hlt : p < l.length) (hm : m ≤ 255) (hrd : rd l (p : Int) = (m : Int)) (hs : p + 5 + m ≤ l.length) (ha : acc.length ≤ 1048576) (a b c d : Int) (hq : Oct [a, b, c, d]) (d2 : ((l.drop (p + 1)).drop m).take 4 = [a, b, c, d]) :
    undercroftref08_Decode.l0 (k + 1) l acc (p : Int) = undercroftref08_Decode.l0 k l (acc ++ [(⟨strOfNums ((l.drop (p + 1)).take m), numI [a, b, c, d]⟩ : SR)]) ((p + 1 + (m + 4) : Nat) : Int) := by
  obtain ⟨hw0, hwm, hwl, hw1, hw5, hw1m, hw5m, hwn⟩ := ws_ p m l.length hm hl hlt
  have d1 := cut_mid_ l p m
  have d3 := (cut_four_ l p m).trans d2
  simp only [undercroftref08_Decode.l0, hrd, hw0, hwm, hwl, hw1, hw5, hw1m, hw5m, hwn, Int.toNat_natCast, d1, d3]
  have r0 : rd [a, b, c, d] 0 = a := rfl
  have r1 : rd [a, b, c, d] 1 = b := rfl
  have r2 : rd [a, b, c, d] 2 = c := rfl
  have r3 : rd [a, b, c, d] 3 = d := rfl
  rw [r0, r1, r2, r3, or_four a b c d (hq a (by simp)) (hq b (by simp)) (hq c (by simp)) (hq d (by simp))]
  clear hw0 hwm hwl hw1 hw5 hw1m hw5m hwn d1 d2 d3 r0 r1 r2 r3 hrd hq
  rw [if_pos (by omega), if_pos (by omega), if_neg (by omega), if_pos (by omega), if_pos (by omega), if_pos (by omega), if_pos (by omega), if_pos (by omega), if_pos (by omega), if_pos (by simp), if_pos (by simp), if_pos (by simp), if_pos (by simp), if_pos (by omega)]
theorem ref_dec (l : List Int) (ho : Oct l) (hl : l.length ≤ 1048576) : ∀ (f p : Nat) (acc : List SR), l.length < p + f → p ≤ l.length → acc.length ≤ p → Ev (fun k => undercroftref08_Decode.l0 k l acc (p : Int)) (decI f (l.drop p) acc)
  | 0, p, acc, h, hp, _ => by omega
  | f + 1, p, acc, hf, hp, hb => by
    by_cases hlt : p < l.length
    case neg =>
      have e0 : l.drop p = [] := List.drop_eq_nil_of_le (by omega)
      rw [e0]
      refine Ev.step (f := fun k => (undercroftref08_Check.f k acc).bind fun t => if t = 0 then some (acc, 0) else some ([], 9)) (fun k => ?_) ?_
      · simp only [undercroftref08_Decode.l0]; rw [if_neg (by omega)]
      · refine Ev.bind (ref_check acc) ?_
        unfold checkI decI
        by_cases hg : Good acc
        · simp only [if_pos hg, if_true]; exact Ev.now _
        · simp only [if_neg hg]; rw [if_neg (by decide)]; exact Ev.now _
    case pos =>
      have hd := List.drop_eq_getElem_cons hlt
      have hn := ho l[p] (List.getElem_mem hlt)
      have hrd := rd_nat l p hlt
      rw [← hrd] at hd hn
      obtain ⟨m, hm⟩ : ∃ m : Nat, rd l (p : Int) = (m : Int) := ⟨(rd l (p : Int)).toNat, (Int.toNat_of_nonneg hn.1).symm⟩
      rw [hm] at hd hn
      have hm255 : m ≤ 255 := Int.ofNat_le.1 hn.2
      clear hn hrd
      rw [hd]
      have hld1 : (l.drop (p + 1)).length = l.length - (p + 1) := List.length_drop
      by_cases hs : l.length < p + 5 + m
      · have e : decI (f + 1) ((m : Int) :: l.drop (p + 1)) acc = ([], 8) := by
          show (if (l.drop (p + 1)).length < (m : Int).toNat + 4 then _ else _) = _
          rw [if_pos (by rw [hld1, Int.toNat_natCast]; clear hm hd; omega)]
        rw [e]
        exact Ev.step (f := fun _ => some ([], 8)) (fun k => ref_short l hl k p m acc hlt hm255 hm hs) (Ev.now _)
      · have e : decI (f + 1) ((m : Int) :: l.drop (p + 1)) acc = decI f (l.drop (p + 1 + (m + 4))) (acc ++ [⟨strOfNums ((l.drop (p + 1)).take m), numI (((l.drop (p + 1)).drop m).take 4)⟩]) := by
          show (if (l.drop (p + 1)).length < (m : Int).toNat + 4 then _ else _) = _
          rw [if_neg (by rw [hld1, Int.toNat_natCast]; clear hm hd; omega), Int.toNat_natCast, show (l.drop (p + 1)).drop (m + 4) = l.drop (p + 1 + (m + 4)) from List.drop_drop]
        rw [e]
        have h4 : (((l.drop (p + 1)).drop m).take 4).length = 4 := by rw [List.length_take, List.length_drop, hld1]; clear hm hd e; omega
        have hq : Oct (((l.drop (p + 1)).drop m).take 4) := ((ho.drop (p + 1)).drop m).take 4
        obtain ⟨a, b, c, d, hab⟩ : ∃ a b c d, ((l.drop (p + 1)).drop m).take 4 = [a, b, c, d] := by
          generalize ((l.drop (p + 1)).drop m).take 4 = q at h4
          match q, h4 with
          | [a, b, c, d], _ => exact ⟨a, b, c, d, rfl⟩
        rw [hab] at hq ⊢
        have hs' : p + 5 + m ≤ l.length := Nat.le_of_not_lt hs
        clear hs h4 hld1 e hd
        exact Ev.step (fun k => ref_step l hl k p m acc hlt hm255 hm hs' (by clear hm hq hab; omega) a b c d hq hab) (ref_dec l ho hl f (p + 1 + (m + 4)) (acc ++ [⟨strOfNums ((l.drop (p + 1)).take m), numI [a, b, c, d]⟩]) (by clear hm hq hab; omega) (by clear hm hq hab; omega) (by rw [List.length_append, List.length_singleton]; clear hm hq hab; omega))
/-- All entries' octets. -/
def encR (l : List SR) : List Int := encA (l.map toE)
theorem encR_snoc (l : List SR) (x : SR) : encR (l ++ [x]) = encR l ++ encE (toE x) := by unfold encR; rw [List.map_append]; exact encA_snoc _ _
def encI (l : List SR) : List Int × Int := if Good l then (encR l, 0) else ([], 9)
theorem ent_size {l : List SR} (h : Good l) {x : SR} (hx : x ∈ l) : x.f0.size ≤ 16 ∧ 1 ≤ x.f1 ∧ x.f1 ≤ 2147483647 := by
  have := h.2.1 x hx
  simp only [entOk, nameOk, Bool.and_eq_true, decide_eq_true_eq] at this
  exact ⟨this.1.1.1.1.1.1.2, this.1.2, this.2⟩
theorem good_enc {l : List SR} (h : Good l) : encOk (l.map toE) = true := by
  simp only [encOk, Bool.and_eq_true, decide_eq_true_eq, List.all_eq_true, List.length_map]
  refine ⟨h.1, fun y hy => ?_⟩
  obtain ⟨x, hx, rfl⟩ := List.mem_map.1 hy
  have := ent_size h hx
  exact ⟨⟨this.1, this.2.1⟩, this.2.2⟩
theorem dir_enc (l : List SR) : Ev (fun k => dir_Encode.f k (l.map toE)) (encI l) := by
  unfold dir_Encode.f
  refine Ev.bind (dir_check l) ?_
  unfold checkI encI
  by_cases h : Good l
  · simp only [if_pos h, if_true, good_enc h]; exact Ev.now _
  · simp only [if_neg h]; rw [if_neg (by decide)]; exact Ev.now _
theorem octI4 (m : Int) : octI m 4 = [m / 16777216 % 256, m / 65536 % 256, m / 256 % 256, m % 256] := by
  show [m / 256 ^ 3 % 256, m / 256 ^ 2 % 256, m / 256 ^ 1 % 256, m / 256 ^ 0 % 256] = _
  simp
theorem encR_len {l : List SR} (h : Good l) (i : Nat) : (encR (l.take i)).length ≤ 1323 := by
  have h1 := encA_length ((l.take i).map toE) (fun y hy => by
    obtain ⟨x, hx, rfl⟩ := List.mem_map.1 hy
    exact (ent_size h (List.mem_of_mem_take hx)).1)
  have h2 := h.1
  rw [List.length_map, List.length_take] at h1
  unfold encR
  omega
theorem refenc_loop (l : List SR) (h : Good l) : ∀ (d i : Nat), i + d = l.length → Ev (fun k => undercroftref08_Encode.l0 k l (encR (l.take i)) (i : Int)) (encR l, 0) := by
  intro d
  induction d with
  | zero =>
    intro i hi
    rw [List.take_of_length_le (by omega)]
    refine Ev.step (f := fun _ => some (encR l, 0)) (fun k => ?_) (Ev.now _)
    simp only [undercroftref08_Encode.l0]
    rw [if_neg (by omega)]
  | succ d ih =>
    intro i hi
    have hlt : i < l.length := by omega
    have hx := rdR l i
    rw [getD_lt l i hlt] at hx
    have hlen := encR_len h i
    have hs := ent_size h (List.getElem_mem hlt)
    have h63 := h.1
    have e1 : encR (l.take (i + 1)) = encR (l.take i) ++ encE (toE l[i]) := by rw [List.take_succ_eq_append_getElem hlt, encR_snoc]
    have ih := ih (i + 1) (by omega)
    refine Ev.step (f := fun k => undercroftref08_Encode.l0 k l (encR (l.take (i + 1))) ((i + 1 : Nat) : Int)) (fun k => ?_) ih
    have e2 : encE (toE l[i]) = [(l[i].f0.size : Int) % 256] ++ bytesOf l[i].f0 ++ [l[i].f1 / 16777216 % 256, l[i].f1 / 65536 % 256, l[i].f1 / 256 % 256, l[i].f1 % 256] := by
      show (l[i].f0.size : Int) :: (bytesOf l[i].f0 ++ octI l[i].f1 4) = _
      rw [octI4, show (l[i].f0.size : Int) % 256 = l[i].f0.size by omega]
      simp
    simp only [undercroftref08_Encode.l0, hx, Option.bind_some]
    rw [if_pos (by omega), if_pos (by omega), if_pos (by omega), if_pos (by simp; omega), if_pos (by simp [bytesOf_length]; omega), w_id (by omega) (by omega), e1, e2]
    simp only [List.append_assoc]
    rfl
theorem ref_enc (l : List SR) : Ev (fun k => undercroftref08_Encode.f k l) (encI l) := by
  unfold undercroftref08_Encode.f
  refine Ev.bind (ref_check l) ?_
  unfold checkI encI
  by_cases h : Good l
  · simp only [if_pos h, if_true]; exact refenc_loop l h l.length 0 (by omega)
  · simp only [if_neg h]; exact Ev.congr (f := fun _ => some (([] : List Int), (9 : Int))) (fun k => if_neg (by decide)) (Ev.now _)
theorem same_is (a b : List Int) (hm : a.length ≤ 9223372036854775807) : Ev (fun k => undercroftplain_SameBytes.f k a b) (decide (a = b)) := ⟨a.length + 1, fun k hk => sameBytes_is a b k (by omega) hm⟩
theorem encI_len (l : List SR) : (encI l).1.length ≤ 1323 := by
  unfold encI
  by_cases h : Good l
  · rw [if_pos h]
    have := encR_len h l.length
    rwa [List.take_length] at this
  · rw [if_neg h]; simp

theorem div_out (n : Int) (i : Nat) : n / 256 / 256 ^ i = n / 256 ^ (i + 1) := by
  rw [Int.pow_succ, Int.mul_comm, Int.ediv_ediv_of_nonneg (by decide)]
theorem octI_snoc (n : Int) (s : Nat) : octI n (s + 1) = octI (n / 256) s ++ [n % 256] := by
  unfold octI
  rw [List.range_succ, List.map_append, List.map_singleton]
  congr 1
  · refine List.map_congr_left fun i hi => ?_
    have hi := List.mem_range.1 hi
    have e : s + 1 - 1 - i = (s - 1 - i) + 1 := by omega
    rw [e, ← div_out]
  · simp
theorem numI_octI : ∀ (s : Nat) (n : Int), 0 ≤ n → n < 256 ^ s → numI (octI n s) = n := by
  intro s
  induction s with
  | zero =>
    intro n h0 h1
    have : n = 0 := by simp at h1; omega
    subst this
    rfl
  | succ s ih =>
    intro n h0 h1
    rw [octI_snoc, numI_snoc, ih (n / 256) (by omega) (by rw [Int.pow_succ] at h1; omega)]
    omega
theorem octI_num4 (q : List Int) (hq : Oct q) (h4 : q.length = 4) : octI (numI q) 4 = q := by
  match q, h4 with
  | [a, b, c, d], _ =>
    have ha := hq a (by simp)
    have hb := hq b (by simp)
    have hc := hq c (by simp)
    have hd := hq d (by simp)
    have g : numI [a, b, c, d] = ((((0 : Int) * 256 + a) * 256 + b) * 256 + c) * 256 + d := rfl
    rw [octI4, g]
    congr 1
    · omega
    congr 1
    · omega
    congr 1
    · omega
    congr 1
    omega
theorem oct_nat {x : Int} (h : 0 ≤ x ∧ x ≤ 255) : ((UInt8.ofNat x.toNat).toNat : Int) = x := by
  simp only [UInt8.toNat_ofNat']
  omega
theorem bytes_str : ∀ (l : List Int), Oct l → bytesOf (strOfNums l) = l := by
  intro l h
  apply List.ext_getElem
  · rw [bytesOf_length, strOfNums_size]
  · intro i h1 h2
    have hx := h l[i] (List.getElem_mem h2)
    simp only [bytesOf, strOfNums, List.getElem_map, Array.toList_map, List.getElem_toArray]
    simp only [UInt8.toNat_ofNat']
    omega
theorem str_bytes (s : ByteArray) : strOfNums (bytesOf s) = s := by
  apply bext
  have h1 : bytesOf (strOfNums (bytesOf s)) = bytesOf s := bytes_str _ (fun x hx => by
    unfold bytesOf at hx
    obtain ⟨b, _, rfl⟩ := List.mem_map.1 hx
    have := b.toNat_lt
    omega)
  rw [Lib.toList_data, Lib.toList_data]
  unfold bytesOf at h1
  exact (List.map_inj_right (fun a b h => UInt8.toNat_inj.1 (by omega))).1 h1
theorem encR_cons (x : SR) (l : List SR) : encR (x :: l) = (x.f0.size : Int) :: (bytesOf x.f0 ++ (octI x.f1 4 ++ encR l)) := by
  show encE (toE x) ++ encR l = _
  show (x.f0.size : Int) :: (bytesOf x.f0 ++ octI x.f1 4) ++ encR l = _
  simp
theorem octI_len (n : Int) (s : Nat) : (octI n s).length = s := by simp [octI]
theorem take4_ (o e : List Int) (h : o.length = 4) : (o ++ e).take 4 = o := by rw [← h]; exact List.take_left
theorem drop4_ (o e : List Int) (h : o.length = 4) : (o ++ e).drop 4 = e := by rw [← h]; exact List.drop_left
/-- What was made of entries is read as them. -/
theorem dec_enc : ∀ (l : List SR) (f : Nat) (acc : List SR), (encR l).length < f → (∀ x ∈ l, 1 ≤ x.f1 ∧ x.f1 ≤ 2147483647) → decI f (encR l) acc = if Good (acc ++ l) then (acc ++ l, 0) else ([], 9)
  | [], 0, _, h, _ => absurd h (Nat.not_lt_zero _)
  | [], f + 1, acc, _, _ => by
    show (if Good acc then (acc, 0) else ([], 9)) = _
    rw [List.append_nil]
  | x :: l, 0, _, h, _ => absurd h (Nat.not_lt_zero _)
  | x :: l, f + 1, acc, h, hx => by
    have hm := hx x List.mem_cons_self
    have hb := bytesOf_length x.f0
    have ho := octI_len x.f1 4
    rw [encR_cons] at h ⊢
    simp only [List.length_cons, List.length_append] at h
    show (if (bytesOf x.f0 ++ (octI x.f1 4 ++ encR l)).length < (x.f0.size : Int).toNat + 4 then _ else decI f _ _) = _
    rw [if_neg (by rw [List.length_append, List.length_append, Int.toNat_natCast, hb, ho]; omega), Int.toNat_natCast]
    have e1 : (bytesOf x.f0 ++ (octI x.f1 4 ++ encR l)).take x.f0.size = bytesOf x.f0 := by rw [← hb]; exact List.take_left
    have e2 : (bytesOf x.f0 ++ (octI x.f1 4 ++ encR l)).drop x.f0.size = octI x.f1 4 ++ encR l := by rw [← hb]; exact List.drop_left
    have e3 := take4_ _ (encR l) ho
    have e4 : (bytesOf x.f0 ++ (octI x.f1 4 ++ encR l)).drop (x.f0.size + 4) = encR l := by
      rw [← List.drop_drop, e2]
      exact drop4_ _ (encR l) ho
    rw [e1, e2, e3, e4, str_bytes, numI_octI 4 x.f1 (by omega) (by have : (256 : Int) ^ 4 = 4294967296 := by decide
                                                                   omega)]
    have ih := dec_enc l f (acc ++ [x]) (by omega) (fun y hy => hx y (List.mem_cons_of_mem _ hy))
    rw [List.append_assoc, List.singleton_append] at ih
    exact ih
/-- What is read is built again. -/
theorem enc_dec : ∀ (f : Nat) (b : List Int) (acc : List SR), Oct b → (decI f b acc).2 = 0 → encR (decI f b acc).1 = encR acc ++ b
  | 0, _, _, _, h => absurd h (by simp [decI])
  | f + 1, [], acc, _, h => by
    unfold decI at h ⊢
    by_cases hg : Good acc
    · rw [if_pos hg, List.append_nil]
    · rw [if_neg hg] at h; exact absurd h (by simp)
  | f + 1, n :: r, acc, ho, h => by
    have hn := ho n List.mem_cons_self
    have hor : Oct r := fun x hx => ho x (List.mem_cons_of_mem _ hx)
    unfold decI at h ⊢
    by_cases hs : r.length < n.toNat + 4
    · rw [if_pos hs] at h; exact absurd h (by simp)
    rw [if_neg hs] at h ⊢
    rw [enc_dec f _ _ (hor.drop _) h, encR_snoc, List.append_assoc]
    congr 1
    have h4 : ((r.drop n.toNat).take 4).length = 4 := by rw [List.length_take, List.length_drop]; omega
    have e : encE (toE ⟨strOfNums (r.take n.toNat), numI ((r.drop n.toNat).take 4)⟩) = n :: (r.take n.toNat ++ (r.drop n.toNat).take 4) := by
      show ((strOfNums (r.take n.toNat)).size : Int) :: (bytesOf (strOfNums (r.take n.toNat)) ++ octI (numI ((r.drop n.toNat).take 4)) 4) = _
      rw [strOfNums_size, bytes_str _ (hor.take _), octI_num4 _ ((hor.drop _).take 4) h4, List.length_take, Nat.min_eq_left (by omega)]
      congr 1
      omega
    rw [e, List.cons_append, List.append_assoc]
    congr 1
    rw [← List.drop_drop, List.take_append_drop, List.take_append_drop]
theorem encR_oct {l : List SR} (hl : ∀ x ∈ l, x.f0.size ≤ 16) : Oct (encR l) := by
  intro y hy
  unfold encR encA at hy
  obtain ⟨e, he, hy⟩ := List.mem_flatMap.1 hy
  obtain ⟨x, hx, rfl⟩ := List.mem_map.1 he
  have hs := hl x hx
  have hy : y = (x.f0.size : Int) ∨ y ∈ bytesOf x.f0 ∨ y ∈ octI x.f1 4 := by
    have : y ∈ (x.f0.size : Int) :: (bytesOf x.f0 ++ octI x.f1 4) := hy
    simpa using this
  rcases hy with rfl | hy | hy
  · omega
  · unfold bytesOf at hy
    obtain ⟨b, _, rfl⟩ := List.mem_map.1 hy
    have := b.toNat_lt
    omega
  · unfold octI at hy
    obtain ⟨i, _, rfl⟩ := List.mem_map.1 hy
    omega
theorem back_two (l1 : List Int) (ho : Oct l1) (hl : l1.length ≤ 1048576) : Ev (fun k => undercroftlaw08_DirBack.j0 k l1) true := by
  have hd := dir_dec (l1.length + 1) l1 [] (by omega) ho (by simpa using hl)
  have hg := decI_good (l1.length + 1) l1 []
  have he := enc_dec (l1.length + 1) l1 [] ho
  generalize decI (l1.length + 1) l1 [] = R at hd hg he
  refine Ev.step (f := fun k => (dir_Decode.f k l1).bind fun bt233 => ((undercroftlaw08_num.f bt233.2).bind fun t237 => (if t237 = 0 then ((dir_Encode.f k bt233.1).bind fun bt238 => ((undercroftlaw08_num.f bt238.2).bind fun t242 => (if t242 = 0 then ((undercroftplain_SameBytes.f k bt238.1 l1).bind fun t243 => (some t243)) else (some false)))) else (some ((bt233.1.length : Int) == 0))))) (fun k => by simp only [undercroftlaw08_DirBack.j0]) ?_
  refine Ev.bind hd ?_
  simp only [undercroftlaw08_num.f, Option.bind_some]
  rcases hg with ⟨h0, hg⟩ | ⟨h0, hn⟩
  · simp only [h0, if_true]
    have hen := dir_enc R.1
    unfold encI at hen
    rw [if_pos hg, he h0] at hen
    refine Ev.bind hen ?_
    simp only [if_true]
    refine Ev.bind (same_is _ l1 (by
      have : encR ([] : List SR) = [] := rfl
      rw [this, List.nil_append]; omega)) ?_
    have : encR ([] : List SR) ++ l1 = l1 := rfl
    rw [this]
    simp only [decide_true]
    exact Ev.now _
  · rw [hn]
    exact Ev.congr (f := fun _ => some true) (fun k => if_neg h0) (Ev.now _)
theorem DirBack (l0 : List S43) (l1 : List Int) (h0 : (l0.length * 24 ≤ 140737488351232 ∧ l0.length ≤ maxLen ∧ ∀ y22 ∈ l0, ok43 y22)) (h1 : (l1.length * 1 ≤ 140737488351232 ∧ l1.length ≤ maxLen ∧ ∀ y23 ∈ l1, (Lit.int .u8 y23).wf = true)) (hb : (l0.length + (l0.map m43).sum) + (l1.length + (l1.map fun z23 => 0).sum) ≤ 1048576) : ∃ k, undercroftlaw08_DirBack.f k l0 l1 = some true := by
  refine Ev.rounds (g := fun k => undercroftlaw08_DirBack.f k l0 l1) ?_
  have ho := Oct.of_wf h1.2.2
  have hl : l1.length ≤ 1048576 := by omega
  have hl0 := h0.1
  have two := back_two l1 ho hl
  unfold undercroftlaw08_DirBack.f
  refine Ev.bind alive_is ?_
  simp only [if_true]
  refine Ev.bind (of_is l0 hl0) (Ev.bind (dir_enc l0) ?_)
  simp only [undercroftlaw08_num.f, Option.bind_some]
  unfold encI
  by_cases hg : Good l0
  · simp only [if_pos hg, if_true]
    have hlen := encR_len hg l0.length
    rw [List.take_length] at hlen
    have hoc := encR_oct (l := l0) (fun x hx => (ent_size hg hx).1)
    have hd := dir_dec ((encR l0).length + 1) (encR l0) [] (by omega) hoc (by simp; omega)
    rw [dec_enc l0 _ [] (by omega) (fun x hx => (ent_size hg hx).2), List.nil_append, if_pos hg] at hd
    refine Ev.bind hd ?_
    simp only [if_true]
    refine Ev.bind (alike_is l0 (by omega)) ?_
    simp only [if_true]
    exact two
  · simp only [if_neg hg]
    exact Ev.congr (fun k => if_neg (by decide)) two

end Go.Proofs.YtiglgckhikipeaaDoor.Pure
