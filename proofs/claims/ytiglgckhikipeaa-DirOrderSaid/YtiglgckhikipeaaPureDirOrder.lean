/- Entries added in any order make one directory: for every list of entries and every order. -/
import Derived.Test.YtiglgckhikipeaaPOrdx
import Derived.Test.YtiglgckhikipeaaInDirOrder
import Derived.Lib.IndexLaws
namespace Go.Proofs.Ytiglgckhikipeaa.Pure
open Go.RowKit Go.Proofs.Ytiglgckhikipeaa.POrd Go.Proofs.YtiglgckhikipeaaW.PrintWords Go.Proofs.YtiglgckhikipeaaW.PrintLast Go.Proofs.YtiglgckhikipeaaW.PrintMore
set_option linter.unusedVariables false
set_option linter.unusedSimpArgs false

theorem w_id {x : Int} (h0 : -9223372036854775808 ≤ x) (h1 : x ≤ 9223372036854775807) : wrap64 x = x := by unfold wrap64; omega
theorem wf_i64 {a : Int} (h : (Lit.int .i64 a).wf = true) : -9223372036854775808 ≤ a ∧ a ≤ 9223372036854775807 := by
  simpa [Lit.wf, IntKind.min, IntKind.max, IntKind.signed, IntKind.bits] using h
theorem wf_u8 {a : Int} (h : (Lit.int .u8 a).wf = true) : 0 ≤ a ∧ a ≤ 255 := by
  simpa [Lit.wf, IntKind.min, IntKind.max, IntKind.signed, IntKind.bits] using h
theorem wf_u32 {a : Int} (h : (Lit.int .u32 a).wf = true) : 0 ≤ a ∧ a ≤ 4294967295 := by
  simpa [Lit.wf, IntKind.min, IntKind.max, IntKind.signed, IntKind.bits] using h
theorem wf_u64 {a : Int} (h : (Lit.int .u64 a).wf = true) : 0 ≤ a ∧ a ≤ 18446744073709551615 := by
  simpa [Lit.wf, IntKind.min, IntKind.max, IntKind.signed, IntKind.bits] using h
/-- All are octets. -/
def Oct (l : List Int) : Prop := ∀ x ∈ l, 0 ≤ x ∧ x ≤ 255
theorem Oct.of_wf {l : List Int} (h : ∀ x ∈ l, (Lit.int .u8 x).wf = true) : Oct l := fun x hx => wf_u8 (h x hx)
theorem Oct.nil : Oct [] := fun _ h => by cases h
theorem Oct.append {a b : List Int} (ha : Oct a) (hb : Oct b) : Oct (a ++ b) := fun x hx => (List.mem_append.1 hx).elim (ha x) (hb x)
theorem Oct.take {a : List Int} (ha : Oct a) (n : Nat) : Oct (a.take n) := fun x hx => ha x (List.mem_of_mem_take hx)
theorem Oct.drop {a : List Int} (ha : Oct a) (n : Nat) : Oct (a.drop n) := fun x hx => ha x (List.mem_of_mem_drop hx)
theorem rd_nat (l : List Int) (k : Nat) (h : k < l.length) : rd l (k : Int) = l[k] := by
  unfold rd
  simp [List.getD_eq_getElem?_getD, h]

theorem less_irrefl : ∀ a : List UInt8, Op.bytesLess a a = false
  | [] => rfl
  | x :: a => by
    have h : ¬ x < x := fun h3 => by have : x.toNat < x.toNat := h3; omega
    simp [Op.bytesLess, less_irrefl a, h]
theorem less_trans : ∀ {a b c : List UInt8}, Op.bytesLess a b = true → Op.bytesLess b c = true → Op.bytesLess a c = true
  | _, _, [], _, h => by simp [Op.bytesLess] at h
  | [], _, z :: c, _, _ => rfl
  | x :: a, [], _, h, _ => by simp [Op.bytesLess] at h
  | x :: a, y :: b, z :: c, h, k => by
    simp only [Op.bytesLess, Bool.or_eq_true, Bool.and_eq_true, decide_eq_true_eq, beq_iff_eq, UInt8.lt_iff_toNat_lt] at h k ⊢
    rcases h with h | ⟨rfl, h⟩
    · rcases k with k | ⟨rfl, k⟩
      · exact .inl (by omega)
      · exact .inl h
    · rcases k with k | ⟨rfl, k⟩
      · exact .inl k
      · exact .inr ⟨rfl, less_trans h k⟩
theorem less_asymm {a b : List UInt8} (h : Op.bytesLess a b = true) : Op.bytesLess b a = false := by
  cases h2 : Op.bytesLess b a with
  | false => rfl
  | true => have := less_trans h h2; rw [less_irrefl] at this; cases this
theorem less_or {a b : List UInt8} (h : Op.bytesLess a b = false) (h2 : a ≠ b) : Op.bytesLess b a = true := by
  have e := Own.bytesLess_total a b
  have h3 : (a == b) = false := by simpa using h2
  rw [h, h3] at e
  simpa using e.symm
theorem bext {a b : ByteArray} (h : a.toList = b.toList) : a = b := by
  rw [Lib.toList_data, Lib.toList_data] at h
  apply ByteArray.ext
  exact Array.ext' h
theorem size_toList (s : ByteArray) : s.toList.length = s.size := by rw [Lib.toList_data]; exact data_length s
/-- May a name be? -/
def nameOk (s : ByteArray) : Bool := decide (1 ≤ s.size) && decide (s.size ≤ 16) && !(s.toList == [46]) && !(s.toList == [46, 46]) && !(s.toList.contains 47) && !(s.toList.contains 0)
def nameI (s : ByteArray) : Int := if nameOk s = true then 0 else 106
theorem contains_is (s : ByteArray) (c : UInt8) : strings_Contains.f s ⟨#[c]⟩ = some (s.toList.contains c) := by
  show some (decide (0 ≤ Lib.indexByte s.data.toList c)) = _
  rw [Lib.toList_data]
  congr 1
  have hge := Lib.indexByte_ge s.data.toList c
  by_cases h : Lib.indexByte s.data.toList c = -1
  · have hn := Lib.indexByte_none h
    have : s.data.toList.contains c = false := by
      rw [Bool.eq_false_iff]
      intro hc
      have := List.mem_of_elem_eq_true hc
      obtain ⟨k, hk, e⟩ := List.getElem_of_mem this
      exact hn k (by rw [List.getElem?_eq_getElem hk, e])
    rw [this, h]; rfl
  · obtain ⟨o, ho⟩ : ∃ o : Nat, Lib.indexByte s.data.toList c = o := ⟨(Lib.indexByte s.data.toList c).toNat, by omega⟩
    have hs := (Lib.indexByte_some ho).1
    have : s.data.toList.contains c = true := List.elem_eq_true_of_mem (List.mem_of_getElem? hs)
    rw [this, ho]
    simp
theorem dir_name (s : ByteArray) : dir_Name.f s = some (nameI s) := by
  unfold dir_Name.f nameI
  have hz := size_toList s
  by_cases h1 : s.toList = []
  · rw [if_pos h1, if_neg]
    rw [h1] at hz
    simp at hz
    simp [nameOk, ← hz]
  rw [if_neg h1]
  have h1' : 1 ≤ s.size := by
    rcases Nat.eq_zero_or_pos s.size with h | h
    · rw [h] at hz; exact absurd (List.eq_nil_of_length_eq_zero hz) h1
    · exact h
  by_cases h2 : s.toList = [46]
  · rw [if_pos h2, if_neg]; simp [nameOk, h2]
  rw [if_neg h2]
  by_cases h3 : s.toList = [46, 46]
  · rw [if_pos h3, if_neg]; simp [nameOk, h3]
  rw [if_neg h3]
  by_cases h4 : (s.size : Int) > 16
  · rw [if_pos h4, if_neg]
    have : ¬ s.size ≤ 16 := by omega
    simp [nameOk, this]
  rw [if_neg h4, contains_is, contains_is]
  have h4' : s.size ≤ 16 := by omega
  simp only [Option.bind_some]
  have e2 : (s.toList == [46]) = false := by simpa using h2
  have e3 : (s.toList == [46, 46]) = false := by simpa using h3
  cases h5 : s.toList.contains 47 <;> cases h6 : s.toList.contains 0 <;> simp only [nameOk, h1', h4', e2, e3, h5, h6, decide_true, Bool.not_false, Bool.not_true, Bool.and_true, Bool.and_false, Bool.true_and, Bool.false_and, if_true, if_false, Bool.false_eq_true, Bool.or_true, Bool.or_false, Bool.true_or, Bool.false_or, Option.bind_some]
theorem bt_toList (s : ByteArray) (i : Nat) (h : i < s.size) : bt s (i : Int) = ((s.toList[i]'(by rw [size_toList]; exact h)).toNat : Int) := by
  have e : s.toList = s.data.toList := Lib.toList_data s
  simp only [e]
  simp [bt, h]
  rfl
theorem refname_loop (s : ByteArray) (hs : s.size ≤ 16) : ∀ (d i : Nat), i + d = s.size → Ev (fun k => undercroftref08_Name.l0 k s (i : Int)) (if ((s.toList.drop i).contains 47 || (s.toList.drop i).contains 0) = true then 106 else 0) := by
  intro d
  induction d with
  | zero =>
    intro i hi
    refine Ev.step (f := fun _ => some 0) (fun k => ?_) ?_
    · simp only [undercroftref08_Name.l0]
      rw [if_neg (by omega)]
    · rw [List.drop_eq_nil_of_le (by rw [size_toList]; omega)]
      exact Ev.now _
  | succ d ih =>
    intro i hi
    have hlt : i < s.toList.length := by rw [size_toList]; omega
    rw [List.drop_eq_getElem_cons hlt, List.contains_cons, List.contains_cons]
    have hb := bt_toList s i (by omega)
    generalize hx : s.toList[i] = x at *
    by_cases h0 : x = 0
    · subst h0
      refine Ev.step (f := fun _ => some 106) (fun k => ?_) ?_
      · simp only [undercroftref08_Name.l0]
        rw [if_pos (by omega), if_pos (by omega), hb, if_pos (by rfl)]
      · simp; exact Ev.now _
    by_cases h1 : x = 47
    · subst h1
      refine Ev.step (f := fun _ => some 106) (fun k => ?_) ?_
      · simp only [undercroftref08_Name.l0]
        rw [if_pos (by omega), if_pos (by omega), hb, if_neg (by decide), if_pos (by rfl)]
      · simp; exact Ev.now _
    · have e0 : ((0 : UInt8) == x) = false := by simpa using fun e => h0 e.symm
      have e1 : ((47 : UInt8) == x) = false := by simpa using fun e => h1 e.symm
      rw [e0, e1, Bool.false_or, Bool.false_or]
      refine Ev.step (f := fun k => undercroftref08_Name.l0 k s ((i + 1 : Nat) : Int)) (fun k => ?_) (ih (i + 1) (by omega))
      simp only [undercroftref08_Name.l0]
      rw [if_pos (by omega), if_pos (by omega), hb, if_neg, if_neg, w_id (by omega) (by omega)]
      · rfl
      · intro e; exact h1 (UInt8.toNat_inj.1 (by have : x.toNat = 47 := by omega
                                                 exact this))
      · intro e; exact h0 (UInt8.toNat_inj.1 (by have : x.toNat = 0 := by omega
                                                 exact this))
theorem ref_name (s : ByteArray) : Ev (fun k => undercroftref08_Name.f k s) (nameI s) := by
  have hz := size_toList s
  have bad : nameOk s = false → Ev (fun k => undercroftref08_Name.j0 k s true) (nameI s) := fun h => by
    refine Ev.step (f := fun _ => some 106) (fun k => ?_) (by unfold nameI; rw [h]; exact Ev.now _)
    simp only [undercroftref08_Name.j0]; rw [if_pos trivial]
  by_cases h1 : (s.size : Int) < 1
  · refine Ev.congr (fun k => ?_) (bad (by have : ¬ 1 ≤ s.size := by omega
                                           simp [nameOk, this]))
    unfold undercroftref08_Name.f; rw [if_pos h1]
  by_cases h2 : (s.size : Int) > 16
  · refine Ev.congr (fun k => ?_) (bad (by have : ¬ s.size ≤ 16 := by omega
                                           simp [nameOk, this]))
    unfold undercroftref08_Name.f; rw [if_neg h1, if_pos h2]
  by_cases h3 : s.toList = [46]
  · refine Ev.congr (fun k => ?_) (bad (by simp [nameOk, h3]))
    unfold undercroftref08_Name.f; rw [if_neg h1, if_neg h2, if_pos h3]
  by_cases h4 : s.toList = [46, 46]
  · refine Ev.congr (fun k => ?_) (bad (by simp [nameOk, h4]))
    unfold undercroftref08_Name.f; rw [if_neg h1, if_neg h2, if_neg h3, h4]; rfl
  · have e3 : (s.toList == [46]) = false := by simpa using h3
    have e4 : (s.toList == [46, 46]) = false := by simpa using h4
    have hl := refname_loop s (by omega) s.size 0 (by omega)
    rw [List.drop_zero] at hl
    have hn : nameI s = if (s.toList.contains 47 || s.toList.contains 0) = true then 106 else 0 := by
      have a1 : 1 ≤ s.size := by omega
      have a2 : s.size ≤ 16 := by omega
      unfold nameI
      cases h5 : s.toList.contains 47 <;> cases h6 : s.toList.contains 0 <;> simp only [nameOk, a1, a2, e3, e4, h5, h6, decide_true, Bool.not_false, Bool.not_true, Bool.and_true, Bool.and_false, Bool.true_and, Bool.false_and, if_true, if_false, Bool.false_eq_true, Bool.or_true, Bool.or_false, Bool.true_or, Bool.false_or, Option.bind_some]
    rw [hn]
    refine Ev.congr (f := fun k => undercroftref08_Name.j0 k s false) (fun k => ?_) (Ev.step (fun k => ?_) hl)
    · unfold undercroftref08_Name.f; rw [if_neg h1, if_neg h2, if_neg h3, e4]
    · simp only [undercroftref08_Name.j0]; rw [if_neg (by decide)]; rfl
/-- May an entry be? -/
def entOk (s : ByteArray) (n : Int) : Bool := nameOk s && decide (1 ≤ n) && decide (n ≤ 2147483647)
theorem dir_may (s : ByteArray) (n : Int) : dir_Entry_may.f s n = some (entOk s n) := by
  unfold dir_Entry_may.f entOk
  rw [dir_name]
  simp only [Option.bind_some, nameI]
  cases nameOk s with
  | false => rfl
  | true =>
    rw [if_pos rfl, if_pos rfl]
    by_cases h : n ≥ 1
    · rw [if_pos h]; simp [show (1 : Int) ≤ n from h]
    · rw [if_neg h]; simp [show ¬ (1 : Int) ≤ n from h]
theorem ref_ino (n : Int) : undercroftref08_ino.f n = some (decide (1 ≤ n) && decide (n ≤ 2147483647)) := by
  unfold undercroftref08_ino.f
  by_cases h : n ≥ 1
  · rw [if_pos h]; simp [show (1 : Int) ≤ n from h]
  · rw [if_neg h]; simp [show ¬ (1 : Int) ≤ n from h]
abbrev SR := S37
/-- The reference's entry for the program. -/
def toE (x : SR) : S34 := ⟨x.f0, x.f1⟩
theorem rdE (l : List SR) (i : Nat) : rd_T34 (l.map toE) (i : Int) = toE (l.getD i z37) := by
  unfold rd_T34
  rw [Int.toNat_natCast]
  simp only [List.getD_eq_getElem?_getD, List.getElem?_map]
  cases l[i]? <;> rfl
theorem rdR (l : List SR) (i : Nat) : rd_T37 l (i : Int) = l.getD i z37 := by
  unfold rd_T37
  rw [Int.toNat_natCast]
theorem getD_lt (l : List SR) (i : Nat) (h : i < l.length) : l.getD i z37 = l[i] := by
  simp [List.getD_eq_getElem?_getD, h]
def stepOk (l : List SR) (i : Nat) : Bool := entOk (l.getD i z37).f0 (l.getD i z37).f1 && (i == 0 || Op.bytesLess (l.getD (i - 1) z37).f0.toList (l.getD i z37).f0.toList)
theorem dircheck_loop (l : List SR) (hl : l.length ≤ 63) : ∀ (d i : Nat), i + d = l.length → Ev (fun k => dir_Check.l0 k (l.map toE) (l.map toE) (l.length : Int) (i : Int)) (if (List.range' i d).all (stepOk l) = true then 0 else 9) := by
  intro d
  induction d with
  | zero =>
    intro i hi
    refine Ev.step (f := fun _ => some 0) (fun k => ?_) (by simp; exact Ev.now _)
    simp only [dir_Check.l0]
    rw [if_neg (by omega)]
  | succ d ih =>
    intro i hi
    rw [List.range'_succ, List.all_cons]
    have hlm : (l.map toE).length = l.length := by simp
    have hm : dir_Entry_may.f (rd_T34 (l.map toE) (i : Int)).f0 (rd_T34 (l.map toE) (i : Int)).f1 = some (entOk (l.getD i z37).f0 (l.getD i z37).f1) := by rw [rdE]; exact dir_may _ _
    cases he : entOk (l.getD i z37).f0 (l.getD i z37).f1 with
    | false =>
      have hst : stepOk l i = false := by unfold stepOk; rw [he]; rfl
      rw [hst, Bool.false_and, if_neg (by decide)]
      refine Ev.step (f := fun _ => some 9) (fun k => ?_) (Ev.now _)
      simp only [dir_Check.l0]
      rw [if_pos (by omega), if_pos (by omega), if_pos (by omega), hm, he]; rfl
    | true =>
      by_cases h0 : i = 0
      · subst h0
        have hst : stepOk l 0 = true := by unfold stepOk; rw [he]; rfl
        rw [hst, Bool.true_and]
        refine Ev.step (f := fun k => dir_Check.l0 k (l.map toE) (l.map toE) (l.length : Int) ((0 + 1 : Nat) : Int)) (fun k => ?_) (ih 1 (by omega))
        simp only [dir_Check.l0]
        rw [if_pos (by omega), if_pos (by omega), if_pos (by omega), hm, he]
        simp only [Option.bind_some]
        rw [if_pos trivial, if_neg (by omega), w_id (by omega) (by omega)]
        rfl
      · have hp := rdE l (i - 1)
        have e1 : ((i - 1 : Nat) : Int) = (i : Int) - 1 := by omega
        rw [e1] at hp
        have hbl : Op.bytesLess (rd_T34 (l.map toE) ((i : Int) - 1)).f0.toList (rd_T34 (l.map toE) (i : Int)).f0.toList = Op.bytesLess (l.getD (i - 1) z37).f0.toList (l.getD i z37).f0.toList := by rw [hp, rdE]; rfl
        have h00 : (i == 0) = false := by simpa using h0
        cases hb : Op.bytesLess (l.getD (i - 1) z37).f0.toList (l.getD i z37).f0.toList with
        | true =>
          have hst : stepOk l i = true := by unfold stepOk; rw [he, hb, h00]; rfl
          rw [hst, Bool.true_and]
          rw [hb] at hbl
          refine Ev.step (f := fun k => dir_Check.l0 k (l.map toE) (l.map toE) (l.length : Int) ((i + 1 : Nat) : Int)) (fun k => ?_) (ih (i + 1) (by omega))
          simp only [dir_Check.l0]
          rw [if_pos (by omega), if_pos (by omega), if_pos (by omega), hm, he]
          simp only [Option.bind_some]
          rw [if_pos trivial, if_pos (by omega), w_id (by omega) (by omega), if_pos (by omega), if_pos (by omega), if_pos hbl, w_id (by omega) (by omega)]
          rfl
        | false =>
          have hst : stepOk l i = false := by unfold stepOk; rw [he, hb, h00]; rfl
          rw [hst, Bool.false_and, if_neg (by decide)]
          rw [hb] at hbl
          refine Ev.step (f := fun _ => some 9) (fun k => ?_) (Ev.now _)
          simp only [dir_Check.l0]
          rw [if_pos (by omega), if_pos (by omega), if_pos (by omega), hm, he]
          simp only [Option.bind_some]
          rw [if_pos trivial, if_pos (by omega), w_id (by omega) (by omega), if_pos (by omega), if_pos (by omega), if_neg (by rw [hbl]; decide)]
theorem refcheck_loop (l : List SR) (hl : l.length ≤ 63) : ∀ (d i : Nat), i + d = l.length → Ev (fun k => undercroftref08_Check.l0 k l (i : Int)) (if (List.range' i d).all (stepOk l) = true then 0 else 9) := by
  intro d
  induction d with
  | zero =>
    intro i hi
    refine Ev.step (f := fun _ => some 0) (fun k => ?_) (by simp; exact Ev.now _)
    simp only [undercroftref08_Check.l0]
    rw [if_neg (by omega)]
  | succ d ih =>
    intro i hi
    rw [List.range'_succ, List.all_cons]
    have hx := rdR l i
    obtain ⟨K0, hK0⟩ := ref_name (l.getD i z37).f0
    have go : ∀ (g : Nat → Option Int) (r : Int), (∀ k, K0 ≤ k → undercroftref08_Check.l0 (k + 1) l (i : Int) = g k) → Ev g r → Ev (fun k => undercroftref08_Check.l0 k l (i : Int)) r := fun g r h ⟨K1, h1⟩ =>
      ⟨max K0 K1 + 1, fun k hk => by
        obtain ⟨m, rfl⟩ : ∃ m, k = m + 1 := ⟨k - 1, by omega⟩
        show undercroftref08_Check.l0 (m + 1) l (i : Int) = some r
        rw [h m (by omega), h1 m (by omega)]⟩
    have start : ∀ k, K0 ≤ k → undercroftref08_Check.l0 (k + 1) l (i : Int) = (if nameI (l.getD i z37).f0 = 0 then (if (decide (1 ≤ (l.getD i z37).f1) && decide ((l.getD i z37).f1 ≤ 2147483647)) = true then (if (i : Int) > 0 then (if 0 ≤ (wrap64 ((i : Int) - 1)) then (if (wrap64 ((i : Int) - 1)) < (l.length : Int) then (if ((Op.bytesLess (((rd_T37 l (wrap64 ((i : Int) - 1))).f0).toList) (((rd_T37 l (i : Int)).f0).toList)) = true) then (undercroftref08_Check.l0 k l (wrap64 ((i : Int) + 1))) else (some 9)) else (none)) else (none)) else (undercroftref08_Check.l0 k l (wrap64 ((i : Int) + 1)))) else (some 9)) else (some 9)) := fun k hk => by
      simp only [undercroftref08_Check.l0]
      rw [if_pos (by omega), if_pos (by omega), hx, show undercroftref08_Name.f k (l.getD i z37).f0 = some _ from hK0 k hk]
      simp only [Option.bind_some, ref_ino]
    have hent : entOk (l.getD i z37).f0 (l.getD i z37).f1 = (nameOk (l.getD i z37).f0 && (decide (1 ≤ (l.getD i z37).f1) && decide ((l.getD i z37).f1 ≤ 2147483647))) := by unfold entOk; rw [Bool.and_assoc]
    have hn0 : nameI (l.getD i z37).f0 = if nameOk (l.getD i z37).f0 = true then 0 else 106 := rfl
    cases hn : nameOk (l.getD i z37).f0 with
    | false =>
      have hst : stepOk l i = false := by unfold stepOk; rw [hent, hn]; rfl
      rw [hst, Bool.false_and, if_neg (by decide)]
      refine go (fun _ => some 9) _ (fun k hk => ?_) (Ev.now _)
      rw [start k hk, if_neg (by rw [hn0, hn]; decide)]
    | true =>
      rw [hn, if_pos rfl] at hn0
      cases hd : (decide (1 ≤ (l.getD i z37).f1) && decide ((l.getD i z37).f1 ≤ 2147483647)) with
      | false =>
        have hst : stepOk l i = false := by unfold stepOk; rw [hent, hn, hd]; rfl
        rw [hst, Bool.false_and, if_neg (by decide)]
        refine go (fun _ => some 9) _ (fun k hk => ?_) (Ev.now _)
        rw [start k hk, if_pos hn0, hd, if_neg (by decide)]
      | true =>
        by_cases h0 : i = 0
        · subst h0
          have hst : stepOk l 0 = true := by unfold stepOk; rw [hent, hn, hd]; rfl
          rw [hst, Bool.true_and]
          refine go (fun k => undercroftref08_Check.l0 k l ((0 + 1 : Nat) : Int)) _ (fun k hk => ?_) (ih 1 (by omega))
          rw [start k hk, if_pos hn0, hd, if_pos rfl, if_neg (by omega), w_id (by omega) (by omega)]
          rfl
        · have hp := rdR l (i - 1)
          have e1 : ((i - 1 : Nat) : Int) = (i : Int) - 1 := by omega
          rw [e1] at hp
          have h00 : (i == 0) = false := by simpa using h0
          cases hb : Op.bytesLess (l.getD (i - 1) z37).f0.toList (l.getD i z37).f0.toList with
          | true =>
            have hst : stepOk l i = true := by unfold stepOk; rw [hent, hn, hd, hb, h00]; rfl
            rw [hst, Bool.true_and]
            refine go (fun k => undercroftref08_Check.l0 k l ((i + 1 : Nat) : Int)) _ (fun k hk => ?_) (ih (i + 1) (by omega))
            rw [start k hk, if_pos hn0, hd, if_pos rfl, if_pos (by omega), w_id (by omega) (by omega), if_pos (by omega), if_pos (by omega), hp, hx, if_pos hb, w_id (by omega) (by omega)]
            rfl
          | false =>
            have hst : stepOk l i = false := by unfold stepOk; rw [hent, hn, hd, hb, h00]; rfl
            rw [hst, Bool.false_and, if_neg (by decide)]
            refine go (fun _ => some 9) _ (fun k hk => ?_) (Ev.now _)
            rw [start k hk, if_pos hn0, hd, if_pos rfl, if_pos (by omega), w_id (by omega) (by omega), if_pos (by omega), if_pos (by omega), hp, hx, if_neg (by rw [hb]; decide)]
/-- May entries be? -/
def Good (l : List SR) : Prop := l.length ≤ 63 ∧ (∀ x ∈ l, entOk x.f0 x.f1 = true) ∧ l.Pairwise (fun a b => Op.bytesLess a.f0.toList b.f0.toList = true)
instance (l : List SR) : Decidable (Good l) := by unfold Good; infer_instance
def checkI (l : List SR) : Int := if Good l then 0 else 9
theorem good_iff (l : List SR) : (l.length ≤ 63 ∧ (List.range l.length).all (stepOk l) = true) ↔ Good l := by
  unfold Good
  refine and_congr_right fun _ => ?_
  rw [List.all_eq_true]
  constructor
  · intro h
    have hs : ∀ i, i < l.length → stepOk l i = true := fun i hi => h i (List.mem_range.2 hi)
    refine ⟨fun x hx => ?_, ?_⟩
    · obtain ⟨i, hi, rfl⟩ := List.getElem_of_mem hx
      have := hs i hi
      simp only [stepOk, Bool.and_eq_true, getD_lt l i hi] at this
      exact this.1
    · rw [List.pairwise_iff_getElem]
      have adj : ∀ i (hi : i + 1 < l.length), Op.bytesLess (l[i]'(by omega)).f0.toList l[i + 1].f0.toList = true := fun i hi => by
        have := hs (i + 1) hi
        simp only [stepOk, Bool.and_eq_true, getD_lt l (i + 1) hi, Nat.add_sub_cancel, getD_lt l i (by omega)] at this
        simpa using this.2
      intro i j hi hj hij
      obtain ⟨d, rfl⟩ : ∃ d, j = i + 1 + d := ⟨j - i - 1, by omega⟩
      clear hij
      induction d with
      | zero => exact adj i hj
      | succ d ih => exact less_trans (ih (by omega)) (adj (i + 1 + d) hj)
  · rintro ⟨h1, h2⟩ i hi
    have hi := List.mem_range.1 hi
    simp only [stepOk, Bool.and_eq_true, getD_lt l i hi]
    refine ⟨h1 _ (List.getElem_mem hi), ?_⟩
    by_cases h0 : i = 0
    · simp [h0]
    · rw [getD_lt l (i - 1) (by omega), (List.pairwise_iff_getElem.1 h2) (i - 1) i (by omega) hi (by omega)]
      simp
theorem checkI_is (l : List SR) (hl : l.length ≤ 63) : (if (List.range' 0 l.length).all (stepOk l) = true then (0 : Int) else 9) = checkI l := by
  unfold checkI
  have := good_iff l
  rw [List.range_eq_range'] at this
  by_cases h : (List.range' 0 l.length).all (stepOk l) = true
  · rw [if_pos h, if_pos (this.1 ⟨hl, h⟩)]
  · rw [if_neg h, if_neg (fun g => h (this.2 g).2)]
theorem dir_check (l : List SR) : Ev (fun k => dir_Check.f k (l.map toE)) (checkI l) := by
  by_cases hl : l.length ≤ 63
  · rw [← checkI_is l hl]
    refine Ev.congr (fun k => ?_) (dircheck_loop l hl l.length 0 (by omega))
    unfold dir_Check.f
    simp only [List.length_map]
    rw [if_neg (by omega)]
    rfl
  · have : checkI l = 9 := by unfold checkI; rw [if_neg (fun g => hl g.1)]
    rw [this]
    refine Ev.congr (f := fun _ => some 9) (fun k => ?_) (Ev.now _)
    unfold dir_Check.f
    simp only [List.length_map]
    rw [if_pos (by omega)]
theorem ref_check (l : List SR) : Ev (fun k => undercroftref08_Check.f k l) (checkI l) := by
  by_cases hl : l.length ≤ 63
  · rw [← checkI_is l hl]
    refine Ev.congr (fun k => ?_) (refcheck_loop l hl l.length 0 (by omega))
    unfold undercroftref08_Check.f
    rw [if_neg (by omega)]
    rfl
  · have : checkI l = 9 := by unfold checkI; rw [if_neg (fun g => hl g.1)]
    rw [this]
    refine Ev.congr (f := fun _ => some 9) (fun k => ?_) (Ev.now _)
    unfold undercroftref08_Check.f
    rw [if_pos (by omega)]
/-- What lies ahead of a name, and what does not. -/
def lo (l : List SR) (n : ByteArray) : List SR := l.filter fun y => Op.bytesLess y.f0.toList n.toList
def hi (l : List SR) (n : ByteArray) : List SR := l.filter fun y => !Op.bytesLess y.f0.toList n.toList
theorem split_at (n : ByteArray) : ∀ (l : List SR), l.Pairwise (fun a b => Op.bytesLess a.f0.toList b.f0.toList = true) → l = lo l n ++ hi l n
  | [], _ => rfl
  | y :: r, h => by
    rw [List.pairwise_cons] at h
    have ih := split_at n r h.2
    cases hy : Op.bytesLess y.f0.toList n.toList with
    | true =>
      have e1 : lo (y :: r) n = y :: lo r n := by simp [lo, hy]
      have e2 : hi (y :: r) n = hi r n := by simp [hi, hy]
      rw [e1, e2, List.cons_append, ← ih]
    | false =>
      have hall : ∀ x ∈ r, Op.bytesLess x.f0.toList n.toList = false := fun x hx => by
        cases hx2 : Op.bytesLess x.f0.toList n.toList with
        | false => rfl
        | true => rw [less_trans (h.1 x hx) hx2] at hy; cases hy
      have e1 : lo (y :: r) n = [] := by
        simp only [lo, List.filter_cons, hy]
        rw [if_neg (by decide), List.filter_eq_nil_iff]
        intro x hx; rw [hall x hx]; decide
      have e2 : hi (y :: r) n = y :: r := by
        simp only [hi]
        rw [List.filter_eq_self]
        intro x hx
        rcases List.mem_cons.1 hx with rfl | hx
        · rw [hy]; rfl
        · rw [hall x hx]; rfl
      rw [e1, e2, List.nil_append]
theorem take_lo (l : List SR) (n : ByteArray) (h : l.Pairwise (fun a b => Op.bytesLess a.f0.toList b.f0.toList = true)) : l.take (lo l n).length = lo l n := by
  have hs := split_at n l h
  generalize lo l n = A at *
  generalize hi l n = B at *
  subst hs
  exact List.take_left
theorem drop_lo (l : List SR) (n : ByteArray) (h : l.Pairwise (fun a b => Op.bytesLess a.f0.toList b.f0.toList = true)) : l.drop (lo l n).length = hi l n := by
  have hs := split_at n l h
  generalize lo l n = A at *
  generalize hi l n = B at *
  subst hs
  exact List.drop_left
theorem bs_spec (p : Nat → Bool) (n : Nat) (hmono : ∀ a b, a ≤ b → b < n → p b = true → p a = true) : ∀ (f i j : Nat), i ≤ j → j ≤ n → j - i < f → (∀ h, h < i → p h = true) → (∀ h, j ≤ h → h < n → p h = false) →
    bsI p f i j ≤ n ∧ (∀ h, h < bsI p f i j → p h = true) ∧ (∀ h, bsI p f i j ≤ h → h < n → p h = false)
  | 0, _, _, _, _, hf, _, _ => by omega
  | f + 1, i, j, hij, hjn, hf, h1, h2 => by
    unfold bsI
    by_cases hlt : i < j
    · rw [if_pos hlt]
      by_cases hp : p ((i + j) / 2) = true
      · rw [if_pos hp]
        exact bs_spec p n hmono f _ j (by omega) hjn (by omega) (fun h hh => hmono h ((i + j) / 2) (by omega) (by omega) hp) h2
      · rw [if_neg hp]
        refine bs_spec p n hmono f i _ (by omega) (by omega) (by omega) h1 (fun h hh hn => ?_)
        cases hc : p h with
        | false => rfl
        | true => exact absurd (hmono ((i + j) / 2) h hh hn hc) hp
    · rw [if_neg hlt]
      exact ⟨by omega, h1, fun h hh hn => h2 h (by omega) hn⟩
theorem cmpB_neg (a b : ByteArray) : decide (cmpB a b < 0) = Op.bytesLess a.toList b.toList := by
  unfold cmpB
  cases Op.bytesLess a.toList b.toList with
  | true => rfl
  | false =>
    rw [if_neg (by decide)]
    cases (a.toList == b.toList) <;> rfl
theorem cmpB_zero (a b : ByteArray) (h : Op.bytesLess a.toList b.toList = false) : (cmpB a b == 0) = (a.toList == b.toList) := by
  unfold cmpB
  rw [h, if_neg (by decide)]
  cases (a.toList == b.toList) <;> rfl
/-- Is a name there? -/
def isI (l : List SR) (n : ByteArray) : Bool := match hi l n with
  | [] => false
  | y :: _ => y.f0.toList == n.toList
theorem search_is (l : List SR) (n : ByteArray) (hg : Good l) : dir_search.f (l.map toE) n = some (((lo l n).length : Int), isI l n) := by
  have hs := split_at n l hg.2.2
  have hlen : l.length = (lo l n).length + (hi l n).length := by rw [← List.length_append, ← hs]
  have hp : ∀ h, h < l.length → lessAt (l.map toE) n h = decide (h < (lo l n).length) := fun h hh => by
    unfold lessAt
    rw [rdE, cmpB_neg, getD_lt l h hh]
    show Op.bytesLess l[h].f0.toList n.toList = _
    by_cases hlt : h < (lo l n).length
    · have e : l[h] = (lo l n)[h] := by rw [List.getElem_of_eq hs, List.getElem_append_left hlt]
      have hm : l[h] ∈ lo l n := by rw [e]; exact List.getElem_mem hlt
      have := (List.mem_filter.1 hm).2
      rw [this]; simp [hlt]
    · have e : l[h] = (hi l n)[h - (lo l n).length]'(by omega) := by rw [List.getElem_of_eq hs, List.getElem_append_right (by omega)]
      have hm : l[h] ∈ hi l n := by rw [e]; exact List.getElem_mem _
      have := (List.mem_filter.1 hm).2
      have e2 : Op.bytesLess l[h].f0.toList n.toList = false := by simpa using this
      rw [e2]; simp [hlt]
  have hb := bs_spec (lessAt (l.map toE) n) l.length (fun a b hab hbn hpb => by
    rw [hp b hbn] at hpb
    rw [hp a (by omega)]
    have := of_decide_eq_true hpb
    exact decide_eq_true (by omega)) (l.length + 1) 0 l.length (by omega) (by omega) (by omega) (fun h hh => by omega) (fun h h1 h2 => by omega)
  have hR : bsI (lessAt (l.map toE) n) (l.length + 1) 0 l.length = (lo l n).length := by
    obtain ⟨b1, b2, b3⟩ := hb
    rcases Nat.lt_trichotomy (bsI (lessAt (l.map toE) n) (l.length + 1) 0 l.length) (lo l n).length with h | h | h
    · have := b3 _ (Nat.le_refl _) (by omega)
      rw [hp _ (by omega)] at this
      have := of_decide_eq_false this
      omega
    · exact h
    · have := b2 _ h
      rw [hp _ (by omega)] at this
      have := of_decide_eq_true this
      omega
  unfold dir_search.f
  simp only [List.length_map]
  rw [if_pos (by have := hg.1; omega), hR]
  congr 2
  unfold foundAt isI
  simp only [List.length_map]
  cases hh : hi l n with
  | nil =>
    rw [hh] at hlen
    rw [if_neg (by simp at hlen; omega)]
  | cons y r =>
    rw [hh] at hlen
    have hlt : (lo l n).length < l.length := by simp at hlen; omega
    rw [if_pos hlt, rdE, getD_lt l _ hlt]
    have e : l[(lo l n).length] = y := by
      rw [List.getElem_of_eq hs, List.getElem_append_right (by omega)]
      simp [hh]
    rw [e]
    have hm : y ∈ hi l n := by rw [hh]; exact List.mem_cons_self
    have e2 : Op.bytesLess y.f0.toList n.toList = false := by simpa using (List.mem_filter.1 hm).2
    exact cmpB_zero _ _ e2
theorem less_ne {a b : List UInt8} (h : Op.bytesLess a b = true) : (a == b) = false := by
  rw [beq_eq_false_iff_ne]
  rintro rfl
  rw [less_irrefl] at h; cases h
/-- Behind the first that is not ahead of a name all are behind the name. -/
theorem hi_tail (l : List SR) (n : ByteArray) (hs : l.Pairwise (fun a b => Op.bytesLess a.f0.toList b.f0.toList = true)) {y : SR} {r : List SR} (h : hi l n = y :: r) : ∀ x ∈ r, Op.bytesLess n.toList x.f0.toList = true := by
  intro x hx
  have hp : (hi l n).Pairwise (fun a b => Op.bytesLess a.f0.toList b.f0.toList = true) := hs.filter _
  rw [h, List.pairwise_cons] at hp
  have hyx := hp.1 x hx
  have hm : y ∈ hi l n := by rw [h]; exact List.mem_cons_self
  have e2 : Op.bytesLess y.f0.toList n.toList = false := by simpa using (List.mem_filter.1 hm).2
  by_cases e : y.f0.toList = n.toList
  · rw [← e]; exact hyx
  · exact less_trans (less_or e2 e) hyx
theorem hi_all (l : List SR) (n : ByteArray) (hs : l.Pairwise (fun a b => Op.bytesLess a.f0.toList b.f0.toList = true)) (h : isI l n = false) : ∀ x ∈ hi l n, Op.bytesLess n.toList x.f0.toList = true := by
  cases hh : hi l n with
  | nil => intro x hx; cases hx
  | cons y r =>
    intro x hx
    rcases List.mem_cons.1 hx with rfl | hx
    · unfold isI at h
      rw [hh] at h
      have hm : x ∈ hi l n := by rw [hh]; exact List.mem_cons_self
      have e2 : Op.bytesLess x.f0.toList n.toList = false := by simpa using (List.mem_filter.1 hm).2
      exact less_or e2 (by simpa using h)
    · exact hi_tail l n hs hh x hx
def addI (l : List SR) (x : SR) : List SR × Int := if Good l then (if nameOk x.f0 = true then (if entOk x.f0 x.f1 = true then (if isI l x.f0 = true then ([], 102) else if 63 ≤ l.length then ([], 51) else (lo l x.f0 ++ [x] ++ hi l x.f0, 0)) else ([], 4)) else ([], 106)) else ([], 9)
theorem dir_add (l : List SR) (a : ByteArray) (b : Int) : Ev (fun k => dir_Add.f k (l.map toE) a b) ((addI l ⟨a, b⟩).1.map toE, (addI l ⟨a, b⟩).2) := by
  unfold dir_Add.f
  refine Ev.bind (dir_check l) ?_
  unfold checkI addI
  by_cases hg : Good l
  · simp only [if_pos hg, if_true]
    rw [dir_name, search_is l a hg, dir_may]
    simp only [Option.bind_some, nameI]
    cases hn : nameOk a with
    | false => simp; exact Ev.now _
    | true =>
      rw [if_pos rfl, if_pos rfl, if_pos rfl]
      cases he : entOk a b with
      | false => simp; exact Ev.now _
      | true =>
        rw [if_pos rfl, if_pos rfl]
        cases hi_ : isI l a with
        | true => simp; exact Ev.now _
        | false =>
          simp only [Bool.false_eq_true, if_false, List.length_map]
          by_cases h63 : 63 ≤ l.length
          · rw [if_pos h63, if_pos h63]; exact Ev.now _
          · have hs := split_at a l hg.2.2
            have hle : (lo l a).length ≤ l.length := List.length_filter_le _ _
            rw [if_neg h63, if_neg h63, if_pos ⟨by omega, by rw [Int.toNat_natCast]; exact hle⟩, Int.toNat_natCast]
            have e1 : (l.map toE).take (lo l a).length = (lo l a).map toE := by
              rw [← List.map_take, take_lo l a hg.2.2]
            have e2 : (l.map toE).drop (lo l a).length = (hi l a).map toE := by
              rw [← List.map_drop, drop_lo l a hg.2.2]
            rw [e1, e2]
            simp only [List.map_append, List.map_cons, List.map_nil]
            exact Ev.now _
  · simp only [if_neg hg]
    rw [if_neg (by decide)]
    exact Ev.now _
theorem of_loop (l : List SR) (hl : l.length * 24 ≤ 140737488351232) : ∀ (d i : Nat), i + d = l.length → Ev (fun k => undercroftlaw08_Of.l0 k l ((l.take i).map toE) (i : Int)) (l.map toE) := by
  intro d
  induction d with
  | zero =>
    intro i hi
    rw [List.take_of_length_le (by omega)]
    refine Ev.step (f := fun _ => some (l.map toE)) (fun k => ?_) (Ev.now _)
    simp only [undercroftlaw08_Of.l0]
    rw [if_neg (by omega)]
  | succ d ih =>
    intro i hi
    have hlt : i < l.length := by omega
    have hx := rdR l i
    rw [getD_lt l i hlt] at hx
    refine Ev.step (f := fun k => undercroftlaw08_Of.l0 k l ((l.take (i + 1)).map toE) ((i + 1 : Nat) : Int)) (fun k => ?_) (ih (i + 1) (by omega))
    simp only [undercroftlaw08_Of.l0]
    rw [if_pos (by omega), if_pos (by omega), if_pos (by simp; omega), hx, w_id (by omega) (by omega), List.take_succ_eq_append_getElem hlt, List.map_append]
    rfl
theorem of_is (l : List SR) (hl : l.length * 24 ≤ 140737488351232) : Ev (fun k => undercroftlaw08_Of.f k l) (l.map toE) := of_loop l hl l.length 0 (by omega)
theorem alike_loop (l : List SR) (hl : l.length ≤ 140737488351232) : ∀ (d i : Nat), i + d = l.length → Ev (fun k => undercroftlaw08_Alike.l0 k (l.map toE) l (i : Int)) 0 := by
  intro d
  induction d with
  | zero =>
    intro i hi
    refine Ev.step (f := fun _ => some 0) (fun k => ?_) (Ev.now _)
    simp only [undercroftlaw08_Alike.l0, List.length_map]
    rw [if_neg (by omega)]
  | succ d ih =>
    intro i hi
    have hlt : i < l.length := by omega
    have hc : (!((rd_T34 (l.map toE) (i : Int)).f0.toList == (rd_T37 l (i : Int)).f0.toList) || !((rd_T34 (l.map toE) (i : Int)).f1 == (rd_T37 l (i : Int)).f1)) = false := by
      rw [rdE, rdR]; simp [toE]
    refine Ev.step (f := fun k => undercroftlaw08_Alike.l0 k (l.map toE) l ((i + 1 : Nat) : Int)) (fun k => ?_) (ih (i + 1) (by omega))
    simp only [undercroftlaw08_Alike.l0, List.length_map]
    rw [if_pos (by omega), if_pos (by omega), if_pos (by omega), if_neg (by rw [hc]; decide), w_id (by omega) (by omega)]
    rfl
theorem alike_is (l : List SR) (hl : l.length ≤ 140737488351232) : Ev (fun k => undercroftlaw08_Alike.f k (l.map toE) l) 0 := by
  refine Ev.congr (fun k => ?_) (alike_loop l hl l.length 0 (by omega))
  unfold undercroftlaw08_Alike.f
  simp only [List.length_map]
  rw [if_pos trivial]
  rfl
theorem good_nil : Good [] := ⟨by simp, (fun x hx => by cases hx), List.Pairwise.nil⟩
theorem alive_is : Ev undercroftlaw08_alive.f true := by
  have n1 : nameOk ⟨#[98]⟩ = true := by decide +kernel
  have n2 : nameOk ⟨#[97]⟩ = true := by decide +kernel
  have e1 : entOk ⟨#[98]⟩ 2 = true := by decide +kernel
  have e2 : entOk ⟨#[97]⟩ 3 = true := by decide +kernel
  have b1 : Op.bytesLess (⟨#[98]⟩ : ByteArray).toList (⟨#[97]⟩ : ByteArray).toList = false := by decide +kernel
  have b2 : ((⟨#[98]⟩ : ByteArray).toList == (⟨#[97]⟩ : ByteArray).toList) = false := by decide +kernel
  have h1 : addI [] ⟨⟨#[98]⟩, 2⟩ = ([⟨⟨#[98]⟩, 2⟩], 0) := by
    unfold addI
    rw [if_pos good_nil, if_pos n1, if_pos e1, if_neg (by decide), if_neg (by decide)]
    rfl
  have g1 : Good [⟨⟨#[98]⟩, 2⟩] := ⟨by simp, fun x hx => by simp at hx; subst hx; exact e1, List.pairwise_singleton _ _⟩
  have l1 : lo [⟨⟨#[98]⟩, 2⟩] ⟨#[97]⟩ = [] := by unfold lo; rw [List.filter_cons, b1]; rfl
  have l2 : hi [⟨⟨#[98]⟩, 2⟩] ⟨#[97]⟩ = [⟨⟨#[98]⟩, 2⟩] := by unfold hi; rw [List.filter_cons, b1]; rfl
  have h2 : addI [⟨⟨#[98]⟩, 2⟩] ⟨⟨#[97]⟩, 3⟩ = ([⟨⟨#[97]⟩, 3⟩, ⟨⟨#[98]⟩, 2⟩], 0) := by
    unfold addI
    have i1 : isI [⟨⟨#[98]⟩, 2⟩] ⟨#[97]⟩ = false := by unfold isI; rw [l2]; exact b2
    rw [if_pos g1, if_pos n2, if_pos e2, if_neg (by rw [i1]; decide), if_neg (by decide), l1, l2]
    rfl
  have d1 := dir_add [] ⟨#[98]⟩ 2
  have d2 := dir_add [⟨⟨#[98]⟩, 2⟩] ⟨#[97]⟩ 3
  rw [h1] at d1
  rw [h2] at d2
  unfold undercroftlaw08_alive.f
  refine Ev.bind d1 (Ev.bind d2 ?_)
  have h3 : dir_Name.f (⟨#[97, 47, 98]⟩ : ByteArray) = some 106 := by rw [dir_name]; decide +kernel
  have h4 : (rd_T34 (List.map toE [⟨⟨#[97]⟩, 3⟩, ⟨⟨#[98]⟩, 2⟩]) 0).f0.toList = ([97] : List UInt8) := by
    show (⟨#[97]⟩ : ByteArray).toList = [97]
    rw [Lib.toList_data]
  refine Ev.congr (f := fun _ => some true) (fun k => ?_) (Ev.now _)
  simp only [undercroftlaw08_num.f, Option.bind_some, h3]
  rw [if_pos (by rw [w_id (by omega) (by omega)]; rfl), if_pos (by rfl), if_pos (by decide), if_pos h4]
  rfl

theorem lo_append (a b : List SR) (n : ByteArray) : lo (a ++ b) n = lo a n ++ lo b n := List.filter_append ..
theorem hi_append (a b : List SR) (n : ByteArray) : hi (a ++ b) n = hi a n ++ hi b n := List.filter_append ..
theorem lo_all {a : List SR} {n : ByteArray} (h : ∀ x ∈ a, Op.bytesLess x.f0.toList n.toList = true) : lo a n = a := List.filter_eq_self.2 h
theorem hi_none {a : List SR} {n : ByteArray} (h : ∀ x ∈ a, Op.bytesLess x.f0.toList n.toList = true) : hi a n = [] := List.filter_eq_nil_iff.2 (fun x hx => by rw [h x hx]; decide)
theorem lo_none {a : List SR} {n : ByteArray} (h : ∀ x ∈ a, Op.bytesLess n.toList x.f0.toList = true) : lo a n = [] := List.filter_eq_nil_iff.2 (fun x hx => by rw [less_asymm (h x hx)]; decide)
theorem hi_self {a : List SR} {n : ByteArray} (h : ∀ x ∈ a, Op.bytesLess n.toList x.f0.toList = true) : hi a n = a := List.filter_eq_self.2 (fun x hx => by rw [less_asymm (h x hx)]; rfl)
/-- What is made of what is ahead, an entry, and what is behind. -/
theorem good_mid {a b : List SR} {x : SR} (ha : ∀ y ∈ a, Op.bytesLess y.f0.toList x.f0.toList = true) (hb : ∀ y ∈ b, Op.bytesLess x.f0.toList y.f0.toList = true) (hg : Good (a ++ b)) (hx : entOk x.f0 x.f1 = true) (hl : (a ++ b).length < 63) : Good (a ++ [x] ++ b) := by
  obtain ⟨h1, h2, h3⟩ := hg
  rw [List.pairwise_append] at h3
  refine ⟨by simp at hl ⊢; omega, fun y hy => ?_, ?_⟩
  · simp only [List.mem_append, List.mem_singleton] at hy h2
    rcases hy with (hy | rfl) | hy
    · exact h2 y (.inl hy)
    · exact hx
    · exact h2 y (.inr hy)
  · rw [List.append_assoc, List.singleton_append, List.pairwise_append, List.pairwise_cons]
    refine ⟨h3.1, ⟨hb, h3.2.1⟩, fun y hy z hz => ?_⟩
    rcases List.mem_cons.1 hz with rfl | hz
    · exact ha y hy
    · exact h3.2.2 y hy z hz
theorem good_sub {l m : List SR} (h : Good l) (hs : List.Sublist m l) : Good m := ⟨Nat.le_trans hs.length_le h.1, fun x hx => h.2.1 x (hs.subset hx), h.2.2.sublist hs⟩
theorem mid_lo {a b : List SR} {x : SR} (ha : ∀ y ∈ a, Op.bytesLess y.f0.toList x.f0.toList = true) (hb : ∀ y ∈ b, Op.bytesLess x.f0.toList y.f0.toList = true) : lo (a ++ [x] ++ b) x.f0 = a ∧ hi (a ++ [x] ++ b) x.f0 = x :: b := by
  have hx := less_irrefl x.f0.toList
  rw [lo_append, lo_append, hi_append, hi_append, lo_all ha, hi_none ha, lo_none hb, hi_self hb]
  have e1 : lo [x] x.f0 = [] := by unfold lo; rw [List.filter_cons, hx]; rfl
  have e2 : hi [x] x.f0 = [x] := by unfold hi; rw [List.filter_cons, hx]; rfl
  rw [e1, e2]
  simp
theorem lo_mem {l : List SR} {n : ByteArray} : ∀ y ∈ lo l n, Op.bytesLess y.f0.toList n.toList = true := fun y hy => (List.mem_filter.1 hy).2
theorem add_ok {l : List SR} {x : SR} (h : (addI l x).2 = 0) : Good l ∧ entOk x.f0 x.f1 = true ∧ isI l x.f0 = false ∧ l.length < 63 ∧ (addI l x).1 = lo l x.f0 ++ [x] ++ hi l x.f0 := by
  unfold addI at h ⊢
  by_cases h1 : Good l
  case neg => rw [if_neg h1] at h; cases h
  rw [if_pos h1] at h ⊢
  by_cases h2 : nameOk x.f0 = true
  case neg => rw [if_neg h2] at h; cases h
  rw [if_pos h2] at h ⊢
  by_cases h3 : entOk x.f0 x.f1 = true
  case neg => rw [if_neg h3] at h; cases h
  rw [if_pos h3] at h ⊢
  by_cases h4 : isI l x.f0 = true
  case pos => rw [if_pos h4] at h; cases h
  rw [if_neg h4] at h ⊢
  by_cases h5 : 63 ≤ l.length
  case pos => rw [if_pos h5] at h; cases h
  rw [if_neg h5]
  exact ⟨h1, h3, by simpa using h4, by omega, rfl⟩

theorem swap_out (l : List SR) (i : Nat) (hi : i < l.length) : List.Perm l (l[i] :: (l.set i (l[l.length - 1]'(by omega))).take (l.length - 1)) := by
  rcases List.eq_nil_or_concat l with rfl | ⟨m, z, e⟩
  · exact absurd hi (by simp)
  have e : l = m ++ [z] := by rw [e, List.concat_eq_append]
  subst e
  have hz : (m ++ [z])[(m ++ [z]).length - 1]'(by simp) = z := by
    rw [List.getElem_append_right (by simp)]
    simp
  simp only [List.length_append, List.length_singleton, Nat.add_sub_cancel] at hi hz ⊢
  rw [hz]
  by_cases h : i < m.length
  · rw [List.getElem_append_left h, List.set_append_left _ _ h, List.take_append_of_le_length (by simp), List.take_of_length_le (by simp), List.set_eq_take_append_cons_drop, if_pos h]
    have hm : m = m.take i ++ m[i] :: m.drop (i + 1) := by
      rw [← List.drop_eq_getElem_cons h, List.take_append_drop]
    have p1 : List.Perm (m ++ [z]) (z :: m) := List.perm_append_comm
    have p2 : List.Perm m (m[i] :: (m.take i ++ m.drop (i + 1))) := by
      conv => lhs; rw [hm]
      exact List.perm_middle
    have p3 : List.Perm (m.take i ++ z :: m.drop (i + 1)) (z :: (m.take i ++ m.drop (i + 1))) := List.perm_middle
    exact p1.trans ((p2.cons z).trans ((List.Perm.swap _ _ _).trans (p3.symm.cons _)))
  · have hi2 : i = m.length := by omega
    subst hi2
    have h1 : (m ++ [z])[m.length]'(by simp) = z := by rw [List.getElem_append_right (by simp)]; simp
    rw [h1, List.set_append_right _ _ (Nat.le_refl _), List.take_append_of_le_length (Nat.le_refl _), List.take_of_length_le (Nat.le_refl _)]
    exact List.perm_append_comm
def neR (a b : SR) : Prop := a.f0.toList ≠ b.f0.toList
theorem ne_of_good {l : List SR} (h : Good l) : l.Pairwise neR := h.2.2.imp (fun {a b} hab e => by rw [e, less_irrefl] at hab; cases hab)
theorem isI_mem {l : List SR} {n : ByteArray} (h : isI l n = true) : ∃ y ∈ l, y.f0.toList = n.toList := by
  unfold isI at h
  cases hh : hi l n with
  | nil => rw [hh] at h; cases h
  | cons y r =>
    rw [hh] at h
    have hm : y ∈ hi l n := by rw [hh]; exact List.mem_cons_self
    exact ⟨y, (List.mem_filter.1 hm).1, by simpa using h⟩
/-- One more of the entries. -/
theorem order_add {l o m : List SR} {x : SR} (hg : Good l) (ho : Good o) (hp : List.Perm (o ++ x :: m) l) : addI o x = (lo o x.f0 ++ [x] ++ hi o x.f0, 0) ∧ Good (lo o x.f0 ++ [x] ++ hi o x.f0) ∧ List.Perm ((lo o x.f0 ++ [x] ++ hi o x.f0) ++ m) l := by
  have hx : x ∈ l := hp.subset (by simp)
  have hent := hg.2.1 x hx
  have hname : nameOk x.f0 = true := by unfold entOk at hent; simp only [Bool.and_eq_true] at hent; exact hent.1.1
  have hne : (o ++ x :: m).Pairwise neR := (hp.pairwise_iff (fun h e => h e.symm)).2 (ne_of_good hg)
  have hn : isI o x.f0 = false := by
    cases h : isI o x.f0 with
    | false => rfl
    | true =>
      obtain ⟨y, hy, e⟩ := isI_mem h
      exact absurd e ((List.pairwise_append.1 hne).2.2 y hy x List.mem_cons_self)
  have hlen := hp.length_eq
  have h63 := hg.1
  simp only [List.length_append, List.length_cons] at hlen
  have hs := split_at x.f0 o ho.2.2
  have hb := hi_all o x.f0 ho.2.2 hn
  refine ⟨?_, good_mid lo_mem hb (by rw [← hs]; exact ho) hent (by rw [← hs]; omega), ?_⟩
  · unfold addI
    rw [if_pos ho, if_pos hname, if_pos hent, if_neg (by rw [hn]; decide), if_neg (by omega)]
  · have p1 : List.Perm (lo o x.f0 ++ [x] ++ hi o x.f0) (x :: o) := by
      conv => rhs; rw [hs]
      rw [List.append_assoc, List.singleton_append]
      exact List.perm_middle
    exact (p1.append_right m).trans ((List.perm_middle (a := x) (l₁ := o) (l₂ := m)).symm.trans hp)
theorem order_loop (l : List SR) (q : List Int) (hq : ∀ x ∈ q, (Lit.int .i64 x).wf = true) (hg : Good l) : ∀ (d : Nat) (m o : List SR) (i : Nat), m.length = d → i ≤ 63 → i + m.length = l.length → Good o → List.Perm (o ++ m) l → Ev (fun k => undercroftlaw08_DirOrder.l0 k l q (m.map toE) (o.map toE) (i : Int)) true := by
  intro d
  induction d with
  | zero =>
    intro m o i hm hi hil ho hp
    obtain rfl : m = [] := List.eq_nil_of_length_eq_zero hm
    rw [List.append_nil] at hp
    have e : o = l := List.Perm.eq_of_pairwise (le := fun a b => Op.bytesLess a.f0.toList b.f0.toList = true) (fun a b _ _ h1 h2 => by rw [less_asymm h1] at h2; cases h2) ho.2.2 hg.2.2 hp
    subst e
    refine Ev.step (f := fun k => (undercroftlaw08_Alike.f k (o.map toE) o).bind fun t224 => (some (t224 == 0))) (fun k => ?_) (Ev.bind (alike_is o (by have := hg.1; omega)) (Ev.now _))
    simp only [undercroftlaw08_DirOrder.l0]
    rw [if_neg (by simp)]
  | succ d ih =>
    intro m o i hm hi hil ho hp
    have h63 := hg.1
    have hml : ((m.map toE).length : Int) = (m.length : Int) := by simp
    -- whichever is taken
    have take : ∀ j : Nat, j < m.length → Ev (fun k => undercroftlaw08_DirOrder.j1 k l q (m.map toE) (o.map toE) (i : Int) (j : Int)) true := fun j hj => by
      obtain ⟨z, hz⟩ : ∃ z, z = m[m.length - 1]'(by omega) := ⟨_, rfl⟩
      obtain ⟨m2, hm2⟩ : ∃ m2, m2 = (m.set j z).take (m.length - 1) := ⟨_, rfl⟩
      have hsw := swap_out m j hj
      rw [← hz, ← hm2] at hsw
      have hl2 : m2.length = d := by rw [hm2]; simp; omega
      obtain ⟨a1, a2, a3⟩ := order_add (x := m[j]) (m := m2) hg ho ((hsw.append_left o).symm.trans hp)
      have hadd := dir_add o (m[j]).f0 (m[j]).f1
      rw [show addI o ⟨(m[j]).f0, (m[j]).f1⟩ = _ from a1] at hadd
      have hnext := ih m2 _ (i + 1) hl2 (by omega) (by omega) a2 a3
      have hrd : rd_T34 (m.map toE) (j : Int) = toE m[j] := by rw [rdE, getD_lt m j hj]
      have hlast : rd_T34 (m.map toE) ((m.length : Int) - 1) = toE z := by
        have e : ((m.length : Int) - 1) = ((m.length - 1 : Nat) : Int) := by omega
        rw [e, rdE, getD_lt m _ (by omega), hz]
      have hw : wrap64 ((m.length : Int) - 1) = (m.length : Int) - 1 := w_id (by omega) (by omega)
      refine Ev.step (f := fun k => (dir_Add.f k (o.map toE) (m[j]).f0 (m[j]).f1).bind fun bt227 => ((undercroftlaw08_num.f bt227.2).bind fun t231 => (if t231 = 0 then (undercroftlaw08_DirOrder.l0 k l q (m2.map toE) bt227.1 ((i + 1 : Nat) : Int)) else (some false)))) (fun k => ?_) (Ev.bind hadd ?_)
      · simp only [undercroftlaw08_DirOrder.j1, List.length_map]
        have c1 : (0 ≤ (m.length : Int) - 1) = True := eq_true (by omega)
        have c2 : ((m.length : Int) - 1 < (m.length : Int)) = True := eq_true (by omega)
        have c3 : ((m.length : Int) - 1 ≤ (m.length : Int)) = True := eq_true (by omega)
        rw [if_pos (by omega), if_pos (by omega), hrd, hw, hlast]
        simp only [c1, c2, c3, if_true]
        rw [w_id (x := (i : Int) + 1) (by omega) (by omega)]
        have e2 : (List.set (m.map toE) ((j : Int)).toNat ⟨(toE z).f0, (toE z).f1⟩).take ((m.length : Int) - 1).toNat = m2.map toE := by
          rw [hm2, List.map_take, List.map_set, Int.toNat_natCast, show ((m.length : Int) - 1).toNat = m.length - 1 by omega]
        rw [e2]
        rfl
      · simp only [undercroftlaw08_num.f, Option.bind_some]
        refine Ev.congr (fun k => by rw [if_pos trivial]) hnext
    by_cases hc : (i : Int) < (q.length : Int)
    · have hi2 : i < q.length := by omega
      have hwf := wf_i64 (hq (q[i]) (List.getElem_mem hi2))
      have b1 := Int.tmod_lt_of_pos (rd q (i : Int)) (b := (m.length : Int)) (by omega)
      have b2 := Int.lt_tmod_of_pos (rd q (i : Int)) (b := (m.length : Int)) (by omega)
      have hw : wrap64 ((Int.tmod (rd q (i : Int)) (m.length : Int)) + (m.length : Int)) = (Int.tmod (rd q (i : Int)) (m.length : Int)) + (m.length : Int) := w_id (by omega) (by omega)
      obtain ⟨v, hv⟩ : ∃ v, v = (Int.tmod (rd q (i : Int)) (m.length : Int)) + (m.length : Int) := ⟨_, rfl⟩
      have b3 := Int.tmod_lt_of_pos v (b := (m.length : Int)) (by omega)
      have b4 := Int.tmod_nonneg (a := v) (m.length : Int) (by omega)
      obtain ⟨j, hj⟩ : ∃ j : Nat, Int.tmod v (m.length : Int) = (j : Int) := ⟨(Int.tmod v (m.length : Int)).toNat, by omega⟩
      refine Ev.step (fun k => ?_) (take j (by omega))
      simp only [undercroftlaw08_DirOrder.l0, hml]
      rw [if_pos (by omega), if_pos hc, if_pos (by omega), if_neg (by omega), hw, ← hv, hj]
    · refine Ev.step (fun k => ?_) (take 0 (by omega))
      simp only [undercroftlaw08_DirOrder.l0, hml]
      rw [if_pos (by omega), if_neg hc]
      rfl
theorem DirOrder (l0 : List S37) (l1 : List Int) (h0 : (l0.length * 24 ≤ 140737488351232 ∧ l0.length ≤ maxLen ∧ ∀ y22 ∈ l0, ok37 y22)) (h1 : (l1.length * 8 ≤ 140737488351232 ∧ l1.length ≤ maxLen ∧ ∀ y23 ∈ l1, (Lit.int .i64 y23).wf = true)) : ∃ k, undercroftlaw08_DirOrder.f k l0 l1 = some true := by
  refine Ev.rounds (g := fun k => undercroftlaw08_DirOrder.f k l0 l1) ?_
  have hb := h0.1
  unfold undercroftlaw08_DirOrder.f
  refine Ev.bind alive_is ?_
  simp only [if_true]
  refine Ev.bind (ref_check l0) ?_
  by_cases hg : Good l0
  · have e : checkI l0 = 0 := by unfold checkI; rw [if_pos hg]
    rw [e]
    simp only [if_true]
    refine Ev.bind (of_is l0 hb) ?_
    have := order_loop l0 l1 h1.2.2 hg l0.length l0 [] 0 rfl (by omega) (by omega) good_nil (by simp)
    exact this
  · have e : checkI l0 = 9 := by unfold checkI; rw [if_neg hg]
    rw [e]
    refine Ev.congr (f := fun k => (undercroftlaw08_Of.f k l0).bind fun t216 => ((dir_Check.f k t216).bind fun t219 => ((undercroftlaw08_num.f t219).bind fun t220 => (some (t220 == 9))))) (fun k => by rw [if_neg (by decide)]) ?_
    refine Ev.bind (of_is l0 hb) (Ev.bind (dir_check l0) ?_)
    rw [e]
    exact Ev.now _

end Go.Proofs.Ytiglgckhikipeaa.Pure
