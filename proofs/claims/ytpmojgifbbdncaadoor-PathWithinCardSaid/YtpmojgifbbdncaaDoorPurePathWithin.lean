/- Of three paths: within is transitive, and both ways only for the same names. -/
import Derived.Test.YtpmojgifbbdncaaDoorPPthx
import Derived.Lib.IndexLaws
namespace Go.Proofs.YtpmojgifbbdncaaDoor.Pure
open Go.RowKit Go.Proofs.YtpmojgifbbdncaaDoor.PPth Go.Proofs.YtpmojgifbbdncaaDoorW.PrintWords Go.Proofs.YtpmojgifbbdncaaDoorW.PrintLast Go.Proofs.YtpmojgifbbdncaaDoorW.PrintMore
set_option linter.unusedVariables false
set_option linter.unusedSimpArgs false

theorem w_id {x : Int} (h0 : -9223372036854775808 ≤ x) (h1 : x ≤ 9223372036854775807) : wrap64 x = x := by unfold wrap64; omega
theorem wf_i64 {a : Int} (h : (Lit.int .i64 a).wf = true) : -9223372036854775808 ≤ a ∧ a ≤ 9223372036854775807 := by
  simpa [Lit.wf, IntKind.min, IntKind.max, IntKind.signed, IntKind.bits] using h
theorem wf_u8 {a : Int} (h : (Lit.int .u8 a).wf = true) : 0 ≤ a ∧ a ≤ 255 := by
  simpa [Lit.wf, IntKind.min, IntKind.max, IntKind.signed, IntKind.bits] using h
theorem wf_u32 {a : Int} (h : (Lit.int .u32 a).wf = true) : 0 ≤ a ∧ a ≤ 4294967295 := by
  simpa [Lit.wf, IntKind.min, IntKind.max, IntKind.signed, IntKind.bits] using h
theorem wf_u64 {a : Int} (h : (Lit.int .u64 a).wf = true) : 0 ≤ a ∧ a ≤ 18446744073709551615 := by
  simpa [Lit.wf, IntKind.min, IntKind.max, IntKind.signed, IntKind.bits] using h
/-- All are octets. -/
def Oct (l : List Int) : Prop := ∀ x ∈ l, 0 ≤ x ∧ x ≤ 255
theorem Oct.of_wf {l : List Int} (h : ∀ x ∈ l, (Lit.int .u8 x).wf = true) : Oct l := fun x hx => wf_u8 (h x hx)
theorem Oct.nil : Oct [] := fun _ h => by cases h
theorem Oct.append {a b : List Int} (ha : Oct a) (hb : Oct b) : Oct (a ++ b) := fun x hx => (List.mem_append.1 hx).elim (ha x) (hb x)
theorem Oct.take {a : List Int} (ha : Oct a) (n : Nat) : Oct (a.take n) := fun x hx => ha x (List.mem_of_mem_take hx)
theorem Oct.drop {a : List Int} (ha : Oct a) (n : Nat) : Oct (a.drop n) := fun x hx => ha x (List.mem_of_mem_drop hx)
theorem rd_nat (l : List Int) (k : Nat) (h : k < l.length) : rd l (k : Int) = l[k] := by
  unfold rd
  simp [List.getD_eq_getElem?_getD, h]

theorem bext {a b : ByteArray} (h : a.toList = b.toList) : a = b := by
  rw [Lib.toList_data, Lib.toList_data] at h
  apply ByteArray.ext
  exact Array.ext' h
theorem size_toList (s : ByteArray) : s.toList.length = s.size := by rw [Lib.toList_data]; exact data_length s
/-- May a name be? -/
def nameOk (s : ByteArray) : Bool := decide (1 ≤ s.size) && decide (s.size ≤ 16) && !(s.toList == [46]) && !(s.toList == [46, 46]) && !(s.toList.contains 47) && !(s.toList.contains 0)
def nameI (s : ByteArray) : Int := if nameOk s = true then 0 else 106
theorem contains_is (s : ByteArray) (c : UInt8) : strings_Contains.f s ⟨#[c]⟩ = some (s.toList.contains c) := by
  show some (decide (0 ≤ Lib.indexByte s.data.toList c)) = _
  rw [Lib.toList_data]
  congr 1
  have hge := Lib.indexByte_ge s.data.toList c
  by_cases h : Lib.indexByte s.data.toList c = -1
  · have hn := Lib.indexByte_none h
    have : s.data.toList.contains c = false := by
      rw [Bool.eq_false_iff]
      intro hc
      have := List.mem_of_elem_eq_true hc
      obtain ⟨k, hk, e⟩ := List.getElem_of_mem this
      exact hn k (by rw [List.getElem?_eq_getElem hk, e])
    rw [this, h]; rfl
  · obtain ⟨o, ho⟩ : ∃ o : Nat, Lib.indexByte s.data.toList c = o := ⟨(Lib.indexByte s.data.toList c).toNat, by omega⟩
    have hs := (Lib.indexByte_some ho).1
    have : s.data.toList.contains c = true := List.elem_eq_true_of_mem (List.mem_of_getElem? hs)
    rw [this, ho]
    simp
theorem dir_name (s : ByteArray) : dir_Name.f s = some (nameI s) := by
  unfold dir_Name.f nameI
  have hz := size_toList s
  by_cases h1 : s.toList = []
  · rw [if_pos h1, if_neg]
    rw [h1] at hz
    simp at hz
    simp [nameOk, ← hz]
  rw [if_neg h1]
  have h1' : 1 ≤ s.size := by
    rcases Nat.eq_zero_or_pos s.size with h | h
    · rw [h] at hz; exact absurd (List.eq_nil_of_length_eq_zero hz) h1
    · exact h
  by_cases h2 : s.toList = [46]
  · rw [if_pos h2, if_neg]; simp [nameOk, h2]
  rw [if_neg h2]
  by_cases h3 : s.toList = [46, 46]
  · rw [if_pos h3, if_neg]; simp [nameOk, h3]
  rw [if_neg h3]
  by_cases h4 : (s.size : Int) > 16
  · rw [if_pos h4, if_neg]
    have : ¬ s.size ≤ 16 := by omega
    simp [nameOk, this]
  rw [if_neg h4, contains_is, contains_is]
  have h4' : s.size ≤ 16 := by omega
  simp only [Option.bind_some]
  have e2 : (s.toList == [46]) = false := by simpa using h2
  have e3 : (s.toList == [46, 46]) = false := by simpa using h3
  cases h5 : s.toList.contains 47 <;> cases h6 : s.toList.contains 0 <;> simp only [nameOk, h1', h4', e2, e3, h5, h6, decide_true, Bool.not_false, Bool.not_true, Bool.and_true, Bool.and_false, Bool.true_and, Bool.false_and, if_true, if_false, Bool.false_eq_true, Bool.or_true, Bool.or_false, Bool.true_or, Bool.false_or, Option.bind_some]
theorem bt_toList (s : ByteArray) (i : Nat) (h : i < s.size) : bt s (i : Int) = ((s.toList[i]'(by rw [size_toList]; exact h)).toNat : Int) := by
  have e : s.toList = s.data.toList := Lib.toList_data s
  simp only [e]
  simp [bt, h]
  rfl
theorem refname_loop (s : ByteArray) (hs : s.size ≤ 16) : ∀ (d i : Nat), i + d = s.size → Ev (fun k => undercroftref08_Name.l0 k s (i : Int)) (if ((s.toList.drop i).contains 47 || (s.toList.drop i).contains 0) = true then 106 else 0) := by
  intro d
  induction d with
  | zero =>
    intro i hi
    refine Ev.step (f := fun _ => some 0) (fun k => ?_) ?_
    · simp only [undercroftref08_Name.l0]
      rw [if_neg (by omega)]
    · rw [List.drop_eq_nil_of_le (by rw [size_toList]; omega)]
      exact Ev.now _
  | succ d ih =>
    intro i hi
    have hlt : i < s.toList.length := by rw [size_toList]; omega
    rw [List.drop_eq_getElem_cons hlt, List.contains_cons, List.contains_cons]
    have hb := bt_toList s i (by omega)
    generalize hx : s.toList[i] = x at *
    by_cases h0 : x = 0
    · subst h0
      refine Ev.step (f := fun _ => some 106) (fun k => ?_) ?_
      · simp only [undercroftref08_Name.l0]
        rw [if_pos (by omega), if_pos (by omega), hb, if_pos (by rfl)]
      · simp; exact Ev.now _
    by_cases h1 : x = 47
    · subst h1
      refine Ev.step (f := fun _ => some 106) (fun k => ?_) ?_
      · simp only [undercroftref08_Name.l0]
        rw [if_pos (by omega), if_pos (by omega), hb, if_neg (by decide), if_pos (by rfl)]
      · simp; exact Ev.now _
    · have e0 : ((0 : UInt8) == x) = false := by simpa using fun e => h0 e.symm
      have e1 : ((47 : UInt8) == x) = false := by simpa using fun e => h1 e.symm
      rw [e0, e1, Bool.false_or, Bool.false_or]
      refine Ev.step (f := fun k => undercroftref08_Name.l0 k s ((i + 1 : Nat) : Int)) (fun k => ?_) (ih (i + 1) (by omega))
      simp only [undercroftref08_Name.l0]
      rw [if_pos (by omega), if_pos (by omega), hb, if_neg, if_neg, w_id (by omega) (by omega)]
      · rfl
      · intro e; exact h1 (UInt8.toNat_inj.1 (by have : x.toNat = 47 := by omega
                                                 exact this))
      · intro e; exact h0 (UInt8.toNat_inj.1 (by have : x.toNat = 0 := by omega
                                                 exact this))
theorem ref_name (s : ByteArray) : Ev (fun k => undercroftref08_Name.f k s) (nameI s) := by
  have hz := size_toList s
  have bad : nameOk s = false → Ev (fun k => undercroftref08_Name.j0 k s true) (nameI s) := fun h => by
    refine Ev.step (f := fun _ => some 106) (fun k => ?_) (by unfold nameI; rw [h]; exact Ev.now _)
    simp only [undercroftref08_Name.j0]; rw [if_pos trivial]
  by_cases h1 : (s.size : Int) < 1
  · refine Ev.congr (fun k => ?_) (bad (by have : ¬ 1 ≤ s.size := by omega
                                           simp [nameOk, this]))
    unfold undercroftref08_Name.f; rw [if_pos h1]
  by_cases h2 : (s.size : Int) > 16
  · refine Ev.congr (fun k => ?_) (bad (by have : ¬ s.size ≤ 16 := by omega
                                           simp [nameOk, this]))
    unfold undercroftref08_Name.f; rw [if_neg h1, if_pos h2]
  by_cases h3 : s.toList = [46]
  · refine Ev.congr (fun k => ?_) (bad (by simp [nameOk, h3]))
    unfold undercroftref08_Name.f; rw [if_neg h1, if_neg h2, if_pos h3]
  by_cases h4 : s.toList = [46, 46]
  · refine Ev.congr (fun k => ?_) (bad (by simp [nameOk, h4]))
    unfold undercroftref08_Name.f; rw [if_neg h1, if_neg h2, if_neg h3, h4]; rfl
  · have e3 : (s.toList == [46]) = false := by simpa using h3
    have e4 : (s.toList == [46, 46]) = false := by simpa using h4
    have hl := refname_loop s (by omega) s.size 0 (by omega)
    rw [List.drop_zero] at hl
    have hn : nameI s = if (s.toList.contains 47 || s.toList.contains 0) = true then 106 else 0 := by
      have a1 : 1 ≤ s.size := by omega
      have a2 : s.size ≤ 16 := by omega
      unfold nameI
      cases h5 : s.toList.contains 47 <;> cases h6 : s.toList.contains 0 <;> simp only [nameOk, a1, a2, e3, e4, h5, h6, decide_true, Bool.not_false, Bool.not_true, Bool.and_true, Bool.and_false, Bool.true_and, Bool.false_and, if_true, if_false, Bool.false_eq_true, Bool.or_true, Bool.or_false, Bool.true_or, Bool.false_or, Option.bind_some]
    rw [hn]
    refine Ev.congr (f := fun k => undercroftref08_Name.j0 k s false) (fun k => ?_) (Ev.step (fun k => ?_) hl)
    · unfold undercroftref08_Name.f; rw [if_neg h1, if_neg h2, if_neg h3, e4]
    · simp only [undercroftref08_Name.j0]; rw [if_neg (by decide)]; rfl

theorem data_bext {a b : ByteArray} (h : a.data.toList = b.data.toList) : a = b := by
  apply ByteArray.ext
  exact Array.ext' h
theorem rdOf_nat (l : List ByteArray) (k : Nat) (h : k < l.length) : rdOf ByteArray.empty l (k : Int) = l[k] := by
  unfold rdOf
  simp [List.getD_eq_getElem?_getD, h]
theorem empty_iff (s : ByteArray) : s.toList = ([] : List UInt8) ↔ s.size = 0 := by
  have := size_toList s
  constructor
  · intro h; rw [h] at this; simpa using this.symm
  · intro h; rw [h] at this; exact List.eq_nil_of_length_eq_zero this
/-- What the check of a row of names answers. -/
def namedI (l : List ByteArray) : Int := if l.all nameOk = true then (if 8 < l.length then 5 else 0) else 106
theorem named_ok {l : List ByteArray} (h : namedI l = 0) : l.all nameOk = true ∧ l.length ≤ 8 := by
  unfold namedI at h
  split at h
  · split at h
    · cases h
    · exact ⟨by assumption, by omega⟩
  · cases h
theorem named_of {l : List ByteArray} (h : l.all nameOk = true) (h8 : l.length ≤ 8) : namedI l = 0 := by
  unfold namedI; rw [if_pos h, if_neg (by omega)]
theorem named_loop (l : List ByteArray) (hl : l.length ≤ 4611686018427387904) : ∀ (d i : Nat), i + d = l.length → Ev (fun k => path_named.l0 k l l (l.length : Int) (i : Int)) (if (l.drop i).all nameOk = true then (if 8 < l.length then 5 else 0) else 106) := by
  intro d
  induction d with
  | zero =>
    intro i hi
    rw [List.drop_eq_nil_of_le (by omega)]
    simp only [List.all_nil, if_true]
    by_cases h8 : 8 < l.length
    · rw [if_pos h8]
      refine Ev.step (f := fun _ => some 5) (fun k => ?_) (Ev.now _)
      simp only [path_named.l0]
      rw [if_neg (by omega), if_pos (by omega)]
    · rw [if_neg h8]
      refine Ev.step (f := fun _ => some 0) (fun k => ?_) (Ev.now _)
      simp only [path_named.l0]
      rw [if_neg (by omega), if_neg (by omega)]
  | succ d ih =>
    intro i hi
    have hlt : i < l.length := by omega
    rw [List.drop_eq_getElem_cons hlt, List.all_cons]
    by_cases h0 : nameOk l[i] = true
    · rw [h0, Bool.true_and]
      refine Ev.step (f := fun k => path_named.l0 k l l (l.length : Int) ((i + 1 : Nat) : Int)) (fun k => ?_) (ih (i + 1) (by omega))
      simp only [path_named.l0]
      rw [if_pos (by omega), if_pos (by omega), if_pos (by omega), rdOf_nat l i hlt, dir_name, w_id (by omega) (by omega)]
      simp only [nameI, h0, if_true, Option.bind_some]
      rfl
    · refine Ev.step (f := fun _ => some 106) (fun k => ?_) ?_
      · simp only [path_named.l0]
        rw [if_pos (by omega), if_pos (by omega), if_pos (by omega), rdOf_nat l i hlt, dir_name]
        simp [nameI, h0]
      · simp only [h0, Bool.false_and, Bool.false_eq_true, if_false]; exact Ev.now _
theorem path_named_is (l : List ByteArray) (hl : l.length ≤ 4611686018427387904) : Ev (fun k => path_named.f k l) (namedI l) := by
  have := named_loop l hl l.length 0 (by omega)
  rw [List.drop_zero] at this
  exact this
theorem pieces_len (l : List UInt8) : (pieces l).length ≤ l.length + 1 := by
  induction l with
  | nil => simp [pieces]
  | cons c r ih =>
    unfold pieces
    split
    · simp; omega
    · split
      · next h => rw [h] at ih; simp at ih ⊢; omega
      · simp
/-- The names between slashes. -/
def NM (b : List UInt8) : List ByteArray := ((pieces b).filter fun p => !p.isEmpty).map fun p => ⟨p.toArray⟩
theorem NM_len (b : List UInt8) : (NM b).length ≤ b.length + 1 := by
  have := pieces_len b
  have h2 := List.length_filter_le (fun p : List UInt8 => !p.isEmpty) (pieces b)
  simp [NM]; omega
theorem NM_slash (r : List UInt8) : NM (47 :: r) = NM r := by
  have : pieces (47 :: r) = [] :: pieces r := by
    conv => lhs; unfold pieces
    rw [if_pos rfl]
  simp [NM, this]
theorem NM_nil : NM [] = [] := by simp [NM, pieces]
theorem noslash {x : ByteArray} (h : ∀ c ∈ x.data.toList, c ≠ 47) : ∀ k : Nat, x.data.toList[k]? ≠ some 47 := fun k e => h _ (List.mem_of_getElem? e) rfl
theorem ba_toArray (x : ByteArray) : (⟨x.data.toList.toArray⟩ : ByteArray) = x := by
  apply data_bext; simp
theorem NM_one {x : ByteArray} (h : ∀ c ∈ x.data.toList, c ≠ 47) (h0 : x.data.toList ≠ []) : NM x.data.toList = [x] := by
  unfold NM
  have hb : (!x.data.toList.isEmpty) = true := by
    cases e : x.data.toList with
    | nil => exact absurd e h0
    | cons _ _ => rfl
  rw [pieces_none (noslash h), List.filter_cons, if_pos hb, List.filter_nil, List.map_cons, List.map_nil, ba_toArray]
theorem NM_cons {x : ByteArray} (r : List UInt8) (h : ∀ c ∈ x.data.toList, c ≠ 47) (h0 : x.data.toList ≠ []) : NM (x.data.toList ++ 47 :: r) = x :: NM r := by
  unfold NM
  have hk := noslash h
  rw [pieces_at (l := x.data.toList ++ 47 :: r) (i := x.data.toList.length) (by simp) (fun k hk' => by rw [List.getElem?_append_left hk']; exact hk k)]
  have e1 : (x.data.toList ++ 47 :: r).take x.data.toList.length = x.data.toList := by simp
  have e2 : (x.data.toList ++ 47 :: r).drop (x.data.toList.length + 1) = r := by
    rw [List.drop_append]; simp
  have hb : (!x.data.toList.isEmpty) = true := by
    cases e : x.data.toList with
    | nil => exact absurd e h0
    | cons _ _ => rfl
  rw [e1, e2, List.filter_cons, if_pos hb, List.map_cons, ba_toArray]
/-- What a split of a path answers, from its names. -/
def resS (l : List ByteArray) : List ByteArray × Int := (if namedI l = 0 then l else [], namedI l)
def splitS (s : ByteArray) : List ByteArray × Int := if s.size ≤ 128 then (if Lib.hasPrefix s.data.toList [47] = true then resS (splitI s) else ([], 106)) else ([], 5)
theorem splitI_len (s : ByteArray) : (splitI s).length ≤ s.size := by
  by_cases h : s.size = 0
  · have e : s.data.toList = [] := List.eq_nil_of_length_eq_zero ((data_length s).trans h)
    simp [splitI, e, pieces]
  have := NM_len (s.data.toList.drop 1)
  rw [List.length_drop, data_length] at this
  have e : splitI s = NM (s.data.toList.drop 1) := rfl
  rw [e]; omega
theorem path_split (s : ByteArray) : Ev (fun k => path_Split.f k s) (splitS s) := by
  unfold path_Split.f splitS
  by_cases h : s.size ≤ 128
  · simp only [if_pos h]
    by_cases hp : Lib.hasPrefix s.data.toList [47] = true
    · simp only [if_pos hp]
      exact Ev.bind (f := fun k e => some (if e = 0 then splitI s else [], e)) (path_named_is _ (by have := splitI_len s; omega)) (Ev.now _)
    · simp only [if_neg hp]; exact Ev.now _
  · simp only [if_neg h]; exact Ev.now _
theorem resS_bad {l : List ByteArray} (h : l.all nameOk = false) : resS l = ([], 106) := by
  simp [resS, namedI, h]
theorem nameOk_size {x : ByteArray} (h : nameOk x = true) : 1 ≤ x.size ∧ x.size ≤ 16 := by
  simp only [nameOk, Bool.and_eq_true, decide_eq_true_eq] at h
  exact ⟨h.1.1.1.1.1, h.1.1.1.1.2⟩
theorem nameOk_slash {x : ByteArray} (h : nameOk x = true) : ∀ c ∈ x.data.toList, c ≠ 47 := by
  simp only [nameOk, Bool.and_eq_true, Bool.not_eq_true'] at h
  have h1 := h.1.2
  rw [Lib.toList_data] at h1
  intro c hc e
  subst e
  have h2 : x.data.toList.contains 47 = true := List.elem_eq_true_of_mem hc
  rw [h2] at h1
  cases h1
theorem nameOk_ne {x : ByteArray} (h : nameOk x = true) : x.data.toList ≠ [] := by
  intro e
  have := data_length x
  rw [e] at this
  have := (nameOk_size h).1
  simp at *
  omega
set_option maxHeartbeats 1000000 in
theorem refsplit_loop (s : ByteArray) (h128 : s.size ≤ 128) : ∀ (d i : Nat), i + d = s.size + 1 → ∀ (x4 : List ByteArray) (x5 : ByteArray), x4.all nameOk = true → (∀ c ∈ x5.data.toList, c ≠ 47) → x5.size ≤ i → x4.length ≤ i →
    Ev (fun k => undercroftref09_Split.l0 k s x4 x5 (i : Int)) (resS (x4 ++ if d = 0 then [] else NM (x5.data.toList ++ s.data.toList.drop i))) := by
  intro d
  induction d with
  | zero =>
    intro i hi x4 x5 h4 h5 hz hl
    rw [if_pos rfl, List.append_nil]
    by_cases h8 : 8 < x4.length
    · refine Ev.step (f := fun _ => some ([], 5)) (fun k => ?_) ?_
      · simp only [undercroftref09_Split.l0]
        rw [if_neg (by omega), if_pos (by omega)]
      · have : resS x4 = ([], 5) := by simp [resS, namedI, h4, h8]
        rw [this]; exact Ev.now _
    · refine Ev.step (f := fun _ => some (x4, 0)) (fun k => ?_) ?_
      · simp only [undercroftref09_Split.l0]
        rw [if_neg (by omega), if_neg (by omega)]
      · have : resS x4 = (x4, 0) := by simp [resS, namedI, h4, h8]
        rw [this]; exact Ev.now _
  | succ d ih =>
    intro i hi x4 x5 h4 h5 hz hl
    rw [if_neg (by omega)]
    have cut : ∀ (r : List UInt8), (x5.data.toList = [] → NM (x5.data.toList ++ s.data.toList.drop i) = NM r) → (x5.data.toList ≠ [] → NM (x5.data.toList ++ s.data.toList.drop i) = x5 :: NM r) → (d = 0 → NM r = []) → (d ≠ 0 → r = s.data.toList.drop (i + 1)) →
        Ev (fun k => undercroftref09_Split.j1 k s x4 x5 (i : Int) false) (resS (x4 ++ NM (x5.data.toList ++ s.data.toList.drop i))) := by
      intro r hn1 hn2 hd hd'
      have hr : NM r = if d = 0 then [] else NM (([] : List UInt8) ++ s.data.toList.drop (i + 1)) := by
        by_cases e : d = 0
        · rw [if_pos e, hd e]
        · rw [if_neg e, hd' e, List.nil_append]
      by_cases h0 : x5.data.toList = []
      · rw [hn1 h0, hr]
        refine Ev.step (f := fun k => undercroftref09_Split.l0 k s x4 ⟨#[]⟩ ((i + 1 : Nat) : Int)) (fun k => ?_) (ih (i + 1) (by omega) x4 ⟨#[]⟩ h4 (by simp) (Nat.zero_le _) (by omega))
        simp only [undercroftref09_Split.j1]
        rw [if_neg (by decide), Lib.toList_data, if_pos h0, w_id (by omega) (by omega)]
        rfl
      · rw [hn2 h0]
        by_cases hk : nameOk x5 = true
        · have hsz : x5.size ≤ 16 := (nameOk_size hk).2
          have := ih (i + 1) (by omega) (x4 ++ [x5]) ⟨#[]⟩ (by simp only [List.all_append, h4, Bool.true_and, List.all_cons, List.all_nil, hk]) (by simp) (Nat.zero_le _) (by simp; omega)
          rw [show x4 ++ x5 :: NM r = (x4 ++ [x5]) ++ NM r by simp, hr]
          refine Ev.step (f := fun k => (undercroftref08_Name.f k x5).bind fun t => if t = 0 then (if x4.length < 8796093022208 then undercroftref09_Split.l0 k s (x4 ++ [x5]) ⟨#[]⟩ (wrap64 ((i : Int) + 1)) else none) else some ([], 106)) (fun k => ?_) ?_
          · simp only [undercroftref09_Split.j1]
            rw [if_neg (by decide), Lib.toList_data, if_neg h0]
          · refine Ev.bind (f := fun k t => if t = 0 then (if x4.length < 8796093022208 then undercroftref09_Split.l0 k s (x4 ++ [x5]) ⟨#[]⟩ (wrap64 ((i : Int) + 1)) else none) else some ([], 106)) (ref_name x5) ?_
            have hI : nameI x5 = 0 := by simp [nameI, hk]
            have hL : x4.length < 8796093022208 := by omega
            simp only [hI, if_true, if_pos hL, w_id (x := (i : Int) + 1) (by omega) (by omega)]
            exact this
        · have hb : (x4 ++ x5 :: NM r).all nameOk = false := by
            simp only [List.all_append, List.all_cons, hk, Bool.false_and, Bool.and_false]
          rw [resS_bad hb]
          refine Ev.step (f := fun k => (undercroftref08_Name.f k x5).bind fun t => if t = 0 then (if x4.length < 8796093022208 then undercroftref09_Split.l0 k s (x4 ++ [x5]) ⟨#[]⟩ (wrap64 ((i : Int) + 1)) else none) else some ([], 106)) (fun k => ?_) ?_
          · simp only [undercroftref09_Split.j1]
            rw [if_neg (by decide), Lib.toList_data, if_neg h0]
          · refine Ev.bind (f := fun k t => if t = 0 then (if x4.length < 8796093022208 then undercroftref09_Split.l0 k s (x4 ++ [x5]) ⟨#[]⟩ (wrap64 ((i : Int) + 1)) else none) else some ([], 106)) (ref_name x5) ?_
            have hI : nameI x5 = 106 := by simp [nameI, hk]
            simp only [hI, if_neg (show ¬ (106 : Int) = 0 by decide)]
            exact Ev.now _
    by_cases hlast : i = s.size
    · have hdr : s.data.toList.drop i = [] := List.drop_eq_nil_of_le (by rw [data_length]; omega)
      have hd0 : d = 0 := by omega
      refine Ev.step (f := fun k => undercroftref09_Split.j1 k s x4 x5 (i : Int) false) (fun k => ?_) (cut [] ?_ ?_ (fun _ => NM_nil) (fun h => absurd hd0 h))
      · simp only [undercroftref09_Split.l0]
        rw [if_pos (by omega), if_neg (by omega)]
      · intro e; rw [hdr, e, List.append_nil]
      · intro e; rw [hdr, List.append_nil, NM_one h5 e, NM_nil]
    · have hlt : i < s.data.toList.length := by rw [data_length]; omega
      have hdr := List.drop_eq_getElem_cons hlt
      have hb := bt_toList s i (by omega)
      simp only [Lib.toList_data] at hb
      generalize hx : s.data.toList[i] = x at *
      by_cases h47 : x = 47
      · subst h47
        refine Ev.step (f := fun k => undercroftref09_Split.j1 k s x4 x5 (i : Int) false) (fun k => ?_) (cut (s.data.toList.drop (i + 1)) ?_ ?_ (fun e => by rw [List.drop_eq_nil_of_le (by rw [data_length]; omega)]; exact NM_nil) (fun _ => rfl))
        · simp only [undercroftref09_Split.l0]
          rw [if_pos (by omega), if_pos (by omega), if_pos (by omega), hb]
          rfl
        · intro e; rw [hdr, e, List.nil_append, NM_slash]
        · intro e; rw [hdr, NM_cons _ h5 e]
      · have hne : ((bt s (i : Int)) != 47) = true := by
          rw [hb, bne_iff_ne]
          intro e; exact h47 (UInt8.toNat_inj.1 (by have : x.toNat = 47 := by omega
                                                    exact this))
        have hext : (s.extract i (i + 1)).data.toList = [x] := by
          rw [Lib.extract_data, hdr, show i + 1 - i = 1 by omega]
          rfl
        have hesz : (s.extract i (i + 1)).size = 1 := by
          rw [← data_length, hext]; rfl
        have hdne : d ≠ 0 := by omega
        have := ih (i + 1) (by omega) x4 (x5 ++ s.extract i (i + 1)) h4 (by
          intro c hc
          rw [ByteArray.data_append, Array.toList_append, hext] at hc
          rcases List.mem_append.1 hc with h | h
          · exact h5 c h
          · simp at h; rw [h]; exact h47) (by rw [ByteArray.size_append, hesz]; omega) (by omega)
        rw [if_neg hdne, ByteArray.data_append, Array.toList_append, hext, List.append_assoc, List.singleton_append, ← hdr] at this
        refine Ev.step (f := fun k => undercroftref09_Split.j1 k s x4 x5 (i : Int) true) (fun k => ?_) (Ev.step (fun k => ?_) this)
        · simp only [undercroftref09_Split.l0]
          rw [if_pos (by omega), if_pos (by omega), if_pos (by omega), hne]
        · simp only [undercroftref09_Split.j1]
          have e1 : ((i : Int)).toNat = i := by omega
          have e2 : ((i : Int) + 1).toNat = i + 1 := by omega
          rw [if_pos trivial, w_id (x := (i : Int) + 1) (by omega) (by omega), if_pos (by omega), if_pos (by omega), if_pos (by omega), e1, e2, if_pos (by rw [hesz]; omega)]
          rfl

theorem ref_split (s : ByteArray) : Ev (fun k => undercroftref09_Split.f k s) (splitS s) := by
  unfold undercroftref09_Split.f splitS
  by_cases h : s.size ≤ 128
  · simp only [if_pos h, if_neg (show ¬ (s.size : Int) > 128 by omega)]
    by_cases h0 : s.size = 0
    · have e : s.data.toList = [] := List.eq_nil_of_length_eq_zero ((data_length s).trans h0)
      simp only [if_pos (show (s.size : Int) = 0 by omega), e]
      exact Ev.now _
    · have hlt : 0 < s.data.toList.length := by rw [data_length]; omega
      have hb := bt_toList s 0 (by omega)
      simp only [Lib.toList_data] at hb
      have hcons : s.data.toList = s.data.toList[0] :: s.data.toList.drop 1 := by
        have := List.drop_eq_getElem_cons hlt
        rwa [List.drop_zero] at this
      simp only [if_neg (show ¬ (s.size : Int) = 0 by omega), if_pos (show (0 : Int) < s.size by omega)]
      have hb' : bt s 0 = ((s.data.toList[0]).toNat : Int) := hb
      by_cases h47 : s.data.toList[0] = 47
      · have hp : Lib.hasPrefix s.data.toList [47] = true := by rw [hcons, h47]; simp [Lib.hasPrefix]
        have hbt : bt s 0 = 47 := by rw [hb', h47]; rfl
        simp only [if_pos hp, if_pos hbt]
        have := refsplit_loop s h s.size 1 (by omega) [] ⟨#[]⟩ rfl (by simp) (Nat.zero_le _) (by simp)
        rw [if_neg h0, List.nil_append] at this
        exact this
      · have hp : ¬ Lib.hasPrefix s.data.toList [47] = true := by
          rw [hcons]
          simp only [Lib.hasPrefix, List.isPrefixOf]
          simp
          exact fun e => h47 e.symm
        have hbt : ¬ bt s 0 = 47 := by
          rw [hb']
          intro e; exact h47 (UInt8.toNat_inj.1 (by have : (s.data.toList[0]).toNat = 47 := by omega
                                                    exact this))
        simp only [if_neg hp, if_neg hbt]
        exact Ev.now _
  · simp only [if_neg h, if_pos (show (s.size : Int) > 128 by omega)]
    exact Ev.now _
/-- The names with a slash ahead of each. -/
def slashed (l : List ByteArray) : List UInt8 := (l.map fun x => 47 :: x.data.toList).flatten
def joinR (l : List ByteArray) : ByteArray := if l = [] then ⟨#[47]⟩ else ⟨(slashed l).toArray⟩
def joinS (l : List ByteArray) : ByteArray × Int := if namedI l = 0 then (if 128 < (joinR l).size then (⟨#[]⟩, 5) else (joinR l, 0)) else (⟨#[]⟩, namedI l)
theorem slashed_cons (x : ByteArray) (l : List ByteArray) : slashed (x :: l) = 47 :: (x.data.toList ++ slashed l) := by simp [slashed]
theorem slashed_app (a b : List ByteArray) : slashed (a ++ b) = slashed a ++ slashed b := by simp [slashed]
theorem slashed_len {l : List ByteArray} (h : l.all nameOk = true) : (slashed l).length ≤ 17 * l.length := by
  induction l with
  | nil => simp [slashed]
  | cons x r ih =>
    simp only [List.all_cons, Bool.and_eq_true] at h
    have := ih h.2
    have h2 := (nameOk_size h.1).2
    rw [slashed_cons]
    simp only [List.length_cons, List.length_append, data_length]
    omega
theorem join_slashed (x : ByteArray) (r : List ByteArray) : (47 : UInt8) :: Lib.join ((x :: r).map (·.data.toList)) [47] = slashed (x :: r) := by
  rw [List.map_cons, Lib.join_cons, slashed_cons]
  congr 2
  simp only [Lib.joinTail, slashed, List.map_map]
  rfl
theorem join_whole (l : List ByteArray) : (⟨#[47]⟩ : ByteArray) ++ joinI l ⟨#[47]⟩ = joinR l := by
  apply data_bext
  rw [ByteArray.data_append, Array.toList_append]
  cases l with
  | nil => simp [joinR, joinI, Lib.join_nil]
  | cons x r =>
    have := join_slashed x r
    simp only [joinR, joinI]
    rw [if_neg (by simp)]
    simpa using this
theorem joinR_size {l : List ByteArray} (h : namedI l = 0) : (joinR l).size ≤ 137 := by
  obtain ⟨h1, h2⟩ := named_ok h
  have := slashed_len h1
  unfold joinR
  split
  · decide
  · rw [← data_length]; simp; omega
theorem path_join (l : List ByteArray) (hl : l.length ≤ 4611686018427387904) : Ev (fun k => path_Join.f k l) (joinS l) := by
  unfold path_Join.f joinS
  refine Ev.bind (f := fun k t107 => (if t107 = 0 then ((strings_Join.f l (⟨#[47]⟩ : ByteArray)).bind fun t108 => (if 1 + t108.size ≤ 9223372036854775807 then (if (((⟨#[47]⟩ : ByteArray) ++ t108).size : Int) > 128 then (some ((⟨#[]⟩ : ByteArray), 5)) else (some ((⟨#[47]⟩ : ByteArray) ++ t108, 0))) else (none))) else (some ((⟨#[]⟩ : ByteArray), t107)))) (path_named_is l hl) ?_
  by_cases h : namedI l = 0
  · have h8 := (named_ok h).2
    have hz := joinR_size h
    have hw := join_whole l
    have hs : 1 + (joinI l ⟨#[47]⟩).size = (joinR l).size := by
      rw [← hw, ByteArray.size_append]; rfl
    have hj : strings_Join.f l ⟨#[47]⟩ = some (joinI l ⟨#[47]⟩) := by
      unfold strings_Join.f
      rw [if_pos ⟨by omega, by omega⟩]
    simp only [if_pos h, hj, Option.bind_some, hw, if_pos (show 1 + (joinI l ⟨#[47]⟩).size ≤ 9223372036854775807 by omega)]
    by_cases hbig : 128 < (joinR l).size
    · simp only [if_pos hbig, if_pos (show ((joinR l).size : Int) > 128 by omega)]; exact Ev.now _
    · simp only [if_neg hbig, if_neg (show ¬ ((joinR l).size : Int) > 128 by omega)]; exact Ev.now _
  · simp only [if_neg h]; exact Ev.now _
theorem refjoin_build (l : List ByteArray) (hn : namedI l = 0) : ∀ (d i : Nat), i + d = l.length → Ev (fun k => undercroftref09_Join.l1 k l ⟨(slashed (l.take i)).toArray⟩ (i : Int)) (if 128 < (joinR l).size then (⟨#[]⟩, 5) else (joinR l, 0)) := by
  obtain ⟨hok, h8⟩ := named_ok hn
  intro d
  induction d with
  | zero =>
    intro i hi
    have e : l.take i = l := List.take_of_length_le (by omega)
    rw [e]
    by_cases h0 : l = []
    · subst h0
      refine Ev.step (f := fun _ => some (⟨#[47]⟩, 0)) (fun k => ?_) (Ev.now _)
      simp only [undercroftref09_Join.l1]
      rw [if_neg (by simp), if_pos (by rw [Lib.toList_data]; rfl), if_neg (by decide)]
    · have hR : joinR l = ⟨(slashed l).toArray⟩ := by unfold joinR; rw [if_neg h0]
      have hne : ¬ (⟨(slashed l).toArray⟩ : ByteArray).toList = ([] : List UInt8) := by
        rw [Lib.toList_data]
        cases l with
        | nil => exact absurd rfl h0
        | cons x r => simp [slashed_cons]
      rw [← hR] at hne ⊢
      by_cases hbig : 128 < (joinR l).size
      · rw [if_pos hbig]
        refine Ev.step (f := fun _ => some (⟨#[]⟩, 5)) (fun k => ?_) (Ev.now _)
        simp only [undercroftref09_Join.l1]
        rw [if_neg (by omega), if_neg hne, if_pos (by omega)]
      · rw [if_neg hbig]
        refine Ev.step (f := fun _ => some (joinR l, 0)) (fun k => ?_) (Ev.now _)
        simp only [undercroftref09_Join.l1]
        rw [if_neg (by omega), if_neg hne, if_neg (by omega)]
  | succ d ih =>
    intro i hi
    have hlt : i < l.length := by omega
    have htk : l.take (i + 1) = l.take i ++ [l[i]] := by rw [List.take_add_one, List.getElem?_eq_getElem hlt]; rfl
    have hall : (l.take i).all nameOk = true := by
      rw [List.all_eq_true] at hok ⊢
      exact fun x hx => hok x (List.mem_of_mem_take hx)
    have hsz := slashed_len hall
    rw [List.length_take] at hsz
    have hx : nameOk l[i] = true := (List.all_eq_true.1 hok) _ (List.getElem_mem hlt)
    have hxs := (nameOk_size hx).2
    have hS : (⟨(slashed (l.take i)).toArray⟩ : ByteArray).size = (slashed (l.take i)).length := by rw [← data_length]
    have h47 : (⟨#[47]⟩ : ByteArray).size = 1 := rfl
    have hcat : ((⟨(slashed (l.take i)).toArray⟩ : ByteArray) ++ (⟨#[47]⟩ : ByteArray)) ++ l[i] = ⟨(slashed (l.take (i + 1))).toArray⟩ := by
      apply data_bext
      rw [htk, slashed_app]
      simp [ByteArray.data_append, slashed]
    refine Ev.step (f := fun k => undercroftref09_Join.l1 k l ⟨(slashed (l.take (i + 1))).toArray⟩ ((i + 1 : Nat) : Int)) (fun k => ?_) (ih (i + 1) (by omega))
    simp only [undercroftref09_Join.l1]
    rw [if_pos (by omega), if_pos (by rw [hS]; omega), if_pos (by omega), rdOf_nat l i hlt, if_pos (by rw [ByteArray.size_append, hS, h47]; omega), hcat, w_id (by omega) (by omega)]
    rfl
theorem refjoin_names (l : List ByteArray) (hl : l.length ≤ 4611686018427387904) : ∀ (d i : Nat), i + d = l.length → (l.take i).all nameOk = true → Ev (fun k => undercroftref09_Join.l0 k l (i : Int)) (joinS l) := by
  intro d
  induction d with
  | zero =>
    intro i hi hok
    rw [List.take_of_length_le (by omega)] at hok
    by_cases h8 : 8 < l.length
    · have hn : namedI l = 5 := by unfold namedI; rw [if_pos hok, if_pos h8]
      have hj : joinS l = (⟨#[]⟩, 5) := by unfold joinS; rw [hn, if_neg (by decide)]
      rw [hj]
      refine Ev.step (f := fun _ => some (⟨#[]⟩, 5)) (fun k => ?_) (Ev.now _)
      simp only [undercroftref09_Join.l0]
      rw [if_neg (by omega), if_pos (by omega)]
    · have hn : namedI l = 0 := named_of hok (by omega)
      have hj : joinS l = if 128 < (joinR l).size then (⟨#[]⟩, 5) else (joinR l, 0) := by unfold joinS; rw [if_pos hn]
      rw [hj]
      have := refjoin_build l hn l.length 0 (by omega)
      refine Ev.step (f := fun k => undercroftref09_Join.l1 k l ⟨#[]⟩ 0) (fun k => ?_) this
      simp only [undercroftref09_Join.l0]
      rw [if_neg (by omega), if_neg (by omega)]
  | succ d ih =>
    intro i hi hok
    have hlt : i < l.length := by omega
    have htk : l.take (i + 1) = l.take i ++ [l[i]] := by rw [List.take_add_one, List.getElem?_eq_getElem hlt]; rfl
    by_cases hk : nameOk l[i] = true
    · have := ih (i + 1) (by omega) (by rw [htk]; simp only [List.all_append, hok, Bool.true_and, List.all_cons, List.all_nil, hk])
      refine Ev.step (f := fun k => (undercroftref08_Name.f k l[i]).bind fun t178 => (if t178 = 0 then (undercroftref09_Join.l0 k l (((i + 1 : Nat) : Int))) else (some ((⟨#[]⟩ : ByteArray), 106)))) (fun k => ?_) ?_
      · simp only [undercroftref09_Join.l0]
        rw [if_pos (by omega), if_pos (by omega), rdOf_nat l i hlt, w_id (by omega) (by omega)]
        rfl
      · refine Ev.bind (f := fun k t178 => (if t178 = 0 then (undercroftref09_Join.l0 k l (((i + 1 : Nat) : Int))) else (some ((⟨#[]⟩ : ByteArray), 106)))) (ref_name l[i]) ?_
        have hI : nameI l[i] = 0 := by simp [nameI, hk]
        simp only [hI, if_true]
        exact this
    · have hn : namedI l = 106 := by
        have : ¬ l.all nameOk = true := fun h => hk ((List.all_eq_true.1 h) _ (List.getElem_mem hlt))
        unfold namedI; rw [if_neg this]
      have hj : joinS l = (⟨#[]⟩, 106) := by unfold joinS; rw [hn, if_neg (by decide)]
      rw [hj]
      refine Ev.step (f := fun k => (undercroftref08_Name.f k l[i]).bind fun t178 => (if t178 = 0 then (undercroftref09_Join.l0 k l (wrap64 ((i : Int) + 1))) else (some ((⟨#[]⟩ : ByteArray), 106)))) (fun k => ?_) ?_
      · simp only [undercroftref09_Join.l0]
        rw [if_pos (by omega), if_pos (by omega), rdOf_nat l i hlt]
      · refine Ev.bind (f := fun k t178 => (if t178 = 0 then (undercroftref09_Join.l0 k l (wrap64 ((i : Int) + 1))) else (some ((⟨#[]⟩ : ByteArray), 106)))) (ref_name l[i]) ?_
        have hI : nameI l[i] = 106 := by simp [nameI, hk]
        simp only [hI, if_neg (show ¬ (106 : Int) = 0 by decide)]
        exact Ev.now _
theorem ref_join (l : List ByteArray) (hl : l.length ≤ 4611686018427387904) : Ev (fun k => undercroftref09_Join.f k l) (joinS l) :=
  refjoin_names l hl l.length 0 (by omega) (by simp)
theorem same_loop (l m : List ByteArray) (he : l.length = m.length) (hl : l.length ≤ 4611686018427387904) : ∀ (d i : Nat), i + d = l.length → Ev (fun k => undercroftplain_SameStrings.l0 k l m (i : Int)) (decide (l.drop i = m.drop i)) := by
  intro d
  induction d with
  | zero =>
    intro i hi
    rw [List.drop_eq_nil_of_le (by omega), List.drop_eq_nil_of_le (by omega)]
    refine Ev.step (f := fun _ => some true) (fun k => ?_) (Ev.now _)
    simp only [undercroftplain_SameStrings.l0]
    rw [if_neg (by omega)]
  | succ d ih =>
    intro i hi
    have h1 : i < l.length := by omega
    have h2 : i < m.length := by omega
    rw [List.drop_eq_getElem_cons h1, List.drop_eq_getElem_cons h2]
    by_cases e : l[i] = m[i]
    · refine Ev.step (f := fun k => undercroftplain_SameStrings.l0 k l m ((i + 1 : Nat) : Int)) (fun k => ?_) ?_
      · simp only [undercroftplain_SameStrings.l0]
        rw [if_pos (by omega), if_pos (by omega), if_pos (by omega), rdOf_nat l i h1, rdOf_nat m i h2, if_pos (by rw [e]), w_id (by omega) (by omega)]
        rfl
      · have := ih (i + 1) (by omega)
        have h2 : decide (l[i] :: l.drop (i + 1) = m[i] :: m.drop (i + 1)) = decide (l.drop (i + 1) = m.drop (i + 1)) := by rw [e]; simp only [List.cons.injEq, true_and]
        rw [h2]; exact this
    · refine Ev.step (f := fun _ => some false) (fun k => ?_) ?_
      · simp only [undercroftplain_SameStrings.l0]
        rw [if_pos (by omega), if_pos (by omega), if_pos (by omega), rdOf_nat l i h1, rdOf_nat m i h2, if_neg (fun h => e (bext h))]
      · have h2 : decide (l[i] :: l.drop (i + 1) = m[i] :: m.drop (i + 1)) = false := by simp only [List.cons.injEq, e, false_and, decide_false]
        rw [h2]; exact Ev.now _
theorem same_is (l m : List ByteArray) (hl : l.length ≤ 4611686018427387904) : Ev (fun k => undercroftplain_SameStrings.f k l m) (decide (l = m)) := by
  unfold undercroftplain_SameStrings.f
  by_cases he : l.length = m.length
  · simp only [if_pos (show (l.length : Int) = m.length by omega)]
    have := same_loop l m he hl l.length 0 (by omega)
    rw [List.drop_zero, List.drop_zero] at this
    exact this
  · have : l ≠ m := fun e => he (by rw [e])
    simp only [if_neg (show ¬ (l.length : Int) = m.length by omega), decide_eq_false this]
    exact Ev.now _

def parentS (s : ByteArray) : ByteArray × ByteArray × Int :=
  if (splitS s).2 = 0 then (if ((splitS s).1.length : Int) = 0 then (⟨#[]⟩, ⟨#[]⟩, 108) else ((joinS ((splitS s).1.take (wrap64 (((splitS s).1.length : Int) - 1)).toNat)).1, rdOf ByteArray.empty (splitS s).1 (wrap64 (((splitS s).1.length : Int) - 1)), 0)) else (⟨#[]⟩, ⟨#[]⟩, (splitS s).2)
theorem splitS_ok {s : ByteArray} (h : (splitS s).2 = 0) : s.size ≤ 128 ∧ Lib.hasPrefix s.data.toList [47] = true ∧ (splitS s).1 = splitI s ∧ namedI (splitI s) = 0 := by
  unfold splitS at h ⊢
  by_cases h1 : s.size ≤ 128
  · simp only [if_pos h1] at h ⊢
    by_cases h2 : Lib.hasPrefix s.data.toList [47] = true
    · simp only [if_pos h2, resS] at h ⊢
      exact ⟨h1, h2, by rw [if_pos h], h⟩
    · rw [if_neg h2] at h; cases h
  · rw [if_neg h1] at h; cases h
theorem splitS_bad {s : ByteArray} (h : (splitS s).2 ≠ 0) : (splitS s).1 = [] := by
  unfold splitS at h ⊢
  by_cases h1 : s.size ≤ 128
  · simp only [if_pos h1] at h ⊢
    by_cases h2 : Lib.hasPrefix s.data.toList [47] = true
    · simp only [if_pos h2, resS] at h ⊢
      rw [if_neg h]
    · rw [if_neg h2]
  · rw [if_neg h1]
theorem splitS_len (s : ByteArray) : (splitS s).1.length ≤ 8 := by
  by_cases h : (splitS s).2 = 0
  · obtain ⟨_, _, e, hn⟩ := splitS_ok h
    rw [e]; exact (named_ok hn).2
  · rw [splitS_bad h]; simp
theorem path_parent (s : ByteArray) : Ev (fun k => path_Parent.f k s) (parentS s) := by
  unfold path_Parent.f parentS
  have hl := splitS_len s
  have hs := path_split s
  generalize splitS s = X at *
  refine Ev.bind (f := fun k bt109 => (if bt109.2 = 0 then (if (bt109.1.length : Int) = 0 then (some ((⟨#[]⟩ : ByteArray), (⟨#[]⟩ : ByteArray), 108)) else (if 0 ≤ (wrap64 ((bt109.1.length : Int) - 1)) then (if (wrap64 ((bt109.1.length : Int) - 1)) ≤ (bt109.1.length : Int) then ((path_Join.f k (bt109.1.take ((wrap64 ((bt109.1.length : Int) - 1)) : Int).toNat)).bind fun bt117 => (if (wrap64 ((bt109.1.length : Int) - 1)) < (bt109.1.length : Int) then (some (bt117.1, rdOf ByteArray.empty bt109.1 (wrap64 ((bt109.1.length : Int) - 1)), 0)) else (none))) else (none)) else (none))) else (some ((⟨#[]⟩ : ByteArray), (⟨#[]⟩ : ByteArray), bt109.2)))) hs ?_
  by_cases h : X.2 = 0
  · simp only [if_pos h]
    by_cases h0 : (X.1.length : Int) = 0
    · simp only [if_pos h0]; exact Ev.now _
    · have hw : wrap64 ((X.1.length : Int) - 1) = (X.1.length : Int) - 1 := w_id (by omega) (by omega)
      simp only [if_neg h0, hw, if_pos (show 0 ≤ (X.1.length : Int) - 1 by omega), if_pos (show (X.1.length : Int) - 1 ≤ (X.1.length : Int) by omega), if_pos (show (X.1.length : Int) - 1 < (X.1.length : Int) by omega)]
      refine Ev.bind (f := fun k bt117 => some (bt117.1, rdOf ByteArray.empty X.1 ((X.1.length : Int) - 1), (0 : Int))) (path_join _ ?_) (Ev.now _)
      rw [List.length_take]; omega
  · simp only [if_neg h]; exact Ev.now _
theorem ref_parent (s : ByteArray) : Ev (fun k => undercroftref09_Parent.f k s) (parentS s) := by
  unfold undercroftref09_Parent.f parentS
  have hl := splitS_len s
  have hs := ref_split s
  generalize splitS s = X at *
  refine Ev.bind (f := fun k bt109 => (if bt109.2 = 0 then (if (bt109.1.length : Int) = 0 then (some ((⟨#[]⟩ : ByteArray), (⟨#[]⟩ : ByteArray), 108)) else (if 0 ≤ (wrap64 ((bt109.1.length : Int) - 1)) then (if (wrap64 ((bt109.1.length : Int) - 1)) ≤ (bt109.1.length : Int) then ((undercroftref09_Join.f k (bt109.1.take ((wrap64 ((bt109.1.length : Int) - 1)) : Int).toNat)).bind fun bt117 => (if (wrap64 ((bt109.1.length : Int) - 1)) < (bt109.1.length : Int) then (some (bt117.1, rdOf ByteArray.empty bt109.1 (wrap64 ((bt109.1.length : Int) - 1)), 0)) else (none))) else (none)) else (none))) else (some ((⟨#[]⟩ : ByteArray), (⟨#[]⟩ : ByteArray), bt109.2)))) hs ?_
  by_cases h : X.2 = 0
  · simp only [if_pos h]
    by_cases h0 : (X.1.length : Int) = 0
    · simp only [if_pos h0]; exact Ev.now _
    · have hw : wrap64 ((X.1.length : Int) - 1) = (X.1.length : Int) - 1 := w_id (by omega) (by omega)
      simp only [if_neg h0, hw, if_pos (show 0 ≤ (X.1.length : Int) - 1 by omega), if_pos (show (X.1.length : Int) - 1 ≤ (X.1.length : Int) by omega), if_pos (show (X.1.length : Int) - 1 < (X.1.length : Int) by omega)]
      refine Ev.bind (f := fun k bt117 => some (bt117.1, rdOf ByteArray.empty X.1 ((X.1.length : Int) - 1), (0 : Int))) (ref_join _ ?_) (Ev.now _)
      rw [List.length_take]; omega
  · simp only [if_neg h]; exact Ev.now _
/-- Is the first row the head of the second? -/
def headOf (x y : List ByteArray) : Bool := decide (x.length ≤ y.length ∧ x = y.take x.length)
def withinS (a b : ByteArray) : Bool × Int := if (splitS a).2 = 0 then (if (splitS b).2 = 0 then (headOf (splitS a).1 (splitS b).1, 0) else (false, (splitS b).2)) else (false, (splitS a).2)
theorem num_is (x : Int) : undercroftlaw09_num.f x = some x := rfl
theorem path_a : splitS ⟨#[47, 97, 47, 47, 98, 47]⟩ = ([⟨#[97]⟩, ⟨#[98]⟩], 0) := by
  have hs : splitI ⟨#[47, 97, 47, 47, 98, 47]⟩ = [⟨#[97]⟩, ⟨#[98]⟩] := by simp [splitI, pieces]
  have hn : namedI [⟨#[97]⟩, ⟨#[98]⟩] = 0 := by simp [namedI, nameOk, Lib.toList_data, ByteArray.size]
  unfold splitS
  rw [if_pos (by decide), if_pos (by decide), hs, resS, if_pos hn, hn]
theorem path_b : parentS ⟨#[47, 97, 47, 98]⟩ = (⟨#[47, 97]⟩, ⟨#[98]⟩, 0) := by
  have hs : splitI ⟨#[47, 97, 47, 98]⟩ = [⟨#[97]⟩, ⟨#[98]⟩] := by simp [splitI, pieces]
  have hn : namedI [⟨#[97]⟩, ⟨#[98]⟩] = 0 := by simp [namedI, nameOk, Lib.toList_data, ByteArray.size]
  have hn1 : namedI [⟨#[97]⟩] = 0 := by simp [namedI, nameOk, Lib.toList_data, ByteArray.size]
  have hS : splitS ⟨#[47, 97, 47, 98]⟩ = ([⟨#[97]⟩, ⟨#[98]⟩], 0) := by
    unfold splitS
    rw [if_pos (by decide), if_pos (by decide), hs, resS, if_pos hn, hn]
  have hj : joinS [⟨#[97]⟩] = (⟨#[47, 97]⟩, 0) := by
    unfold joinS
    rw [if_pos hn1]
    have : joinR [⟨#[97]⟩] = ⟨#[47, 97]⟩ := by simp [joinR, slashed]
    rw [this, if_neg (by decide)]
  unfold parentS
  rw [hS]
  have e1 : (wrap64 ((([⟨#[97]⟩, ⟨#[98]⟩] : List ByteArray).length : Int) - 1)) = 1 := by simp [wrap64]
  simp only [if_true, e1]
  rw [if_neg (by simp)]
  show ((joinS [⟨#[97]⟩]).1, _, _) = _
  rw [hj]
  rfl
theorem alive_true : Ev (fun k => undercroftlaw09_alive.f k) true := by
  unfold undercroftlaw09_alive.f
  refine Ev.bind (f := fun k bt120 => ((path_Parent.f k (⟨#[47, 97, 47, 98]⟩ : ByteArray)).bind fun bt124 => ((undercroftlaw09_num.f bt120.2).bind fun t127 => ((undercroftlaw09_num.f bt124.2.2).bind fun t128 => (if (wrap64 (t127 + t128)) = 0 then ((undercroftplain_SameStrings.f k bt120.1 (([(⟨#[97]⟩ : ByteArray), (⟨#[98]⟩ : ByteArray)] : List ByteArray))).bind fun t132 => (if t132 = true then (if bt124.1.toList = ([47, 97] : List UInt8) then (some (bt124.2.1.toList == ([98] : List UInt8))) else (some false)) else (some false))) else (some false)))))) (path_split _) ?_
  rw [path_a]
  refine Ev.bind (f := fun k bt124 => ((undercroftlaw09_num.f (([⟨#[97]⟩, ⟨#[98]⟩], 0) : List ByteArray × Int).2).bind fun t127 => ((undercroftlaw09_num.f bt124.2.2).bind fun t128 => (if (wrap64 (t127 + t128)) = 0 then ((undercroftplain_SameStrings.f k (([⟨#[97]⟩, ⟨#[98]⟩], 0) : List ByteArray × Int).1 (([(⟨#[97]⟩ : ByteArray), (⟨#[98]⟩ : ByteArray)] : List ByteArray))).bind fun t132 => (if t132 = true then (if bt124.1.toList = ([47, 97] : List UInt8) then (some (bt124.2.1.toList == ([98] : List UInt8))) else (some false)) else (some false))) else (some false))))) (path_parent _) ?_
  rw [path_b]
  simp only [num_is, Option.bind_some]
  have hw : wrap64 ((0 : Int) + 0) = 0 := by simp [wrap64]
  simp only [hw, if_true]
  refine Ev.bind (f := fun k t132 => (if t132 = true then (if (⟨#[47, 97]⟩ : ByteArray).toList = ([47, 97] : List UInt8) then (some ((⟨#[98]⟩ : ByteArray).toList == ([98] : List UInt8))) else (some false)) else (some false))) (same_is _ _ (by simp)) ?_
  simp only [decide_true, if_true, Lib.toList_data]
  exact Ev.now _
theorem headOf_trans {x y z : List ByteArray} (h1 : headOf x y = true) (h2 : headOf y z = true) : headOf x z = true := by
  unfold headOf at *
  rw [decide_eq_true_eq] at *
  obtain ⟨a1, a2⟩ := h1
  obtain ⟨b1, b2⟩ := h2
  refine ⟨by omega, ?_⟩
  have : y.take x.length = (z.take y.length).take x.length := congrArg (List.take x.length) b2
  rw [List.take_take, Nat.min_eq_left a1] at this
  rw [← this]; exact a2
theorem headOf_both {x y : List ByteArray} (h1 : headOf x y = true) (h2 : headOf y x = true) : x = y := by
  unfold headOf at *
  rw [decide_eq_true_eq] at *
  have : x.length = y.length := by omega
  have h := h1.2
  rwa [this, List.take_length] at h
/-- What a row of good names weighs. -/
theorem NM_weight : ∀ (n : Nat) (b : List UInt8), b.length ≤ n → (slashed (NM b)).length ≤ b.length + 1 := by
  intro n
  induction n with
  | zero =>
    intro b hb
    have : b = [] := List.eq_nil_of_length_eq_zero (by omega)
    subst this
    rw [NM_nil]; simp [slashed]
  | succ n ih =>
    intro b hb
    by_cases h47 : ∃ i : Nat, b[i]? = some 47
    · obtain ⟨i, hi, hlt⟩ : ∃ i : Nat, b[i]? = some 47 ∧ ∀ k : Nat, k < i → b[k]? ≠ some 47 := by
        obtain ⟨i, hi⟩ := h47
        induction i using Nat.strongRecOn with
        | ind i ihs =>
          by_cases h : ∃ k, k < i ∧ b[k]? = some 47
          · obtain ⟨k, hk, e⟩ := h; exact ihs k hk e
          · exact ⟨i, hi, fun k hk e => h ⟨k, hk, e⟩⟩
      have hp := pieces_at hi hlt
      have hil : i < b.length := (List.getElem?_eq_some_iff.1 hi).1
      have hr := ih (b.drop (i + 1)) (by rw [List.length_drop]; omega)
      rw [List.length_drop] at hr
      unfold NM at hr ⊢
      rw [hp, List.filter_cons]
      split
      · rw [List.map_cons, slashed_cons]
        simp only [List.length_cons, List.length_append, List.toList_toArray, List.length_take]
        omega
      · omega
    · have hp := pieces_none (l := b) (fun k e => h47 ⟨k, e⟩)
      unfold NM
      rw [hp, List.filter_cons]
      split
      · simp [slashed]
      · simp [slashed]

theorem pieces_app : ∀ (p q : List UInt8), pieces (p ++ 47 :: q) = pieces p ++ pieces q := by
  intro p
  induction p with
  | nil =>
    intro q
    show pieces (47 :: q) = pieces [] ++ pieces q
    conv => lhs; unfold pieces
    rw [if_pos rfl]; rfl
  | cons c r ih =>
    intro q
    have hq : ∀ t : List UInt8, pieces (c :: t) = if c = 47 then [] :: pieces t else match pieces t with | p :: ps => (c :: p) :: ps | [] => [[c]] := fun t => by
      conv => lhs; unfold pieces
      cases pieces t <;> rfl
    rw [List.cons_append, hq, hq, ih]
    by_cases h : c = 47
    · rw [if_pos h, if_pos h, List.cons_append]
    · rw [if_neg h, if_neg h]
      cases hp : pieces r with
      | nil => exact absurd hp (pieces_ne r)
      | cons a t => rfl
theorem NM_app (p q : List UInt8) : NM (p ++ 47 :: q) = NM p ++ NM q := by
  unfold NM
  rw [pieces_app, List.filter_append, List.map_append]
theorem NM_slashed : ∀ (l : List ByteArray) (x : ByteArray), nameOk x = true → l.all nameOk = true → NM (x.data.toList ++ slashed l) = x :: l := by
  intro l
  induction l with
  | nil =>
    intro x hx _
    rw [show slashed [] = [] by rfl, List.append_nil]
    exact NM_one (nameOk_slash hx) (nameOk_ne hx)
  | cons y r ih =>
    intro x hx hl
    simp only [List.all_cons, Bool.and_eq_true] at hl
    rw [slashed_cons, NM_cons _ (nameOk_slash hx) (nameOk_ne hx), ih y hl.1 hl.2]
theorem joinR_split {l : List ByteArray} (h : l.all nameOk = true) : splitI (joinR l) = l := by
  have e : splitI (joinR l) = NM ((joinR l).data.toList.drop 1) := rfl
  rw [e]
  cases l with
  | nil => exact NM_nil
  | cons x r =>
    simp only [List.all_cons, Bool.and_eq_true] at h
    have : (joinR (x :: r)).data.toList = 47 :: (x.data.toList ++ slashed r) := by
      unfold joinR
      rw [if_neg (by simp), slashed_cons]
    rw [this, List.drop_one, List.tail_cons, NM_slashed r x h.1 h.2]
theorem joinR_head (l : List ByteArray) : Lib.hasPrefix (joinR l).data.toList [47] = true := by
  cases l with
  | nil => rfl
  | cons x r =>
    have : (joinR (x :: r)).data.toList = 47 :: (x.data.toList ++ slashed r) := by
      unfold joinR
      rw [if_neg (by simp), slashed_cons]
    rw [this]
    simp [Lib.hasPrefix]
theorem joinS_ok {l : List ByteArray} (h : (joinS l).2 = 0) : namedI l = 0 ∧ (joinR l).size ≤ 128 ∧ (joinS l).1 = joinR l := by
  unfold joinS at h ⊢
  by_cases h1 : namedI l = 0
  · simp only [if_pos h1] at h ⊢
    by_cases h2 : 128 < (joinR l).size
    · rw [if_pos h2] at h; cases h
    · rw [if_neg h2]; exact ⟨h1, by omega, rfl⟩
  · rw [if_neg h1] at h; exact absurd h h1
theorem joinS_of {l : List ByteArray} (h : namedI l = 0) (h2 : (joinR l).size ≤ 128) : joinS l = (joinR l, 0) := by
  unfold joinS
  rw [if_pos h, if_neg (by omega)]
theorem joinS_bad {l : List ByteArray} (h : (joinS l).2 ≠ 0) : (joinS l).1 = ⟨#[]⟩ := by
  unfold joinS at h ⊢
  by_cases h1 : namedI l = 0
  · simp only [if_pos h1] at h ⊢
    by_cases h2 : 128 < (joinR l).size
    · rw [if_pos h2]
    · rw [if_neg h2] at h; exact absurd rfl h
  · rw [if_neg h1]
theorem split_join {l : List ByteArray} (h : namedI l = 0) (h2 : (joinR l).size ≤ 128) : splitS (joinR l) = (l, 0) := by
  have hi := joinR_split (named_ok h).1
  unfold splitS
  rw [if_pos h2, if_pos (joinR_head l), hi, resS, if_pos h, h]
theorem prefix_one {s : ByteArray} (h : Lib.hasPrefix s.data.toList [47] = true) : 1 ≤ s.size := by
  rw [← data_length]
  cases e : s.data.toList with
  | nil => rw [e] at h; cases h
  | cons _ _ => simp
theorem joinR_weight {s : ByteArray} (h : Lib.hasPrefix s.data.toList [47] = true) (n : Nat) : (joinR ((splitI s).take n)).size ≤ s.size := by
  have h1 := prefix_one h
  have hw : (slashed (splitI s)).length ≤ (s.data.toList.drop 1).length + 1 := NM_weight _ (s.data.toList.drop 1) (Nat.le_refl _)
  rw [List.length_drop, data_length] at hw
  have ht : (slashed ((splitI s).take n)).length ≤ (slashed (splitI s)).length := by
    conv => rhs; rw [← List.take_append_drop n (splitI s), slashed_app]
    rw [List.length_append]; omega
  unfold joinR
  split
  · have : (⟨#[47]⟩ : ByteArray).size = 1 := rfl
    omega
  · rw [← data_length]
    simp only [List.toList_toArray]
    omega
theorem ev_out {g : Nat → Option Bool} (h : Ev g true) : ∃ k, g k = some true := by
  obtain ⟨K, hK⟩ := h
  exact ⟨K, hK K (Nat.le_refl _)⟩

theorem equal_loop (l m : List ByteArray) (he : l.length = m.length) (hl : l.length ≤ 4611686018427387904) : ∀ (d i : Nat), i + d = l.length → Ev (fun k => slices_Equal_string_string.l0 k l m (l.length : Int) (i : Int)) (decide (l.drop i = m.drop i)) := by
  intro d
  induction d with
  | zero =>
    intro i hi
    rw [List.drop_eq_nil_of_le (by omega), List.drop_eq_nil_of_le (by omega)]
    refine Ev.step (f := fun _ => some true) (fun k => ?_) (Ev.now _)
    simp only [slices_Equal_string_string.l0]
    rw [if_neg (by omega)]
  | succ d ih =>
    intro i hi
    have h1 : i < l.length := by omega
    have h2 : i < m.length := by omega
    rw [List.drop_eq_getElem_cons h1, List.drop_eq_getElem_cons h2]
    by_cases e : l[i] = m[i]
    · refine Ev.step (f := fun k => slices_Equal_string_string.l0 k l m (l.length : Int) ((i + 1 : Nat) : Int)) (fun k => ?_) ?_
      · simp only [slices_Equal_string_string.l0]
        rw [if_pos (by omega), if_pos (by omega), if_pos (by omega), if_pos (by omega), rdOf_nat l i h1, rdOf_nat m i h2, if_pos (by rw [e]), w_id (by omega) (by omega)]
        rfl
      · have := ih (i + 1) (by omega)
        have h2 : decide (l[i] :: l.drop (i + 1) = m[i] :: m.drop (i + 1)) = decide (l.drop (i + 1) = m.drop (i + 1)) := by rw [e]; simp only [List.cons.injEq, true_and]
        rw [h2]; exact this
    · refine Ev.step (f := fun _ => some false) (fun k => ?_) ?_
      · simp only [slices_Equal_string_string.l0]
        rw [if_pos (by omega), if_pos (by omega), if_pos (by omega), if_pos (by omega), rdOf_nat l i h1, rdOf_nat m i h2, if_neg (fun h => e (bext h))]
      · have h2 : decide (l[i] :: l.drop (i + 1) = m[i] :: m.drop (i + 1)) = false := by simp only [List.cons.injEq, e, false_and, decide_false]
        rw [h2]; exact Ev.now _
theorem equal_is (l m : List ByteArray) (hl : l.length ≤ 4611686018427387904) : Ev (fun k => slices_Equal_string_string.f k l m) (decide (l = m)) := by
  unfold slices_Equal_string_string.f
  by_cases he : l.length = m.length
  · simp only [if_pos (show (l.length : Int) = m.length by omega)]
    have := equal_loop l m he hl l.length 0 (by omega)
    rw [List.drop_zero, List.drop_zero] at this
    exact this
  · have : l ≠ m := fun e => he (by rw [e])
    simp only [if_neg (show ¬ (l.length : Int) = m.length by omega), decide_eq_false this]
    exact Ev.now _
theorem path_within (a b : ByteArray) : Ev (fun k => path_Within.f k a b) (withinS a b) := by
  unfold path_Within.f withinS
  have hla := splitS_len a
  have hlb := splitS_len b
  have ha := path_split a
  have hb := path_split b
  generalize splitS a = X at *
  generalize splitS b = Y at *
  refine Ev.bind (f := fun k bt193 => (if bt193.2 = 0 then ((path_Split.f k b).bind fun bt197 => (if bt197.2 = 0 then (if (bt193.1.length : Int) ≤ (bt197.1.length : Int) then (if 0 ≤ (mn (bt193.1.length : Int) (bt197.1.length : Int)) then (if (mn (bt193.1.length : Int) (bt197.1.length : Int)) ≤ (bt197.1.length : Int) then ((slices_Equal_string_string.f k bt193.1 (bt197.1.take ((mn (bt193.1.length : Int) (bt197.1.length : Int)) : Int).toNat)).bind fun t205 => (some (t205, 0))) else (none)) else (none)) else (some (false, 0))) else (some (false, bt197.2)))) else (some (false, bt193.2)))) ha ?_
  by_cases h : X.2 = 0
  · simp only [if_pos h]
    refine Ev.bind (f := fun k bt197 => (if bt197.2 = 0 then (if (X.1.length : Int) ≤ (bt197.1.length : Int) then (if 0 ≤ (mn (X.1.length : Int) (bt197.1.length : Int)) then (if (mn (X.1.length : Int) (bt197.1.length : Int)) ≤ (bt197.1.length : Int) then ((slices_Equal_string_string.f k X.1 (bt197.1.take ((mn (X.1.length : Int) (bt197.1.length : Int)) : Int).toNat)).bind fun t205 => (some (t205, 0))) else (none)) else (none)) else (some (false, 0))) else (some (false, bt197.2)))) hb ?_
    by_cases h2 : Y.2 = 0
    · simp only [if_pos h2]
      by_cases hle : X.1.length ≤ Y.1.length
      · have hm : mn (X.1.length : Int) (Y.1.length : Int) = (X.1.length : Int) := by unfold mn; split <;> omega
        have ht : ((X.1.length : Int)).toNat = X.1.length := by omega
        simp only [if_pos (show (X.1.length : Int) ≤ (Y.1.length : Int) by omega), hm, if_pos (show (0 : Int) ≤ (X.1.length : Int) by omega), ht]
        have hH : headOf X.1 Y.1 = decide (X.1 = Y.1.take X.1.length) := by
          unfold headOf
          congr 1
          exact propext ⟨fun x => x.2, fun x => ⟨hle, x⟩⟩
        rw [hH]
        exact Ev.bind (f := fun k t205 => some (t205, (0 : Int))) (equal_is _ _ (by omega)) (Ev.now _)
      · have hH : headOf X.1 Y.1 = false := by
          unfold headOf
          exact decide_eq_false (fun x => hle x.1)
        simp only [if_neg (show ¬ (X.1.length : Int) ≤ (Y.1.length : Int) by omega), hH]
        exact Ev.now _
    · simp only [if_neg h2]; exact Ev.now _
  · simp only [if_neg h]; exact Ev.now _
theorem refwithin_loop (l m : List ByteArray) (he : l.length ≤ m.length) (hl : l.length ≤ 4611686018427387904) : ∀ (d i : Nat), i + d = l.length → Ev (fun k => undercroftref09_Within.l0 k l m (i : Int)) (decide (l.drop i = (m.take l.length).drop i), 0) := by
  intro d
  have hml : (m.take l.length).length = l.length := by rw [List.length_take]; omega
  induction d with
  | zero =>
    intro i hi
    rw [List.drop_eq_nil_of_le (by omega), List.drop_eq_nil_of_le (by omega)]
    refine Ev.step (f := fun _ => some (true, 0)) (fun k => ?_) (Ev.now _)
    simp only [undercroftref09_Within.l0]
    rw [if_neg (by omega)]
  | succ d ih =>
    intro i hi
    have h1 : i < l.length := by omega
    have h2 : i < (m.take l.length).length := by omega
    have h3 : i < m.length := by omega
    have hg : (m.take l.length)[i] = m[i] := List.getElem_take
    rw [List.drop_eq_getElem_cons h1, List.drop_eq_getElem_cons h2, hg]
    by_cases e : l[i] = m[i]
    · refine Ev.step (f := fun k => undercroftref09_Within.l0 k l m ((i + 1 : Nat) : Int)) (fun k => ?_) ?_
      · simp only [undercroftref09_Within.l0]
        rw [if_pos (by omega), if_pos (by omega), if_pos (by omega), rdOf_nat l i h1, rdOf_nat m i h3, if_pos (by rw [e]), w_id (by omega) (by omega)]
        rfl
      · have := ih (i + 1) (by omega)
        have h2 : decide (l[i] :: l.drop (i + 1) = m[i] :: (m.take l.length).drop (i + 1)) = decide (l.drop (i + 1) = (m.take l.length).drop (i + 1)) := by rw [e]; simp only [List.cons.injEq, true_and]
        rw [h2]; exact this
    · refine Ev.step (f := fun _ => some (false, 0)) (fun k => ?_) ?_
      · simp only [undercroftref09_Within.l0]
        rw [if_pos (by omega), if_pos (by omega), if_pos (by omega), rdOf_nat l i h1, rdOf_nat m i h3, if_neg (fun h => e (bext h))]
      · have h2 : decide (l[i] :: l.drop (i + 1) = m[i] :: (m.take l.length).drop (i + 1)) = false := by simp only [List.cons.injEq, e, false_and, decide_false]
        rw [h2]; exact Ev.now _
theorem ref_within (a b : ByteArray) : Ev (fun k => undercroftref09_Within.f k a b) (withinS a b) := by
  unfold undercroftref09_Within.f withinS
  have hla := splitS_len a
  have hlb := splitS_len b
  have ha := ref_split a
  have hb := ref_split b
  generalize splitS a = X at *
  generalize splitS b = Y at *
  refine Ev.bind (f := fun k bt206 => (if bt206.2 = 0 then ((undercroftref09_Split.f k b).bind fun bt210 => (if bt210.2 = 0 then (if (bt206.1.length : Int) > (bt210.1.length : Int) then (some (false, 0)) else (undercroftref09_Within.l0 k bt206.1 bt210.1 0)) else (some (false, bt210.2)))) else (some (false, bt206.2)))) ha ?_
  by_cases h : X.2 = 0
  · simp only [if_pos h]
    refine Ev.bind (f := fun k bt210 => (if bt210.2 = 0 then (if (X.1.length : Int) > (bt210.1.length : Int) then (some (false, 0)) else (undercroftref09_Within.l0 k X.1 bt210.1 0)) else (some (false, bt210.2)))) hb ?_
    by_cases h2 : Y.2 = 0
    · simp only [if_pos h2]
      by_cases hle : X.1.length ≤ Y.1.length
      · simp only [if_neg (show ¬ (X.1.length : Int) > (Y.1.length : Int) by omega)]
        have hH : headOf X.1 Y.1 = decide (X.1 = Y.1.take X.1.length) := by
          unfold headOf
          congr 1
          exact propext ⟨fun x => x.2, fun x => ⟨hle, x⟩⟩
        rw [hH]
        have := refwithin_loop X.1 Y.1 hle (by omega) X.1.length 0 (by omega)
        rw [List.drop_zero, List.drop_zero] at this
        exact this
      · have hH : headOf X.1 Y.1 = false := by
          unfold headOf
          exact decide_eq_false (fun x => hle x.1)
        simp only [if_pos (show (X.1.length : Int) > (Y.1.length : Int) by omega), hH]
        exact Ev.now _
    · simp only [if_neg h2]; exact Ev.now _
  · simp only [if_neg h]; exact Ev.now _

theorem PathWithin (l0 : ByteArray) (l1 : ByteArray) (l2 : ByteArray) (h0 : l0.size ≤ 140737488351232) (h1 : l1.size ≤ 140737488351232) (h2 : l2.size ≤ 140737488351232) : ∃ k, undercroftlaw09_PathWithin.f k l0 l1 l2 = some true := by
  refine ev_out (g := fun k => undercroftlaw09_PathWithin.f k l0 l1 l2) ?_
  unfold undercroftlaw09_PathWithin.f
  simp only [num_is, Option.bind_some]
  refine Ev.bind alive_true ?_
  simp only [if_true]
  refine Ev.bind (path_within l0 l1) ?_
  refine Ev.bind (path_within l1 l2) ?_
  refine Ev.bind (path_within l0 l2) ?_
  refine Ev.bind (path_within l1 l0) ?_
  have h8 := splitS_len l0
  have hs0 := path_split l0
  have hs1 := path_split l1
  unfold withinS
  generalize splitS l0 = X at *
  generalize splitS l1 = Y at *
  generalize splitS l2 = Z at *
  by_cases hx : X.2 = 0
  · by_cases hy : Y.2 = 0
    · by_cases hz : Z.2 = 0
      · simp only [hx, hy, hz, if_true]
        have hb : ((0 : Int) != 0) = false := rfl
        rw [hb]
        refine Ev.step (fun k => by simp only [undercroftlaw09_PathWithin.j0, num_is, Option.bind_some]; rfl) ?_
        simp only [Bool.false_eq_true, if_false]
        refine Ev.bind hs0 ?_
        refine Ev.bind hs1 ?_
        have hz : wrap64 (wrap64 (wrap64 ((0 : Int) + 0) + 0) + 0) = 0 := by simp [wrap64]
        simp only [hx, hy, hz, if_true]
        cases e1 : headOf X.1 Y.1
        · simp only [Bool.false_eq_true, if_false]; exact Ev.now _
        · simp only [if_true]
          have both : Ev (fun k => (undercroftplain_SameStrings.f k X.1 Y.1).bind fun t => some t) true ∨ headOf Y.1 X.1 = false := by
            cases e2 : headOf Y.1 X.1
            · exact .inr rfl
            · left
              have := headOf_both e1 e2
              refine Ev.bind (same_is X.1 Y.1 (by omega)) ?_
              rw [decide_eq_true this]; exact Ev.now _
          cases e3 : headOf Y.1 Z.1
          · simp only [Bool.false_eq_true, if_false]
            cases e2 : headOf Y.1 X.1
            · simp only [Bool.false_eq_true, if_false]; exact Ev.now _
            · simp only [if_true]
              rcases both with h | h
              · exact h
              · rw [e2] at h; cases h
          · simp only [headOf_trans e1 e3, if_true]
            cases e2 : headOf Y.1 X.1
            · simp only [Bool.false_eq_true, if_false]; exact Ev.now _
            · simp only [if_true]
              rcases both with h | h
              · exact h
              · rw [e2] at h; cases h
      · simp only [hx, hy, if_true, if_neg hz]
        have hb : (Z.2 != 0) = true := bne_iff_ne.2 hz
        rw [hb]
        refine Ev.step (fun k => by simp only [undercroftlaw09_PathWithin.j0, if_true]; rfl) ?_
        cases headOf X.1 Y.1 <;> exact Ev.now _
    · simp only [hx, if_true, if_neg hy]
      refine Ev.step (f := fun _ => some true) (fun k => ?_) (Ev.now _)
      simp [undercroftlaw09_PathWithin.j0]
  · simp only [if_neg hx]
    refine Ev.step (f := fun _ => some true) (fun k => ?_) (Ev.now _)
    simp [undercroftlaw09_PathWithin.j0]

end Go.Proofs.YtpmojgifbbdncaaDoor.Pure
