-- Written by a program of this session (gen.py).
import Derived.Test.YtiglgckhikipeaaDoorPDocx0
import Derived.Test.YtiglgckhikipeaaDoorPDocx3
import Derived.Test.YtiglgckhikipeaaDoorPDocx4
import Derived.Test.YtiglgckhikipeaaDoorPDocx9
namespace Go.Proofs.YtiglgckhikipeaaDoor.PDoc
open Go.RowKit Go.Proofs.YtiglgckhikipeaaDoorW.PrintWords Go.Proofs.YtiglgckhikipeaaDoorW.PrintLast Go.Proofs.YtiglgckhikipeaaDoorW.PrintMore
open Go.Proofs.YtiglgckhikipeaaDoor.Own
attribute [local go_sem high] unary_not_u32 unary_not_u64 unary_not_u8 string_leq_ string_gtr_
attribute [local go_sem] max2_int min2_int max_two min_two max_three min_three max_four min_four   -- for this text's walks alone
set_option linter.unusedVariables false
set_option linter.unusedSimpArgs false

/-! ### dir_search: function 29 -/
/-- How two names stand. -/
def cmpB (a b : ByteArray) : Int := if Op.bytesLess a.toList b.toList = true then -1 else if (a.toList == b.toList) = true then 0 else 1
set_option maxHeartbeats 4000000 in
set_option maxRecDepth 100000 in
theorem cmpS (a b : ByteArray) (w : World) : Calls Tryd.prog 41 #[.string a, .string b] w fun e w' => e = .returned (.int .i64 (cmpB a b)) ∧ Below w.heap.size w w' := by
  cases hl : Op.bytesLess a.toList b.toList with
  | true =>
    go_enter Tryd.func41, Tryd.ntmps41
    go_wp2
    go_ret
    exact ⟨by simp [cmpB, hl], Below.refl _ _⟩
  | false =>
    cases he : (a.toList == b.toList) with
    | true =>
      have hl2 : Op.bytesLess b.toList a.toList = false := by have h := bytesLess_total a.toList b.toList; rw [hl, he] at h; simpa using h
      go_enter Tryd.func41, Tryd.ntmps41
      go_wp2
      go_ret
      exact ⟨by rw [cmpB, if_neg (by rw [hl]; decide), if_pos he]; rfl, Below.refl _ _⟩
    | false =>
      have hl2 : Op.bytesLess b.toList a.toList = true := by have h := bytesLess_total a.toList b.toList; rw [hl, he] at h; simpa using h
      go_enter Tryd.func41, Tryd.ntmps41
      go_wp2
      go_ret
      exact ⟨by rw [cmpB, if_neg (by rw [hl]; decide), if_neg (by rw [he]; decide)]; rfl, Below.refl _ _⟩
set_option maxHeartbeats 4000000 in
set_option maxRecDepth 100000 in
theorem search1 (a b : ByteArray) (i : Int) (w : World) : Calls Tryd.prog 40 #[.agg #[.string a, .int .i64 i], .string b] w fun e w' => e = .returned (.int .i64 (cmpB a b)) ∧ Below w.heap.size w w' := by
  go_enter Tryd.func40, Tryd.ntmps40
  go_wp2_with (go_at_call 41; refine (cmpS a b _).mono ?_; rintro e w' ⟨rfl, hb⟩)
  go_ret
  exact ⟨rfl, below_step ((Below.refl _ _).alloc (Nat.le_refl _) _) hb⟩
/-- Where a search by halves ends. -/
def bsI (p : Nat → Bool) : Nat → Nat → Nat → Nat
  | 0, i, _ => i
  | f + 1, i, j => if i < j then (if p ((i + j) / 2) then bsI p f ((i + j) / 2 + 1) j else bsI p f i ((i + j) / 2)) else i
def lessAt (l : List S42) (name : ByteArray) (h : Nat) : Bool := decide (cmpB (rd_T42 l (h : Int)).f0 name < 0)
def foundAt (l : List S42) (name : ByteArray) (i : Nat) : Bool := if i < l.length then cmpB (rd_T42 l (i : Int)).f0 name == 0 else false
def dir_search.f (l0 : List S42) (a1 : ByteArray) : Option (Int × Bool) := if l0.length ≤ 70368744177664 then some (((bsI (lessAt l0 a1) (l0.length + 1) 0 l0.length : Nat) : Int), foundAt l0 a1 (bsI (lessAt l0 a1) (l0.length + 1) 0 l0.length)) else none
set_option maxHeartbeats 8000000 in
set_option maxRecDepth 100000 in
theorem bsf (A0 : Option Addr) (c0 : Nat) (l0 : List S42) (a1 : ByteArray) (w : World) (hr0 : Kd.C k42 w A0 l0.length l0) (hsz : l0.length ≤ 70368744177664) :
    Calls Tryd.prog 39 #[.slice A0 l0.length c0, .string a1, .func (.func 40) #[] #[]] w fun e w' => e = .returned (.tuple #[.int .i64 ((bsI (lessAt l0 a1) (l0.length + 1) 0 l0.length : Nat) : Int), .bool (foundAt l0 a1 (bsI (lessAt l0 a1) (l0.length + 1) 0 l0.length))]) ∧ Below w.heap.size w w' := by
  have HR0 := Aside0.mk hr0
  clear hr0
  obtain ⟨R, hR⟩ : ∃ R, R = bsI (lessAt l0 a1) (l0.length + 1) 0 l0.length := ⟨_, rfl⟩
  rw [← hR]
  have HRR := Aside0.mk hR.symm
  clear hR
  generalize hN : l0.length = N at *
  have HN := Aside0.mk hN
  clear hN
  go_enter Tryd.func39, Tryd.ntmps39
  go_wp2
  go_loopw [9, 10] (fun i j W => ∃ a b f : Nat, a ≤ b ∧ b ≤ N ∧ i = .int .i64 (a : Int) ∧ j = .int .i64 (b : Int) ∧ Aside0 (bsI (lessAt l0 a1) f a b = R) ∧ b - a < f ∧ Aside0 (Below w.heap.size w W)) (fun i j _ => (intOf j).toNat - (intOf i).toNat)
  case atStart => exact ⟨0, N, N + 1, Nat.zero_le _, Nat.le_refl _, rfl, rfl, HRR, by omega, ⟨Below.refl _ _⟩⟩
  case round =>
    obtain ⟨a, b, f, hab, hbN, rfl, rfl, HF, hf, HB⟩ := hrel
    by_cases hlt : a < b
    · obtain ⟨f, rfl⟩ : ∃ m, f = m + 1 := ⟨f - 1, by omega⟩
      have hF2 := HF.out
      simp only [bsI] at hF2
      rw [if_pos hlt] at hF2
      obtain ⟨h, hh⟩ : ∃ h, h = (a + b) / 2 := ⟨_, rfl⟩
      rw [← hh] at hF2
      obtain ⟨ad, rfl, hc1, hc2⟩ := at_T42 (Kd.C_below HR0.out HB.out) (h : Int) (by omega) (by omega)
      simp only [Int.toNat_natCast] at hc1 hc2
      have hw1 : wrap64 ((a : Int) + (b : Int)) = (a : Int) + (b : Int) := by unfold wrap64; omega
      have hd : decide ((a : Int) < (b : Int)) = true := by simp; omega
      have hdiv : ((a : Int) + (b : Int)) / 2 = (h : Int) := by omega
      have HH := Aside0.mk hh
      clear hh
      by_cases hc : cmpB (rd_T42 l0 (h : Int)).f0 a1 < 0
      · have hdc : decide (cmpB (rd_T42 l0 (h : Int)).f0 a1 < 0) = true := by simpa using hc
        have HL := Aside0.mk (show lessAt l0 a1 h = true from hdc)
        rw [if_pos HL.out] at hF2
        have HF2 := Aside0.mk hF2
        clear hF2 hc
        go_wp2_with (go_at_call 40; refine (search1 _ _ _ _).mono ?_; rintro e w' ⟨rfl, hb⟩)
        refine ⟨⟨h + 1, b, f, by have := HH.out; omega, hbN, by simp, rfl, HF2, by have := HH.out; omega, ⟨below_step HB.out hb⟩⟩, ?_⟩
        have := HH.out
        simp [intOf]; omega
      · have hdc : decide (cmpB (rd_T42 l0 (h : Int)).f0 a1 < 0) = false := by simpa using hc
        have HL := Aside0.mk (show ¬ lessAt l0 a1 h = true by unfold lessAt; rw [hdc]; decide)
        rw [if_neg HL.out] at hF2
        have HF2 := Aside0.mk hF2
        clear hF2 hc
        go_wp2_with (go_at_call 40; refine (search1 _ _ _ _).mono ?_; rintro e w' ⟨rfl, hb⟩)
        refine ⟨⟨a, h, f, by have := HH.out; omega, by have := HH.out; omega, rfl, by simp, HF2, by have := HH.out; omega, ⟨below_step HB.out hb⟩⟩, ?_⟩
        have := HH.out
        simp [intOf]; omega
    · obtain rfl : a = b := by omega
      have ha : a = R := by
        rw [← HF.out]
        obtain ⟨f, rfl⟩ : ∃ m, f = m + 1 := ⟨f - 1, by omega⟩
        simp [bsI]
      subst ha
      have hd : decide ((a : Int) < (a : Int)) = false := by simp
      by_cases hN2 : a < N
      · obtain ⟨ad, rfl, hc1, hc2⟩ := at_T42 (Kd.C_below HR0.out HB.out) (a : Int) (by omega) (by omega)
        simp only [Int.toNat_natCast] at hc1 hc2
        have hdn : decide ((a : Int) < (N : Int)) = true := by simp; omega
        have HFO := Aside0.mk (show foundAt l0 a1 a = (cmpB (rd_T42 l0 (a : Int)).f0 a1 == 0) by unfold foundAt; rw [if_pos (by rw [HN.out]; exact hN2)])
        go_wp2_with (go_at_call 40; refine (search1 _ _ _ _).mono ?_; rintro e w' ⟨rfl, hb⟩)
        go_ret2
        refine ⟨?_, below_step HB.out hb⟩
        rw [HFO.out]
        rfl
      · have hdn : decide ((a : Int) < (N : Int)) = false := by simp; omega
        have HFO := Aside0.mk (show foundAt l0 a1 a = false by unfold foundAt; rw [if_neg (by rw [HN.out]; exact hN2)])
        go_wp2
        go_ret2
        refine ⟨?_, HB.out⟩
        rw [HFO.out]
        rfl
set_option maxHeartbeats 8000000 in
set_option maxRecDepth 100000 in
theorem dir_search.calls (A0 : Option Addr) (c0 : Nat) (l0 : List S42) (a1 : ByteArray) (r1 : Int) (r2 : Bool) (w : World) (hr0 : Kd.C k42 w A0 l0.length l0) (hc0 : l0.length ≤ c0) (h : dir_search.f l0 a1 = some (r1, r2)) :
    Calls Tryd.prog 29 #[.slice A0 l0.length c0, .string a1] w fun e w' => e = .returned (.tuple #[.int .i64 r1, .bool r2]) ∧ Below w.heap.size w w' := by
  have HR0 := Aside0.mk hr0
  clear hr0
  unfold dir_search.f at h
  by_cases hsz : l0.length ≤ 70368744177664
  case neg => rw [if_neg hsz] at h; cases h
  rw [if_pos hsz] at h
  obtain ⟨rfl, rfl⟩ := Prod.mk.inj (Option.some.inj h)
  clear h
  have HB := Aside0.mk (bsf A0 c0 l0 a1 w HR0.out hsz)
  generalize bsI (lessAt l0 a1) (l0.length + 1) 0 l0.length = R at *
  generalize foundAt l0 a1 R = F at *
  go_enter Tryd.func29, Tryd.ntmps29
  go_wp2_with (go_at_call 39; refine HB.out.mono ?_; rintro e w' ⟨rfl, hb⟩)
  go_ret2
  exact ⟨rfl, hb⟩

/-! ### dir_Add: function 20 -/
section
open Go.Shelf
theorem k42_KM {w : World} {x : S42} {cs : List Value} (h : k42.K w x cs) (w' : World) (base : Nat) (ok : Nat → Prop) : k42.M w' base ok x cs := by
  obtain rfl := k42_open h
  exact k42_mkM _ _ _ _
set_option maxHeartbeats 8000000 in
set_option maxRecDepth 100000 in
theorem clone34 (A0 : Option Addr) (c0 : Nat) (l0 : List S42) (w : World) (hr0 : Kd.C k42 w A0 l0.length l0) (hlen : l0.length ≤ 1000000000000) :
    Calls Tryd.prog 31 #[.slice A0 l0.length c0] w fun e w' => ∃ v0_ : Value, e = .returned (v0_) ∧ Kd.R k42 42 w' w.heap.size (fun _ => True) v0_ l0 ∧ Below w.heap.size w w' := by
  have HR0 := Aside0.mk hr0
  clear hr0
  have HB := Aside0.mk (Below.refl w.heap.size w)
  have LM := Aside0.mk hlen
  clear hlen
  rcases A0 with _ | ad
  · have e0 : l0 = [] := by
      rcases Nat.eq_zero_or_pos l0.length with h0 | h0
      · exact List.eq_nil_of_length_eq_zero h0
      · obtain ⟨ad, h, _⟩ := HR0.out.2.2 h0
        cases h
    subst e0
    have he : ∀ W : World, (binOp .eql 24 (.slice none 0 c0) (.slice none 0 0)).run Tryd.prog W = .ok (.bool true) W := fun W => Lib.run_eql_slice_nil W 24 42 none 0 c0 0 0 Tryd.underlying24
    simp only [List.length_nil]
    go_enter Tryd.func31, Tryd.ntmps31
    go_wp2
    go_ret
    exact ⟨_, rfl, Kd.R_nil _ _ _ _ (fun _ => True), HB.out⟩
  · have he : ∀ W : World, (binOp .eql 24 (.slice (some ad) l0.length c0) (.slice none 0 0)).run Tryd.prog W = .ok (.bool false) W := fun W => Lib.run_eql_slice_nil W 24 42 (some ad) l0.length c0 0 0 Tryd.underlying24
    go_enter Tryd.func31, Tryd.ntmps31
    go_wp2_with (first
      | ((with_reducible refine gate_dst (N := 5) rfl ?_); refine Kd.R_lit k42 _ 42 ?hg (N := 5) ?hd (xs := ([] : List S42)) (inner := []) (ok := fun _ => True) (okp := fun _ => True) ?hr ?hp (fun _ hk => hk) trivial (Below.refl _ _) (Nat.le_refl _) (by simp) ?_; (case hd => rfl); (case hg => rfl); (case hr => first | (go_simp; done) | (go_simp; rfl)); (case hp => exact Reps.none _ _); intro v1 w1 ho1 hb1 hg1 hn1; have HO1 := Aside0.mk (Kd.R_lower ho1 (below_size HB.out)); have HB1 := Aside0.mk (below_step HB.out hb1); clear ho1 hb1 hg1 hn1)
      | ((with_reducible refine gate_builtin (b := .append) (xs := #[.tmp 5, .tmp 6]) rfl ?_); at_builtin; refine Kd.R_append_rows k42 (Rr := k42.K w1) (w0 := w) w.heap.size rfl (.tmp 5) (.tmp 6) 24 42 (.agg #[(.string ⟨#[]⟩), (.int .i64 0)]) 24 rfl Tryd.underlying24 info42 rfl (by decide) (by omega) v1 ([] : List S42) l0 _ _ _ (fun _ => True) (fun _ => False) rfl rfl ?aO ?aR (fun _ _ h => k42_KM h _ _ _) (fun _ h => h.elim) ?aF ?aB ?aS ?aL ?_; (case aR => exact Kd.C_below HR0.out HB1.out); (case aB => exact HB1.out); (case aF => exact (fun _ _ => trivial)); (case aO => exact HO1.out); (case aS => exact below_size HB1.out); (case aL => have := LM.out; simp only [List.length_nil]; omega); intro v2 w2 ho hb hg hat; have HO2 := Aside0.mk ho; have HB2 := Aside0.mk hb; clear ho hb hg hat))
    go_ret
    exact ⟨_, rfl, by simpa using HO2.out, HB2.out⟩
theorem run_copy_rowK {P : Program} (w : World) (dT sT ty elem : TypeId) (k g o n dLen dCap : Nat) (a : Addr) (sLen sCap : Nat) (cur : Array Value) (t : TypeId) (cs : List Value)
    (hu : P.underlying dT = some (.slice elem)) (hs : (P.info? elem).map (·.size) = some k)
    (hg : w.heap[g]? = some (.cells cur t (0, 0))) (hn : n = Nat.min sLen dLen) (hcs : cs.length = n * k)
    (hsrc : ∀ j v, cs[j]? = some v → w.cell? (a.add j) = some v) (hfit : o + cs.length ≤ cur.size) (h1 : ∀ v ∈ cs, v.oneCell' = true) :
    (Builtin.copy_ #[dT, sT] ty #[.slice (some ⟨g, o, none⟩) dLen dCap, .slice (some a) sLen sCap]).run P w =
      .ok (goInt n) (w.setRow g (cur.toList.take o ++ cs ++ cur.toList.drop (o + cs.length)).toArray) := by
  have hl := run_loadCells_list (P := P) w a cs hsrc
  have hst := run_storeCells_at P g o t cs 0 cur w hg (by simpa using hfit) h1
  cases hq : P.info? elem with
  | none => simp [hq] at hs
  | some i =>
    have hi : i.size = k := by simpa [hq] using hs
    rw [hcs] at hl
    simp [Builtin.copy_, run_underlying hu, Builtin.lenOf, Builtin.firstCells, sizeOf, typeInfo, hq, hi, ← hn, hl, hst]
theorem zeroCells_size2 (k : Nat) : (Builtin.zeroCells (Value.agg #[(Value.string ⟨#[]⟩), (Value.int .i64 0)]).cells k).size = k * 2 := by
  simp [Builtin.zeroCells, Value.cells]
set_option maxHeartbeats 8000000 in
set_option maxRecDepth 100000 in
theorem insert_grow (g vb n cap i : Nat) (cur : Array Value) (x0 : ByteArray) (x1 : Int) (w : World) (hi : i < n) (hnc : n ≤ cap) (hroom : cap < n + 1) (hbig : (n + 1) * 24 ≤ 140737488355328) (hvb : vb ≠ g)
    (hg : w.heap[g]? = some (.cells cur 42 (0, 0))) (hsz : cur.size = cap * 2) (hv : w.heap[vb]? = some (.cells #[.string x0, .int .i64 x1] 42 (0, 0))) (h1 : ∀ v ∈ cur.toList.take (n * 2), v.oneCell' = true) :
    Calls Tryd.prog 30 #[.slice (some ⟨g, 0, none⟩) n cap, .int .i64 i, .slice (some ⟨vb, 0, none⟩) 1 1] w fun e w' =>
      ∃ G, n + 1 ≤ G ∧ G ≤ 9223372036854775807 ∧ e = .returned (.slice (some ⟨w.heap.size, 0, none⟩) (n + 1) G) ∧ (∃ row : Array Value, w'.heap[w.heap.size]? = some (.cells row 42 (0, 0)) ∧ row.size = G * 2 ∧ row.toList.take ((n + 1) * 2) = cur.toList.take (i * 2) ++ [Value.string x0, Value.int .i64 x1] ++ (cur.toList.take (n * 2)).drop (i * 2)) ∧ Below w.heap.size w w' := by
  obtain ⟨i0, hi0, h0⟩ := Option.map_eq_some_iff.1 info42
  simp only [Prod.mk.injEq] at h0
  obtain ⟨hz0, hzs, hzb⟩ := h0
  have hinfo2 : (Tryd.prog.info? 42).map (·.size) = some 2 := by rw [hi0]; simp [hzs]
  have hcl : cur.toList.length = cap * 2 := by rw [Array.length_toList, hsz]
  have hgw : g < w.heap.size := (Array.getElem?_eq_some_iff.1 hg).1
  have hvw : vb < w.heap.size := (Array.getElem?_eq_some_iff.1 hv).1
  have hgd : w.drew.heap[g]? = some (.cells cur 42 (0, 0)) := hg
  have hold : (Builtin.firstCells i0.size i (.slice (some ⟨g, 0, none⟩) i cap)).run Tryd.prog w.drew = .ok (cur.toList.take (i * 2)).toArray w.drew := by
    rw [hzs]
    exact run_firstCells_some w.drew 2 i ⟨g, 0, none⟩ i cap (cur.toList.take (i * 2)) (by rw [List.length_take, hcl]; omega) (fun j v hj => by
      rw [Addr.add_lit, cell_of_row _ _ _ _ _ _ hgd, Nat.zero_add]
      rw [List.getElem?_take] at hj
      split at hj
      · rw [← Array.getElem?_toList]; exact hj
      · cases hj)
  have hkk : (n : Int) + 1 - (i : Int) = ((n + 1 - i : Nat) : Int) := by omega
  have hik : i + (n + 1 - i) = n + 1 := by omega
  have hrz : ∀ ty, (Builtin.append_ #[24, 3] ty #[.slice (some ⟨g, 0, none⟩) i cap, .int .i64 ((n : Int) + 1 - (i : Int))]).run Tryd.prog w =
      .ok (.slice (some ⟨w.heap.size, 0, none⟩) (n + 1) (grownCap w (n + 1) cap 42)) (w.drew.alloc (.cells ((cur.toList.take (i * 2)).toArray ++ Builtin.zeroCells (Value.agg #[(Value.string ⟨#[]⟩), (Value.int .i64 0)]).cells (n + 1 - i) ++ Builtin.zeroCells (Value.agg #[(Value.string ⟨#[]⟩), (Value.int .i64 0)]).cells (grownCap w (n + 1) cap 42 - (n + 1))) 42)) := fun ty => by
    have h := Lib.run_append_grow_zeros w 24 3 ty 42 i0 _ .i64 .i64 Tryd.underlying24 Tryd.underlying3 hi0 hz0 (some ⟨g, 0, none⟩) i cap (cur.toList.take (i * 2)) hold (n + 1 - i) (by omega) (by omega) (by omega) (by omega) (by rw [hzb]; omega) (by rw [hzb, hik]; exact growslice_fits hroom hbig)
    rw [hik] at h
    rw [hkk]
    exact h
  obtain ⟨G, hG⟩ : ∃ G, G = grownCap w (n + 1) cap 42 := ⟨_, rfl⟩
  obtain ⟨ROW, hROW⟩ : ∃ ROW : Array Value, ROW = (cur.toList.take (i * 2)).toArray ++ Builtin.zeroCells (Value.agg #[(Value.string ⟨#[]⟩), (Value.int .i64 0)]).cells (n + 1 - i) ++ Builtin.zeroCells (Value.agg #[(Value.string ⟨#[]⟩), (Value.int .i64 0)]).cells (G - (n + 1)) := ⟨_, rfl⟩
  rw [← hG] at hrz
  rw [← hROW] at hrz
  have hGn : n + 1 ≤ G := by rw [hG]; exact grownCap_ge w _ _ _
  have hG63 : G ≤ 9223372036854775807 := by
    have := grownCap_le_maxLen w (n + 1) cap 42 (by unfold maxLen; omega)
    rw [← hG] at this
    unfold maxLen at this
    omega
  have hRs : ROW.size = G * 2 := by
    rw [hROW, Array.size_append, Array.size_append, zeroCells_size2, zeroCells_size2, List.size_toArray, List.length_take, hcl]
    omega
  have hRt : ROW.toList.take (i * 2) = cur.toList.take (i * 2) := by
    rw [hROW, Array.toList_append, Array.toList_append, List.append_assoc, List.take_append_of_le_length (by rw [List.toList_toArray, List.length_take, hcl]; omega), List.toList_toArray, List.take_take, Nat.min_self]
  have hRl : ROW.toList.length = G * 2 := by rw [Array.length_toList, hRs]
  obtain ⟨mid, hmid⟩ : ∃ mid, mid = (cur.toList.take (n * 2)).drop (i * 2) := ⟨_, rfl⟩
  have hml : mid.length = (n - i) * 2 := by rw [hmid, List.length_drop, List.length_take, hcl]; omega
  obtain ⟨r1, hr1⟩ : ∃ r1 : Array Value, r1 = (ROW.toList.take (i * 2) ++ [Value.string x0, Value.int .i64 x1] ++ ROW.toList.drop (i * 2 + 2)).toArray := ⟨_, rfl⟩
  have hr1s : r1.size = G * 2 := by rw [hr1]; simp [hRs]; omega
  obtain ⟨r2, hr2⟩ : ∃ r2 : Array Value, r2 = (r1.toList.take ((i + 1) * 2) ++ mid ++ r1.toList.drop ((i + 1) * 2 + mid.length)).toArray := ⟨_, rfl⟩
  have hr2s : r2.size = G * 2 := by rw [hr2]; simp [hr1s, hml]; omega
  have hfin : r2.toList.take ((n + 1) * 2) = cur.toList.take (i * 2) ++ [Value.string x0, Value.int .i64 x1] ++ (cur.toList.take (n * 2)).drop (i * 2) := by
    have e1 : r1.toList.take ((i + 1) * 2) = cur.toList.take (i * 2) ++ [Value.string x0, Value.int .i64 x1] := by
      rw [hr1, List.toList_toArray, List.take_append_of_le_length (by simp [hRs]; omega), List.take_of_length_le (by simp [hRs]; omega), hRt]
    rw [hr2, List.toList_toArray, e1, ← hmid, List.take_append_of_le_length (by simp [hml, hcl]; omega), List.take_of_length_le (by simp [hml, hcl]; omega)]
  have hcpA : ∀ (W : World), W.heap[w.heap.size]? = some (.cells ROW 42 (0, 0)) → W.heap[vb]? = some (.cells #[.string x0, .int .i64 x1] 42 (0, 0)) → ∀ ty dc, (Builtin.copy_ #[24, 24] ty #[.slice (some ⟨w.heap.size, i * 2, none⟩) (n + 1 - i) dc, .slice (some ⟨vb, 0, none⟩) 1 1]).run Tryd.prog W = .ok (goInt ((1 : Nat) : Int)) (W.setRow w.heap.size r1) := fun W hN hV ty dc => by
    rw [hr1]
    refine run_copy_rowK (P := Tryd.prog) W 24 24 ty 42 2 w.heap.size (i * 2) 1 (n + 1 - i) dc ⟨vb, 0, none⟩ 1 1 ROW 42 [.string x0, .int .i64 x1] Tryd.underlying24 hinfo2 hN (by simp only [Nat.min_def]; split <;> omega) rfl (fun j v hj => ?_) (by simp [hRs]; omega) (fun v hv => by simp at hv; rcases hv with rfl | rfl <;> rfl)
    rw [Addr.add_lit, cell_of_row _ _ _ _ _ _ hV]
    rw [Nat.zero_add, ← Array.getElem?_toList]; exact hj
  have hcpB : ∀ (W : World), W.heap[w.heap.size]? = some (.cells r1 42 (0, 0)) → W.heap[g]? = some (.cells cur 42 (0, 0)) → ∀ ty dc sc, (Builtin.copy_ #[24, 24] ty #[.slice (some ⟨w.heap.size, (i + 1) * 2, none⟩) (n - i) dc, .slice (some ⟨g, i * 2, none⟩) (n - i) sc]).run Tryd.prog W = .ok (goInt ((n - i : Nat) : Int)) (W.setRow w.heap.size r2) := fun W hN hV ty dc sc => by
    rw [hr2]
    refine run_copy_rowK (P := Tryd.prog) W 24 24 ty 42 2 w.heap.size ((i + 1) * 2) (n - i) (n - i) dc ⟨g, i * 2, none⟩ (n - i) sc r1 42 mid Tryd.underlying24 hinfo2 hN (by simp only [Nat.min_def]; split <;> omega) hml (fun j v hj => ?_) (by rw [hml, hr1s]; omega) (fun v hv => h1 v (by rw [hmid] at hv; exact List.mem_of_mem_drop hv))
    rw [Addr.add_lit, cell_of_row _ _ _ _ _ _ hV]
    rw [hmid, List.getElem?_drop, List.getElem?_take] at hj
    split at hj
    · rw [← Array.getElem?_toList]; exact hj
    · cases hj
  have hz1 : ¬ ((i : Int) = (n : Int)) := by omega
  have hd1 : ((i : Int) == (n : Int)) = false := by simpa using hz1
  have hd2 : decide ((cap : Int) < (n : Int) + 1) = true := by simp; omega
  have mixed : Tryd.prog.follows Departure.mixedOrders = true := by kernel_rfl
  have hw1 : IntKind.i64.wrap ((i : Int) + 1) = (i : Int) + 1 := by rw [IntKind.wrap_i64]; omega
  have hb1 : (0 : Int) ≤ (i : Int) + 1 := by omega
  have hin : i ≤ n := by omega
  have htn : ((i : Int) + 1).toNat = i + 1 := by omega
  have hb3 : (i : Int) ≤ (n : Int) := by omega
  have hb5 : (i : Int) + 1 ≤ (n : Int) + 1 := by omega
  have hGi : ¬ (G = i) := by omega
  have hGim : ¬ (G = i + 1) := by omega
  have hci : ¬ (cap = i) := by omega
  have HN0 := Aside0.mk (show ((w.alloc (.cells ROW 42)).drew).heap[w.heap.size]? = some (.cells ROW 42 (0, 0)) from heap_alloc_new w _)
  have HV0 := Aside0.mk (show ((w.alloc (.cells ROW 42)).drew).heap[vb]? = some (.cells #[.string x0, .int .i64 x1] 42 (0, 0)) from (Below.heap_alloc _ _ _ hvw).trans hv)
  have HG0 := Aside0.mk (show ((w.alloc (.cells ROW 42)).drew).heap[g]? = some (.cells cur 42 (0, 0)) from (Below.heap_alloc _ _ _ hgw).trans hg)
  have HN1 := Aside0.mk (show ((((w.alloc (.cells ROW 42)).drew).setRow w.heap.size r1).drew).heap[w.heap.size]? = some (.cells r1 42 (0, 0)) from setRow_heap _ _ _ _ _ _ HN0.out)
  have HG1 := Aside0.mk (show ((((w.alloc (.cells ROW 42)).drew).setRow w.heap.size r1).drew).heap[g]? = some (.cells cur 42 (0, 0)) from (setRow_other _ _ _ _ (by omega)).trans HG0.out)
  have HF := Aside0.mk hfin
  have HR2 := Aside0.mk hr2s
  have HGN := Aside0.mk hGn
  have HG63 := Aside0.mk hG63
  have HGW := Aside0.mk hgw
  clear hG hROW hRs hRt hRl hmid hml hr1 hr1s hr2 hr2s hfin hcl hsz hold hkk hik hinfo2 hi0 hz0 hzs hzb hg hgd hv h1 hbig
  have hxA := hcpA ((w.alloc (.cells ROW 42)).drew) HN0.out HV0.out
  have HB := Aside0.mk hcpB
  clear hcpA hcpB
  go_enter Tryd.func30, Tryd.ntmps30
  go_wp2_with (first
    | (at_builtin; refine Lib.wpList_append_run _ rfl _ _ _ _ rfl _ _ rfl rfl _ _ (hrz _) ?_))
  go_region_law_o (refine step_copy_runI rfl _ _ 24 24 rfl (.slice (some ⟨w.heap.size, (i + 1) * 2, none⟩) (n - i) (G - (i + 1))) (.slice (some ⟨g, i * 2, none⟩) (n - i) (cap - i)) (by simp [Act.eval, Act.put]) (by simp [Act.eval, Act.put]) (HB.out _ HN1.out HG1.out 3 (G - (i + 1)) (cap - i)) ?_)
  go_wp2
  go_ret
  have gr : ∀ (W : World) (r : Array Value), W.grownBy (W.setRow w.heap.size r) (some w.heap.size) := fun W r => ⟨rfl, rfl, rfl, by simp, fun k _ hk => setRow_other _ _ _ _ (fun e => hk (by rw [e]))⟩
  refine ⟨G, HGN.out, HG63.out, rfl, ⟨r2, setRow_heap _ _ _ _ _ _ HN1.out, HR2.out, HF.out⟩, ?_⟩
  have b1 : Below w.heap.size w ((w.alloc (.cells ROW 42)).drew) := below_drew ((Below.refl _ w).alloc (Nat.le_refl _) _)
  have b2 := below_drew (b1.grown (gr _ r1) (by simp) (fun k e => by cases e; omega))
  exact b2.grown (gr _ r2) (by simp) (fun k e => by cases e; omega)
set_option maxHeartbeats 8000000 in
set_option maxRecDepth 100000 in
theorem insert_room (g vb n cap i : Nat) (cur : Array Value) (x0 : ByteArray) (x1 : Int) (w : World) (hi : i < n) (hroom : n + 1 ≤ cap) (hc63 : cap ≤ 9223372036854775807) (hvb : vb ≠ g)
    (hg : w.heap[g]? = some (.cells cur 42 (0, 0))) (hsz : cur.size = cap * 2) (hv : w.heap[vb]? = some (.cells #[.string x0, .int .i64 x1] 42 (0, 0))) (h1 : ∀ v ∈ cur.toList.take (n * 2), v.oneCell' = true) :
    Calls Tryd.prog 30 #[.slice (some ⟨g, 0, none⟩) n cap, .int .i64 i, .slice (some ⟨vb, 0, none⟩) 1 1] w fun e w' =>
      e = .returned (.slice (some ⟨g, 0, none⟩) (n + 1) cap) ∧ (∃ row : Array Value, w'.heap[g]? = some (.cells row 42 (0, 0)) ∧ row.size = cap * 2 ∧ row.toList.take ((n + 1) * 2) = cur.toList.take (i * 2) ++ [Value.string x0, Value.int .i64 x1] ++ (cur.toList.take (n * 2)).drop (i * 2)) ∧ w.grownBy w' (some g) := by
  have hov : ∀ lb cb, (callFunc 42 #[.slice (some ⟨vb, 0, none⟩) 1 1, .slice (some ⟨g, (i + 1) * 2, none⟩) lb cb]).run Tryd.prog w = .ok (.value (.bool false)) w := fun lb cb => by
    rw [run_callFunc_extern Tryd.func42 (by kernel_rfl) (by kernel_rfl) (by kernel_rfl) (e := Extern.SlicesOverlaps.overlaps #[24, 24] #[4]) (by kernel_rfl),
      Lib.run_overlaps_apart w 24 4 42 Tryd.underlying24 2 Tryd.sizeOf42 ⟨vb, 0, none⟩ ⟨g, (i + 1) * 2, none⟩ 1 1 lb cb hvb 42 42 2 (cap * 2) (by simp [World.shape?, hv]) (by simp [World.shape?, hg, hsz]) (by omega) (by simp [World.frozen?, hv]) (by simp [World.frozen?, hv])]
    rfl
  have hz1 : ¬ ((i : Int) = (n : Int)) := by omega
  have hd1 : ((i : Int) == (n : Int)) = false := by simpa using hz1
  have hd2 : decide ((cap : Int) < (n : Int) + 1) = false := by simp; omega
  obtain ⟨mid, hmid⟩ : ∃ mid, mid = (cur.toList.take (n * 2)).drop (i * 2) := ⟨_, rfl⟩
  have hcl : cur.toList.length = cap * 2 := by rw [Array.length_toList, hsz]
  have hml : mid.length = (n - i) * 2 := by rw [hmid, List.length_drop, List.length_take, hcl]; omega
  obtain ⟨c1, hc1⟩ : ∃ c1 : Array Value, c1 = (cur.toList.take ((i + 1) * 2) ++ mid ++ cur.toList.drop ((i + 1) * 2 + mid.length)).toArray := ⟨_, rfl⟩
  have hgd : w.drew.heap[g]? = some (.cells cur 42 (0, 0)) := hg
  have hinfo2 : (Tryd.prog.info? 42).map (·.size) = some 2 := by
    obtain ⟨i0, hi0, h0⟩ := Option.map_eq_some_iff.1 info42
    simp only [Prod.mk.injEq] at h0
    rw [hi0]; simp [h0.2.1]
  have hcp1 : ∀ ty dc sc, (Builtin.copy_ #[24, 24] ty #[.slice (some ⟨g, (i + 1) * 2, none⟩) (n - i) dc, .slice (some ⟨g, i * 2, none⟩) (n + 1 - i) sc]).run Tryd.prog w.drew = .ok (goInt ((n - i : Nat) : Int)) (w.drew.setRow g c1) := fun ty dc sc => by
    rw [hc1]
    refine run_copy_rowK (P := Tryd.prog) w.drew 24 24 ty 42 2 g ((i + 1) * 2) (n - i) (n - i) dc ⟨g, i * 2, none⟩ (n + 1 - i) sc cur 42 mid Tryd.underlying24 hinfo2 hgd (by simp only [Nat.min_def]; split <;> omega) hml (fun j v hj => ?_) (by rw [hml, hsz]; omega) (fun v hv => h1 v (by rw [hmid] at hv; exact List.mem_of_mem_drop hv))
    rw [Addr.add_lit, cell_of_row _ _ _ _ _ _ hgd]
    rw [hmid, List.getElem?_drop, List.getElem?_take] at hj
    split at hj
    · rw [← Array.getElem?_toList, show i * 2 + j = i * 2 + j from rfl]; exact hj
    · cases hj
  have hc1l : c1.size = cap * 2 := by
    rw [hc1]
    simp [hml, hsz]
    omega
  obtain ⟨W1, hW1⟩ : ∃ W1, W1 = w.drew.setRow g c1 := ⟨_, rfl⟩
  have hg1 : W1.heap[g]? = some (.cells c1 42 (0, 0)) := by rw [hW1]; exact setRow_heap _ _ _ _ _ _ hgd
  have hv1 : W1.heap[vb]? = some (.cells #[.string x0, .int .i64 x1] 42 (0, 0)) := by rw [hW1, setRow_other _ _ _ _ hvb]; exact hv
  have hcp2 : ∀ ty dc, (Builtin.copy_ #[24, 24] ty #[.slice (some ⟨g, i * 2, none⟩) (n + 1 - i) dc, .slice (some ⟨vb, 0, none⟩) 1 1]).run Tryd.prog W1 = .ok (goInt ((1 : Nat) : Int)) (W1.setRow g (c1.toList.take (i * 2) ++ [Value.string x0, Value.int .i64 x1] ++ c1.toList.drop (i * 2 + 2)).toArray) := fun ty dc => by
    refine run_copy_rowK (P := Tryd.prog) W1 24 24 ty 42 2 g (i * 2) 1 (n + 1 - i) dc ⟨vb, 0, none⟩ 1 1 c1 42 [.string x0, .int .i64 x1] Tryd.underlying24 hinfo2 hg1 (by simp only [Nat.min_def]; split <;> omega) rfl (fun j v hj => ?_) (by simp [hc1l]; omega) (fun v hv => by simp at hv; rcases hv with rfl | rfl <;> rfl)
    rw [Addr.add_lit, cell_of_row _ _ _ _ _ _ hv1]
    rw [Nat.zero_add, ← Array.getElem?_toList]; exact hj
  rw [← hW1] at hcp1
  have hb2 : ¬ (cap = i + 1) := by omega
  have hb4 : ¬ (cap = i) := by omega
  have mixed : Tryd.prog.follows Departure.mixedOrders = true := by kernel_rfl
  have hw1 : IntKind.i64.wrap ((i : Int) + 1) = (i : Int) + 1 := by rw [IntKind.wrap_i64]; omega
  have hb1 : (0 : Int) ≤ (i : Int) + 1 := by omega
  have hb5 : (i : Int) + 1 ≤ (n : Int) + 1 := by omega
  have htn : ((i : Int) + 1).toNat = i + 1 := by omega
  have hb3 : (i : Int) ≤ (n : Int) + 1 := by omega
  have hsub : n + 1 - (i + 1) = n - i := by omega
  have HCL := Aside0.mk hcl
  have HC1L := Aside0.mk hc1l
  have HW := Aside0.mk hW1
  have HC := Aside0.mk hc1
  have HMD := Aside0.mk hmid
  have HML := Aside0.mk hml
  have HG1 := Aside0.mk hg1
  have HG := Aside0.mk hg
  clear hW1 hc1 hmid hml hcl hg1 hv1 hgd hg hv hc1l hsz h1 hinfo2
  go_enter Tryd.func30, Tryd.ntmps30
  go_wp2_with (simp only [hov])
  go_region_law_o (refine step_copy_runI rfl _ _ 24 24 rfl _ _ (by simp [Act.eval, Act.put]) (by simp [Act.eval, Act.put]) (hcp1 _ _ _) ?_)
  go_wp2_with (at_builtin; refine wpList_copy_runI _ rfl _ _ 24 24 rfl _ _ rfl rfl (hcp2 _ _) ?_)
  go_ret
  refine ⟨rfl, ⟨_, setRow_heap _ _ _ _ _ _ HG1.out, ?_, ?_⟩, ?_⟩
  · have := HC1L.out
    simp
    omega
  · have hcl := HCL.out
    have hml := HML.out
    have e1 : c1.toList = cur.toList.take ((i + 1) * 2) ++ (mid ++ cur.toList.drop ((i + 1) * 2 + mid.length)) := by rw [HC.out, List.append_assoc]
    have e2 : c1.toList.take (i * 2) = cur.toList.take (i * 2) := by
      rw [e1, List.take_append_of_le_length (by rw [List.length_take, hcl]; omega), List.take_take, Nat.min_eq_left (by omega)]
    have e3 : c1.toList.drop (i * 2 + 2) = mid ++ cur.toList.drop ((i + 1) * 2 + mid.length) := by
      rw [e1, List.drop_append_of_le_length (by rw [List.length_take, hcl]; omega), List.drop_eq_nil_of_le (by rw [List.length_take, hcl]; omega), List.nil_append]
    have e4 : ∀ (p q : List Value) (a b : Value), p ++ a :: b :: q = p ++ [a, b] ++ q := fun p q a b => by simp
    simp only [List.toList_toArray]
    rw [e4, e2, e3, ← HMD.out, ← List.append_assoc, List.take_append_of_le_length (by simp [hml, hcl]; omega), List.take_of_length_le (by simp [hml, hcl]; omega)]
  · rw [HW.out]
    refine ⟨rfl, rfl, rfl, by simp, fun k _ hk => ?_⟩
    have hne : k ≠ g := fun e => hk (by rw [e])
    rw [setRow_other _ _ _ _ hne, setRow_other _ _ _ _ hne]
    rfl
theorem k42_KM' {w : World} {x : S42} {cs : List Value} (h : k42.K w x cs) (w' : World) (base : Nat) (ok : Nat → Prop) : k42.M w' base ok x cs := by
  obtain rfl := k42_open h
  exact k42_mkM _ _ _ _
theorem C_one {w : World} {vb : Nat} {x : S42} (hv : w.heap[vb]? = some (.cells #[.string x.f0, .int .i64 x.f1] 42 (0, 0))) : Kd.C k42 w (some ⟨vb, 0, none⟩) 1 [x] := by
  refine ⟨rfl, by decide, fun _ => ⟨_, rfl, fun j p hp => ?_⟩⟩
  obtain ⟨hj, rfl⟩ := List.getElem?_eq_some_iff.1 hp
  have hj0 : j = 0 := by simpa using hj
  subst hj0
  refine ⟨[.string x.f0, .int .i64 x.f1], rfl, k42_mk _ _, fun i u hu => ?_⟩
  have hi : i < 2 := (List.getElem?_eq_some_iff.1 hu).1
  have ha : (⟨vb, 0, none⟩ : Addr).add (0 * k42.sz + i) = ⟨vb, i, none⟩ := by
    rw [Nat.zero_mul, Nat.zero_add, Addr.add_lit, Nat.zero_add]
  rw [ha, cell_of_row _ _ _ _ _ _ hv, ← Array.getElem?_toList]
  exact hu
set_option maxHeartbeats 8000000 in
set_option maxRecDepth 100000 in
theorem insert_end (base vb : Nat) (A0 : Option Addr) (n cap : Nat) (xs : List S42) (x : S42) (w : World) (hO : Kd.R k42 42 w base (fun _ => True) (.slice A0 n cap) xs) (hn : n = xs.length) (hbase : base ≤ w.heap.size) (hlen : xs.length ≤ 1000000000000)
    (hv : w.heap[vb]? = some (.cells #[.string x.f0, .int .i64 x.f1] 42 (0, 0))) :
    Calls Tryd.prog 30 #[.slice A0 n cap, .int .i64 n, .slice (some ⟨vb, 0, none⟩) 1 1] w fun e w' => ∃ v1 : Value, e = .returned v1 ∧ Kd.R k42 42 w' base (fun _ => True) v1 (xs ++ [x]) ∧ Below base w w' := by
  have HO := Aside0.mk hO
  have HN := Aside0.mk hn
  have HL := Aside0.mk hlen
  have HC := Aside0.mk (C_one hv)
  have HBS := Aside0.mk hbase
  have hnc : n ≤ cap := by
    obtain ⟨A, c, he, hl, _⟩ := Kd.R_reads hO
    cases he
    omega
  have hn0 : A0 = none → n = 0 := by
    rintro rfl
    obtain ⟨inner, ho⟩ := Kd.R_own hO
    rcases ho.2 with ⟨_, h0⟩ | ⟨g, c, cur, he, _⟩
    · omega
    · cases he
  clear hO hlen hv hn hbase
  rcases A0 with _ | ad
  · obtain rfl := hn0 rfl
    go_enter Tryd.func30, Tryd.ntmps30
    go_wp2_with (first
      | ((with_reducible refine gate_builtin (b := .append) (xs := #[.tmp 23, .tmp 24]) rfl ?_); at_builtin; refine Kd.R_append_rows k42 (Rr := k42.K w) (w0 := w) base rfl (.tmp 23) (.tmp 24) 24 42 (.agg #[(.string ⟨#[]⟩), (.int .i64 0)]) 24 rfl Tryd.underlying24 info42 rfl (by decide) (by omega) _ xs [x] _ _ _ (fun _ => True) (fun _ => False) rfl rfl HO.out HC.out (fun _ _ h => k42_KM' h _ _ _) (fun _ h => h.elim) (fun _ _ => trivial) (Below.refl _ _) HBS.out (by have := HL.out; omega) ?_; intro v2 w2 ho hb hg hat; have HO2 := Aside0.mk ho; have HB2 := Aside0.mk hb; clear ho hb hg hat))
    go_ret
    exact ⟨_, rfl, HO2.out, HB2.out⟩
  · go_enter Tryd.func30, Tryd.ntmps30
    go_wp2_with (first
      | ((with_reducible refine gate_builtin (b := .append) (xs := #[.tmp 23, .tmp 24]) rfl ?_); at_builtin; refine Kd.R_append_rows k42 (Rr := k42.K w) (w0 := w) base rfl (.tmp 23) (.tmp 24) 24 42 (.agg #[(.string ⟨#[]⟩), (.int .i64 0)]) 24 rfl Tryd.underlying24 info42 rfl (by decide) (by omega) _ xs [x] _ _ _ (fun _ => True) (fun _ => False) rfl rfl HO.out HC.out (fun _ _ h => k42_KM' h _ _ _) (fun _ h => h.elim) (fun _ _ => trivial) (Below.refl _ _) HBS.out (by have := HL.out; omega) ?_; intro v2 w2 ho hb hg hat; have HO2 := Aside0.mk ho; have HB2 := Aside0.mk hb; clear ho hb hg hat))
    all_goals go_ret
    all_goals exact ⟨_, rfl, HO2.out, HB2.out⟩
theorem M34_any {w w' : World} {base base' : Nat} {ok ok' : Nat → Prop} {x : S42} {cs : List Value} (h : k42.M w base ok x cs) : k42.M w' base' ok' x cs := by
  obtain rfl := k42_openM h
  exact k42_mkM _ _ _ _
theorem reps34_one {xs : List S42} {inner : List Value} (h : Reps (fun (x : S42) (cs : List Value) => cs = [.string x.f0, .int .i64 x.f1]) 2 xs inner) (v : Value) (hv : v ∈ inner) : v.oneCell' = true := by
  obtain ⟨j, hj, rfl⟩ := List.getElem_of_mem hv
  have hl := h.1
  have hq : j / 2 < xs.length := by omega
  have he := h.2 (j / 2) (xs[j / 2]) (List.getElem?_eq_getElem hq)
  have h2 : ((inner.drop (j / 2 * 2)).take 2)[j % 2]? = some inner[j] := by
    rw [List.getElem?_take, if_pos (by omega), List.getElem?_drop, show j / 2 * 2 + j % 2 = j by omega]
    exact List.getElem?_eq_getElem hj
  rw [he] at h2
  rcases Nat.mod_two_eq_zero_or_one j with h0 | h0 <;> rw [h0] at h2
  · have : inner[j] = Value.string (xs[j / 2]).f0 := by simpa using h2.symm
    rw [this]; rfl
  · have : inner[j] = Value.int .i64 (xs[j / 2]).f1 := by simpa using h2.symm
    rw [this]; rfl
theorem insert34 (base vb : Nat) (A0 : Option Addr) (n cap i : Nat) (xs : List S42) (x : S42) (w : World) (hO : Kd.R k42 42 w base (fun _ => True) (.slice A0 n cap) xs) (hn : n = xs.length) (hi : i ≤ n) (hbase : base ≤ w.heap.size) (hlen : xs.length ≤ 1000000000000)
    (hv : w.heap[vb]? = some (.cells #[.string x.f0, .int .i64 x.f1] 42 (0, 0))) (hne : some vb ≠ (Value.slice A0 n cap).ownBlock) :
    Calls Tryd.prog 30 #[.slice A0 n cap, .int .i64 i, .slice (some ⟨vb, 0, none⟩) 1 1] w fun e w' => ∃ v1 : Value, e = .returned v1 ∧ Kd.R k42 42 w' base (fun _ => True) v1 (xs.take i ++ [x] ++ xs.drop i) ∧ Below base w w' := by
  by_cases hin : i = n
  · subst hin
    have e : xs.take i ++ [x] ++ xs.drop i = xs ++ [x] := by rw [hn, List.take_of_length_le (Nat.le_refl _), List.drop_eq_nil_of_le (Nat.le_refl _), List.append_nil]
    rw [e]
    exact insert_end base vb A0 i cap xs x w hO hn hbase hlen hv
  · have hlt : i < n := by omega
    obtain ⟨_, inner, ho, hr⟩ := hO
    rw [← hn] at ho
    rcases ho.2 with ⟨_, h0⟩ | ⟨g, c, cur, he, hbg, hgb, hnc, hcm, hcs, hct⟩
    · omega
    · have he' : A0 = some ⟨g, 0, none⟩ ∧ cap = c := by
        injection he with h1 h2 h3
        exact ⟨h1, h3⟩
      obtain ⟨rfl, rfl⟩ := he'
      have hvg : vb ≠ g := fun e => hne (by rw [e]; rfl)
      have hcs2 : cur.size = cap * 2 := hcs
      have hct2 : cur.toList.take (n * 2) = inner := hct
      have hreps : Reps (fun (x : S42) (cs : List Value) => cs = [.string x.f0, .int .i64 x.f1]) 2 xs inner := hr.imp_ (fun p c hp => k42_openM hp)
      have h1 : ∀ v ∈ cur.toList.take (n * 2), v.oneCell' = true := fun v hv => by rw [hct2] at hv; exact reps34_one hreps v hv
      have hres : Reps (fun (x : S42) (cs : List Value) => cs = [.string x.f0, .int .i64 x.f1]) 2 (xs.take i ++ [x] ++ xs.drop i) (cur.toList.take (i * 2) ++ [Value.string x.f0, Value.int .i64 x.f1] ++ (cur.toList.take (n * 2)).drop (i * 2)) := by
        have e1 : cur.toList.take (i * 2) = inner.take (i * 2) := by rw [← hct2, List.take_take, Nat.min_eq_left (by omega)]
        rw [e1, hct2]
        exact Kd.reps_append (Reps.snoc (Kd.reps_take hreps (by omega)) rfl rfl) (Kd.reps_drop hreps)
      have hlenr : (xs.take i ++ [x] ++ xs.drop i).length = n + 1 := by simp; omega
      have fin : ∀ (W : World) (b G : Nat) (row : Array Value), base ≤ b → W.heap[b]? = some (.cells row 42 (0, 0)) → n + 1 ≤ G → G ≤ 9223372036854775807 → row.size = G * 2 → row.toList.take ((n + 1) * 2) = cur.toList.take (i * 2) ++ [Value.string x.f0, Value.int .i64 x.f1] ++ (cur.toList.take (n * 2)).drop (i * 2) → Kd.R k42 42 W base (fun _ => True) (.slice (some ⟨b, 0, none⟩) (n + 1) G) (xs.take i ++ [x] ++ xs.drop i) := fun W b G row hb hW h2 h3 h4 h5 => by
        refine ⟨fun _ _ => trivial, row.toList.take ((n + 1) * 2), ?_, ?_⟩
        · rw [hlenr]
          refine ⟨by rw [List.length_take, Array.length_toList, h4]; show min _ _ = (n + 1) * 2; omega, .inr ⟨b, G, row, rfl, hb, hW, h2, by unfold maxLen; omega, h4, rfl⟩⟩
        · rw [h5]
          refine Reps.imp_ (R := fun (x : S42) (cs : List Value) => cs = [.string x.f0, .int .i64 x.f1]) hres (fun p c hp => ?_)
          subst hp
          exact k42_mkM _ _ _ _
      by_cases hroom : n + 1 ≤ cap
      · refine (insert_room g vb n cap i cur x.f0 x.f1 w hlt hroom (by unfold maxLen at hcm; omega) hvg hgb hcs2 hv h1).mono ?_
        rintro e w' ⟨rfl, ⟨row, hrow, hrs, hrt⟩, hg⟩
        exact ⟨_, rfl, fin w' g cap row hbg hrow hroom (by unfold maxLen at hcm; omega) hrs hrt, (Below.refl _ _).grown hg hbase (fun k e => by cases e; exact hbg)⟩
      · refine (insert_grow g vb n cap i cur x.f0 x.f1 w hlt hnc (by omega) (by omega) hvg hgb hcs2 hv h1).mono ?_
        rintro e w' ⟨G, hG1, hG2, rfl, ⟨row, hrow, hrs, hrt⟩, hb⟩
        exact ⟨_, rfl, fin w' w.heap.size G row hbase hrow hG1 hG2 hrs hrt, hb.mono hbase⟩
def dir_Add.f (k : Nat) (l0 : List S42) (a1_0 : ByteArray) (a1_1 : Int) : Option (List S42 × Int) := (dir_Check.f k l0).bind fun t => if t = 0 then ((dir_Name.f a1_0).bind fun u => if u = 0 then ((dir_search.f l0 a1_0).bind fun s => (dir_Entry_may.f a1_0 a1_1).bind fun m => if m = true then (if s.2 = true then some ([], 102) else if 63 ≤ l0.length then some ([], 51) else if 0 ≤ s.1 ∧ s.1.toNat ≤ l0.length then some (l0.take s.1.toNat ++ [⟨a1_0, a1_1⟩] ++ l0.drop s.1.toNat, 0) else none) else some ([], 4)) else some ([], u)) else some ([], t)
theorem dir_Add.mono : ∀ a0 a1_0 a1_1 k, LeO (dir_Add.f k a0 a1_0 a1_1) (dir_Add.f (k + 1) a0 a1_0 a1_1) := by
  intro a0 a1_0 a1_1 k
  unfold dir_Add.f
  exact LeO.bind (dir_Check.mono a0 k) (fun _ => LeO.refl _)
set_option maxHeartbeats 8000000 in
set_option maxRecDepth 100000 in
theorem add_e1 (k : Nat) (A0 : Option Addr) (c0 : Nat) (l0 : List S42) (a : ByteArray) (b : Int) (t : Int) (w : World) (hr0 : Kd.C k42 w A0 l0.length l0) (hc0 : l0.length ≤ c0)
    (h1 : dir_Check.f k l0 = some t) (h2 : ¬ t = 0) :
    Calls Tryd.prog 20 #[.slice A0 l0.length c0, .agg #[.string a, .int .i64 b]] w fun e w' => ∃ v0_ : Value, e = .returned (.tuple #[v0_, .int .i64 t]) ∧ Kd.R k42 42 w' w.heap.size (fun _ => True) v0_ [] ∧ Below w.heap.size w w' := by
  have HR0 := Aside0.mk hr0
  have HC0 := Aside0.mk hc0
  have A1 := Aside0.mk h1
  skip
  have hq1 : (t == 0) = false := by simpa using h2
  have hq2 : (t != 0) = true := by simpa using h2
  clear hr0 hc0 h1 h2
  go_enter Tryd.func20, Tryd.ntmps20
  go_wp2_with (first
    | (go_at_call 15; refine (dir_Check.calls k A0 c0 l0 _ _ (Kd.C_below HR0.out ((Below.refl _ _).alloc (Nat.le_refl _) _)) HC0.out A1.out).mono ?_; rintro e w1 ⟨rfl, hb1⟩; have HB1 := Aside0.mk (below_step ((Below.refl w.heap.size w).alloc (Nat.le_refl _) _) hb1); have HX1 := Aside0.mk ((hb1.block w.heap.size (by simp)).trans (heap_alloc_new w (.cells #[.string a, .int .i64 b] 42))); have hxa := cell_of_row w1 w.heap.size 0 _ _ _ HX1.out; have hxb := cell_of_row w1 w.heap.size 1 _ _ _ HX1.out; simp only [List.getElem?_toArray, List.getElem?_cons_zero, List.getElem?_cons_succ] at hxa hxb; clear hb1)
    | (go_at_call 21; refine (dir_Name.calls a _ _ A2.out).mono ?_; rintro e w2 ⟨rfl, ⟨nd2, rfl⟩⟩)
    | (go_at_call 29; refine (dir_search.calls A0 c0 l0 a _ _ _ (Kd.C_below HR0.out (pw_below_drewN HB1.out _)) HC0.out A3.out).mono ?_; rintro e w3 ⟨rfl, hb3⟩; have HB3 := Aside0.mk (below_step (pw_below_drewN HB1.out _) hb3); have HX3 := Aside0.mk ((hb3.block w.heap.size (by have := (Array.getElem?_eq_some_iff.1 HX1.out).1; simpa using this)).trans HX1.out); have hxa3 := cell_of_row w3 w.heap.size 0 _ _ _ HX3.out; have hxb3 := cell_of_row w3 w.heap.size 1 _ _ _ HX3.out; simp only [List.getElem?_toArray, List.getElem?_cons_zero, List.getElem?_cons_succ] at hxa3 hxb3; clear hb3)
    | (go_at_call 22; refine (dir_Entry_may.calls a b _ _ A4.out).mono ?_; rintro e w4 ⟨rfl, hb4⟩; have HB4 := Aside0.mk (below_step HB3.out hb4); clear hb4))
  go_ret2
  exact ⟨_, rfl, Kd.R_nil _ _ _ _ _, HB1.out⟩
set_option maxHeartbeats 8000000 in
set_option maxRecDepth 100000 in
theorem add_e2 (k : Nat) (A0 : Option Addr) (c0 : Nat) (l0 : List S42) (a : ByteArray) (b : Int) (u : Int) (w : World) (hr0 : Kd.C k42 w A0 l0.length l0) (hc0 : l0.length ≤ c0)
    (h1 : dir_Check.f k l0 = some 0) (h2 : dir_Name.f a = some u) (h3 : ¬ u = 0) :
    Calls Tryd.prog 20 #[.slice A0 l0.length c0, .agg #[.string a, .int .i64 b]] w fun e w' => ∃ v0_ : Value, e = .returned (.tuple #[v0_, .int .i64 u]) ∧ Kd.R k42 42 w' w.heap.size (fun _ => True) v0_ [] ∧ Below w.heap.size w w' := by
  have HR0 := Aside0.mk hr0
  have HC0 := Aside0.mk hc0
  have A1 := Aside0.mk h1
  have A2 := Aside0.mk h2
  skip
  have hq1 : (u == 0) = false := by simpa using h3
  have hq2 : (u != 0) = true := by simpa using h3
  clear hr0 hc0 h1 h2 h3
  go_enter Tryd.func20, Tryd.ntmps20
  go_wp2_with (first
    | (go_at_call 15; refine (dir_Check.calls k A0 c0 l0 _ _ (Kd.C_below HR0.out ((Below.refl _ _).alloc (Nat.le_refl _) _)) HC0.out A1.out).mono ?_; rintro e w1 ⟨rfl, hb1⟩; have HB1 := Aside0.mk (below_step ((Below.refl w.heap.size w).alloc (Nat.le_refl _) _) hb1); have HX1 := Aside0.mk ((hb1.block w.heap.size (by simp)).trans (heap_alloc_new w (.cells #[.string a, .int .i64 b] 42))); have hxa := cell_of_row w1 w.heap.size 0 _ _ _ HX1.out; have hxb := cell_of_row w1 w.heap.size 1 _ _ _ HX1.out; simp only [List.getElem?_toArray, List.getElem?_cons_zero, List.getElem?_cons_succ] at hxa hxb; clear hb1)
    | (go_at_call 21; refine (dir_Name.calls a _ _ A2.out).mono ?_; rintro e w2 ⟨rfl, ⟨nd2, rfl⟩⟩)
    | (go_at_call 29; refine (dir_search.calls A0 c0 l0 a _ _ _ (Kd.C_below HR0.out (pw_below_drewN HB1.out _)) HC0.out A3.out).mono ?_; rintro e w3 ⟨rfl, hb3⟩; have HB3 := Aside0.mk (below_step (pw_below_drewN HB1.out _) hb3); have HX3 := Aside0.mk ((hb3.block w.heap.size (by have := (Array.getElem?_eq_some_iff.1 HX1.out).1; simpa using this)).trans HX1.out); have hxa3 := cell_of_row w3 w.heap.size 0 _ _ _ HX3.out; have hxb3 := cell_of_row w3 w.heap.size 1 _ _ _ HX3.out; simp only [List.getElem?_toArray, List.getElem?_cons_zero, List.getElem?_cons_succ] at hxa3 hxb3; clear hb3)
    | (go_at_call 22; refine (dir_Entry_may.calls a b _ _ A4.out).mono ?_; rintro e w4 ⟨rfl, hb4⟩; have HB4 := Aside0.mk (below_step HB3.out hb4); clear hb4))
  go_ret2
  exact ⟨_, rfl, Kd.R_nil _ _ _ _ _, pw_below_drewN HB1.out _⟩
set_option maxHeartbeats 8000000 in
set_option maxRecDepth 100000 in
theorem add_e3 (k : Nat) (A0 : Option Addr) (c0 : Nat) (l0 : List S42) (a : ByteArray) (b : Int) (i : Int) (is : Bool) (w : World) (hr0 : Kd.C k42 w A0 l0.length l0) (hc0 : l0.length ≤ c0)
    (h1 : dir_Check.f k l0 = some 0) (h2 : dir_Name.f a = some 0) (h3 : dir_search.f l0 a = some (i, is)) (h4 : dir_Entry_may.f a b = some false) :
    Calls Tryd.prog 20 #[.slice A0 l0.length c0, .agg #[.string a, .int .i64 b]] w fun e w' => ∃ v0_ : Value, e = .returned (.tuple #[v0_, .int .i64 4]) ∧ Kd.R k42 42 w' w.heap.size (fun _ => True) v0_ [] ∧ Below w.heap.size w w' := by
  have HR0 := Aside0.mk hr0
  have HC0 := Aside0.mk hc0
  have A1 := Aside0.mk h1
  have A2 := Aside0.mk h2
  have A3 := Aside0.mk h3
  have A4 := Aside0.mk h4
  clear hr0 hc0 h1 h2 h3 h4
  go_enter Tryd.func20, Tryd.ntmps20
  go_wp2_with (first
    | (go_at_call 15; refine (dir_Check.calls k A0 c0 l0 _ _ (Kd.C_below HR0.out ((Below.refl _ _).alloc (Nat.le_refl _) _)) HC0.out A1.out).mono ?_; rintro e w1 ⟨rfl, hb1⟩; have HB1 := Aside0.mk (below_step ((Below.refl w.heap.size w).alloc (Nat.le_refl _) _) hb1); have HX1 := Aside0.mk ((hb1.block w.heap.size (by simp)).trans (heap_alloc_new w (.cells #[.string a, .int .i64 b] 42))); have hxa := cell_of_row w1 w.heap.size 0 _ _ _ HX1.out; have hxb := cell_of_row w1 w.heap.size 1 _ _ _ HX1.out; simp only [List.getElem?_toArray, List.getElem?_cons_zero, List.getElem?_cons_succ] at hxa hxb; clear hb1)
    | (go_at_call 21; refine (dir_Name.calls a _ _ A2.out).mono ?_; rintro e w2 ⟨rfl, ⟨nd2, rfl⟩⟩)
    | (go_at_call 29; refine (dir_search.calls A0 c0 l0 a _ _ _ (Kd.C_below HR0.out (pw_below_drewN HB1.out _)) HC0.out A3.out).mono ?_; rintro e w3 ⟨rfl, hb3⟩; have HB3 := Aside0.mk (below_step (pw_below_drewN HB1.out _) hb3); have HX3 := Aside0.mk ((hb3.block w.heap.size (by have := (Array.getElem?_eq_some_iff.1 HX1.out).1; simpa using this)).trans HX1.out); have hxa3 := cell_of_row w3 w.heap.size 0 _ _ _ HX3.out; have hxb3 := cell_of_row w3 w.heap.size 1 _ _ _ HX3.out; simp only [List.getElem?_toArray, List.getElem?_cons_zero, List.getElem?_cons_succ] at hxa3 hxb3; clear hb3)
    | (go_at_call 22; refine (dir_Entry_may.calls a b _ _ A4.out).mono ?_; rintro e w4 ⟨rfl, hb4⟩; have HB4 := Aside0.mk (below_step HB3.out hb4); clear hb4))
  go_ret2
  exact ⟨_, rfl, Kd.R_nil _ _ _ _ _, HB4.out⟩
set_option maxHeartbeats 8000000 in
set_option maxRecDepth 100000 in
theorem add_e4 (k : Nat) (A0 : Option Addr) (c0 : Nat) (l0 : List S42) (a : ByteArray) (b : Int) (i : Int) (w : World) (hr0 : Kd.C k42 w A0 l0.length l0) (hc0 : l0.length ≤ c0)
    (h1 : dir_Check.f k l0 = some 0) (h2 : dir_Name.f a = some 0) (h3 : dir_search.f l0 a = some (i, true)) (h4 : dir_Entry_may.f a b = some true) :
    Calls Tryd.prog 20 #[.slice A0 l0.length c0, .agg #[.string a, .int .i64 b]] w fun e w' => ∃ v0_ : Value, e = .returned (.tuple #[v0_, .int .i64 102]) ∧ Kd.R k42 42 w' w.heap.size (fun _ => True) v0_ [] ∧ Below w.heap.size w w' := by
  have HR0 := Aside0.mk hr0
  have HC0 := Aside0.mk hc0
  have A1 := Aside0.mk h1
  have A2 := Aside0.mk h2
  have A3 := Aside0.mk h3
  have A4 := Aside0.mk h4
  clear hr0 hc0 h1 h2 h3 h4
  go_enter Tryd.func20, Tryd.ntmps20
  go_wp2_with (first
    | (go_at_call 15; refine (dir_Check.calls k A0 c0 l0 _ _ (Kd.C_below HR0.out ((Below.refl _ _).alloc (Nat.le_refl _) _)) HC0.out A1.out).mono ?_; rintro e w1 ⟨rfl, hb1⟩; have HB1 := Aside0.mk (below_step ((Below.refl w.heap.size w).alloc (Nat.le_refl _) _) hb1); have HX1 := Aside0.mk ((hb1.block w.heap.size (by simp)).trans (heap_alloc_new w (.cells #[.string a, .int .i64 b] 42))); have hxa := cell_of_row w1 w.heap.size 0 _ _ _ HX1.out; have hxb := cell_of_row w1 w.heap.size 1 _ _ _ HX1.out; simp only [List.getElem?_toArray, List.getElem?_cons_zero, List.getElem?_cons_succ] at hxa hxb; clear hb1)
    | (go_at_call 21; refine (dir_Name.calls a _ _ A2.out).mono ?_; rintro e w2 ⟨rfl, ⟨nd2, rfl⟩⟩)
    | (go_at_call 29; refine (dir_search.calls A0 c0 l0 a _ _ _ (Kd.C_below HR0.out (pw_below_drewN HB1.out _)) HC0.out A3.out).mono ?_; rintro e w3 ⟨rfl, hb3⟩; have HB3 := Aside0.mk (below_step (pw_below_drewN HB1.out _) hb3); have HX3 := Aside0.mk ((hb3.block w.heap.size (by have := (Array.getElem?_eq_some_iff.1 HX1.out).1; simpa using this)).trans HX1.out); have hxa3 := cell_of_row w3 w.heap.size 0 _ _ _ HX3.out; have hxb3 := cell_of_row w3 w.heap.size 1 _ _ _ HX3.out; simp only [List.getElem?_toArray, List.getElem?_cons_zero, List.getElem?_cons_succ] at hxa3 hxb3; clear hb3)
    | (go_at_call 22; refine (dir_Entry_may.calls a b _ _ A4.out).mono ?_; rintro e w4 ⟨rfl, hb4⟩; have HB4 := Aside0.mk (below_step HB3.out hb4); clear hb4))
  go_ret2
  exact ⟨_, rfl, Kd.R_nil _ _ _ _ _, HB4.out⟩
set_option maxHeartbeats 8000000 in
set_option maxRecDepth 100000 in
theorem add_e5 (k : Nat) (A0 : Option Addr) (c0 : Nat) (l0 : List S42) (a : ByteArray) (b : Int) (i : Int) (w : World) (hr0 : Kd.C k42 w A0 l0.length l0) (hc0 : l0.length ≤ c0)
    (h1 : dir_Check.f k l0 = some 0) (h2 : dir_Name.f a = some 0) (h3 : dir_search.f l0 a = some (i, false)) (h4 : dir_Entry_may.f a b = some true) (h5 : 63 ≤ l0.length) :
    Calls Tryd.prog 20 #[.slice A0 l0.length c0, .agg #[.string a, .int .i64 b]] w fun e w' => ∃ v0_ : Value, e = .returned (.tuple #[v0_, .int .i64 51]) ∧ Kd.R k42 42 w' w.heap.size (fun _ => True) v0_ [] ∧ Below w.heap.size w w' := by
  have HR0 := Aside0.mk hr0
  have HC0 := Aside0.mk hc0
  have A1 := Aside0.mk h1
  have A2 := Aside0.mk h2
  have A3 := Aside0.mk h3
  have A4 := Aside0.mk h4
  have hdl : decide (63 ≤ (l0.length : Int)) = true := by simp; omega
  clear hr0 hc0 h1 h2 h3 h4 h5
  go_enter Tryd.func20, Tryd.ntmps20
  go_wp2_with (first
    | (go_at_call 15; refine (dir_Check.calls k A0 c0 l0 _ _ (Kd.C_below HR0.out ((Below.refl _ _).alloc (Nat.le_refl _) _)) HC0.out A1.out).mono ?_; rintro e w1 ⟨rfl, hb1⟩; have HB1 := Aside0.mk (below_step ((Below.refl w.heap.size w).alloc (Nat.le_refl _) _) hb1); have HX1 := Aside0.mk ((hb1.block w.heap.size (by simp)).trans (heap_alloc_new w (.cells #[.string a, .int .i64 b] 42))); have hxa := cell_of_row w1 w.heap.size 0 _ _ _ HX1.out; have hxb := cell_of_row w1 w.heap.size 1 _ _ _ HX1.out; simp only [List.getElem?_toArray, List.getElem?_cons_zero, List.getElem?_cons_succ] at hxa hxb; clear hb1)
    | (go_at_call 21; refine (dir_Name.calls a _ _ A2.out).mono ?_; rintro e w2 ⟨rfl, ⟨nd2, rfl⟩⟩)
    | (go_at_call 29; refine (dir_search.calls A0 c0 l0 a _ _ _ (Kd.C_below HR0.out (pw_below_drewN HB1.out _)) HC0.out A3.out).mono ?_; rintro e w3 ⟨rfl, hb3⟩; have HB3 := Aside0.mk (below_step (pw_below_drewN HB1.out _) hb3); have HX3 := Aside0.mk ((hb3.block w.heap.size (by have := (Array.getElem?_eq_some_iff.1 HX1.out).1; simpa using this)).trans HX1.out); have hxa3 := cell_of_row w3 w.heap.size 0 _ _ _ HX3.out; have hxb3 := cell_of_row w3 w.heap.size 1 _ _ _ HX3.out; simp only [List.getElem?_toArray, List.getElem?_cons_zero, List.getElem?_cons_succ] at hxa3 hxb3; clear hb3)
    | (go_at_call 22; refine (dir_Entry_may.calls a b _ _ A4.out).mono ?_; rintro e w4 ⟨rfl, hb4⟩; have HB4 := Aside0.mk (below_step HB3.out hb4); clear hb4))
  go_ret2
  exact ⟨_, rfl, Kd.R_nil _ _ _ _ _, HB4.out⟩
set_option maxHeartbeats 8000000 in
set_option maxRecDepth 100000 in
theorem add_main (k : Nat) (A0 : Option Addr) (c0 : Nat) (l0 : List S42) (a : ByteArray) (b : Int) (i : Nat) (w : World) (hr0 : Kd.C k42 w A0 l0.length l0) (hc0 : l0.length ≤ c0)
    (h1 : dir_Check.f k l0 = some 0) (h2 : dir_Name.f a = some 0) (h3 : dir_search.f l0 a = some ((i : Int), false)) (h4 : dir_Entry_may.f a b = some true) (h5 : l0.length < 63) (hi : i ≤ l0.length) :
    Calls Tryd.prog 20 #[.slice A0 l0.length c0, .agg #[.string a, .int .i64 b]] w fun e w' => ∃ v0_ : Value, e = .returned (.tuple #[v0_, .int .i64 0]) ∧ Kd.R k42 42 w' w.heap.size (fun _ => True) v0_ (l0.take i ++ [⟨a, b⟩] ++ l0.drop i) ∧ Below w.heap.size w w' := by
  have HR0 := Aside0.mk hr0
  have HC0 := Aside0.mk hc0
  have A1 := Aside0.mk h1
  have A2 := Aside0.mk h2
  have A3 := Aside0.mk h3
  have A4 := Aside0.mk h4
  have A5 := Aside0.mk h5
  have A6 := Aside0.mk hi
  have hdl : decide (63 ≤ (l0.length : Int)) = false := by simp; omega
  clear hr0 hc0 h1 h2 h3 h4 h5 hi
  go_enter Tryd.func20, Tryd.ntmps20
  go_wp2_with (first
    | (go_at_call 15; refine (dir_Check.calls k A0 c0 l0 _ _ (Kd.C_below HR0.out ((Below.refl _ _).alloc (Nat.le_refl _) _)) HC0.out A1.out).mono ?_; rintro e w1 ⟨rfl, hb1⟩; have HB1 := Aside0.mk (below_step ((Below.refl w.heap.size w).alloc (Nat.le_refl _) _) hb1); have HX1 := Aside0.mk ((hb1.block w.heap.size (by simp)).trans (heap_alloc_new w (.cells #[.string a, .int .i64 b] 42))); have hxa := cell_of_row w1 w.heap.size 0 _ _ _ HX1.out; have hxb := cell_of_row w1 w.heap.size 1 _ _ _ HX1.out; simp only [List.getElem?_toArray, List.getElem?_cons_zero, List.getElem?_cons_succ] at hxa hxb; clear hb1)
    | (go_at_call 21; refine (dir_Name.calls a _ _ A2.out).mono ?_; rintro e w2 ⟨rfl, ⟨nd2, rfl⟩⟩)
    | (go_at_call 29; refine (dir_search.calls A0 c0 l0 a _ _ _ (Kd.C_below HR0.out (pw_below_drewN HB1.out _)) HC0.out A3.out).mono ?_; rintro e w3 ⟨rfl, hb3⟩; have HB3 := Aside0.mk (below_step (pw_below_drewN HB1.out _) hb3); have HX3 := Aside0.mk ((hb3.block w.heap.size (by have := (Array.getElem?_eq_some_iff.1 HX1.out).1; simpa using this)).trans HX1.out); have hxa3 := cell_of_row w3 w.heap.size 0 _ _ _ HX3.out; have hxb3 := cell_of_row w3 w.heap.size 1 _ _ _ HX3.out; simp only [List.getElem?_toArray, List.getElem?_cons_zero, List.getElem?_cons_succ] at hxa3 hxb3; clear hb3)
    | (go_at_call 22; refine (dir_Entry_may.calls a b _ _ A4.out).mono ?_; rintro e w4 ⟨rfl, hb4⟩; have HB4 := Aside0.mk (below_step HB3.out hb4); have HX4 := Aside0.mk ((hb4.block w.heap.size ((Array.getElem?_eq_some_iff.1 HX3.out).1)).trans HX3.out); have hxa4 := cell_of_row w4 w.heap.size 0 _ _ _ HX4.out; have hxb4 := cell_of_row w4 w.heap.size 1 _ _ _ HX4.out; simp only [List.getElem?_toArray, List.getElem?_cons_zero, List.getElem?_cons_succ] at hxa4 hxb4; clear hb4)
    | (go_at_call 31; refine (clone34 A0 c0 l0 _ (Kd.C_below HR0.out HB4.out) (by have := A5.out; omega)).mono ?_; rintro e w5 ⟨v5, rfl, ho5, hb5⟩; have HO5 := Aside0.mk ho5; have HB5 := Aside0.mk (below_step HB4.out hb5); have HX5 := Aside0.mk ((hb5.block w.heap.size ((Array.getElem?_eq_some_iff.1 HX4.out).1)).trans HX4.out); have hxa5 := cell_of_row w5 w.heap.size 0 _ _ _ HX5.out; have hxb5 := cell_of_row w5 w.heap.size 1 _ _ _ HX5.out; simp only [List.getElem?_toArray, List.getElem?_cons_zero, List.getElem?_cons_succ] at hxa5 hxb5; clear ho5 hb5))
  have h4lt : w.heap.size < w4.heap.size := (Array.getElem?_eq_some_iff.1 HX4.out).1
  go_region_with (first
    | (go_at_call 31; refine (clone34 A0 c0 l0 _ (Kd.C_below HR0.out (by first | exact HB4.out.drew | exact HB4.out.drew.alloc HB4.out.size _)) (by have := A5.out; omega)).mono ?_; rintro e w5 ⟨v5, rfl, ho5, hb5⟩; obtain ⟨A5', c5, rfl, hl5, _⟩ := Kd.R_reads ho5; have HO5 := Aside0.mk ho5; have HB5 := Aside0.mk hb5; have HBW := Aside0.mk (below_step (show Below w.heap.size w _ by first | exact HB4.out.drew | exact HB4.out.drew.alloc HB4.out.size _) hb5); have hxa5 := hb5.cell (p := ⟨w.heap.size, 0, none⟩) (by simp; omega); have hxb5 := hb5.cell (p := ⟨w.heap.size, 1, none⟩) (by simp; omega); simp only [World.cell?_drew, hxa4, hxb4] at hxa5 hxb5; clear ho5 hb5)
    | (go_at_call 30; first
        | (refine (insert34 w.heap.size w5.heap.size A5' l0.length c5 i l0 ⟨a, b⟩ _ (Kd.R_lower (Kd.R_below HO5.out ((Below.refl _ _).alloc (Nat.le_refl _) _)) HB4.out.size) rfl A6.out (Nat.le_trans HBW.out.size (by simp)) (by have := A5.out; omega) (heap_alloc_new w5 _) (Kd.R_ne_new HO5.out 0)).mono ?_; rintro e w6 ⟨v6, rfl, ho6, hb6⟩; have HO6 := Aside0.mk ho6; have HB6 := Aside0.mk ((HBW.out.alloc HBW.out.size _).trans hb6); clear ho6 hb6)
        | (refine (insert34 w.heap.size w4.heap.size A5' l0.length c5 i l0 ⟨a, b⟩ _ (Kd.R_lower HO5.out (Nat.le_trans HB4.out.size (by simp))) rfl A6.out HBW.out.size (by have := A5.out; omega) ((HB5.out.block w4.heap.size (by simp)).trans (heap_alloc_new w4.drew _)) (fun e_ => absurd (Kd.R_base HO5.out _ e_.symm) (by show ¬ (w4.alloc _).heap.size ≤ w4.heap.size; simp))).mono ?_; rintro e w6 ⟨v6, rfl, ho6, hb6⟩; have HO6 := Aside0.mk ho6; have HB6 := Aside0.mk (HBW.out.trans hb6); clear ho6 hb6)))
  all_goals go_wp2
  all_goals go_ret2
  all_goals exact ⟨_, rfl, HO6.out, HB6.out⟩
theorem dir_Add.calls (k : Nat) (A0 : Option Addr) (c0 : Nat) (l0 : List S42) (a1_0 : ByteArray) (a1_1 : Int) (r1 : List S42) (r2 : Int) (w : World) (hr0 : Kd.C k42 w A0 l0.length l0) (hc0 : l0.length ≤ c0) (h : dir_Add.f k l0 a1_0 a1_1 = some (r1, r2)) :
    Calls Tryd.prog 20 #[.slice A0 l0.length c0, .agg #[.string a1_0, .int .i64 a1_1]] w fun e w' => ∃ v0_ : Value, e = .returned (.tuple #[v0_, .int .i64 r2]) ∧ Kd.R k42 42 w' w.heap.size (fun _ => True) v0_ r1 ∧ Below w.heap.size w w' := by
  unfold dir_Add.f at h
  obtain ⟨t, h1, h⟩ := Option.bind_eq_some_iff.1 h
  by_cases ht : t = 0
  case neg =>
    rw [if_neg ht] at h
    obtain ⟨rfl, rfl⟩ := Prod.mk.inj (Option.some.inj h)
    exact add_e1 k A0 c0 l0 a1_0 a1_1 t w hr0 hc0 h1 ht
  subst ht
  rw [if_pos rfl] at h
  obtain ⟨u, h2, h⟩ := Option.bind_eq_some_iff.1 h
  by_cases hu : u = 0
  case neg =>
    rw [if_neg hu] at h
    obtain ⟨rfl, rfl⟩ := Prod.mk.inj (Option.some.inj h)
    exact add_e2 k A0 c0 l0 a1_0 a1_1 u w hr0 hc0 h1 h2 hu
  subst hu
  rw [if_pos rfl] at h
  obtain ⟨⟨i, is⟩, h3, h⟩ := Option.bind_eq_some_iff.1 h
  obtain ⟨m, h4, h⟩ := Option.bind_eq_some_iff.1 h
  cases m with
  | false =>
    rw [if_neg (by decide)] at h
    obtain ⟨rfl, rfl⟩ := Prod.mk.inj (Option.some.inj h)
    exact add_e3 k A0 c0 l0 a1_0 a1_1 i is w hr0 hc0 h1 h2 h3 h4
  | true =>
    rw [if_pos rfl] at h
    simp only at h
    cases is with
    | true =>
      rw [if_pos rfl] at h
      obtain ⟨rfl, rfl⟩ := Prod.mk.inj (Option.some.inj h)
      exact add_e4 k A0 c0 l0 a1_0 a1_1 i w hr0 hc0 h1 h2 h3 h4
    | false =>
      rw [if_neg (by decide)] at h
      by_cases h5 : 63 ≤ l0.length
      · rw [if_pos h5] at h
        obtain ⟨rfl, rfl⟩ := Prod.mk.inj (Option.some.inj h)
        exact add_e5 k A0 c0 l0 a1_0 a1_1 i w hr0 hc0 h1 h2 h3 h4 h5
      · rw [if_neg h5] at h
        by_cases h6 : 0 ≤ i ∧ i.toNat ≤ l0.length
        · rw [if_pos h6] at h
          obtain ⟨rfl, rfl⟩ := Prod.mk.inj (Option.some.inj h)
          obtain ⟨n, rfl⟩ : ∃ n : Nat, i = (n : Int) := ⟨i.toNat, by omega⟩
          have e : ((n : Int)).toNat = n := by omega
          rw [e]
          exact add_main k A0 c0 l0 a1_0 a1_1 n w hr0 hc0 h1 h2 h3 h4 (by omega) (by omega)
        · rw [if_neg h6] at h; cases h
end

/-! ### undercroftlaw08_alive: function 14 -/
def undercroftlaw08_alive.f (k : Nat)  : Option (Bool) := (dir_Add.f k ([] : List (S42)) (⟨#[98]⟩ : ByteArray) 2).bind fun bt176 => ((dir_Add.f k bt176.1 (⟨#[97]⟩ : ByteArray) 3).bind fun bt180 => ((undercroftlaw08_num.f bt176.2).bind fun t184 => ((undercroftlaw08_num.f bt180.2).bind fun t185 => (if (wrap64 (t184 + t185)) = 0 then (if (bt180.1.length : Int) = 2 then (if 0 < (bt180.1.length : Int) then (if ((rd_T42 bt180.1 0).f0).toList = ([97] : List UInt8) then ((dir_Name.f (⟨#[97, 47, 98]⟩ : ByteArray)).bind fun t187 => ((undercroftlaw08_num.f t187).bind fun t188 => (some (t188 == 106)))) else (some false)) else (none)) else (some false)) else (some false)))))
theorem undercroftlaw08_alive.mono : ∀ k, LeO (undercroftlaw08_alive.f k ) (undercroftlaw08_alive.f (k + 1) ) := by
  intro  k
  unfold undercroftlaw08_alive.f
  repeat' first
      | (with_reducible exact dir_Add.mono _ _ _ _)
      | (with_reducible exact LeO.refl _)
      | (with_reducible exact LeO.none _)
      | (with_reducible refine LeO.ite ?_ ?_)
      | (with_reducible refine LeO.bind ?_ (fun _ => ?_))
      | exact dir_Add.mono _ _ _ _
      | exact LeO.none _
      | refine LeO.ite ?_ ?_
      | refine LeO.bind ?_ (fun _ => ?_)
set_option maxHeartbeats 8000000 in
set_option maxRecDepth 100000 in
theorem undercroftlaw08_alive.calls (k : Nat)  (r : Bool) (w : World) (h : undercroftlaw08_alive.f k  = some r) :
    Calls Tryd.prog 14 #[] w fun e w' => e = .returned (.bool r) ∧ Below w.heap.size w w' := by
  have hu42 := Tryd.underlying42
  have HB := Aside0.mk (Below.refl w.heap.size w)
  have H : ((dir_Add.f k ([] : List (S42)) (⟨#[98]⟩ : ByteArray) 2).bind fun bt176 => ((dir_Add.f k bt176.1 (⟨#[97]⟩ : ByteArray) 3).bind fun bt180 => ((undercroftlaw08_num.f bt176.2).bind fun t184 => ((undercroftlaw08_num.f bt180.2).bind fun t185 => (if (wrap64 (t184 + t185)) = 0 then (if (bt180.1.length : Int) = 2 then (if 0 < (bt180.1.length : Int) then (if ((rd_T42 bt180.1 0).f0).toList = ([97] : List UInt8) then ((dir_Name.f (⟨#[97, 47, 98]⟩ : ByteArray)).bind fun t187 => ((undercroftlaw08_num.f t187).bind fun t188 => (some (t188 == 106)))) else (some false)) else (none)) else (some false)) else (some false)))))) = some r := h
  clear h
  replace H := Option.bind_eq_some_iff.mp H
  obtain ⟨⟨t176, t179⟩, A10, H⟩ := H
  replace H : ((dir_Add.f k t176 (⟨#[97]⟩ : ByteArray) 3).bind fun bt180 => ((undercroftlaw08_num.f t179).bind fun t184 => ((undercroftlaw08_num.f bt180.2).bind fun t185 => (if (wrap64 (t184 + t185)) = 0 then (if (bt180.1.length : Int) = 2 then (if 0 < (bt180.1.length : Int) then (if ((rd_T42 bt180.1 0).f0).toList = ([97] : List UInt8) then ((dir_Name.f (⟨#[97, 47, 98]⟩ : ByteArray)).bind fun t187 => ((undercroftlaw08_num.f t187).bind fun t188 => (some (t188 == 106)))) else (some false)) else (none)) else (some false)) else (some false))))) = some r := H
  have A1 := Aside0.mk A10
  clear A10
  replace H := Option.bind_eq_some_iff.mp H
  obtain ⟨⟨t180, t183⟩, A20, H⟩ := H
  replace H : ((undercroftlaw08_num.f t179).bind fun t184 => ((undercroftlaw08_num.f t183).bind fun t185 => (if (wrap64 (t184 + t185)) = 0 then (if (t180.length : Int) = 2 then (if 0 < (t180.length : Int) then (if ((rd_T42 t180 0).f0).toList = ([97] : List UInt8) then ((dir_Name.f (⟨#[97, 47, 98]⟩ : ByteArray)).bind fun t187 => ((undercroftlaw08_num.f t187).bind fun t188 => (some (t188 == 106)))) else (some false)) else (none)) else (some false)) else (some false)))) = some r := H
  have A2 := Aside0.mk A20
  clear A20
  replace H := Option.bind_eq_some_iff.mp H
  obtain ⟨t184, A30, H⟩ := H
  replace H : ((undercroftlaw08_num.f t183).bind fun t185 => (if (wrap64 (t184 + t185)) = 0 then (if (t180.length : Int) = 2 then (if 0 < (t180.length : Int) then (if ((rd_T42 t180 0).f0).toList = ([97] : List UInt8) then ((dir_Name.f (⟨#[97, 47, 98]⟩ : ByteArray)).bind fun t187 => ((undercroftlaw08_num.f t187).bind fun t188 => (some (t188 == 106)))) else (some false)) else (none)) else (some false)) else (some false))) = some r := H
  have A3 := Aside0.mk A30
  clear A30
  replace H := Option.bind_eq_some_iff.mp H
  obtain ⟨t185, A40, H⟩ := H
  replace H : (if (wrap64 (t184 + t185)) = 0 then (if (t180.length : Int) = 2 then (if 0 < (t180.length : Int) then (if ((rd_T42 t180 0).f0).toList = ([97] : List UInt8) then ((dir_Name.f (⟨#[97, 47, 98]⟩ : ByteArray)).bind fun t187 => ((undercroftlaw08_num.f t187).bind fun t188 => (some (t188 == 106)))) else (some false)) else (none)) else (some false)) else (some false)) = some r := H
  have A4 := Aside0.mk A40
  clear A40
  by_cases c5 : (wrap64 (t184 + t185)) = 0
  · rw [if_pos c5] at H
    have c5b0 : ((wrap64 (t184 + t185)) == 0) = true := beq_iff_eq.mpr c5
    have c5b1 : ((wrap64 (t184 + t185)) != 0) = false := bne_eq_false_iff_eq.mpr c5
    clear c5
    by_cases c6 : (t180.length : Int) = 2
    · rw [if_pos c6] at H
      have c6b0 : ((t180.length : Int) == 2) = true := beq_iff_eq.mpr c6
      have c6b1 : ((t180.length : Int) != 2) = false := bne_eq_false_iff_eq.mpr c6
      clear c6
      by_cases c7 : 0 < (t180.length : Int)
      · rw [if_pos c7] at H
        have c7b0 : decide (0 < (t180.length : Int)) = true := decide_eq_true c7
        have c7b1 : decide (0 < t180.length) = true := decide_eq_true (by omega)
        clear c7
        by_cases c8 : ((rd_T42 t180 0).f0).toList = ([97] : List UInt8)
        · rw [if_pos c8] at H
          have c8b0 : (((rd_T42 t180 0).f0).toList == ([97] : List UInt8)) = true := beq_iff_eq.mpr c8
          have c8b1 : (((rd_T42 t180 0).f0).toList != ([97] : List UInt8)) = false := bne_eq_false_iff_eq.mpr c8
          clear c8
          replace H := Option.bind_eq_some_iff.mp H
          obtain ⟨t187, A90, H⟩ := H
          replace H : ((undercroftlaw08_num.f t187).bind fun t188 => (some (t188 == 106))) = some r := H
          have A9 := Aside0.mk A90
          clear A90
          replace H := Option.bind_eq_some_iff.mp H
          obtain ⟨t188, A100, H⟩ := H
          replace H : (some (t188 == 106)) = some r := H
          have A10 := Aside0.mk A100
          clear A100
          obtain rfl := Option.some.inj H
          go_enter Tryd.func14, Tryd.ntmps14
          go_wp2_with (first | ((with_reducible refine gate_callee (f := 20) rfl ?_); refine goesL_ (some 6) rfl rfl Tryd.func20 (by kernel_rfl) rfl #[.slice none 0 0, .agg #[.string (⟨#[98]⟩ : ByteArray), .int .i64 2]] rfl (by (try simp only [List.map_toArray, List.map_cons, List.map_nil]); first | done | rfl | (simp only [List.length_drop, List.length_take]; rfl)) ?_; (refine (dir_Add.calls k _ _ ([] : List (S42)) (⟨#[98]⟩ : ByteArray) 2 t176 t179 _ ?side1 ?side2 A1.out).mono ?_); (case side1 => exact Kd.C_nil _ _); (case side2 => exact Nat.le_refl _); rintro e w11 ⟨v177, rfl, ho0, hb⟩; refine ⟨_, rfl, ?_⟩; have n0_ := Aside0.mk (Kd.R_lower ho0 (below_size (by repeat (first | (with_reducible first | exact HB.out | apply below_alloc | apply pw_below_drewN | apply below_drew1) | exact HB.out)))); have n1_ := Aside0.mk (below_step (by repeat (first | (with_reducible first | exact HB.out | apply below_alloc | apply pw_below_drewN | apply below_drew1) | exact HB.out)) hb); clear HB; have HO178 := n0_; have HB := n1_; clear n0_ n1_; (try clear hb); (try clear hb2); (try clear hk); (try clear hi); (try clear ho0); obtain ⟨Ao12, co12, eo12⟩ := Kd.R_slice HO178.out; subst eo12) | ((with_reducible refine gate_callee (f := 20) rfl ?_); refine goesL_ (some 12) rfl rfl Tryd.func20 (by kernel_rfl) rfl #[.slice Ao12 t176.length co12, .agg #[.string (⟨#[97]⟩ : ByteArray), .int .i64 3]] rfl (by (try simp only [List.map_toArray, List.map_cons, List.map_nil]); first | done | rfl | (simp only [List.length_drop, List.length_take]; rfl)) ?_; (with_reducible refine (dir_Add.calls k _ _ t176 (⟨#[97]⟩ : ByteArray) 3 t180 t183 _ ?side1 ?side2 A2.out).mono ?_); (case side1 => repeat (first | exact (Kd.R_reads' HO178.out).2.2 | (with_reducible refine Kd.C_alloc ?_ _) | (with_reducible refine Kd.C_drewN ?_ _) | (with_reducible refine Kd.C_drew ?_))); (case side2 => exact (Kd.R_reads' HO178.out).2.1); rintro e w13 ⟨v181, rfl, ho0, hb⟩; refine ⟨_, rfl, ?_⟩; have n0_ := Aside0.mk (Kd.R_elder' (by (with_reducible repeat (first | apply Kd.R_alloc | apply Kd.R_drewN | apply Kd.R_drew)); exact HO178.out) (Kd.R_base ho0) hb); have n1_ := Aside0.mk (Kd.R_lower (Kd.R_new' ho0 (Kd.R_lt (by (with_reducible repeat (first | apply Kd.R_alloc | apply Kd.R_drewN | apply Kd.R_drew)); exact HO178.out))) (below_size (by repeat (first | (with_reducible first | exact HB.out | apply below_alloc | apply pw_below_drewN | apply below_drew1) | exact HB.out)))); have n2_ := Aside0.mk (below_step (by repeat (first | (with_reducible first | exact HB.out | apply below_alloc | apply pw_below_drewN | apply below_drew1) | exact HB.out)) hb); clear HO178; clear HB; have HO178 := n0_; have HO182 := n1_; have HB := n2_; clear n0_ n1_ n2_; (try clear hb); (try clear hb2); (try clear hk); (try clear hi); (try clear ho0)) | ((with_reducible refine gate_callee (f := 12) rfl ?_); refine goesL_ (some 16) rfl rfl Tryd.func12 (by kernel_rfl) rfl #[.int .i64 t179] rfl (by (try simp only [List.map_toArray, List.map_cons, List.map_nil]); first | done | rfl | (simp only [List.length_drop, List.length_take]; rfl)) ?_; (with_reducible refine (undercroftlaw08_num.calls t179 t184 _ A3.out).mono ?_); rintro e w' ⟨rfl, ⟨nd, rfl⟩⟩; refine ⟨_, rfl, ?_⟩) | ((with_reducible refine gate_callee (f := 12) rfl ?_); refine goesL_ (some 18) rfl rfl Tryd.func12 (by kernel_rfl) rfl #[.int .i64 t183] rfl (by (try simp only [List.map_toArray, List.map_cons, List.map_nil]); first | done | rfl | (simp only [List.length_drop, List.length_take]; rfl)) ?_; (with_reducible refine (undercroftlaw08_num.calls t183 t185 _ A4.out).mono ?_); rintro e w' ⟨rfl, ⟨nd, rfl⟩⟩; refine ⟨_, rfl, ?_⟩; obtain ⟨Ao14, co14, eo14⟩ := Kd.R_slice HO182.out; subst eo14; have p186 : 0 ≤ (0 : Int) := (by omega); have q186 : 0 < (t180.length : Int) := of_decide_eq_true (by first | (with_reducible assumption) | assumption); obtain ⟨ad186, e186, hx186_0, hx186_1⟩ := at_T42 (Kd.R_reads' HO182.out).2.2 0 p186 q186; cases e186; have qi186 : (0 < t180.length) = True := eq_true (by omega); (try rw [show ((0 : Int)).toNat = 0 from rfl] at hx186_0); (try rw [show 0 * 2 = 0 from rfl] at hx186_0); (try rw [Addr.add_zero'] at hx186_0); (try rw [show ((0 : Int)).toNat = 0 from rfl] at hx186_1); (try rw [show 0 * 2 = 0 from rfl] at hx186_1); (try rw [Addr.add_zero'] at hx186_1); replace p186 := eq_true p186; replace q186 := eq_true q186) | (go_at_call 21; (with_reducible refine (dir_Name.calls (⟨#[97, 47, 98]⟩ : ByteArray) t187 _ A9.out).mono ?_); rintro e w' ⟨rfl, ⟨nd, rfl⟩⟩) | (go_at_call 12; (with_reducible refine (undercroftlaw08_num.calls t187 t188 _ A10.out).mono ?_); rintro e w' ⟨rfl, ⟨nd, rfl⟩⟩))
          go_ret
          exact ⟨by first | rfl | (simp [errW_none, errW_some] <;> rfl) | (simp [*, errW_none, errW_some] <;> rfl) | (exfalso; simp only [beq_iff_eq, decide_eq_true_eq] at *; omega), by repeat (first | (with_reducible first | exact HB.out | apply below_alloc | apply pw_below_drewN | apply below_drew1) | exact HB.out)⟩
        · rw [if_neg c8] at H
          have c8b0 : (((rd_T42 t180 0).f0).toList == ([97] : List UInt8)) = false := beq_eq_false_iff_ne.mpr c8
          have c8b1 : (((rd_T42 t180 0).f0).toList != ([97] : List UInt8)) = true := bne_iff_ne.mpr c8
          obtain rfl := Option.some.inj H
          go_enter Tryd.func14, Tryd.ntmps14
          go_wp2_with (first | ((with_reducible refine gate_callee (f := 20) rfl ?_); refine goesL_ (some 6) rfl rfl Tryd.func20 (by kernel_rfl) rfl #[.slice none 0 0, .agg #[.string (⟨#[98]⟩ : ByteArray), .int .i64 2]] rfl (by (try simp only [List.map_toArray, List.map_cons, List.map_nil]); first | done | rfl | (simp only [List.length_drop, List.length_take]; rfl)) ?_; (refine (dir_Add.calls k _ _ ([] : List (S42)) (⟨#[98]⟩ : ByteArray) 2 t176 t179 _ ?side1 ?side2 A1.out).mono ?_); (case side1 => exact Kd.C_nil _ _); (case side2 => exact Nat.le_refl _); rintro e w15 ⟨v177, rfl, ho0, hb⟩; refine ⟨_, rfl, ?_⟩; have n0_ := Aside0.mk (Kd.R_lower ho0 (below_size (by repeat (first | (with_reducible first | exact HB.out | apply below_alloc | apply pw_below_drewN | apply below_drew1) | exact HB.out)))); have n1_ := Aside0.mk (below_step (by repeat (first | (with_reducible first | exact HB.out | apply below_alloc | apply pw_below_drewN | apply below_drew1) | exact HB.out)) hb); clear HB; have HO178 := n0_; have HB := n1_; clear n0_ n1_; (try clear hb); (try clear hb2); (try clear hk); (try clear hi); (try clear ho0); obtain ⟨Ao16, co16, eo16⟩ := Kd.R_slice HO178.out; subst eo16) | ((with_reducible refine gate_callee (f := 20) rfl ?_); refine goesL_ (some 12) rfl rfl Tryd.func20 (by kernel_rfl) rfl #[.slice Ao16 t176.length co16, .agg #[.string (⟨#[97]⟩ : ByteArray), .int .i64 3]] rfl (by (try simp only [List.map_toArray, List.map_cons, List.map_nil]); first | done | rfl | (simp only [List.length_drop, List.length_take]; rfl)) ?_; (with_reducible refine (dir_Add.calls k _ _ t176 (⟨#[97]⟩ : ByteArray) 3 t180 t183 _ ?side1 ?side2 A2.out).mono ?_); (case side1 => repeat (first | exact (Kd.R_reads' HO178.out).2.2 | (with_reducible refine Kd.C_alloc ?_ _) | (with_reducible refine Kd.C_drewN ?_ _) | (with_reducible refine Kd.C_drew ?_))); (case side2 => exact (Kd.R_reads' HO178.out).2.1); rintro e w17 ⟨v181, rfl, ho0, hb⟩; refine ⟨_, rfl, ?_⟩; have n0_ := Aside0.mk (Kd.R_elder' (by (with_reducible repeat (first | apply Kd.R_alloc | apply Kd.R_drewN | apply Kd.R_drew)); exact HO178.out) (Kd.R_base ho0) hb); have n1_ := Aside0.mk (Kd.R_lower (Kd.R_new' ho0 (Kd.R_lt (by (with_reducible repeat (first | apply Kd.R_alloc | apply Kd.R_drewN | apply Kd.R_drew)); exact HO178.out))) (below_size (by repeat (first | (with_reducible first | exact HB.out | apply below_alloc | apply pw_below_drewN | apply below_drew1) | exact HB.out)))); have n2_ := Aside0.mk (below_step (by repeat (first | (with_reducible first | exact HB.out | apply below_alloc | apply pw_below_drewN | apply below_drew1) | exact HB.out)) hb); clear HO178; clear HB; have HO178 := n0_; have HO182 := n1_; have HB := n2_; clear n0_ n1_ n2_; (try clear hb); (try clear hb2); (try clear hk); (try clear hi); (try clear ho0)) | ((with_reducible refine gate_callee (f := 12) rfl ?_); refine goesL_ (some 16) rfl rfl Tryd.func12 (by kernel_rfl) rfl #[.int .i64 t179] rfl (by (try simp only [List.map_toArray, List.map_cons, List.map_nil]); first | done | rfl | (simp only [List.length_drop, List.length_take]; rfl)) ?_; (with_reducible refine (undercroftlaw08_num.calls t179 t184 _ A3.out).mono ?_); rintro e w' ⟨rfl, ⟨nd, rfl⟩⟩; refine ⟨_, rfl, ?_⟩) | ((with_reducible refine gate_callee (f := 12) rfl ?_); refine goesL_ (some 18) rfl rfl Tryd.func12 (by kernel_rfl) rfl #[.int .i64 t183] rfl (by (try simp only [List.map_toArray, List.map_cons, List.map_nil]); first | done | rfl | (simp only [List.length_drop, List.length_take]; rfl)) ?_; (with_reducible refine (undercroftlaw08_num.calls t183 t185 _ A4.out).mono ?_); rintro e w' ⟨rfl, ⟨nd, rfl⟩⟩; refine ⟨_, rfl, ?_⟩; obtain ⟨Ao18, co18, eo18⟩ := Kd.R_slice HO182.out; subst eo18; have p186 : 0 ≤ (0 : Int) := (by omega); have q186 : 0 < (t180.length : Int) := of_decide_eq_true (by first | (with_reducible assumption) | assumption); obtain ⟨ad186, e186, hx186_0, hx186_1⟩ := at_T42 (Kd.R_reads' HO182.out).2.2 0 p186 q186; cases e186; have qi186 : (0 < t180.length) = True := eq_true (by omega); (try rw [show ((0 : Int)).toNat = 0 from rfl] at hx186_0); (try rw [show 0 * 2 = 0 from rfl] at hx186_0); (try rw [Addr.add_zero'] at hx186_0); (try rw [show ((0 : Int)).toNat = 0 from rfl] at hx186_1); (try rw [show 0 * 2 = 0 from rfl] at hx186_1); (try rw [Addr.add_zero'] at hx186_1); replace p186 := eq_true p186; replace q186 := eq_true q186))
          go_ret
          exact ⟨by first | rfl | (simp [errW_none, errW_some] <;> rfl) | (simp [*, errW_none, errW_some] <;> rfl) | (exfalso; simp only [beq_iff_eq, decide_eq_true_eq] at *; omega), by repeat (first | (with_reducible first | exact HB.out | apply below_alloc | apply pw_below_drewN | apply below_drew1) | exact HB.out)⟩
      · rw [if_neg c7] at H
        exact absurd H (by simp)
    · rw [if_neg c6] at H
      have c6b0 : ((t180.length : Int) == 2) = false := beq_eq_false_iff_ne.mpr c6
      have c6b1 : ((t180.length : Int) != 2) = true := bne_iff_ne.mpr c6
      obtain rfl := Option.some.inj H
      go_enter Tryd.func14, Tryd.ntmps14
      go_wp2_with (first | ((with_reducible refine gate_callee (f := 20) rfl ?_); refine goesL_ (some 6) rfl rfl Tryd.func20 (by kernel_rfl) rfl #[.slice none 0 0, .agg #[.string (⟨#[98]⟩ : ByteArray), .int .i64 2]] rfl (by (try simp only [List.map_toArray, List.map_cons, List.map_nil]); first | done | rfl | (simp only [List.length_drop, List.length_take]; rfl)) ?_; (refine (dir_Add.calls k _ _ ([] : List (S42)) (⟨#[98]⟩ : ByteArray) 2 t176 t179 _ ?side1 ?side2 A1.out).mono ?_); (case side1 => exact Kd.C_nil _ _); (case side2 => exact Nat.le_refl _); rintro e w19 ⟨v177, rfl, ho0, hb⟩; refine ⟨_, rfl, ?_⟩; have n0_ := Aside0.mk (Kd.R_lower ho0 (below_size (by repeat (first | (with_reducible first | exact HB.out | apply below_alloc | apply pw_below_drewN | apply below_drew1) | exact HB.out)))); have n1_ := Aside0.mk (below_step (by repeat (first | (with_reducible first | exact HB.out | apply below_alloc | apply pw_below_drewN | apply below_drew1) | exact HB.out)) hb); clear HB; have HO178 := n0_; have HB := n1_; clear n0_ n1_; (try clear hb); (try clear hb2); (try clear hk); (try clear hi); (try clear ho0); obtain ⟨Ao20, co20, eo20⟩ := Kd.R_slice HO178.out; subst eo20) | ((with_reducible refine gate_callee (f := 20) rfl ?_); refine goesL_ (some 12) rfl rfl Tryd.func20 (by kernel_rfl) rfl #[.slice Ao20 t176.length co20, .agg #[.string (⟨#[97]⟩ : ByteArray), .int .i64 3]] rfl (by (try simp only [List.map_toArray, List.map_cons, List.map_nil]); first | done | rfl | (simp only [List.length_drop, List.length_take]; rfl)) ?_; (with_reducible refine (dir_Add.calls k _ _ t176 (⟨#[97]⟩ : ByteArray) 3 t180 t183 _ ?side1 ?side2 A2.out).mono ?_); (case side1 => repeat (first | exact (Kd.R_reads' HO178.out).2.2 | (with_reducible refine Kd.C_alloc ?_ _) | (with_reducible refine Kd.C_drewN ?_ _) | (with_reducible refine Kd.C_drew ?_))); (case side2 => exact (Kd.R_reads' HO178.out).2.1); rintro e w21 ⟨v181, rfl, ho0, hb⟩; refine ⟨_, rfl, ?_⟩; have n0_ := Aside0.mk (Kd.R_elder' (by (with_reducible repeat (first | apply Kd.R_alloc | apply Kd.R_drewN | apply Kd.R_drew)); exact HO178.out) (Kd.R_base ho0) hb); have n1_ := Aside0.mk (Kd.R_lower (Kd.R_new' ho0 (Kd.R_lt (by (with_reducible repeat (first | apply Kd.R_alloc | apply Kd.R_drewN | apply Kd.R_drew)); exact HO178.out))) (below_size (by repeat (first | (with_reducible first | exact HB.out | apply below_alloc | apply pw_below_drewN | apply below_drew1) | exact HB.out)))); have n2_ := Aside0.mk (below_step (by repeat (first | (with_reducible first | exact HB.out | apply below_alloc | apply pw_below_drewN | apply below_drew1) | exact HB.out)) hb); clear HO178; clear HB; have HO178 := n0_; have HO182 := n1_; have HB := n2_; clear n0_ n1_ n2_; (try clear hb); (try clear hb2); (try clear hk); (try clear hi); (try clear ho0)) | ((with_reducible refine gate_callee (f := 12) rfl ?_); refine goesL_ (some 16) rfl rfl Tryd.func12 (by kernel_rfl) rfl #[.int .i64 t179] rfl (by (try simp only [List.map_toArray, List.map_cons, List.map_nil]); first | done | rfl | (simp only [List.length_drop, List.length_take]; rfl)) ?_; (with_reducible refine (undercroftlaw08_num.calls t179 t184 _ A3.out).mono ?_); rintro e w' ⟨rfl, ⟨nd, rfl⟩⟩; refine ⟨_, rfl, ?_⟩) | ((with_reducible refine gate_callee (f := 12) rfl ?_); refine goesL_ (some 18) rfl rfl Tryd.func12 (by kernel_rfl) rfl #[.int .i64 t183] rfl (by (try simp only [List.map_toArray, List.map_cons, List.map_nil]); first | done | rfl | (simp only [List.length_drop, List.length_take]; rfl)) ?_; (with_reducible refine (undercroftlaw08_num.calls t183 t185 _ A4.out).mono ?_); rintro e w' ⟨rfl, ⟨nd, rfl⟩⟩; refine ⟨_, rfl, ?_⟩; obtain ⟨Ao22, co22, eo22⟩ := Kd.R_slice HO182.out; subst eo22))
      go_ret
      exact ⟨by first | rfl | (simp [errW_none, errW_some] <;> rfl) | (simp [*, errW_none, errW_some] <;> rfl) | (exfalso; simp only [beq_iff_eq, decide_eq_true_eq] at *; omega), by repeat (first | (with_reducible first | exact HB.out | apply below_alloc | apply pw_below_drewN | apply below_drew1) | exact HB.out)⟩
  · rw [if_neg c5] at H
    have c5b0 : ((wrap64 (t184 + t185)) == 0) = false := beq_eq_false_iff_ne.mpr c5
    have c5b1 : ((wrap64 (t184 + t185)) != 0) = true := bne_iff_ne.mpr c5
    obtain rfl := Option.some.inj H
    go_enter Tryd.func14, Tryd.ntmps14
    go_wp2_with (first | ((with_reducible refine gate_callee (f := 20) rfl ?_); refine goesL_ (some 6) rfl rfl Tryd.func20 (by kernel_rfl) rfl #[.slice none 0 0, .agg #[.string (⟨#[98]⟩ : ByteArray), .int .i64 2]] rfl (by (try simp only [List.map_toArray, List.map_cons, List.map_nil]); first | done | rfl | (simp only [List.length_drop, List.length_take]; rfl)) ?_; (refine (dir_Add.calls k _ _ ([] : List (S42)) (⟨#[98]⟩ : ByteArray) 2 t176 t179 _ ?side1 ?side2 A1.out).mono ?_); (case side1 => exact Kd.C_nil _ _); (case side2 => exact Nat.le_refl _); rintro e w23 ⟨v177, rfl, ho0, hb⟩; refine ⟨_, rfl, ?_⟩; have n0_ := Aside0.mk (Kd.R_lower ho0 (below_size (by repeat (first | (with_reducible first | exact HB.out | apply below_alloc | apply pw_below_drewN | apply below_drew1) | exact HB.out)))); have n1_ := Aside0.mk (below_step (by repeat (first | (with_reducible first | exact HB.out | apply below_alloc | apply pw_below_drewN | apply below_drew1) | exact HB.out)) hb); clear HB; have HO178 := n0_; have HB := n1_; clear n0_ n1_; (try clear hb); (try clear hb2); (try clear hk); (try clear hi); (try clear ho0); obtain ⟨Ao24, co24, eo24⟩ := Kd.R_slice HO178.out; subst eo24) | ((with_reducible refine gate_callee (f := 20) rfl ?_); refine goesL_ (some 12) rfl rfl Tryd.func20 (by kernel_rfl) rfl #[.slice Ao24 t176.length co24, .agg #[.string (⟨#[97]⟩ : ByteArray), .int .i64 3]] rfl (by (try simp only [List.map_toArray, List.map_cons, List.map_nil]); first | done | rfl | (simp only [List.length_drop, List.length_take]; rfl)) ?_; (with_reducible refine (dir_Add.calls k _ _ t176 (⟨#[97]⟩ : ByteArray) 3 t180 t183 _ ?side1 ?side2 A2.out).mono ?_); (case side1 => repeat (first | exact (Kd.R_reads' HO178.out).2.2 | (with_reducible refine Kd.C_alloc ?_ _) | (with_reducible refine Kd.C_drewN ?_ _) | (with_reducible refine Kd.C_drew ?_))); (case side2 => exact (Kd.R_reads' HO178.out).2.1); rintro e w25 ⟨v181, rfl, ho0, hb⟩; refine ⟨_, rfl, ?_⟩; have n0_ := Aside0.mk (Kd.R_elder' (by (with_reducible repeat (first | apply Kd.R_alloc | apply Kd.R_drewN | apply Kd.R_drew)); exact HO178.out) (Kd.R_base ho0) hb); have n1_ := Aside0.mk (Kd.R_lower (Kd.R_new' ho0 (Kd.R_lt (by (with_reducible repeat (first | apply Kd.R_alloc | apply Kd.R_drewN | apply Kd.R_drew)); exact HO178.out))) (below_size (by repeat (first | (with_reducible first | exact HB.out | apply below_alloc | apply pw_below_drewN | apply below_drew1) | exact HB.out)))); have n2_ := Aside0.mk (below_step (by repeat (first | (with_reducible first | exact HB.out | apply below_alloc | apply pw_below_drewN | apply below_drew1) | exact HB.out)) hb); clear HO178; clear HB; have HO178 := n0_; have HO182 := n1_; have HB := n2_; clear n0_ n1_ n2_; (try clear hb); (try clear hb2); (try clear hk); (try clear hi); (try clear ho0)) | ((with_reducible refine gate_callee (f := 12) rfl ?_); refine goesL_ (some 16) rfl rfl Tryd.func12 (by kernel_rfl) rfl #[.int .i64 t179] rfl (by (try simp only [List.map_toArray, List.map_cons, List.map_nil]); first | done | rfl | (simp only [List.length_drop, List.length_take]; rfl)) ?_; (with_reducible refine (undercroftlaw08_num.calls t179 t184 _ A3.out).mono ?_); rintro e w' ⟨rfl, ⟨nd, rfl⟩⟩; refine ⟨_, rfl, ?_⟩) | ((with_reducible refine gate_callee (f := 12) rfl ?_); refine goesL_ (some 18) rfl rfl Tryd.func12 (by kernel_rfl) rfl #[.int .i64 t183] rfl (by (try simp only [List.map_toArray, List.map_cons, List.map_nil]); first | done | rfl | (simp only [List.length_drop, List.length_take]; rfl)) ?_; (with_reducible refine (undercroftlaw08_num.calls t183 t185 _ A4.out).mono ?_); rintro e w' ⟨rfl, ⟨nd, rfl⟩⟩; refine ⟨_, rfl, ?_⟩))
    go_ret
    exact ⟨by first | rfl | (simp [errW_none, errW_some] <;> rfl) | (simp [*, errW_none, errW_some] <;> rfl) | (exfalso; simp only [beq_iff_eq, decide_eq_true_eq] at *; omega), by repeat (first | (with_reducible first | exact HB.out | apply below_alloc | apply pw_below_drewN | apply below_drew1) | exact HB.out)⟩

end Go.Proofs.YtiglgckhikipeaaDoor.PDoc
