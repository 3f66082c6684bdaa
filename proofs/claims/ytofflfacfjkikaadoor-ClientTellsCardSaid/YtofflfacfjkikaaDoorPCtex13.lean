-- Written by a program of this session (gen.py).
import Derived.Test.YtofflfacfjkikaaDoorPCtex0
import Derived.Test.YtofflfacfjkikaaDoorPCtex4
import Derived.Test.YtofflfacfjkikaaDoorPCtex8
import Derived.Test.YtofflfacfjkikaaDoorPCtex10
import Derived.Test.YtofflfacfjkikaaDoorPCtex12
namespace Go.Proofs.YtofflfacfjkikaaDoor.PCte
open Go.RowKit Go.Proofs.YtofflfacfjkikaaDoorW.PrintWords Go.Proofs.YtofflfacfjkikaaDoorW.PrintLast Go.Proofs.YtofflfacfjkikaaDoorW.PrintMore
open Go.Proofs.YtofflfacfjkikaaDoor.Own
attribute [local go_sem high] unary_not_u32 unary_not_u64 unary_not_u8 string_leq_ string_gtr_
attribute [local go_sem] max2_int min2_int max_two min_two max_three min_three max_four min_four   -- for this text's walks alone
set_option linter.unusedVariables false
set_option linter.unusedSimpArgs false

/-! ### client_Done: function 19 -/
section
open Go.Shelf
/-- Elements that read as they did at one world: what a shallow copy holds. -/
def frozen {α : Type} (d : Kd α) (w0 : World) : Kd α where
  sz := d.sz
  E := []
  K := fun _ x cs => d.K w0 x cs
  M := fun _ _ _ x cs => d.K w0 x cs
  K_len := d.K_len
  K_one := d.K_one
  K_below := fun _ h => h
  K_of_M := fun h => h
  M_mono := fun _ h => h
  M_bound := fun h => h
  M_move := fun _ h => h
  M_lower := fun _ h => h
theorem frozen_C {α : Type} {d : Kd α} {w0 : World} {A : Option Addr} {n : Nat} {xs : List α} (h : d.C w0 A n xs) : (frozen d w0).C w0 A n xs := h
/-- Some already of its own, some not yet. -/
def half {α : Type} (d : Kd α) (w0 : World) : Kd (Bool × α) where
  sz := d.sz
  E := d.E
  K := fun w x cs => if x.1 = true then d.K w x.2 cs else d.K w0 x.2 cs
  M := fun w base ok x cs => if x.1 = true then d.M w base ok x.2 cs else d.K w0 x.2 cs
  K_len := by intro w x cs h; split at h <;> exact d.K_len h
  K_one := by intro w x cs h; split at h <;> exact d.K_one h
  K_below := by intro w w1 x cs hb h; by_cases e : x.1 = true <;> simp only [e, if_true, if_false] at h ⊢ <;> first | exact d.K_below hb h | exact h
  K_of_M := by intro w base ok x cs h; by_cases e : x.1 = true <;> simp only [e, if_true, if_false] at h ⊢ <;> first | exact d.K_of_M h | exact h
  M_mono := by intro w base ok ok' x cs hk h; by_cases e : x.1 = true <;> simp only [e, if_true, if_false] at h ⊢ <;> first | exact d.M_mono hk h | exact h
  M_bound := by intro w base ok x cs h; by_cases e : x.1 = true <;> simp only [e, if_true, if_false] at h ⊢ <;> first | exact d.M_bound h | exact h
  M_move := by intro w w1 base ok x cs hk h; by_cases e : x.1 = true <;> simp only [e, if_true, if_false] at h ⊢ <;> first | exact d.M_move hk h | exact h
  M_lower := by intro w base base' ok x cs hk h; by_cases e : x.1 = true <;> simp only [e, if_true, if_false] at h ⊢ <;> first | exact d.M_lower hk h | exact h
set_option maxHeartbeats 8000000 in
set_option maxRecDepth 100000 in
theorem cloneF (A0 : Option Addr) (c0 : Nat) (l0 : List S86) (w0 w : World) (hr0 : Kd.C (frozen k86 w0) w A0 l0.length l0) (hlen : l0.length ≤ 1000000000000) :
    Calls Tryd.prog 39 #[.slice A0 l0.length c0] w fun e w' => ∃ v0_ : Value, e = .returned (v0_) ∧ Kd.R (frozen k86 w0) 86 w' w.heap.size (fun _ => True) v0_ l0 ∧ Below w.heap.size w w' := by
  have HR0 := Aside0.mk hr0
  clear hr0
  have HB := Aside0.mk (Below.refl w.heap.size w)
  have LM := Aside0.mk hlen
  clear hlen
  rcases A0 with _ | ad
  · have e0 : l0 = [] := by
      rcases Nat.eq_zero_or_pos l0.length with h0 | h0
      · exact List.eq_nil_of_length_eq_zero h0
      · obtain ⟨ad, h, _⟩ := HR0.out.2.2 h0
        cases h
    subst e0
    have he : ∀ W : World, (binOp .eql 52 (.slice none 0 c0) (.slice none 0 0)).run Tryd.prog W = .ok (.bool true) W := fun W => Lib.run_eql_slice_nil W 52 86 none 0 c0 0 0 Tryd.underlying52
    simp only [List.length_nil]
    go_enter Tryd.func39, Tryd.ntmps39
    go_wp2
    go_ret
    exact ⟨_, rfl, Kd.R_nil _ _ _ _ (fun _ => True), HB.out⟩
  · have he : ∀ W : World, (binOp .eql 52 (.slice (some ad) l0.length c0) (.slice none 0 0)).run Tryd.prog W = .ok (.bool false) W := fun W => Lib.run_eql_slice_nil W 52 86 (some ad) l0.length c0 0 0 Tryd.underlying52
    go_enter Tryd.func39, Tryd.ntmps39
    go_wp2_with (first
      | ((with_reducible refine gate_dst (N := 5) rfl ?_); refine Kd.R_lit (frozen k86 w0) _ 86 ?hg (N := 5) ?hd (xs := ([] : List S86)) (inner := []) (ok := fun _ => True) (okp := fun _ => True) ?hr ?hp (fun _ hk => hk) trivial (Below.refl _ _) (Nat.le_refl _) (by simp) ?_; (case hd => rfl); (case hg => rfl); (case hr => first | (go_simp; done) | (go_simp; rfl)); (case hp => exact Reps.none _ _); intro v1 w1 ho1 hb1 hg1 hn1; have HO1 := Aside0.mk (Kd.R_lower ho1 (below_size HB.out)); have HB1 := Aside0.mk (below_step HB.out hb1); clear ho1 hb1 hg1 hn1)
      | ((with_reducible refine gate_builtin (b := .append) (xs := #[.tmp 5, .tmp 6]) rfl ?_); at_builtin; refine Kd.R_append_rows (frozen k86 w0) (Rr := (frozen k86 w0).K w1) (w0 := w) w.heap.size rfl (.tmp 5) (.tmp 6) 52 86 (.agg #[(.int .i64 0), (.int .i64 0), (.slice none 0 0)]) 40 rfl Tryd.underlying52 info86 rfl (show 0 < 3 by decide) (by omega) v1 ([] : List S86) l0 _ _ _ (fun _ => True) (fun _ => False) rfl rfl ?aO ?aR (fun _ _ h => h) (fun _ h => h.elim) ?aF ?aB ?aS ?aL ?_; (case aR => exact Kd.C_below HR0.out HB1.out); (case aB => exact HB1.out); (case aF => exact (fun _ _ => trivial)); (case aO => exact HO1.out); (case aS => exact below_size HB1.out); (case aL => have := LM.out; simp only [List.length_nil]; omega); intro v2 w2 ho hb hg hat; have HO2 := Aside0.mk ho; have HB2 := Aside0.mk hb; clear ho hb hg hat))
    go_ret
    exact ⟨_, rfl, by simpa using HO2.out, HB2.out⟩
theorem run_copy_rowK {P : Program} (w : World) (dT sT ty elem : TypeId) (k g o n dLen dCap : Nat) (a : Addr) (sLen sCap : Nat) (cur : Array Value) (t : TypeId) (cs : List Value)
    (hu : P.underlying dT = some (.slice elem)) (hs : (P.info? elem).map (·.size) = some k)
    (hg : w.heap[g]? = some (.cells cur t (0, 0))) (hn : n = Nat.min sLen dLen) (hcs : cs.length = n * k)
    (hsrc : ∀ j v, cs[j]? = some v → w.cell? (a.add j) = some v) (hfit : o + cs.length ≤ cur.size) (h1 : ∀ v ∈ cs, v.oneCell' = true) :
    (Builtin.copy_ #[dT, sT] ty #[.slice (some ⟨g, o, none⟩) dLen dCap, .slice (some a) sLen sCap]).run P w =
      .ok (goInt n) (w.setRow g (cur.toList.take o ++ cs ++ cur.toList.drop (o + cs.length)).toArray) := by
  have hl := run_loadCells_list (P := P) w a cs hsrc
  have hst := run_storeCells_at P g o t cs 0 cur w hg (by simpa using hfit) h1
  cases hq : P.info? elem with
  | none => simp [hq] at hs
  | some i =>
    have hi : i.size = k := by simpa [hq] using hs
    rw [hcs] at hl
    simp [Builtin.copy_, run_underlying hu, Builtin.lenOf, Builtin.firstCells, sizeOf, typeInfo, hq, hi, ← hn, hl, hst]
theorem zeroCells_size3 (k : Nat) : (Builtin.zeroCells (Value.agg #[(Value.int .i64 0), (Value.int .i64 0), (Value.slice none 0 0)]).cells k).size = k * 3 := by
  simp [Builtin.zeroCells, Value.cells]
set_option maxHeartbeats 8000000 in
set_option maxRecDepth 100000 in
theorem insert_grow (g vb n cap i : Nat) (cur : Array Value) (x0 x1 : Int) (x2 : Value) (h2_ : x2.oneCell' = true) (w : World) (hi : i < n) (hnc : n ≤ cap) (hroom : cap < n + 1) (hbig : (n + 1) * 40 ≤ 140737488355328) (hvb : vb ≠ g)
    (hg : w.heap[g]? = some (.cells cur 86 (0, 0))) (hsz : cur.size = cap * 3) (hv : w.heap[vb]? = some (.cells #[.int .i64 x0, .int .i64 x1, x2] 86 (0, 0))) (h1 : ∀ v ∈ cur.toList.take (n * 3), v.oneCell' = true) :
    Calls Tryd.prog 40 #[.slice (some ⟨g, 0, none⟩) n cap, .int .i64 i, .slice (some ⟨vb, 0, none⟩) 1 1] w fun e w' =>
      ∃ G, n + 1 ≤ G ∧ G ≤ 9223372036854775807 ∧ e = .returned (.slice (some ⟨w.heap.size, 0, none⟩) (n + 1) G) ∧ (∃ row : Array Value, w'.heap[w.heap.size]? = some (.cells row 86 (0, 0)) ∧ row.size = G * 3 ∧ row.toList.take ((n + 1) * 3) = cur.toList.take (i * 3) ++ [Value.int .i64 x0, Value.int .i64 x1, x2] ++ (cur.toList.take (n * 3)).drop (i * 3)) ∧ Below w.heap.size w w' := by
  obtain ⟨i0, hi0, h0⟩ := Option.map_eq_some_iff.1 info86
  simp only [Prod.mk.injEq] at h0
  obtain ⟨hz0, hzs, hzb⟩ := h0
  have hinfo2 : (Tryd.prog.info? 86).map (·.size) = some 3 := by rw [hi0]; simp [hzs]
  have hcl : cur.toList.length = cap * 3 := by rw [Array.length_toList, hsz]
  have hgw : g < w.heap.size := (Array.getElem?_eq_some_iff.1 hg).1
  have hvw : vb < w.heap.size := (Array.getElem?_eq_some_iff.1 hv).1
  have hgd : w.drew.heap[g]? = some (.cells cur 86 (0, 0)) := hg
  have hold : (Builtin.firstCells i0.size i (.slice (some ⟨g, 0, none⟩) i cap)).run Tryd.prog w.drew = .ok (cur.toList.take (i * 3)).toArray w.drew := by
    rw [hzs]
    exact run_firstCells_some w.drew 3 i ⟨g, 0, none⟩ i cap (cur.toList.take (i * 3)) (by rw [List.length_take, hcl]; omega) (fun j v hj => by
      rw [Addr.add_lit, cell_of_row _ _ _ _ _ _ hgd, Nat.zero_add]
      rw [List.getElem?_take] at hj
      split at hj
      · rw [← Array.getElem?_toList]; exact hj
      · cases hj)
  have hkk : (n : Int) + 1 - (i : Int) = ((n + 1 - i : Nat) : Int) := by omega
  have hik : i + (n + 1 - i) = n + 1 := by omega
  have hrz : ∀ ty, (Builtin.append_ #[52, 3] ty #[.slice (some ⟨g, 0, none⟩) i cap, .int .i64 ((n : Int) + 1 - (i : Int))]).run Tryd.prog w =
      .ok (.slice (some ⟨w.heap.size, 0, none⟩) (n + 1) (grownCap w (n + 1) cap 86)) (w.drew.alloc (.cells ((cur.toList.take (i * 3)).toArray ++ Builtin.zeroCells (Value.agg #[(Value.int .i64 0), (Value.int .i64 0), (Value.slice none 0 0)]).cells (n + 1 - i) ++ Builtin.zeroCells (Value.agg #[(Value.int .i64 0), (Value.int .i64 0), (Value.slice none 0 0)]).cells (grownCap w (n + 1) cap 86 - (n + 1))) 86)) := fun ty => by
    have h := Lib.run_append_grow_zeros w 52 3 ty 86 i0 _ .i64 .i64 Tryd.underlying52 Tryd.underlying3 hi0 hz0 (some ⟨g, 0, none⟩) i cap (cur.toList.take (i * 3)) hold (n + 1 - i) (by omega) (by omega) (by omega) (by omega) (by rw [hzb]; omega) (by rw [hzb, hik]; exact growslice_fits hroom hbig)
    rw [hik] at h
    rw [hkk]
    exact h
  obtain ⟨G, hG⟩ : ∃ G, G = grownCap w (n + 1) cap 86 := ⟨_, rfl⟩
  obtain ⟨ROW, hROW⟩ : ∃ ROW : Array Value, ROW = (cur.toList.take (i * 3)).toArray ++ Builtin.zeroCells (Value.agg #[(Value.int .i64 0), (Value.int .i64 0), (Value.slice none 0 0)]).cells (n + 1 - i) ++ Builtin.zeroCells (Value.agg #[(Value.int .i64 0), (Value.int .i64 0), (Value.slice none 0 0)]).cells (G - (n + 1)) := ⟨_, rfl⟩
  rw [← hG] at hrz
  rw [← hROW] at hrz
  have hGn : n + 1 ≤ G := by rw [hG]; exact grownCap_ge w _ _ _
  have hG63 : G ≤ 9223372036854775807 := by
    have := grownCap_le_maxLen w (n + 1) cap 86 (by unfold maxLen; omega)
    rw [← hG] at this
    unfold maxLen at this
    omega
  have hRs : ROW.size = G * 3 := by
    rw [hROW, Array.size_append, Array.size_append, zeroCells_size3, zeroCells_size3, List.size_toArray, List.length_take, hcl]
    omega
  have hRt : ROW.toList.take (i * 3) = cur.toList.take (i * 3) := by
    rw [hROW, Array.toList_append, Array.toList_append, List.append_assoc, List.take_append_of_le_length (by rw [List.toList_toArray, List.length_take, hcl]; omega), List.toList_toArray, List.take_take, Nat.min_self]
  have hRl : ROW.toList.length = G * 3 := by rw [Array.length_toList, hRs]
  obtain ⟨mid, hmid⟩ : ∃ mid, mid = (cur.toList.take (n * 3)).drop (i * 3) := ⟨_, rfl⟩
  have hml : mid.length = (n - i) * 3 := by rw [hmid, List.length_drop, List.length_take, hcl]; omega
  obtain ⟨r1, hr1⟩ : ∃ r1 : Array Value, r1 = (ROW.toList.take (i * 3) ++ [Value.int .i64 x0, Value.int .i64 x1, x2] ++ ROW.toList.drop (i * 3 + 3)).toArray := ⟨_, rfl⟩
  have hr1s : r1.size = G * 3 := by rw [hr1]; simp [hRs]; omega
  obtain ⟨r2, hr2⟩ : ∃ r2 : Array Value, r2 = (r1.toList.take ((i + 1) * 3) ++ mid ++ r1.toList.drop ((i + 1) * 3 + mid.length)).toArray := ⟨_, rfl⟩
  have hr2s : r2.size = G * 3 := by rw [hr2]; simp [hr1s, hml]; omega
  have hfin : r2.toList.take ((n + 1) * 3) = cur.toList.take (i * 3) ++ [Value.int .i64 x0, Value.int .i64 x1, x2] ++ (cur.toList.take (n * 3)).drop (i * 3) := by
    have e1 : r1.toList.take ((i + 1) * 3) = cur.toList.take (i * 3) ++ [Value.int .i64 x0, Value.int .i64 x1, x2] := by
      rw [hr1, List.toList_toArray, List.take_append_of_le_length (by simp [hRs]; omega), List.take_of_length_le (by simp [hRs]; omega), hRt]
    rw [hr2, List.toList_toArray, e1, ← hmid, List.take_append_of_le_length (by simp [hml, hcl]; omega), List.take_of_length_le (by simp [hml, hcl]; omega)]
  have hcpA : ∀ (W : World), W.heap[w.heap.size]? = some (.cells ROW 86 (0, 0)) → W.heap[vb]? = some (.cells #[.int .i64 x0, .int .i64 x1, x2] 86 (0, 0)) → ∀ ty dc, (Builtin.copy_ #[52, 52] ty #[.slice (some ⟨w.heap.size, i * 3, none⟩) (n + 1 - i) dc, .slice (some ⟨vb, 0, none⟩) 1 1]).run Tryd.prog W = .ok (goInt ((1 : Nat) : Int)) (W.setRow w.heap.size r1) := fun W hN hV ty dc => by
    rw [hr1]
    refine run_copy_rowK (P := Tryd.prog) W 52 52 ty 86 3 w.heap.size (i * 3) 1 (n + 1 - i) dc ⟨vb, 0, none⟩ 1 1 ROW 86 [.int .i64 x0, .int .i64 x1, x2] Tryd.underlying52 hinfo2 hN (by simp only [Nat.min_def]; split <;> omega) rfl (fun j v hj => ?_) (by simp [hRs]; omega) (fun v hv => by simp at hv; rcases hv with rfl | rfl | rfl <;> first | rfl | exact h2_)
    rw [Addr.add_lit, cell_of_row _ _ _ _ _ _ hV]
    rw [Nat.zero_add, ← Array.getElem?_toList]; exact hj
  have hcpB : ∀ (W : World), W.heap[w.heap.size]? = some (.cells r1 86 (0, 0)) → W.heap[g]? = some (.cells cur 86 (0, 0)) → ∀ ty dc sc, (Builtin.copy_ #[52, 52] ty #[.slice (some ⟨w.heap.size, (i + 1) * 3, none⟩) (n - i) dc, .slice (some ⟨g, i * 3, none⟩) (n - i) sc]).run Tryd.prog W = .ok (goInt ((n - i : Nat) : Int)) (W.setRow w.heap.size r2) := fun W hN hV ty dc sc => by
    rw [hr2]
    refine run_copy_rowK (P := Tryd.prog) W 52 52 ty 86 3 w.heap.size ((i + 1) * 3) (n - i) (n - i) dc ⟨g, i * 3, none⟩ (n - i) sc r1 86 mid Tryd.underlying52 hinfo2 hN (by simp only [Nat.min_def]; split <;> omega) hml (fun j v hj => ?_) (by rw [hml, hr1s]; omega) (fun v hv => h1 v (by rw [hmid] at hv; exact List.mem_of_mem_drop hv))
    rw [Addr.add_lit, cell_of_row _ _ _ _ _ _ hV]
    rw [hmid, List.getElem?_drop, List.getElem?_take] at hj
    split at hj
    · rw [← Array.getElem?_toList]; exact hj
    · cases hj
  have hz1 : ¬ ((i : Int) = (n : Int)) := by omega
  have hd1 : ((i : Int) == (n : Int)) = false := by simpa using hz1
  have hd2 : decide ((cap : Int) < (n : Int) + 1) = true := by simp; omega
  have mixed : Tryd.prog.follows Departure.mixedOrders = true := by kernel_rfl
  have hw1 : IntKind.i64.wrap ((i : Int) + 1) = (i : Int) + 1 := by rw [IntKind.wrap_i64]; omega
  have hb1 : (0 : Int) ≤ (i : Int) + 1 := by omega
  have hin : i ≤ n := by omega
  have htn : ((i : Int) + 1).toNat = i + 1 := by omega
  have hb3 : (i : Int) ≤ (n : Int) := by omega
  have hb5 : (i : Int) + 1 ≤ (n : Int) + 1 := by omega
  have hGi : ¬ (G = i) := by omega
  have hGim : ¬ (G = i + 1) := by omega
  have hci : ¬ (cap = i) := by omega
  have HN0 := Aside0.mk (show ((w.alloc (.cells ROW 86)).drew).heap[w.heap.size]? = some (.cells ROW 86 (0, 0)) from heap_alloc_new w _)
  have HV0 := Aside0.mk (show ((w.alloc (.cells ROW 86)).drew).heap[vb]? = some (.cells #[.int .i64 x0, .int .i64 x1, x2] 86 (0, 0)) from (Below.heap_alloc _ _ _ hvw).trans hv)
  have HG0 := Aside0.mk (show ((w.alloc (.cells ROW 86)).drew).heap[g]? = some (.cells cur 86 (0, 0)) from (Below.heap_alloc _ _ _ hgw).trans hg)
  have HN1 := Aside0.mk (show ((((w.alloc (.cells ROW 86)).drew).setRow w.heap.size r1).drew).heap[w.heap.size]? = some (.cells r1 86 (0, 0)) from setRow_heap _ _ _ _ _ _ HN0.out)
  have HG1 := Aside0.mk (show ((((w.alloc (.cells ROW 86)).drew).setRow w.heap.size r1).drew).heap[g]? = some (.cells cur 86 (0, 0)) from (setRow_other _ _ _ _ (by omega)).trans HG0.out)
  have HF := Aside0.mk hfin
  have HR2 := Aside0.mk hr2s
  have HGN := Aside0.mk hGn
  have HG63 := Aside0.mk hG63
  have HGW := Aside0.mk hgw
  clear hG hROW hRs hRt hRl hmid hml hr1 hr1s hr2 hr2s hfin hcl hsz hold hkk hik hinfo2 hi0 hz0 hzs hzb hg hgd hv h1 hbig
  have hxA := hcpA ((w.alloc (.cells ROW 86)).drew) HN0.out HV0.out
  have HB := Aside0.mk hcpB
  clear hcpA hcpB
  go_enter Tryd.func40, Tryd.ntmps40
  go_wp2_with (first
    | (at_builtin; refine Lib.wpList_append_run _ rfl _ _ _ _ rfl _ _ rfl rfl _ _ (hrz _) ?_))
  go_region_law_o (refine step_copy_runI rfl _ _ 52 52 rfl (.slice (some ⟨w.heap.size, (i + 1) * 3, none⟩) (n - i) (G - (i + 1))) (.slice (some ⟨g, i * 3, none⟩) (n - i) (cap - i)) (by simp [Act.eval, Act.put]) (by simp [Act.eval, Act.put]) (HB.out _ HN1.out HG1.out 3 (G - (i + 1)) (cap - i)) ?_)
  go_wp2
  go_ret
  have gr : ∀ (W : World) (r : Array Value), W.grownBy (W.setRow w.heap.size r) (some w.heap.size) := fun W r => ⟨rfl, rfl, rfl, by simp, fun k _ hk => setRow_other _ _ _ _ (fun e => hk (by rw [e]))⟩
  refine ⟨G, HGN.out, HG63.out, rfl, ⟨r2, setRow_heap _ _ _ _ _ _ HN1.out, HR2.out, HF.out⟩, ?_⟩
  have b1 : Below w.heap.size w ((w.alloc (.cells ROW 86)).drew) := below_drew ((Below.refl _ w).alloc (Nat.le_refl _) _)
  have b2 := below_drew (b1.grown (gr _ r1) (by simp) (fun k e => by cases e; omega))
  exact b2.grown (gr _ r2) (by simp) (fun k e => by cases e; omega)
set_option maxHeartbeats 8000000 in
set_option maxRecDepth 100000 in
theorem insert_room (g vb n cap i : Nat) (cur : Array Value) (x0 x1 : Int) (x2 : Value) (h2_ : x2.oneCell' = true) (w : World) (hi : i < n) (hroom : n + 1 ≤ cap) (hc63 : cap ≤ 9223372036854775807) (hvb : vb ≠ g)
    (hg : w.heap[g]? = some (.cells cur 86 (0, 0))) (hsz : cur.size = cap * 3) (hv : w.heap[vb]? = some (.cells #[.int .i64 x0, .int .i64 x1, x2] 86 (0, 0))) (h1 : ∀ v ∈ cur.toList.take (n * 3), v.oneCell' = true) :
    Calls Tryd.prog 40 #[.slice (some ⟨g, 0, none⟩) n cap, .int .i64 i, .slice (some ⟨vb, 0, none⟩) 1 1] w fun e w' =>
      e = .returned (.slice (some ⟨g, 0, none⟩) (n + 1) cap) ∧ (∃ row : Array Value, w'.heap[g]? = some (.cells row 86 (0, 0)) ∧ row.size = cap * 3 ∧ row.toList.take ((n + 1) * 3) = cur.toList.take (i * 3) ++ [Value.int .i64 x0, Value.int .i64 x1, x2] ++ (cur.toList.take (n * 3)).drop (i * 3)) ∧ w.grownBy w' (some g) := by
  have hov : ∀ lb cb, (callFunc 56 #[.slice (some ⟨vb, 0, none⟩) 1 1, .slice (some ⟨g, (i + 1) * 3, none⟩) lb cb]).run Tryd.prog w = .ok (.value (.bool false)) w := fun lb cb => by
    rw [run_callFunc_extern Tryd.func56 (by kernel_rfl) (by kernel_rfl) (by kernel_rfl) (e := Extern.SlicesOverlaps.overlaps #[52, 52] #[4]) (by kernel_rfl),
      Lib.run_overlaps_apart w 52 4 86 Tryd.underlying52 3 Tryd.sizeOf86 ⟨vb, 0, none⟩ ⟨g, (i + 1) * 3, none⟩ 1 1 lb cb hvb 86 86 3 (cap * 3) (by simp [World.shape?, hv]) (by simp [World.shape?, hg, hsz]) (by omega) (by simp [World.frozen?, hv]) (by simp [World.frozen?, hv])]
    rfl
  have hz1 : ¬ ((i : Int) = (n : Int)) := by omega
  have hd1 : ((i : Int) == (n : Int)) = false := by simpa using hz1
  have hd2 : decide ((cap : Int) < (n : Int) + 1) = false := by simp; omega
  obtain ⟨mid, hmid⟩ : ∃ mid, mid = (cur.toList.take (n * 3)).drop (i * 3) := ⟨_, rfl⟩
  have hcl : cur.toList.length = cap * 3 := by rw [Array.length_toList, hsz]
  have hml : mid.length = (n - i) * 3 := by rw [hmid, List.length_drop, List.length_take, hcl]; omega
  obtain ⟨c1, hc1⟩ : ∃ c1 : Array Value, c1 = (cur.toList.take ((i + 1) * 3) ++ mid ++ cur.toList.drop ((i + 1) * 3 + mid.length)).toArray := ⟨_, rfl⟩
  have hgd : w.drew.heap[g]? = some (.cells cur 86 (0, 0)) := hg
  have hinfo2 : (Tryd.prog.info? 86).map (·.size) = some 3 := by
    obtain ⟨i0, hi0, h0⟩ := Option.map_eq_some_iff.1 info86
    simp only [Prod.mk.injEq] at h0
    rw [hi0]; simp [h0.2.1]
  have hcp1 : ∀ ty dc sc, (Builtin.copy_ #[52, 52] ty #[.slice (some ⟨g, (i + 1) * 3, none⟩) (n - i) dc, .slice (some ⟨g, i * 3, none⟩) (n + 1 - i) sc]).run Tryd.prog w.drew = .ok (goInt ((n - i : Nat) : Int)) (w.drew.setRow g c1) := fun ty dc sc => by
    rw [hc1]
    refine run_copy_rowK (P := Tryd.prog) w.drew 52 52 ty 86 3 g ((i + 1) * 3) (n - i) (n - i) dc ⟨g, i * 3, none⟩ (n + 1 - i) sc cur 86 mid Tryd.underlying52 hinfo2 hgd (by simp only [Nat.min_def]; split <;> omega) hml (fun j v hj => ?_) (by rw [hml, hsz]; omega) (fun v hv => h1 v (by rw [hmid] at hv; exact List.mem_of_mem_drop hv))
    rw [Addr.add_lit, cell_of_row _ _ _ _ _ _ hgd]
    rw [hmid, List.getElem?_drop, List.getElem?_take] at hj
    split at hj
    · rw [← Array.getElem?_toList, show i * 3 + j = i * 3 + j from rfl]; exact hj
    · cases hj
  have hc1l : c1.size = cap * 3 := by
    rw [hc1]
    simp [hml, hsz]
    omega
  obtain ⟨W1, hW1⟩ : ∃ W1, W1 = w.drew.setRow g c1 := ⟨_, rfl⟩
  have hg1 : W1.heap[g]? = some (.cells c1 86 (0, 0)) := by rw [hW1]; exact setRow_heap _ _ _ _ _ _ hgd
  have hv1 : W1.heap[vb]? = some (.cells #[.int .i64 x0, .int .i64 x1, x2] 86 (0, 0)) := by rw [hW1, setRow_other _ _ _ _ hvb]; exact hv
  have hcp2 : ∀ ty dc, (Builtin.copy_ #[52, 52] ty #[.slice (some ⟨g, i * 3, none⟩) (n + 1 - i) dc, .slice (some ⟨vb, 0, none⟩) 1 1]).run Tryd.prog W1 = .ok (goInt ((1 : Nat) : Int)) (W1.setRow g (c1.toList.take (i * 3) ++ [Value.int .i64 x0, Value.int .i64 x1, x2] ++ c1.toList.drop (i * 3 + 3)).toArray) := fun ty dc => by
    refine run_copy_rowK (P := Tryd.prog) W1 52 52 ty 86 3 g (i * 3) 1 (n + 1 - i) dc ⟨vb, 0, none⟩ 1 1 c1 86 [.int .i64 x0, .int .i64 x1, x2] Tryd.underlying52 hinfo2 hg1 (by simp only [Nat.min_def]; split <;> omega) rfl (fun j v hj => ?_) (by simp [hc1l]; omega) (fun v hv => by simp at hv; rcases hv with rfl | rfl | rfl <;> first | rfl | exact h2_)
    rw [Addr.add_lit, cell_of_row _ _ _ _ _ _ hv1]
    rw [Nat.zero_add, ← Array.getElem?_toList]; exact hj
  rw [← hW1] at hcp1
  have hb2 : ¬ (cap = i + 1) := by omega
  have hb4 : ¬ (cap = i) := by omega
  have mixed : Tryd.prog.follows Departure.mixedOrders = true := by kernel_rfl
  have hw1 : IntKind.i64.wrap ((i : Int) + 1) = (i : Int) + 1 := by rw [IntKind.wrap_i64]; omega
  have hb1 : (0 : Int) ≤ (i : Int) + 1 := by omega
  have hb5 : (i : Int) + 1 ≤ (n : Int) + 1 := by omega
  have htn : ((i : Int) + 1).toNat = i + 1 := by omega
  have hb3 : (i : Int) ≤ (n : Int) + 1 := by omega
  have hsub : n + 1 - (i + 1) = n - i := by omega
  have HCL := Aside0.mk hcl
  have HC1L := Aside0.mk hc1l
  have HW := Aside0.mk hW1
  have HC := Aside0.mk hc1
  have HMD := Aside0.mk hmid
  have HML := Aside0.mk hml
  have HG1 := Aside0.mk hg1
  have HG := Aside0.mk hg
  clear hW1 hc1 hmid hml hcl hg1 hv1 hgd hg hv hc1l hsz h1 hinfo2
  go_enter Tryd.func40, Tryd.ntmps40
  go_wp2_with (simp only [hov])
  go_region_law_o (refine step_copy_runI rfl _ _ 52 52 rfl _ _ (by simp [Act.eval, Act.put]) (by simp [Act.eval, Act.put]) (hcp1 _ _ _) ?_)
  go_wp2_with (at_builtin; refine wpList_copy_runI _ rfl _ _ 52 52 rfl _ _ rfl rfl (hcp2 _ _) ?_)
  go_ret
  refine ⟨rfl, ⟨_, setRow_heap _ _ _ _ _ _ HG1.out, ?_, ?_⟩, ?_⟩
  · have := HC1L.out
    simp
    omega
  · have hcl := HCL.out
    have hml := HML.out
    have e1 : c1.toList = cur.toList.take ((i + 1) * 3) ++ (mid ++ cur.toList.drop ((i + 1) * 3 + mid.length)) := by rw [HC.out, List.append_assoc]
    have e2 : c1.toList.take (i * 3) = cur.toList.take (i * 3) := by
      rw [e1, List.take_append_of_le_length (by rw [List.length_take, hcl]; omega), List.take_take, Nat.min_eq_left (by omega)]
    have e3 : c1.toList.drop (i * 3 + 3) = mid ++ cur.toList.drop ((i + 1) * 3 + mid.length) := by
      rw [e1, List.drop_append_of_le_length (by rw [List.length_take, hcl]; omega), List.drop_eq_nil_of_le (by rw [List.length_take, hcl]; omega), List.nil_append]
    have e4 : ∀ (p q : List Value) (a b c : Value), p ++ a :: b :: c :: q = p ++ [a, b, c] ++ q := fun p q a b c => by simp
    simp only [List.toList_toArray]
    rw [e4, e2, e3, ← HMD.out, ← List.append_assoc, List.take_append_of_le_length (by simp [hml, hcl]; omega), List.take_of_length_le (by simp [hml, hcl]; omega)]
  · rw [HW.out]
    refine ⟨rfl, rfl, rfl, by simp, fun k _ hk => ?_⟩
    have hne : k ≠ g := fun e => hk (by rw [e])
    rw [setRow_other _ _ _ _ hne, setRow_other _ _ _ _ hne]
    rfl
theorem C_one {w w0 : World} {vb : Nat} {x : S86} {y0 y1 : Int} {y2 : Value} (hv : w.heap[vb]? = some (.cells #[.int .i64 y0, .int .i64 y1, y2] 86 (0, 0))) (hx : k86.K w0 x [.int .i64 y0, .int .i64 y1, y2]) : Kd.C (frozen k86 w0) w (some ⟨vb, 0, none⟩) 1 [x] := by
  refine ⟨rfl, by decide, fun _ => ⟨_, rfl, fun j p hp => ?_⟩⟩
  obtain ⟨hj, rfl⟩ := List.getElem?_eq_some_iff.1 hp
  have hj0 : j = 0 := by simpa using hj
  subst hj0
  refine ⟨[.int .i64 y0, .int .i64 y1, y2], rfl, hx, fun i u hu => ?_⟩
  have ha : (⟨vb, 0, none⟩ : Addr).add (0 * (frozen k86 w0).sz + i) = ⟨vb, i, none⟩ := by
    rw [Nat.zero_mul, Nat.zero_add, Addr.add_lit, Nat.zero_add]
  rw [ha, cell_of_row _ _ _ _ _ _ hv, ← Array.getElem?_toList]
  exact hu
set_option maxHeartbeats 8000000 in
set_option maxRecDepth 100000 in
theorem insert_end (w0 : World) (base vb : Nat) (A0 : Option Addr) (n cap : Nat) (xs : List S86) (x : S86) (y0 y1 : Int) (y2 : Value) (hx : k86.K w0 x [.int .i64 y0, .int .i64 y1, y2]) (w : World) (hO : Kd.R (frozen k86 w0) 86 w base (fun _ => True) (.slice A0 n cap) xs) (hn : n = xs.length) (hbase : base ≤ w.heap.size) (hlen : xs.length ≤ 1000000000000)
    (hv : w.heap[vb]? = some (.cells #[.int .i64 y0, .int .i64 y1, y2] 86 (0, 0))) :
    Calls Tryd.prog 40 #[.slice A0 n cap, .int .i64 n, .slice (some ⟨vb, 0, none⟩) 1 1] w fun e w' => ∃ v1 : Value, e = .returned v1 ∧ Kd.R (frozen k86 w0) 86 w' base (fun _ => True) v1 (xs ++ [x]) ∧ Below base w w' := by
  have HO := Aside0.mk hO
  have HN := Aside0.mk hn
  have HL := Aside0.mk hlen
  have HC := Aside0.mk (C_one hv hx)
  have HBS := Aside0.mk hbase
  have hnc : n ≤ cap := by
    obtain ⟨A, c, he, hl, _⟩ := Kd.R_reads hO
    cases he
    omega
  have hn0 : A0 = none → n = 0 := by
    rintro rfl
    obtain ⟨inner, ho⟩ := Kd.R_own hO
    rcases ho.2 with ⟨_, h0⟩ | ⟨g, c, cur, he, _⟩
    · omega
    · cases he
  clear hO hlen hv hn hbase hx
  rcases A0 with _ | ad
  · obtain rfl := hn0 rfl
    go_enter Tryd.func40, Tryd.ntmps40
    go_wp2_with (first
      | ((with_reducible refine gate_builtin (b := .append) (xs := #[.tmp 23, .tmp 24]) rfl ?_); at_builtin; refine Kd.R_append_rows (frozen k86 w0) (Rr := (frozen k86 w0).K w) (w0 := w) base rfl (.tmp 23) (.tmp 24) 52 86 (.agg #[(.int .i64 0), (.int .i64 0), (.slice none 0 0)]) 40 rfl Tryd.underlying52 info86 rfl (show 0 < 3 by decide) (by omega) _ xs [x] _ _ _ (fun _ => True) (fun _ => False) rfl rfl HO.out HC.out (fun _ _ h => h) (fun _ h => h.elim) (fun _ _ => trivial) (Below.refl _ _) HBS.out (by have := HL.out; omega) ?_; intro v2 w2 ho hb hg hat; have HO2 := Aside0.mk ho; have HB2 := Aside0.mk hb; clear ho hb hg hat))
    go_ret
    exact ⟨_, rfl, HO2.out, HB2.out⟩
  · go_enter Tryd.func40, Tryd.ntmps40
    go_wp2_with (first
      | ((with_reducible refine gate_builtin (b := .append) (xs := #[.tmp 23, .tmp 24]) rfl ?_); at_builtin; refine Kd.R_append_rows (frozen k86 w0) (Rr := (frozen k86 w0).K w) (w0 := w) base rfl (.tmp 23) (.tmp 24) 52 86 (.agg #[(.int .i64 0), (.int .i64 0), (.slice none 0 0)]) 40 rfl Tryd.underlying52 info86 rfl (show 0 < 3 by decide) (by omega) _ xs [x] _ _ _ (fun _ => True) (fun _ => False) rfl rfl HO.out HC.out (fun _ _ h => h) (fun _ h => h.elim) (fun _ _ => trivial) (Below.refl _ _) HBS.out (by have := HL.out; omega) ?_; intro v2 w2 ho hb hg hat; have HO2 := Aside0.mk ho; have HB2 := Aside0.mk hb; clear ho hb hg hat))
    all_goals go_ret
    all_goals exact ⟨_, rfl, HO2.out, HB2.out⟩
theorem reps86_one {w0 : World} {xs : List S86} {inner : List Value} (h : Reps (fun (x : S86) (cs : List Value) => k86.K w0 x cs) 3 xs inner) (v : Value) (hv : v ∈ inner) : v.oneCell' = true := by
  obtain ⟨j, hj, rfl⟩ := List.getElem_of_mem hv
  have hl := h.1
  have hq : j / 3 < xs.length := by omega
  have he := h.2 (j / 3) (xs[j / 3]) (List.getElem?_eq_getElem hq)
  have h2 : ((inner.drop (j / 3 * 3)).take 3)[j % 3]? = some inner[j] := by
    rw [List.getElem?_take, if_pos (by omega), List.getElem?_drop, show j / 3 * 3 + j % 3 = j by omega]
    exact List.getElem?_eq_getElem hj
  exact k86.K_one he _ (List.mem_of_getElem? h2)
theorem insertF (w0 : World) (base vb : Nat) (A0 : Option Addr) (n cap i : Nat) (xs : List S86) (x : S86) (y0 y1 : Int) (y2 : Value) (hx : k86.K w0 x [.int .i64 y0, .int .i64 y1, y2]) (w : World) (hO : Kd.R (frozen k86 w0) 86 w base (fun _ => True) (.slice A0 n cap) xs) (hn : n = xs.length) (hi : i ≤ n) (hbase : base ≤ w.heap.size) (hlen : xs.length ≤ 1000000000000)
    (hv : w.heap[vb]? = some (.cells #[.int .i64 y0, .int .i64 y1, y2] 86 (0, 0))) (hne : some vb ≠ (Value.slice A0 n cap).ownBlock) :
    Calls Tryd.prog 40 #[.slice A0 n cap, .int .i64 i, .slice (some ⟨vb, 0, none⟩) 1 1] w fun e w' => ∃ v1 : Value, e = .returned v1 ∧ Kd.R (frozen k86 w0) 86 w' base (fun _ => True) v1 (xs.take i ++ [x] ++ xs.drop i) ∧ Below base w w' := by
  by_cases hin : i = n
  · subst hin
    have e : xs.take i ++ [x] ++ xs.drop i = xs ++ [x] := by rw [hn, List.take_of_length_le (Nat.le_refl _), List.drop_eq_nil_of_le (Nat.le_refl _), List.append_nil]
    rw [e]
    exact insert_end w0 base vb A0 i cap xs x y0 y1 y2 hx w hO hn hbase hlen hv
  · have hlt : i < n := by omega
    obtain ⟨_, inner, ho, hr⟩ := hO
    rw [← hn] at ho
    rcases ho.2 with ⟨_, h0⟩ | ⟨g, c, cur, he, hbg, hgb, hnc, hcm, hcs, hct⟩
    · omega
    · have he' : A0 = some ⟨g, 0, none⟩ ∧ cap = c := by
        injection he with h1 h2 h3
        exact ⟨h1, h3⟩
      obtain ⟨rfl, rfl⟩ := he'
      have hvg : vb ≠ g := fun e => hne (by rw [e]; rfl)
      have hcs2 : cur.size = cap * 3 := hcs
      have hct2 : cur.toList.take (n * 3) = inner := hct
      have hreps : Reps (fun (x : S86) (cs : List Value) => k86.K w0 x cs) 3 xs inner := hr
      have h1 : ∀ v ∈ cur.toList.take (n * 3), v.oneCell' = true := fun v hv => by rw [hct2] at hv; exact reps86_one hreps v hv
      have hres : Reps (fun (x : S86) (cs : List Value) => k86.K w0 x cs) 3 (xs.take i ++ [x] ++ xs.drop i) (cur.toList.take (i * 3) ++ [Value.int .i64 y0, Value.int .i64 y1, y2] ++ (cur.toList.take (n * 3)).drop (i * 3)) := by
        have e1 : cur.toList.take (i * 3) = inner.take (i * 3) := by rw [← hct2, List.take_take, Nat.min_eq_left (by omega)]
        rw [e1, hct2]
        exact Kd.reps_append (Reps.snoc (Kd.reps_take hreps (by omega)) hx rfl) (Kd.reps_drop hreps)
      have hlenr : (xs.take i ++ [x] ++ xs.drop i).length = n + 1 := by simp; omega
      have fin : ∀ (W : World) (b G : Nat) (row : Array Value), base ≤ b → W.heap[b]? = some (.cells row 86 (0, 0)) → n + 1 ≤ G → G ≤ 9223372036854775807 → row.size = G * 3 → row.toList.take ((n + 1) * 3) = cur.toList.take (i * 3) ++ [Value.int .i64 y0, Value.int .i64 y1, y2] ++ (cur.toList.take (n * 3)).drop (i * 3) → Kd.R (frozen k86 w0) 86 W base (fun _ => True) (.slice (some ⟨b, 0, none⟩) (n + 1) G) (xs.take i ++ [x] ++ xs.drop i) := fun W b G row hb hW h2 h3 h4 h5 => by
        refine ⟨fun _ _ => trivial, row.toList.take ((n + 1) * 3), ?_, ?_⟩
        · rw [hlenr]
          refine ⟨by rw [List.length_take, Array.length_toList, h4]; show min _ _ = (n + 1) * 3; omega, .inr ⟨b, G, row, rfl, hb, hW, h2, by unfold maxLen; omega, h4, rfl⟩⟩
        · rw [h5]
          exact hres
      by_cases hroom : n + 1 ≤ cap
      · refine (insert_room g vb n cap i cur y0 y1 y2 (k86.K_one hx y2 (by simp)) w hlt hroom (by unfold maxLen at hcm; omega) hvg hgb hcs2 hv h1).mono ?_
        rintro e w' ⟨rfl, ⟨row, hrow, hrs, hrt⟩, hg⟩
        exact ⟨_, rfl, fin w' g cap row hbg hrow hroom (by unfold maxLen at hcm; omega) hrs hrt, (Below.refl _ _).grown hg hbase (fun k e => by cases e; exact hbg)⟩
      · refine (insert_grow g vb n cap i cur y0 y1 y2 (k86.K_one hx y2 (by simp)) w hlt hnc (by omega) (by omega) hvg hgb hcs2 hv h1).mono ?_
        rintro e w' ⟨G, hG1, hG2, rfl, ⟨row, hrow, hrs, hrt⟩, hb⟩
        exact ⟨_, rfl, fin w' w.heap.size G row hbase hrow hG1 hG2 hrs hrt, hb.mono hbase⟩
/-- The first k have their own replies already. -/
def halfRow {α : Type} (k : Nat) (l : List α) : List (Bool × α) := (l.take k).map (Prod.mk true) ++ (l.drop k).map (Prod.mk false)
theorem halfRow_zero {α : Type} (l : List α) : halfRow 0 l = l.map (Prod.mk false) := by simp [halfRow]
theorem halfRow_all {α : Type} (l : List α) : halfRow l.length l = l.map (Prod.mk true) := by simp [halfRow]
theorem halfRow_length {α : Type} (k : Nat) (l : List α) : (halfRow k l).length = l.length := by simp [halfRow]; omega
theorem halfRow_at {α : Type} (k : Nat) (l : List α) (h : k < l.length) (z : Bool × α) : (halfRow k l).getD k z = (false, l[k]) := by
  rw [List.getD_eq_getElem?_getD, halfRow, List.getElem?_append_right (by simp; omega)]
  simp [List.length_take, Nat.min_eq_left (Nat.le_of_lt h), List.getElem?_eq_getElem h]
theorem halfRow_set {α : Type} (k : Nat) (l : List α) (h : k < l.length) : (halfRow k l).set k (true, l[k]) = halfRow (k + 1) l := by
  have hl : ((l.take k).map (Prod.mk true)).length = k := by simp; omega
  unfold halfRow
  rw [List.set_append_right _ _ (by omega), hl, Nat.sub_self, List.drop_eq_getElem_cons h, List.map_cons, List.set_cons_zero, List.take_succ_eq_append_getElem h, List.map_append, List.append_assoc]
  rfl
theorem half_of_frozen {α : Type} {d : Kd α} {w0 w : World} {e base : Nat} {ok : Nat → Prop} {v : Value} {xs : List α} (h : (frozen d w0).R e w base ok v xs) : Kd.S (half d w0) e w base ok v (halfRow 0 xs) := by
  obtain ⟨h0, inner, ho, hr⟩ := h
  rw [halfRow_zero]
  refine ⟨fun _ => 0, h0, inner, by rw [List.length_zipIdx, List.length_map]; exact ho, by rw [List.length_zipIdx, List.length_map]; exact hr.1, fun j p hj => ?_⟩
  rw [List.getElem?_zipIdx, Nat.zero_add, List.getElem?_map] at hj
  obtain ⟨x, hx, rfl⟩ := Option.map_eq_some_iff.1 hj
  obtain ⟨y, hy, rfl⟩ := Option.map_eq_some_iff.1 hx
  have := hr.2 j y hy
  simpa [half, frozen, Kd.tag] using this
theorem own_of_half {α : Type} {d : Kd α} {w0 w : World} {e base : Nat} {ok : Nat → Prop} {v : Value} {xs : List α} (h : Kd.S (half d w0) e w base ok v (halfRow xs.length xs)) : Kd.S d e w base ok v xs := by
  rw [halfRow_all] at h
  obtain ⟨f, h0, inner, ho, hr⟩ := h
  rw [List.length_zipIdx, List.length_map] at ho
  refine ⟨f, h0, inner, by rw [List.length_zipIdx]; exact ho, by have := hr.1; rw [List.length_zipIdx, List.length_map] at this; rw [List.length_zipIdx]; exact this, fun j p hj => ?_⟩
  rw [List.getElem?_zipIdx, Nat.zero_add] at hj
  obtain ⟨x, hx, rfl⟩ := Option.map_eq_some_iff.1 hj
  have := hr.2 j ((true, x), j) (by rw [List.getElem?_zipIdx, Nat.zero_add, List.getElem?_map, hx]; rfl)
  simpa [half, Kd.tag] using this
theorem zipIdx_set {α : Type} (xs : List α) (m : Nat) (x : α) : xs.zipIdx.set m (x, m) = (xs.set m x).zipIdx := by
  apply List.ext_getElem?
  intro j
  rw [List.getElem?_set, List.getElem?_zipIdx, List.getElem?_zipIdx, List.getElem?_set]
  by_cases h : m = j
  · subst h
    by_cases hl : m < xs.length
    · simp [hl]
    · simp [hl]
  · simp [h]
theorem R_form {α : Type} {d : Kd α} {w : World} {e base : Nat} {ok : Nat → Prop} {v : Value} {xs : List α} (h : d.R e w base ok v xs) (hp : 0 < xs.length) : ∃ g c, v = .slice (some ⟨g, 0, none⟩) xs.length c ∧ xs.length ≤ c ∧ base ≤ g ∧ g < w.heap.size := by
  obtain ⟨_, inner, ho, hr⟩ := h
  have h1 := ho
  rcases ho.2 with ⟨_, h0⟩ | ⟨g, c, cur, rfl, hg, hh, hnc, hcm, hcs, hct⟩
  · omega
  · exact ⟨g, c, rfl, hnc, hg, (Array.getElem?_eq_some_iff.1 hh).1⟩
/-- What a round finds: element k is still the one that came in. -/
theorem half_elem {w0 W : World} {base g n cap k : Nat} {l : List S86} (h_ : Kd.S (half k86 w0) 86 W base (fun _ => True) (.slice (some ⟨g, 0, none⟩) n cap) (halfRow k l)) (hk : k < l.length) :
    ∃ A2 c2, W.cell? ⟨g, k * 3, none⟩ = some (.int .i64 l[k].f0) ∧ W.cell? ⟨g, k * 3 + 1, none⟩ = some (.int .i64 l[k].f1) ∧ W.cell? ⟨g, k * 3 + 2, none⟩ = some (.slice A2 l[k].f2.length c2) ∧ l[k].f2.length ≤ c2 ∧ (Kd.int .u8).C w0 A2 l[k].f2.length l[k].f2 ∧ ∀ j, W.frozen? ⟨g, k * 3 + j, none⟩ = false := by
  have h := Kd.S_R h_
  have hn : n = l.length := by have := (Kd.R_reads' h).1; rw [this, halfRow_length]
  obtain ⟨c, hcl, hM, hcc, hf⟩ := Kd.R_elem h (false, l[k]) (k : Int) (by omega) (by omega)
  rw [Int.toNat_natCast, halfRow_at k l hk] at hM
  have hK : k86.K w0 l[k] c := by simpa [half] using hM
  obtain ⟨A2, c2, rfl, hl2, hC⟩ := k86_open hK
  exact ⟨A2, c2, hcc 0 _ rfl, hcc 1 _ rfl, hcc 2 _ rfl, hl2, hC, hf⟩
/-- What a round's store wants. -/
theorem half_cells {w0 W : World} {base g n cap k : Nat} {l : List S86} (h_ : Kd.S (half k86 w0) 86 W base (fun _ => True) (.slice (some ⟨g, 0, none⟩) n cap) (halfRow k l)) (hk : k < l.length) :
    ∃ c, c.length = (half k86 w0).sz ∧ (∀ j u, c[j]? = some u → W.cell? ⟨g, (k : Int).toNat * (half k86 w0).sz + j, none⟩ = some u) ∧ ∃ v, c = [.int .i64 l[k].f0, .int .i64 l[k].f1, v] := by
  have h := Kd.S_R h_
  have hn : n = l.length := by have := (Kd.R_reads' h).1; rw [this, halfRow_length]
  obtain ⟨c, hcl, hM, hcc, hf⟩ := Kd.R_elem h (false, l[k]) (k : Int) (by omega) (by omega)
  rw [Int.toNat_natCast, halfRow_at k l hk] at hM
  have hK : k86.K w0 l[k] c := by simpa [half] using hM
  obtain ⟨A2, c2, rfl, hl2, hC⟩ := k86_open hK
  exact ⟨_, hcl, hcc, _, rfl⟩
theorem half_lt {w0 W : World} {base g n cap : Nat} {l : List (Bool × S86)} (h : Kd.S (half k86 w0) 86 W base (fun _ => True) (.slice (some ⟨g, 0, none⟩) n cap) l) : g < W.heap.size := by
  obtain ⟨inner, ho⟩ := Kd.R_own (Kd.S_R h)
  exact own_lt ho g (by simp [Value.ownBlock])
/-- The new reply is none of the row's block, and is its element's alone. -/
theorem half_new {w0 W w1 : World} {base g m : Nat} {f : Nat → Nat} {x : S86} {v : Value} (hg : g < W.heap.size) (hb : base ≤ W.heap.size) (h : (Kd.int .u8).R 5 w1 W.heap.size (fun _ => True) v x.f2) : (Kd.tag (fun b => if b < W.heap.size then f b else m) (half k86 w0)).M w1 base (fun k => k ≠ g) ((true, x), m) [.int .i64 x.f0, .int .i64 x.f1, v] := by
  have h2 : k86.M w1 base (fun k => k ≠ g ∧ (if k < W.heap.size then f k else m) = m) x [.int .i64 x.f0, .int .i64 x.f1, v] := k86_mkM _ _ _ x (Kd.R_lower (Kd.R_mono (Kd.R_bound h) (fun k hk => ⟨by have := hk.2.1; omega, by rw [if_neg (by have := hk.2.1; omega)]⟩)) hb)
  simpa [half, Kd.tag] using h2
theorem half_tag {w0 W : World} {base : Nat} {f : Nat → Nat} {v : Value} {zs : List ((Bool × S86) × Nat)} (m : Nat) (h : (Kd.tag f (half k86 w0)).R 86 W base (fun _ => True) v zs) : (Kd.tag (fun b => if b < W.heap.size then f b else m) (half k86 w0)).R 86 W base (fun _ => True) v zs :=
  Kd.R_tag h (fun k _ hk => by simp [hk])
theorem size22 : (Tryd.prog.info? 22).map (·.size) = some 1 := by kernel_rfl
theorem size86 : (Tryd.prog.info? 86).map (·.size) = some 3 := by
  obtain ⟨i0, hi0, h0⟩ := Option.map_eq_some_iff.1 info86
  simp only [Prod.mk.injEq] at h0
  rw [hi0]; simp [h0.2.1]
def client_Done.f (k : Nat) (l0 : List S86) (a1 a2 : Int) (l3 : List Int) : Option (List S86 × Int) :=
  (client_asked.f k l0 a1 a2).bind fun t => if t = 0 then (if l3.length ≤ 4096 then ((client_find.f l0 a1 a2).bind fun q => if q.2.2 = 0 then (if (l0.all fun x => decide (x.f2.length ≤ 4096)) = true then (if q.2.1 = true then (if 0 ≤ q.1 ∧ q.1.toNat < l0.length ∧ l0.length ≤ 64 then some (l0.set q.1.toNat ⟨a1, a2, l3⟩, 0) else none) else (if 64 ≤ l0.length then some ([], 51) else if 0 ≤ q.1 ∧ q.1.toNat ≤ l0.length then some (l0.take q.1.toNat ++ [⟨a1, a2, l3⟩] ++ l0.drop q.1.toNat, 0) else none)) else none) else some ([], 81)) else some ([], 5)) else some ([], t)
theorem client_Done.mono : ∀ a0 a1 a2 a3 k, LeO (client_Done.f k a0 a1 a2 a3) (client_Done.f (k + 1) a0 a1 a2 a3) := by
  intro a0 a1 a2 a3 k
  unfold client_Done.f
  exact LeO.bind (client_asked.mono a0 a1 a2 k) (fun _ => LeO.refl _)
set_option maxHeartbeats 8000000 in
set_option maxRecDepth 100000 in
theorem done_in (k : Nat) (A0 : Option Addr) (c0 : Nat) (l0 : List S86) (a1 a2 : Int) (B3 : Option Addr) (c3 : Nat) (l3 : List Int) (i : Nat) (w : World) (hr0 : Kd.C k86 w A0 l0.length l0) (hc0 : l0.length ≤ c0) (hr3 : Kd.C (Kd.int .u8) w B3 l3.length l3) (hc3 : l3.length ≤ c3)
    (h1 : client_asked.f k l0 a1 a2 = some 0) (h2 : l3.length ≤ 4096) (h3 : client_find.f l0 a1 a2 = some ((i : Int), true, 0)) (h5 : l0.length ≤ 64) (h6 : i < l0.length) (hby : ∀ x ∈ l0, x.f2.length < 140737488355328) :
    Calls Tryd.prog 19 #[.slice A0 l0.length c0, .int .i64 a1, .int .i64 a2, .slice B3 l3.length c3] w fun e w' => ∃ v0_ : Value, e = .returned (.tuple #[v0_, .int .i64 0]) ∧ Kd.S k86 86 w' w.heap.size (fun _ => True) v0_ (l0.set i ⟨a1, a2, l3⟩) ∧ Below w.heap.size w w' := by
  obtain ⟨L0, hL0⟩ : ∃ L0, L0 = l0.set i ⟨a1, a2, l3⟩ := ⟨_, rfl⟩
  have hLB : ∀ x ∈ L0, x.f2.length < 140737488355328 := by
    intro x hx
    rw [hL0] at hx
    rcases List.mem_or_eq_of_mem_set hx with h | rfl
    · exact hby x h
    · show l3.length < _; omega
  have hLL : 0 < L0.length ∧ L0.length ≤ 64 := by rw [hL0]; simp; omega
  have hNL : L0.length = l0.length := by rw [hL0]; simp
  rw [← hL0]
  have HNL := Aside0.mk hNL
  have HL0 := Aside0.mk hL0.symm
  have HLL := Aside0.mk hLL
  have HLB := Aside0.mk hLB
  have HR0 := Aside0.mk hr0
  have HC0 := Aside0.mk hc0
  have HX := Aside0.mk (k86_mk w (⟨a1, a2, l3⟩ : S86) hc3 hr3)
  have A1 := Aside0.mk h1
  have A3 := Aside0.mk h3
  have A5 := Aside0.mk h5
  have A6 := Aside0.mk h6
  have hd2 : decide (4096 < (l3.length : Int)) = false := by simp; omega
  have hdi : decide ((i : Int) < (l0.length : Int)) = true := by simp; omega
  have hdi2 : i < l0.length := h6
  clear hr0 hc0 hr3 hc3 h1 h2 h3 h5 h6 hL0 hLL hLB hby
  go_enter Tryd.func19, Tryd.ntmps19
  go_wp2_with (first
    | (go_at_call 37; refine (client_asked.calls k A0 c0 l0 a1 a2 _ _ (Kd.C_below HR0.out (Below.refl _ _)) HC0.out A1.out).mono ?_; rintro e w1 ⟨rfl, hb1⟩; have HB1 := Aside0.mk hb1; clear hb1)
    | (go_at_call 38; refine (client_find.calls A0 c0 l0 a1 a2 _ _ _ _ (Kd.C_below HR0.out HB1.out) HC0.out A3.out).mono ?_; rintro e w2 ⟨rfl, hb2⟩; have HB2 := Aside0.mk (below_step HB1.out hb2); clear hb2)
    | (go_at_call 39; refine (cloneF A0 c0 l0 w _ (Kd.C_below (frozen_C HR0.out) HB2.out) (by have := A5.out; omega)).mono ?_; rintro e w3 ⟨v3, rfl, ho3, hb3⟩; obtain ⟨g3, k3, rfl, hk3, hg3, hg3b⟩ := R_form ho3 (by have := A6.out; omega); have HO3 := Aside0.mk (Kd.R_below (Kd.R_lower ho3 HB2.out.size) ((Below.refl _ _).alloc (Nat.le_refl _) (.cells #[.int .i64 a1, .int .i64 a2, .slice B3 l3.length c3] 86))); have HB3 := Aside0.mk (below_alloc (below_step HB2.out hb3) (.cells #[.int .i64 a1, .int .i64 a2, .slice B3 l3.length c3] 86)); obtain ⟨cc, hcl, _, hcc, _⟩ := Kd.R_elem HO3.out (⟨a1, a2, l3⟩ : S86) (i : Int) (by omega) (by have := A6.out; omega); have HCC := Aside0.mk hcc; have HCL := Aside0.mk hcl; clear hcc hcl; clear ho3 hb3)
    | ((with_reducible refine gate_ (.store 86 (.tmp 56) (.tmp 55)) rfl ?_); (refine Kd.R_store (frozen k86 w) (w0 := w) w.heap.size rfl rfl 86 (.tmp 56) (.tmp 55) rfl 86 (g := g3) (n := l0.length) (cap := k3) (i : Int) 0 l0 (⟨a1, a2, l3⟩ : S86) (.agg #[.int .i64 a1, .int .i64 a2, .slice B3 l3.length c3]) [.int .i64 a1, .int .i64 a2, .slice B3 l3.length c3] cc (fun _ => True) (fun _ => False) rfl (by simp [frozen]; rfl) rfl rfl size86 (fun q hq => k86.K_one HX.out q hq) HO3.out (by omega) (by have := A6.out; omega) HCL.out HCC.out (Nat.le_refl _) (by show k86.K w _ _; have e_ := HCL.out; have e2_ : cc.drop 3 = [] := List.drop_eq_nil_of_le (by rw [e_]; exact Nat.le_refl _); simpa [e2_] using HX.out) (fun _ h => h.elim) HB3.out ?_); intro w4 ho4 hb4 hg4; have HO4 := Aside0.mk ho4; have HB4 := Aside0.mk hb4; clear ho4 hb4 hg4)
    )
  have HH := Aside0.mk (half_of_frozen (show (frozen k86 w).R 86 w4 w.heap.size (fun _ => True) (.slice (some ⟨g3, 0, none⟩) l0.length k3) L0 from by rw [← HL0.out]; exact HO4.out))
  generalize hLn : l0.length = N at *
  clear hNL
  go_loopw [64] (fun v64 W => ∃ m : Nat, m ≤ N ∧ v64 = .int .i64 (m : Int) ∧ Aside0 (Kd.S (half k86 w) 86 W w.heap.size (fun _ => True) (.slice (some ⟨g3, 0, none⟩) N k3) (halfRow m L0)) ∧ Aside0 (Below w.heap.size w W)) (fun v64 _ => N - (intOf v64).toNat)
  case atStart => exact ⟨0, Nat.zero_le _, rfl, HH, HB4⟩
  case round =>
    obtain ⟨m, hm, rfl, HW, HBW⟩ := hrel
    by_cases hlt : m < N
    · have hd : decide ((m : Int) < (N : Int)) = true := by simp; omega
      have hmL : m < L0.length := by have := HNL.out; omega
      obtain ⟨A2, c2, hx0, hx1, hx2, hxl, hxC, hxf⟩ := half_elem HW.out hmL
      have HXL := Aside0.mk hxl
      have HXC := Aside0.mk hxC
      have HSET := Aside0.mk (halfRow_set m L0 hmL)
      have HB1 := Aside0.mk (HLB.out L0[m] (List.getElem_mem _))
      have HCE := Aside0.mk (fun (W' : World) (hb' : Below wr.heap.size wr W') => half_cells (Kd.S_below HW.out hb') hmL)
      have hf2 := hxf 2
      clear hx0 hx1 hxl hxC hxf
      generalize L0[m] = x at *
      go_wp2_with (first
        | (go_at_call 41; refine (bytes_Clone.calls A2 c2 x.f2 x.f2 _ (Kd.C_below HXC.out HBW.out) HXL.out (by unfold bytes_Clone.f; rw [if_pos HB1.out])).mono ?_; rintro e w5 ⟨v5, rfl, ho5, hb5⟩; have HO5 := Aside0.mk ho5; have HB5 := Aside0.mk hb5; obtain ⟨ff, hff⟩ := HW.out; have HW5 := Aside0.mk (Kd.R_below (half_tag m hff) hb5); clear hff; obtain ⟨cc, hcl, hcc, vv, rfl⟩ := HCE.out w5 hb5; have HCL := Aside0.mk hcl; have HCC := Aside0.mk hcc; clear hcl hcc ho5 hb5)
        | ((with_reducible refine gate_ (.store 22 (.tmp 76) (.tmp 74)) rfl ?_); (refine Kd.R_store (Kd.tag (fun b_ => if b_ < wr.heap.size then ff b_ else m) (half k86 w)) (w0 := w) w.heap.size rfl rfl 22 (.tmp 76) (.tmp 74) rfl 86 (g := g3) (n := N) (cap := k3) (m : Int) 2 ((halfRow m L0).zipIdx) ((true, x), m) v5 [v5] [.int .i64 x.f0, .int .i64 x.f1, vv] (fun _ => True) (fun k_ => k_ ≠ g3) rfl (by simp [half, Kd.tag]; rfl) rfl (by obtain ⟨A_, c_, rfl⟩ := Kd.R_slice HO5.out; rfl) size22 (by intro q hq; obtain ⟨A_, c_, rfl⟩ := Kd.R_slice HO5.out; rw [List.mem_singleton.1 hq]; rfl) HW5.out (by omega) (by omega) HCL.out HCC.out (by simp [half, Kd.tag]; decide) (half_new (half_lt HW.out) HBW.out.size HO5.out) (fun _ h => ⟨trivial, h⟩) (below_step HBW.out HB5.out) ?_); intro w6 ho6 hb6 hg6; have HO6 := Aside0.mk ho6; have HB6 := Aside0.mk hb6; clear ho6 hb6 hg6))
      have hN64 : N ≤ 64 := by have h1 := HLL.out; have h2 := HNL.out; omega
      have hw : wrap64 ((m : Int) + 1) = ((m + 1 : Nat) : Int) := by unfold wrap64; omega
      refine ⟨⟨m + 1, hlt, by rw [hw], ⟨by have h_ := HO6.out; rw [Int.toNat_natCast, zipIdx_set, HSET.out] at h_; exact ⟨_, h_⟩⟩, HB6⟩, ?_⟩
      rw [hw]
      simp only [intOf, Int.toNat_natCast]
      omega
    · have hmN : m = L0.length := by have := HNL.out; omega
      have hd : decide ((m : Int) < (N : Int)) = false := by simp; omega
      go_wp2
      go_ret2
      exact ⟨_, rfl, own_of_half (by rw [← hmN]; exact HW.out), HBW.out⟩
set_option maxHeartbeats 8000000 in
set_option maxRecDepth 100000 in
theorem done_new (k : Nat) (A0 : Option Addr) (c0 : Nat) (l0 : List S86) (a1 a2 : Int) (B3 : Option Addr) (c3 : Nat) (l3 : List Int) (i : Nat) (w : World) (hr0 : Kd.C k86 w A0 l0.length l0) (hc0 : l0.length ≤ c0) (hr3 : Kd.C (Kd.int .u8) w B3 l3.length l3) (hc3 : l3.length ≤ c3)
    (h1 : client_asked.f k l0 a1 a2 = some 0) (h2 : l3.length ≤ 4096) (h3 : client_find.f l0 a1 a2 = some ((i : Int), false, 0)) (h5 : l0.length ≤ 64) (h6 : i ≤ l0.length ∧ l0.length < 64) (hby : ∀ x ∈ l0, x.f2.length < 140737488355328) :
    Calls Tryd.prog 19 #[.slice A0 l0.length c0, .int .i64 a1, .int .i64 a2, .slice B3 l3.length c3] w fun e w' => ∃ v0_ : Value, e = .returned (.tuple #[v0_, .int .i64 0]) ∧ Kd.S k86 86 w' w.heap.size (fun _ => True) v0_ (l0.take i ++ [⟨a1, a2, l3⟩] ++ l0.drop i) ∧ Below w.heap.size w w' := by
  obtain ⟨L0, hL0⟩ : ∃ L0, L0 = l0.take i ++ [⟨a1, a2, l3⟩] ++ l0.drop i := ⟨_, rfl⟩
  have hLB : ∀ x ∈ L0, x.f2.length < 140737488355328 := by
    intro x hx
    rw [hL0] at hx
    rcases List.mem_append.1 hx with h | h
    · rcases List.mem_append.1 h with h | h
      · exact hby x (List.mem_of_mem_take h)
      · rw [List.mem_singleton.1 h]; show l3.length < _; omega
    · exact hby x (List.mem_of_mem_drop h)
  have hLL : 0 < L0.length ∧ L0.length ≤ 64 := by rw [hL0]; simp; omega
  have hNL : L0.length = L0.length := rfl
  rw [← hL0]
  have HNL := Aside0.mk hNL
  have HL0 := Aside0.mk hL0.symm
  have HLL := Aside0.mk hLL
  have HLB := Aside0.mk hLB
  have HR0 := Aside0.mk hr0
  have HC0 := Aside0.mk hc0
  have HX := Aside0.mk (k86_mk w (⟨a1, a2, l3⟩ : S86) hc3 hr3)
  have A1 := Aside0.mk h1
  have A3 := Aside0.mk h3
  have A5 := Aside0.mk h5
  have A6 := Aside0.mk h6
  have hd2 : decide (4096 < (l3.length : Int)) = false := by simp; omega
  have hd5 : decide (64 ≤ (l0.length : Int)) = false := by simp; omega
  clear hr0 hc0 hr3 hc3 h1 h2 h3 h5 h6 hL0 hLL hLB hby
  go_enter Tryd.func19, Tryd.ntmps19
  go_wp2_with (first
    | (go_at_call 37; refine (client_asked.calls k A0 c0 l0 a1 a2 _ _ (Kd.C_below HR0.out (Below.refl _ _)) HC0.out A1.out).mono ?_; rintro e w1 ⟨rfl, hb1⟩; have HB1 := Aside0.mk hb1; clear hb1)
    | (go_at_call 38; refine (client_find.calls A0 c0 l0 a1 a2 _ _ _ _ (Kd.C_below HR0.out HB1.out) HC0.out A3.out).mono ?_; rintro e w2 ⟨rfl, hb2⟩; have HB2 := Aside0.mk (below_step HB1.out hb2); clear hb2)
    | (go_at_call 39; refine (cloneF A0 c0 l0 w _ (Kd.C_below (frozen_C HR0.out) HB2.out) (by have := A5.out; omega)).mono ?_; rintro e w3 ⟨v3, rfl, ho3, hb3⟩; obtain ⟨D3, k3, rfl, hk3, _⟩ := Kd.R_reads ho3; have HN3 := Aside0.mk (Kd.R_ne_new ho3 1); have HO3 := Aside0.mk (Kd.R_below (Kd.R_lower ho3 HB2.out.size) ((Below.refl _ _).alloc (Nat.le_refl _) (.cells #[.int .i64 a1, .int .i64 a2, .slice B3 l3.length c3] 86))); have HB3 := Aside0.mk (below_alloc (below_step HB2.out hb3) (.cells #[.int .i64 a1, .int .i64 a2, .slice B3 l3.length c3] 86));  clear ho3 hb3)
    | (go_at_call 40; refine (insertF w w.heap.size (w3.heap.size + 1) D3 l0.length k3 i l0 (⟨a1, a2, l3⟩ : S86) a1 a2 (.slice B3 l3.length c3) HX.out _ (Kd.R_below HO3.out ((Below.refl _ _).alloc (Nat.le_refl _) _)) rfl A6.out.1 (Nat.le_trans HB3.out.size (by simp)) (by have := A5.out; omega) (by have h_ := heap_alloc_new (w3.alloc (.cells #[.int .i64 a1, .int .i64 a2, .slice B3 l3.length c3] 86)) (.cells #[.int .i64 a1, .int .i64 a2, .slice B3 l3.length c3] 86); simpa using h_) HN3.out).mono ?_; rintro e w4 ⟨v4, rfl, ho4, hb4⟩; have HB4 := Aside0.mk ((HB3.out.alloc HB3.out.size _).trans hb4); rw [HL0.out] at ho4; obtain ⟨g4, k4, rfl, hk4, hg4, hg4b⟩ := R_form ho4 HLL.out.1; have HO4 := Aside0.mk ho4; clear ho4 hb4)
    )
  have HH := Aside0.mk (half_of_frozen (show (frozen k86 w).R 86 w4 w.heap.size (fun _ => True) (.slice (some ⟨g4, 0, none⟩) L0.length k4) L0 from HO4.out))
  generalize hLn : L0.length = N at *
  clear hNL
  go_loopw [64] (fun v64 W => ∃ m : Nat, m ≤ N ∧ v64 = .int .i64 (m : Int) ∧ Aside0 (Kd.S (half k86 w) 86 W w.heap.size (fun _ => True) (.slice (some ⟨g4, 0, none⟩) N k4) (halfRow m L0)) ∧ Aside0 (Below w.heap.size w W)) (fun v64 _ => N - (intOf v64).toNat)
  case atStart => exact ⟨0, Nat.zero_le _, rfl, HH, HB4⟩
  case round =>
    obtain ⟨m, hm, rfl, HW, HBW⟩ := hrel
    by_cases hlt : m < N
    · have hd : decide ((m : Int) < (N : Int)) = true := by simp; omega
      have hmL : m < L0.length := by have := HNL.out; omega
      obtain ⟨A2, c2, hx0, hx1, hx2, hxl, hxC, hxf⟩ := half_elem HW.out hmL
      have HXL := Aside0.mk hxl
      have HXC := Aside0.mk hxC
      have HSET := Aside0.mk (halfRow_set m L0 hmL)
      have HB1 := Aside0.mk (HLB.out L0[m] (List.getElem_mem _))
      have HCE := Aside0.mk (fun (W' : World) (hb' : Below wr.heap.size wr W') => half_cells (Kd.S_below HW.out hb') hmL)
      have hf2 := hxf 2
      clear hx0 hx1 hxl hxC hxf
      generalize L0[m] = x at *
      go_wp2_with (first
        | (go_at_call 41; refine (bytes_Clone.calls A2 c2 x.f2 x.f2 _ (Kd.C_below HXC.out HBW.out) HXL.out (by unfold bytes_Clone.f; rw [if_pos HB1.out])).mono ?_; rintro e w5 ⟨v5, rfl, ho5, hb5⟩; have HO5 := Aside0.mk ho5; have HB5 := Aside0.mk hb5; obtain ⟨ff, hff⟩ := HW.out; have HW5 := Aside0.mk (Kd.R_below (half_tag m hff) hb5); clear hff; obtain ⟨cc, hcl, hcc, vv, rfl⟩ := HCE.out w5 hb5; have HCL := Aside0.mk hcl; have HCC := Aside0.mk hcc; clear hcl hcc ho5 hb5)
        | ((with_reducible refine gate_ (.store 22 (.tmp 76) (.tmp 74)) rfl ?_); (refine Kd.R_store (Kd.tag (fun b_ => if b_ < wr.heap.size then ff b_ else m) (half k86 w)) (w0 := w) w.heap.size rfl rfl 22 (.tmp 76) (.tmp 74) rfl 86 (g := g4) (n := N) (cap := k4) (m : Int) 2 ((halfRow m L0).zipIdx) ((true, x), m) v5 [v5] [.int .i64 x.f0, .int .i64 x.f1, vv] (fun _ => True) (fun k_ => k_ ≠ g4) rfl (by simp [half, Kd.tag]; rfl) rfl (by obtain ⟨A_, c_, rfl⟩ := Kd.R_slice HO5.out; rfl) size22 (by intro q hq; obtain ⟨A_, c_, rfl⟩ := Kd.R_slice HO5.out; rw [List.mem_singleton.1 hq]; rfl) HW5.out (by omega) (by omega) HCL.out HCC.out (by simp [half, Kd.tag]; decide) (half_new (half_lt HW.out) HBW.out.size HO5.out) (fun _ h => ⟨trivial, h⟩) (below_step HBW.out HB5.out) ?_); intro w6 ho6 hb6 hg6; have HO6 := Aside0.mk ho6; have HB6 := Aside0.mk hb6; clear ho6 hb6 hg6))
      have hN64 : N ≤ 64 := by have h1 := HLL.out; have h2 := HNL.out; omega
      have hw : wrap64 ((m : Int) + 1) = ((m + 1 : Nat) : Int) := by unfold wrap64; omega
      refine ⟨⟨m + 1, hlt, by rw [hw], ⟨by have h_ := HO6.out; rw [Int.toNat_natCast, zipIdx_set, HSET.out] at h_; exact ⟨_, h_⟩⟩, HB6⟩, ?_⟩
      rw [hw]
      simp only [intOf, Int.toNat_natCast]
      omega
    · have hmN : m = L0.length := by have := HNL.out; omega
      have hd : decide ((m : Int) < (N : Int)) = false := by simp; omega
      go_wp2
      go_ret2
      exact ⟨_, rfl, own_of_half (by rw [← hmN]; exact HW.out), HBW.out⟩
set_option maxHeartbeats 8000000 in
set_option maxRecDepth 100000 in
theorem done_e1 (k : Nat) (A0 : Option Addr) (c0 : Nat) (l0 : List S86) (a1 a2 : Int) (B3 : Option Addr) (c3 : Nat) (l3 : List Int) (t : Int) (w : World) (hr0 : Kd.C k86 w A0 l0.length l0) (hc0 : l0.length ≤ c0)
    (h1 : client_asked.f k l0 a1 a2 = some t) (h2 : ¬ t = 0) :
    Calls Tryd.prog 19 #[.slice A0 l0.length c0, .int .i64 a1, .int .i64 a2, .slice B3 l3.length c3] w fun e w' => ∃ v0_ : Value, e = .returned (.tuple #[v0_, .int .i64 t]) ∧ Kd.S k86 86 w' w.heap.size (fun _ => True) v0_ [] ∧ Below w.heap.size w w' := by
  have HR0 := Aside0.mk hr0
  have HC0 := Aside0.mk hc0
  have A1 := Aside0.mk h1
  have hq1 : (t == 0) = false := by simpa using h2
  have hq2 : (t != 0) = true := by simpa using h2
  clear hr0 hc0 h1 h2
  go_enter Tryd.func19, Tryd.ntmps19
  go_wp2_with (first
    | (go_at_call 37; refine (client_asked.calls k A0 c0 l0 a1 a2 _ _ (Kd.C_below HR0.out (Below.refl _ _)) HC0.out A1.out).mono ?_; rintro e w1 ⟨rfl, hb1⟩; have HB1 := Aside0.mk hb1; have HBZ := HB1; clear hb1)
    | (go_at_call 38; refine (client_find.calls A0 c0 l0 a1 a2 _ _ _ _ (Kd.C_below HR0.out HB1.out) HC0.out A3.out).mono ?_; rintro e w2 ⟨rfl, hb2⟩; clear HBZ; have HBZ := Aside0.mk (below_step HB1.out hb2); clear hb2)
    )
  go_ret2
  exact ⟨_, rfl, Kd.S_nil _ _ _ _ _, HBZ.out⟩
set_option maxHeartbeats 8000000 in
set_option maxRecDepth 100000 in
theorem done_e2 (k : Nat) (A0 : Option Addr) (c0 : Nat) (l0 : List S86) (a1 a2 : Int) (B3 : Option Addr) (c3 : Nat) (l3 : List Int) (w : World) (hr0 : Kd.C k86 w A0 l0.length l0) (hc0 : l0.length ≤ c0)
    (h1 : client_asked.f k l0 a1 a2 = some 0) (h2 : ¬ l3.length ≤ 4096) :
    Calls Tryd.prog 19 #[.slice A0 l0.length c0, .int .i64 a1, .int .i64 a2, .slice B3 l3.length c3] w fun e w' => ∃ v0_ : Value, e = .returned (.tuple #[v0_, .int .i64 5]) ∧ Kd.S k86 86 w' w.heap.size (fun _ => True) v0_ [] ∧ Below w.heap.size w w' := by
  have HR0 := Aside0.mk hr0
  have HC0 := Aside0.mk hc0
  have A1 := Aside0.mk h1
  have hd2 : decide (4096 < (l3.length : Int)) = true := by simp; omega
  clear hr0 hc0 h1 h2
  go_enter Tryd.func19, Tryd.ntmps19
  go_wp2_with (first
    | (go_at_call 37; refine (client_asked.calls k A0 c0 l0 a1 a2 _ _ (Kd.C_below HR0.out (Below.refl _ _)) HC0.out A1.out).mono ?_; rintro e w1 ⟨rfl, hb1⟩; have HB1 := Aside0.mk hb1; have HBZ := HB1; clear hb1)
    | (go_at_call 38; refine (client_find.calls A0 c0 l0 a1 a2 _ _ _ _ (Kd.C_below HR0.out HB1.out) HC0.out A3.out).mono ?_; rintro e w2 ⟨rfl, hb2⟩; clear HBZ; have HBZ := Aside0.mk (below_step HB1.out hb2); clear hb2)
    )
  go_ret2
  exact ⟨_, rfl, Kd.S_nil _ _ _ _ _, HBZ.out⟩
set_option maxHeartbeats 8000000 in
set_option maxRecDepth 100000 in
theorem done_e3 (k : Nat) (A0 : Option Addr) (c0 : Nat) (l0 : List S86) (a1 a2 : Int) (B3 : Option Addr) (c3 : Nat) (l3 : List Int) (i : Int) (b : Bool) (t : Int) (w : World) (hr0 : Kd.C k86 w A0 l0.length l0) (hc0 : l0.length ≤ c0)
    (h1 : client_asked.f k l0 a1 a2 = some 0) (h2 : l3.length ≤ 4096) (h3 : client_find.f l0 a1 a2 = some (i, b, t)) (h4 : ¬ t = 0) :
    Calls Tryd.prog 19 #[.slice A0 l0.length c0, .int .i64 a1, .int .i64 a2, .slice B3 l3.length c3] w fun e w' => ∃ v0_ : Value, e = .returned (.tuple #[v0_, .int .i64 81]) ∧ Kd.S k86 86 w' w.heap.size (fun _ => True) v0_ [] ∧ Below w.heap.size w w' := by
  have HR0 := Aside0.mk hr0
  have HC0 := Aside0.mk hc0
  have A1 := Aside0.mk h1
  have hd2 : decide (4096 < (l3.length : Int)) = false := by simp; omega
  have A3 := Aside0.mk h3
  have hq1 : (t == 0) = false := by simpa using h4
  have hq2 : (t != 0) = true := by simpa using h4
  clear hr0 hc0 h1 h2 h3 h4
  go_enter Tryd.func19, Tryd.ntmps19
  go_wp2_with (first
    | (go_at_call 37; refine (client_asked.calls k A0 c0 l0 a1 a2 _ _ (Kd.C_below HR0.out (Below.refl _ _)) HC0.out A1.out).mono ?_; rintro e w1 ⟨rfl, hb1⟩; have HB1 := Aside0.mk hb1; have HBZ := HB1; clear hb1)
    | (go_at_call 38; refine (client_find.calls A0 c0 l0 a1 a2 _ _ _ _ (Kd.C_below HR0.out HB1.out) HC0.out A3.out).mono ?_; rintro e w2 ⟨rfl, hb2⟩; clear HBZ; have HBZ := Aside0.mk (below_step HB1.out hb2); clear hb2)
    )
  go_ret2
  exact ⟨_, rfl, Kd.S_nil _ _ _ _ _, HBZ.out⟩
set_option maxHeartbeats 8000000 in
set_option maxRecDepth 100000 in
theorem done_e4 (k : Nat) (A0 : Option Addr) (c0 : Nat) (l0 : List S86) (a1 a2 : Int) (B3 : Option Addr) (c3 : Nat) (l3 : List Int) (i : Int) (w : World) (hr0 : Kd.C k86 w A0 l0.length l0) (hc0 : l0.length ≤ c0)
    (h1 : client_asked.f k l0 a1 a2 = some 0) (h2 : l3.length ≤ 4096) (h3 : client_find.f l0 a1 a2 = some (i, false, 0)) (h4 : 64 ≤ l0.length) :
    Calls Tryd.prog 19 #[.slice A0 l0.length c0, .int .i64 a1, .int .i64 a2, .slice B3 l3.length c3] w fun e w' => ∃ v0_ : Value, e = .returned (.tuple #[v0_, .int .i64 51]) ∧ Kd.S k86 86 w' w.heap.size (fun _ => True) v0_ [] ∧ Below w.heap.size w w' := by
  have HR0 := Aside0.mk hr0
  have HC0 := Aside0.mk hc0
  have A1 := Aside0.mk h1
  have hd2 : decide (4096 < (l3.length : Int)) = false := by simp; omega
  have A3 := Aside0.mk h3
  have hd5 : decide (64 ≤ (l0.length : Int)) = true := by simp; omega
  clear hr0 hc0 h1 h2 h3 h4
  go_enter Tryd.func19, Tryd.ntmps19
  go_wp2_with (first
    | (go_at_call 37; refine (client_asked.calls k A0 c0 l0 a1 a2 _ _ (Kd.C_below HR0.out (Below.refl _ _)) HC0.out A1.out).mono ?_; rintro e w1 ⟨rfl, hb1⟩; have HB1 := Aside0.mk hb1; have HBZ := HB1; clear hb1)
    | (go_at_call 38; refine (client_find.calls A0 c0 l0 a1 a2 _ _ _ _ (Kd.C_below HR0.out HB1.out) HC0.out A3.out).mono ?_; rintro e w2 ⟨rfl, hb2⟩; clear HBZ; have HBZ := Aside0.mk (below_step HB1.out hb2); clear hb2)
    )
  go_ret2
  exact ⟨_, rfl, Kd.S_nil _ _ _ _ _, HBZ.out⟩
theorem client_Done.calls (k : Nat) (A0 : Option Addr) (c0 : Nat) (l0 : List S86) (a1 a2 : Int) (A3 : Option Addr) (c3 : Nat) (l3 : List Int) (r1 : List S86) (r2 : Int) (w : World) (hr0 : Kd.C k86 w A0 l0.length l0) (hc0 : l0.length ≤ c0) (hr3 : Kd.C (Kd.int .u8) w A3 l3.length l3) (hc3 : l3.length ≤ c3) (h : client_Done.f k l0 a1 a2 l3 = some (r1, r2)) :
    Calls Tryd.prog 19 #[.slice A0 l0.length c0, .int .i64 a1, .int .i64 a2, .slice A3 l3.length c3] w fun e w' => ∃ v0_ : Value, e = .returned (.tuple #[v0_, .int .i64 r2]) ∧ Kd.S k86 86 w' w.heap.size (fun _ => True) v0_ r1 ∧ Below w.heap.size w w' := by
  unfold client_Done.f at h
  obtain ⟨t, h1, h⟩ := Option.bind_eq_some_iff.1 h
  by_cases ht : t = 0
  case neg =>
    rw [if_neg ht] at h
    obtain ⟨rfl, rfl⟩ := Prod.mk.inj (Option.some.inj h)
    exact done_e1 k A0 c0 l0 a1 a2 A3 c3 l3 t w hr0 hc0 h1 ht
  subst ht
  rw [if_pos rfl] at h
  by_cases h2 : l3.length ≤ 4096
  case neg =>
    rw [if_neg h2] at h
    obtain ⟨rfl, rfl⟩ := Prod.mk.inj (Option.some.inj h)
    exact done_e2 k A0 c0 l0 a1 a2 A3 c3 l3 w hr0 hc0 h1 h2
  rw [if_pos h2] at h
  obtain ⟨⟨i, is, what⟩, h3, h⟩ := Option.bind_eq_some_iff.1 h
  simp only at h
  by_cases hw : what = 0
  case neg =>
    rw [if_neg hw] at h
    obtain ⟨rfl, rfl⟩ := Prod.mk.inj (Option.some.inj h)
    exact done_e3 k A0 c0 l0 a1 a2 A3 c3 l3 i is what w hr0 hc0 h1 h2 h3 hw
  subst hw
  rw [if_pos rfl] at h
  by_cases ha : (l0.all fun x => decide (x.f2.length ≤ 4096)) = true
  case neg => rw [if_neg ha] at h; cases h
  rw [if_pos ha] at h
  have hby : ∀ x ∈ l0, x.f2.length < 140737488355328 := fun x hx => by
    have := List.all_eq_true.1 ha x hx
    simp at this
    omega
  cases is with
  | true =>
    rw [if_pos rfl] at h
    by_cases hi : 0 ≤ i ∧ i.toNat < l0.length ∧ l0.length ≤ 64
    case neg => rw [if_neg hi] at h; cases h
    rw [if_pos hi] at h
    obtain ⟨rfl, rfl⟩ := Prod.mk.inj (Option.some.inj h)
    obtain ⟨n, rfl⟩ : ∃ n : Nat, i = (n : Int) := ⟨i.toNat, by omega⟩
    rw [Int.toNat_natCast] at hi ⊢
    exact done_in k A0 c0 l0 a1 a2 A3 c3 l3 n w hr0 hc0 hr3 hc3 h1 h2 h3 hi.2.2 hi.2.1 hby
  | false =>
    rw [if_neg (by decide)] at h
    by_cases h5 : 64 ≤ l0.length
    · rw [if_pos h5] at h
      obtain ⟨rfl, rfl⟩ := Prod.mk.inj (Option.some.inj h)
      exact done_e4 k A0 c0 l0 a1 a2 A3 c3 l3 i w hr0 hc0 h1 h2 h3 h5
    rw [if_neg h5] at h
    by_cases hi : 0 ≤ i ∧ i.toNat ≤ l0.length
    case neg => rw [if_neg hi] at h; cases h
    rw [if_pos hi] at h
    obtain ⟨rfl, rfl⟩ := Prod.mk.inj (Option.some.inj h)
    obtain ⟨n, rfl⟩ : ∃ n : Nat, i = (n : Int) := ⟨i.toNat, by omega⟩
    rw [Int.toNat_natCast] at hi ⊢
    exact done_new k A0 c0 l0 a1 a2 A3 c3 l3 n w hr0 hc0 hr3 hc3 h1 h2 h3 (by omega) ⟨hi.2, by omega⟩ hby
end

/-! ### client_Ask: function 20 -/
def client_Ask.f (k : Nat) (l0 : List (S86)) (a1 : Int) (a2 : Int) : Option (Int × List Int × Int) := (client_asked.f k l0 a1 a2).bind fun t296 => (if t296 = 0 then ((client_find.f l0 a1 a2).bind fun bt297 => (if bt297.2.2 = 1 then (if 0 ≤ bt297.1 then (if bt297.1 < (l0.length : Int) then ((bytes_Clone.f ((rd_T86 l0 bt297.1).f2)).bind fun t301 => (some (bt297.2.2, t301, 0))) else (none)) else (none)) else (some (bt297.2.2, ([] : List Int), 0)))) else (some (0, ([] : List Int), t296)))
theorem client_Ask.mono : ∀ a0 a1 a2 k, LeO (client_Ask.f k a0 a1 a2) (client_Ask.f (k + 1) a0 a1 a2) := by
  intro a0 a1 a2 k
  unfold client_Ask.f
  repeat' first
      | (with_reducible exact client_asked.mono _ _ _ _)
      | (with_reducible exact LeO.refl _)
      | (with_reducible exact LeO.none _)
      | (with_reducible refine LeO.ite ?_ ?_)
      | (with_reducible refine LeO.bind ?_ (fun _ => ?_))
      | exact client_asked.mono _ _ _ _
      | exact LeO.none _
      | refine LeO.ite ?_ ?_
      | refine LeO.bind ?_ (fun _ => ?_)
set_option maxHeartbeats 8000000 in
set_option maxRecDepth 100000 in
theorem client_Ask.calls (k : Nat) (A0 : Option Addr) (c0 : Nat) (l0 : List (S86)) (a1 : Int) (a2 : Int) (r1 : Int) (r2 : List Int) (r3 : Int) (w : World) (hr0 : Kd.C k86 w A0 l0.length l0) (hc0 : l0.length ≤ c0) (h : client_Ask.f k l0 a1 a2 = some (r1, r2, r3)) :
    Calls Tryd.prog 20 #[.slice A0 l0.length c0, .int .i64 a1, .int .i64 a2] w fun e w' => ∃ v1_ : Value, e = .returned (.tuple #[.int .i64 r1, v1_, .int .i64 r3]) ∧ Kd.R (Kd.int .u8) 5 w' w.heap.size (fun _ => True) v1_ r2 ∧ Below w.heap.size w w' := by
  have HR0 := Aside0.mk hr0
  have HC0 := Aside0.mk hc0
  clear hr0 hc0
  have HB := Aside0.mk (Below.refl w.heap.size w)
  have H : ((client_asked.f k l0 a1 a2).bind fun t296 => (if t296 = 0 then ((client_find.f l0 a1 a2).bind fun bt297 => (if bt297.2.2 = 1 then (if 0 ≤ bt297.1 then (if bt297.1 < (l0.length : Int) then ((bytes_Clone.f ((rd_T86 l0 bt297.1).f2)).bind fun t301 => (some (bt297.2.2, t301, 0))) else (none)) else (none)) else (some (bt297.2.2, ([] : List Int), 0)))) else (some (0, ([] : List Int), t296)))) = some (r1, r2, r3) := h
  clear h
  replace H := Option.bind_eq_some_iff.mp H
  obtain ⟨t296, A40, H⟩ := H
  replace H : (if t296 = 0 then ((client_find.f l0 a1 a2).bind fun bt297 => (if bt297.2.2 = 1 then (if 0 ≤ bt297.1 then (if bt297.1 < (l0.length : Int) then ((bytes_Clone.f ((rd_T86 l0 bt297.1).f2)).bind fun t301 => (some (bt297.2.2, t301, 0))) else (none)) else (none)) else (some (bt297.2.2, ([] : List Int), 0)))) else (some (0, ([] : List Int), t296))) = some (r1, r2, r3) := H
  have A4 := Aside0.mk A40
  clear A40
  by_cases c5 : t296 = 0
  · rw [if_pos c5] at H
    have c5b0 : (t296 == 0) = true := beq_iff_eq.mpr c5
    have c5b1 : (t296 != 0) = false := bne_eq_false_iff_eq.mpr c5
    clear c5
    replace H := Option.bind_eq_some_iff.mp H
    obtain ⟨⟨t297, t298, t299⟩, A60, H⟩ := H
    replace H : (if t299 = 1 then (if 0 ≤ t297 then (if t297 < (l0.length : Int) then ((bytes_Clone.f ((rd_T86 l0 t297).f2)).bind fun t301 => (some (t299, t301, 0))) else (none)) else (none)) else (some (t299, ([] : List Int), 0))) = some (r1, r2, r3) := H
    have A6 := Aside0.mk A60
    clear A60
    by_cases c7 : t299 = 1
    · rw [if_pos c7] at H
      have c7b0 : (t299 == 1) = true := beq_iff_eq.mpr c7
      have c7b1 : (t299 != 1) = false := bne_eq_false_iff_eq.mpr c7
      clear c7
      by_cases c8 : 0 ≤ t297
      · rw [if_pos c8] at H
        have c8b0 : decide (0 ≤ t297) = true := decide_eq_true c8
        clear c8
        by_cases c9 : t297 < (l0.length : Int)
        · rw [if_pos c9] at H
          have c9b0 : decide (t297 < (l0.length : Int)) = true := decide_eq_true c9
          clear c9
          replace H := Option.bind_eq_some_iff.mp H
          obtain ⟨t301, A100, H⟩ := H
          replace H : (some (t299, t301, 0)) = some (r1, r2, r3) := H
          have A10 := Aside0.mk A100
          clear A100
          simp only [Option.some.injEq, Prod.mk.injEq] at H
          obtain ⟨rfl, rfl, rfl⟩ := H
          go_enter Tryd.func20, Tryd.ntmps20
          go_wp2_with (first | ((with_reducible refine gate_callee (f := 37) rfl ?_); refine goesL_ (some 16) rfl rfl Tryd.func37 (by kernel_rfl) rfl #[.slice A0 l0.length c0, .int .i64 a1, .int .i64 a2] rfl (by (try simp only [List.map_toArray, List.map_cons, List.map_nil]); first | done | rfl | (simp only [List.length_drop, List.length_take]; rfl)) ?_; (with_reducible refine (client_asked.calls k _ _ l0 a1 a2 t296 _ ?side1 ?side2 A4.out).mono ?_); (case side1 => repeat (first | exact HR0.out | (with_reducible refine Kd.C_alloc ?_ _) | (with_reducible refine Kd.C_drewN ?_ _) | (with_reducible refine Kd.C_drew ?_))); (case side2 => exact HC0.out); rintro e w11 ⟨rfl, hb⟩; refine ⟨_, rfl, ?_⟩; have n0_ := Aside0.mk (below_step (by repeat (first | (with_reducible first | exact HB.out | apply below_alloc | apply pw_below_drewN | apply below_drew1) | exact HB.out)) hb); clear HB; have HB := n0_; clear n0_; (try clear hb); (try clear hb2); (try clear hk); (try clear hi)) | ((with_reducible refine gate_callee (f := 38) rfl ?_); refine goesL_ (some 24) rfl rfl Tryd.func38 (by kernel_rfl) rfl #[.slice A0 l0.length c0, .int .i64 a1, .int .i64 a2] rfl (by (try simp only [List.map_toArray, List.map_cons, List.map_nil]); first | done | rfl | (simp only [List.length_drop, List.length_take]; rfl)) ?_; (with_reducible refine (client_find.calls _ _ l0 a1 a2 t297 t298 t299 _ ?side1 ?side2 A6.out).mono ?_); (case side1 => repeat (first | exact (Kd.C_below HR0.out HB.out) | (with_reducible refine Kd.C_alloc ?_ _) | (with_reducible refine Kd.C_drewN ?_ _) | (with_reducible refine Kd.C_drew ?_))); (case side2 => exact HC0.out); rintro e w12 ⟨rfl, hb⟩; refine ⟨_, rfl, ?_⟩; have n0_ := Aside0.mk (below_step (by repeat (first | (with_reducible first | exact HB.out | apply below_alloc | apply pw_below_drewN | apply below_drew1) | exact HB.out)) hb); clear HB; have HB := n0_; clear n0_; (try clear hb); (try clear hb2); (try clear hk); (try clear hi); have p300 : 0 ≤ (t297 : Int) := of_decide_eq_true (by first | (with_reducible assumption) | assumption); have q300 : t297 < (l0.length : Int) := of_decide_eq_true (by first | (with_reducible assumption) | assumption); obtain ⟨ad300, A300_2, c300_2, e300, hx300_0, hx300_1, hx300_2, hl300_2, hi300_2⟩ := at_T86 HR0.out t297 p300 q300; cases e300; replace hx300_0 := (HB.out.cell (World.block_lt_of_cell? w _ hx300_0)).trans hx300_0; replace hx300_1 := (HB.out.cell (World.block_lt_of_cell? w _ hx300_1)).trans hx300_1; replace hx300_2 := (HB.out.cell (World.block_lt_of_cell? w _ hx300_2)).trans hx300_2; have HR300_2 := Aside0.mk hi300_2; have HC300_2 := Aside0.mk hl300_2; clear hi300_2 hl300_2; replace p300 := eq_true p300; replace q300 := eq_true q300) | ((with_reducible refine gate_callee (f := 41) rfl ?_); refine goesL_ (some 36) rfl rfl Tryd.func41 (by kernel_rfl) rfl #[.slice A300_2 ((rd_T86 l0 t297).f2).length c300_2] rfl (by (try simp only [List.map_toArray, List.map_cons, List.map_nil]); first | done | rfl | (simp only [List.length_drop, List.length_take]; rfl)) ?_; (with_reducible refine (bytes_Clone.calls _ _ ((rd_T86 l0 t297).f2) t301 _ ?side1 ?side2 A10.out).mono ?_); (case side1 => repeat (first | exact (Kd.C_below HR300_2.out HB.out) | (with_reducible refine Kd.C_alloc ?_ _) | (with_reducible refine Kd.C_drewN ?_ _) | (with_reducible refine Kd.C_drew ?_))); (case side2 => exact HC300_2.out); rintro e w13 ⟨v302, rfl, ho0, hb⟩; refine ⟨_, rfl, ?_⟩; have n0_ := Aside0.mk (Kd.R_lower ho0 (below_size (by repeat (first | (with_reducible first | exact HB.out | apply below_alloc | apply pw_below_drewN | apply below_drew1) | exact HB.out)))); have n1_ := Aside0.mk (below_step (by repeat (first | (with_reducible first | exact HB.out | apply below_alloc | apply pw_below_drewN | apply below_drew1) | exact HB.out)) hb); clear HB; have HO303 := n0_; have HB := n1_; clear n0_ n1_; (try clear hb); (try clear hb2); (try clear hk); (try clear hi); (try clear ho0)))
          go_ret3
          exact ⟨_, by first | rfl | (simp [errW_none, errW_some] <;> rfl) | (simp [*, errW_none, errW_some] <;> rfl) | (exfalso; simp only [beq_iff_eq, decide_eq_true_eq] at *; omega), by (with_reducible repeat (first | apply Kd.R_alloc | apply Kd.R_drewN | apply Kd.R_drew)); exact HO303.out, by repeat (first | (with_reducible first | exact HB.out | apply below_alloc | apply pw_below_drewN | apply below_drew1) | exact HB.out)⟩
        · rw [if_neg c9] at H
          exact absurd H (by simp)
      · rw [if_neg c8] at H
        exact absurd H (by simp)
    · rw [if_neg c7] at H
      have c7b0 : (t299 == 1) = false := beq_eq_false_iff_ne.mpr c7
      have c7b1 : (t299 != 1) = true := bne_iff_ne.mpr c7
      simp only [Option.some.injEq, Prod.mk.injEq] at H
      obtain ⟨rfl, rfl, rfl⟩ := H
      go_enter Tryd.func20, Tryd.ntmps20
      go_wp2_with (first | ((with_reducible refine gate_callee (f := 37) rfl ?_); refine goesL_ (some 16) rfl rfl Tryd.func37 (by kernel_rfl) rfl #[.slice A0 l0.length c0, .int .i64 a1, .int .i64 a2] rfl (by (try simp only [List.map_toArray, List.map_cons, List.map_nil]); first | done | rfl | (simp only [List.length_drop, List.length_take]; rfl)) ?_; (with_reducible refine (client_asked.calls k _ _ l0 a1 a2 t296 _ ?side1 ?side2 A4.out).mono ?_); (case side1 => repeat (first | exact HR0.out | (with_reducible refine Kd.C_alloc ?_ _) | (with_reducible refine Kd.C_drewN ?_ _) | (with_reducible refine Kd.C_drew ?_))); (case side2 => exact HC0.out); rintro e w14 ⟨rfl, hb⟩; refine ⟨_, rfl, ?_⟩; have n0_ := Aside0.mk (below_step (by repeat (first | (with_reducible first | exact HB.out | apply below_alloc | apply pw_below_drewN | apply below_drew1) | exact HB.out)) hb); clear HB; have HB := n0_; clear n0_; (try clear hb); (try clear hb2); (try clear hk); (try clear hi)) | ((with_reducible refine gate_callee (f := 38) rfl ?_); refine goesL_ (some 24) rfl rfl Tryd.func38 (by kernel_rfl) rfl #[.slice A0 l0.length c0, .int .i64 a1, .int .i64 a2] rfl (by (try simp only [List.map_toArray, List.map_cons, List.map_nil]); first | done | rfl | (simp only [List.length_drop, List.length_take]; rfl)) ?_; (with_reducible refine (client_find.calls _ _ l0 a1 a2 t297 t298 t299 _ ?side1 ?side2 A6.out).mono ?_); (case side1 => repeat (first | exact (Kd.C_below HR0.out HB.out) | (with_reducible refine Kd.C_alloc ?_ _) | (with_reducible refine Kd.C_drewN ?_ _) | (with_reducible refine Kd.C_drew ?_))); (case side2 => exact HC0.out); rintro e w15 ⟨rfl, hb⟩; refine ⟨_, rfl, ?_⟩; have n0_ := Aside0.mk (below_step (by repeat (first | (with_reducible first | exact HB.out | apply below_alloc | apply pw_below_drewN | apply below_drew1) | exact HB.out)) hb); clear HB; have HB := n0_; clear n0_; (try clear hb); (try clear hb2); (try clear hk); (try clear hi)))
      go_ret3
      exact ⟨_, by first | rfl | (simp [errW_none, errW_some] <;> rfl) | (simp [*, errW_none, errW_some] <;> rfl) | (exfalso; simp only [beq_iff_eq, decide_eq_true_eq] at *; omega), by first | exact Kd.R_nil _ _ _ _ _ | exact Kd.N_nil _ _ _ _ _ | exact Kd.V_nil _ _ _ _ _ | exact Kd.Q_nil _ _ _ _ _ | exact Kd.S_nil _ _ _ _ _, by repeat (first | (with_reducible first | exact HB.out | apply below_alloc | apply pw_below_drewN | apply below_drew1) | exact HB.out)⟩
  · rw [if_neg c5] at H
    have c5b0 : (t296 == 0) = false := beq_eq_false_iff_ne.mpr c5
    have c5b1 : (t296 != 0) = true := bne_iff_ne.mpr c5
    simp only [Option.some.injEq, Prod.mk.injEq] at H
    obtain ⟨rfl, rfl, rfl⟩ := H
    go_enter Tryd.func20, Tryd.ntmps20
    go_wp2_with (first | ((with_reducible refine gate_callee (f := 37) rfl ?_); refine goesL_ (some 16) rfl rfl Tryd.func37 (by kernel_rfl) rfl #[.slice A0 l0.length c0, .int .i64 a1, .int .i64 a2] rfl (by (try simp only [List.map_toArray, List.map_cons, List.map_nil]); first | done | rfl | (simp only [List.length_drop, List.length_take]; rfl)) ?_; (with_reducible refine (client_asked.calls k _ _ l0 a1 a2 t296 _ ?side1 ?side2 A4.out).mono ?_); (case side1 => repeat (first | exact HR0.out | (with_reducible refine Kd.C_alloc ?_ _) | (with_reducible refine Kd.C_drewN ?_ _) | (with_reducible refine Kd.C_drew ?_))); (case side2 => exact HC0.out); rintro e w16 ⟨rfl, hb⟩; refine ⟨_, rfl, ?_⟩; have n0_ := Aside0.mk (below_step (by repeat (first | (with_reducible first | exact HB.out | apply below_alloc | apply pw_below_drewN | apply below_drew1) | exact HB.out)) hb); clear HB; have HB := n0_; clear n0_; (try clear hb); (try clear hb2); (try clear hk); (try clear hi)))
    go_ret3
    exact ⟨_, by first | rfl | (simp [errW_none, errW_some] <;> rfl) | (simp [*, errW_none, errW_some] <;> rfl) | (exfalso; simp only [beq_iff_eq, decide_eq_true_eq] at *; omega), by first | exact Kd.R_nil _ _ _ _ _ | exact Kd.N_nil _ _ _ _ _ | exact Kd.V_nil _ _ _ _ _ | exact Kd.Q_nil _ _ _ _ _ | exact Kd.S_nil _ _ _ _ _, by repeat (first | (with_reducible first | exact HB.out | apply below_alloc | apply pw_below_drewN | apply below_drew1) | exact HB.out)⟩

/-! ### undercroftlaw20_alive: function 12 -/
/-- A constant's octets, marked: they read as they are. -/
theorem const_C (w : World) (e : TypeId) (x : Int) (fr : Nat × Nat) : Kd.C (Kd.int .u8) (w.alloc (.cells #[.int .u8 x] e fr)) (some ⟨w.heap.size, 0, none⟩) 1 [x] := by
  refine ⟨rfl, by decide, fun _ => ⟨_, rfl, fun j p hp => ?_⟩⟩
  obtain ⟨hj, rfl⟩ := List.getElem?_eq_some_iff.1 hp
  have hj0 : j = 0 := by simpa using hj
  subst hj0
  refine ⟨[.int .u8 x], rfl, rfl, fun i u hu => ?_⟩
  have ha : (⟨w.heap.size, 0, none⟩ : Addr).add (0 * (Kd.int .u8).sz + i) = ⟨w.heap.size, i, none⟩ := by
    rw [Nat.zero_mul, Nat.zero_add, Addr.add_lit, Nat.zero_add]
  rw [ha, World.cell?_alloc_mark, ← Array.getElem?_toList]
  exact hu
def undercroftlaw20_alive.f (k : Nat) : Option Bool := (client_Done.f k ([] : List S86) 1 5 [120]).bind fun d => (client_Ask.f k d.1 1 5).bind fun a => (client_Ask.f k d.1 1 4).bind fun b => (client_Ask.f k d.1 1 6).bind fun c => (client_Ask.f k d.1 2 1).bind fun e => if d.2 = 0 ∧ a = (1, [120], 0) ∧ b.1 = 2 ∧ b.2.2 = 0 ∧ c.1 = 0 ∧ c.2.2 = 0 ∧ e.1 = 0 ∧ e.2.2 = 0 then some true else none
theorem undercroftlaw20_alive.mono : ∀ k, LeO (undercroftlaw20_alive.f k) (undercroftlaw20_alive.f (k + 1)) := by
  intro k
  unfold undercroftlaw20_alive.f
  exact LeO.bind (client_Done.mono _ _ _ _ k) (fun _ => LeO.bind (client_Ask.mono _ _ _ k) (fun _ => LeO.bind (client_Ask.mono _ _ _ k) (fun _ => LeO.bind (client_Ask.mono _ _ _ k) (fun _ => LeO.bind (client_Ask.mono _ _ _ k) (fun _ => LeO.refl _)))))
set_option maxHeartbeats 8000000 in
set_option maxRecDepth 100000 in
theorem undercroftlaw20_alive.calls (k : Nat) (r : Bool) (w : World) (h : undercroftlaw20_alive.f k = some r) :
    Calls Tryd.prog 12 #[] w fun e w' => e = .returned (.bool r) ∧ Below w.heap.size w w' := by
  unfold undercroftlaw20_alive.f at h
  obtain ⟨⟨d, d2⟩, h1, g1⟩ := Option.bind_eq_some_iff.1 h
  obtain ⟨⟨a1, a2, a3⟩, h2, g2⟩ := Option.bind_eq_some_iff.1 g1
  obtain ⟨⟨b1, b2, b3⟩, h3, g3⟩ := Option.bind_eq_some_iff.1 g2
  obtain ⟨⟨c1, c2, c3⟩, h4, g4⟩ := Option.bind_eq_some_iff.1 g3
  obtain ⟨⟨e1, e2, e3⟩, h5, g5⟩ := Option.bind_eq_some_iff.1 g4
  clear h g1 g2 g3 g4
  simp only at g5 h1 h2 h3 h4 h5
  by_cases hc : d2 = 0 ∧ (a1, a2, a3) = (1, [120], 0) ∧ b1 = 2 ∧ b3 = 0 ∧ c1 = 0 ∧ c3 = 0 ∧ e1 = 0 ∧ e3 = 0
  case neg => rw [if_neg hc] at g5; cases g5
  rw [if_pos hc] at g5
  obtain ⟨e_1, e_2, e_3, e_4, e_5, e_6, e_7, e_8⟩ := hc
  obtain ⟨e_9, e_10⟩ := Prod.mk.inj e_2
  obtain ⟨e_11, e_12⟩ := Prod.mk.inj e_10
  subst e_1 e_3 e_4 e_5 e_6 e_7 e_8 e_9 e_11 e_12
  obtain rfl := Option.some.inj g5
  have A1 := Aside0.mk h1
  have A2 := Aside0.mk h2
  have A3 := Aside0.mk h3
  have A4 := Aside0.mk h4
  have A5 := Aside0.mk h5
  clear g5 e_2 e_10 h1 h2 h3 h4 h5
  have HB0 := Aside0.mk (below_alloc (Below.refl w.heap.size w) (.cells #[.int .u8 120] 5 (1, 2)))
  have HC0 := Aside0.mk (const_C w 5 120 (1, 2))
  have hs : ((strOfNums [120]).toList == ([120] : List UInt8)) = true := by decide +kernel
  have kc := fun (w : World) (C : Array Value) (n c : Nat) => Lib.run_convert_bytes_const (P := Tryd.prog) w 22 5 C n c Tryd.underlying22 Tryd.underlying5
  go_enter Tryd.func12, Tryd.ntmps12
  go_wp2_with (first
    | (go_at_call 19; refine (client_Done.calls k none 0 ([] : List S86) 1 5 _ 1 [120] d 0 _ (Kd.C_nil _ _) (Nat.le_refl _) HC0.out (Nat.le_refl _) A1.out).mono ?_; rintro e w1 ⟨v1, rfl, ho1, hb1⟩; obtain ⟨D1, e1, rfl, hl1, hC1⟩ := Kd.S_reads ho1; have HL1 := Aside0.mk hl1; have HC1 := Aside0.mk hC1; have HB1 := Aside0.mk (below_step HB0.out hb1); clear ho1 hb1 hl1 hC1)
    | (go_at_call_of 20 (Value.int .i64 5); refine (client_Ask.calls k D1 e1 d 1 5 1 [120] 0 _ HC1.out HL1.out A2.out).mono ?_; rintro e w2 ⟨v2, rfl, ho2, hb2⟩; have HO2 := Aside0.mk (Kd.R_lower ho2 HB1.out.size); have HB2 := Aside0.mk (below_step HB1.out hb2); have HC2 := Aside0.mk (Kd.C_below HC1.out hb2); clear ho2 hb2)
    | (go_at_call_of 20 (Value.int .i64 4); refine (client_Ask.calls k D1 e1 d 1 4 2 b2 0 _ HC2.out HL1.out A3.out).mono ?_; rintro e w3 ⟨v3, rfl, ho3, hb3⟩; have HB3 := Aside0.mk (below_step HB2.out hb3); have HC3 := Aside0.mk (Kd.C_below HC2.out hb3); have HO3 := Aside0.mk (Kd.R_below HO2.out hb3); clear ho3 hb3)
    | (go_at_call_of 20 (Value.int .i64 6); refine (client_Ask.calls k D1 e1 d 1 6 0 c2 0 _ HC3.out HL1.out A4.out).mono ?_; rintro e w4 ⟨v4, rfl, ho4, hb4⟩; have HB4 := Aside0.mk (below_step HB3.out hb4); have HC4 := Aside0.mk (Kd.C_below HC3.out hb4); have HO4 := Aside0.mk (Kd.R_below HO3.out hb4); clear ho4 hb4)
    | (go_at_call_of 20 (Value.int .i64 2); refine (client_Ask.calls k D1 e1 d 2 1 0 e2 0 _ HC4.out HL1.out A5.out).mono ?_; rintro e w5 ⟨v5, rfl, ho5, hb5⟩; have HB5 := Aside0.mk (below_step HB4.out hb5); have HO5 := Aside0.mk (Kd.R_below HO4.out hb5); clear ho5 hb5; have hcv := own_string (P := Tryd.prog) Tryd.underlying22 Tryd.underlying5 Tryd.underlying9 (Kd.own_of_R HO5.out); have hcvd := fun m_ : Nat => own_string (P := Tryd.prog) Tryd.underlying22 Tryd.underlying5 Tryd.underlying9 (Kd.own_of_R (Kd.R_drewN HO5.out m_)))
    | (go_at_call 11; refine (undercroftlaw20_num.calls 0 0 _ rfl).mono ?_; rintro e w6 ⟨rfl, hd⟩; obtain ⟨nd, rfl⟩ := hd.out))
  go_ret
  exact ⟨rfl, pw_below_drewN HB5.out _⟩

end Go.Proofs.YtofflfacfjkikaaDoor.PCte
