-- Written by a program of this session (gen.py).
import Derived.Test.YtokjiinlhghggaaDoorPTelx0
import Derived.Test.YtokjiinlhghggaaDoorPTelx1
import Derived.Test.YtokjiinlhghggaaDoorPTelx2
namespace Go.Proofs.YtokjiinlhghggaaDoor.PTel
open Go.RowKit Go.Proofs.YtokjiinlhghggaaDoorW.PrintWords Go.Proofs.YtokjiinlhghggaaDoorW.PrintLast Go.Proofs.YtokjiinlhghggaaDoorW.PrintMore
open Go.Proofs.YtokjiinlhghggaaDoor.Own
attribute [local go_sem high] unary_not_u32 unary_not_u64 unary_not_u8 string_leq_ string_gtr_
attribute [local go_sem] max2_int min2_int max_two min_two max_three min_three max_four min_four   -- for this text's walks alone
set_option linter.unusedVariables false
set_option linter.unusedSimpArgs false

/-! ### segment_Seal: function 10 -/
/-- A block of octets whose first ones are told, with room. -/
def Roomy (w : World) (base g cap : Nat) (l : List Int) : Prop := base ≤ g ∧ 384 ≤ cap ∧ cap ≤ maxLen ∧ ∃ cur, w.heap[g]? = some (.cells cur 5 (0, 0)) ∧ cur.size = cap ∧ cur.toList.take l.length = l.map (Value.int .u8)
set_option maxHeartbeats 4000000 in
set_option maxRecDepth 100000 in
theorem grow_calls (l : List Int) (base : Nat) (w0 w : World) (hB : Below base w0 w) (hbw : base ≤ w.heap.size) (ok : Nat → Prop) (A : Option Addr) (c : Nat) (ho : Kd.R (Kd.int .u8) 5 w base ok (.slice A l.length c) l) (h0 : 0 < l.length) (h1 : l.length < 380) :
    Calls Tryd.prog 26 #[.slice A l.length c, .int .i64 384] w fun e w' => ∃ g cap, e = .returned (.slice (some ⟨g, 0, none⟩) l.length cap) ∧ Roomy w' base g cap l ∧ Below base w0 w' := by
  have ho := Kd.own_of_R ho
  obtain ⟨hlen, hcase⟩ := ho
  rcases hcase with ⟨e, _⟩ | ⟨g, cap, cur, e, hbase, hh, hn, hmax, hsz, htk⟩
  · injection e with _ e2 _; omega
  injection e with e1 e2 e3
  subst e1 e3
  rw [Nat.mul_one] at hsz htk
  have htk2 : cur.toList.take l.length = l.map (Value.int .u8) := htk
  have hcmax : c ≤ 9223372036854775807 := by unfold maxLen at hmax; omega
  have hd1 : decide ((384 : Int) < 0) = false := by decide
  have h2 : wrap64 ((c : Int) - (l.length : Int)) = (c : Int) - (l.length : Int) := by unfold wrap64; omega
  have h3 : wrap64 ((384 : Int) - ((c : Int) - (l.length : Int))) = (384 : Int) - ((c : Int) - (l.length : Int)) := by unfold wrap64; omega
  by_cases hroom : l.length + 384 ≤ c
  · have h4 : ¬ ((384 : Int) - ((c : Int) - (l.length : Int)) > 0) := by omega
    have HR := Aside0.mk (show Roomy w base g c l from ⟨hbase, by omega, hmax, cur, hh, hsz, htk2⟩)
    have HBB := Aside0.mk hB
    clear hB htk2 htk hsz hh hmax hbase hlen hcmax e2
    go_enter Tryd.func26, Tryd.ntmps26
    go_wp2
    go_ret
    exact ⟨g, c, rfl, HR.out, HBB.out⟩
  · have h4 : (384 : Int) - ((c : Int) - (l.length : Int)) > 0 := by omega
    obtain ⟨i0, hi0, hz0, hs0, hb0⟩ := info_parts info5
    have hck : c + (l.length + 384 - c) = l.length + 384 := by omega
    have hold : (Builtin.firstCells i0.size c (.slice (some ⟨g, 0, none⟩) c c)).run Tryd.prog w.drew = .ok cur.toList.toArray w.drew := by
      refine run_firstCells_some w.drew i0.size c ⟨g, 0, none⟩ c c cur.toList (by rw [hs0]; simp [hsz]) (fun j v hj => ?_)
      have := blk_cell (blk_drew hh) j
      have ea : (⟨g, 0, none⟩ : Addr).add j = ⟨g, j, none⟩ := by
        simp only [Addr.add, Nat.zero_add]
        split <;> simp_all
      rw [ea, this]
      rw [Array.getElem?_toList] at hj
      exact hj
    have hrz : ∀ ty, (Builtin.append_ #[25, 3] ty #[.slice (some ⟨g, 0, none⟩) c c, .int .i64 ((384 : Int) - ((c : Int) - (l.length : Int)))]).run Tryd.prog w =
        .ok (.slice (some ⟨w.heap.size, 0, none⟩) (l.length + 384) (grownCap w (l.length + 384) c 5)) (w.drew.alloc (.cells (cur.toList.toArray ++ Builtin.zeroCells (Value.int .u8 0).cells (l.length + 384 - c) ++ Builtin.zeroCells (Value.int .u8 0).cells (grownCap w (l.length + 384) c 5 - (l.length + 384))) 5)) := fun ty => by
      have h := Lib.run_append_grow_zeros w 25 3 ty 5 i0 (.int .u8 0) .i64 .i64 Tryd.underlying25 Tryd.underlying3 hi0 hz0 (some ⟨g, 0, none⟩) c c cur.toList hold (l.length + 384 - c) (by omega) (by omega) (by omega) (by omega) (by rw [hb0]; omega) (by rw [hck]; exact growslice_fits (by omega) (by rw [hb0]; omega))
      rw [hck] at h
      rw [show (384 : Int) - ((c : Int) - (l.length : Int)) = ((l.length + 384 - c : Nat) : Int) by omega]
      exact h
    have hGn : l.length + 384 ≤ grownCap w (l.length + 384) c 5 := grownCap_ge w _ _ _
    have hGm : grownCap w (l.length + 384) c 5 ≤ maxLen := grownCap_le_maxLen w (l.length + 384) c 5 (by unfold maxLen; omega)
    obtain ⟨G, hG⟩ : ∃ G, G = grownCap w (l.length + 384) c 5 := ⟨_, rfl⟩
    rw [← hG] at hrz hGn hGm
    obtain ⟨cs, hcs⟩ : ∃ cs, cs = cur.toList.toArray ++ Builtin.zeroCells (Value.int .u8 0).cells (l.length + 384 - c) ++ Builtin.zeroCells (Value.int .u8 0).cells (G - (l.length + 384)) := ⟨_, rfl⟩
    rw [← hcs] at hrz
    have hsize : cs.size = G := by
      rw [hcs]
      simp [Builtin.zeroCells, Value.cells, hsz]
      omega
    have htk3 : cs.toList.take l.length = l.map (Value.int .u8) := by
      rw [hcs]
      simp only [Array.toList_append, List.append_assoc]
      rw [List.take_append_of_le_length (by simp [hsz]; omega)]
      exact htk2
    have HR := Aside0.mk (show Roomy (w.drew.alloc (.cells cs 5)) base w.heap.size G l from ⟨hbw, by omega, hGm, cs, (by have := World.alloc_heap_new w.drew (.cells cs 5); simpa using this), hsize, htk3⟩)
    have HBB := Aside0.mk (show Below base w0 (w.drew.alloc (.cells cs 5)) from (below_drew1 hB).alloc (by simpa using hbw) _)
    have hG63 : (G : Int) ≤ 9223372036854775807 := by unfold maxLen at hGm; omega
    have hc0 : (0 : Int) ≤ (c : Int) := by omega
    have hcut : ∀ W : World, (Instr.slice 25 (.slice (some ⟨g, 0, none⟩) l.length c) none (some (.int .i64 (c : Int))) none).run Tryd.prog W = .ok (.slice (some ⟨g, 0, none⟩) c c) W := by
      intro W
      have hu : Tryd.prog.underlying 25 = some (.slice (Tryd.prog.elem 25)) := by rw [show Tryd.prog.elem 25 = 5 by simp [Program.elem, Tryd.underlying25]]; exact Tryd.underlying25
      rw [run_slice_h W 25 (some ⟨g, 0, none⟩) l.length c hu .i64 (c : Int) (by omega) (by omega)]
      simp [sizeOf, typeInfo, hi0, sliced, Result.andThen, Program.elem, Tryd.underlying25, Addr.add]
    have hcut2 := cut_to (P := Tryd.prog) 25 5 .i64 Tryd.underlying25 hi0 (some ⟨w.heap.size, 0, none⟩) (l.length + 384) G (l.length : Int) (by omega) (by omega) hGn
    clear hold hck hG hcs hsize htk3 htk2 htk hsz hh hmax hbase hlen hcmax e2 hn hGn hGm hB hroom hi0 hz0 hs0 hb0
    go_enter Tryd.func26, Tryd.ntmps26
    go_wp2_with (at_builtin; refine Lib.wpList_append_run _ rfl _ _ _ _ rfl _ _ rfl rfl _ _ (hrz _) ?_)
    go_ret
    exact ⟨w.heap.size, G, rfl, HR.out, HBB.out⟩
/-- With zeros up to 380. -/
def padI (l : List Int) : List Int := l ++ List.replicate (380 - l.length) 0
theorem padI_len {l : List Int} (h : l.length < 380) : (padI l).length = 380 := by unfold padI; simp; omega
theorem clear_zeros {l : List Int} {w : World} {base g cap : Nat} (h : Roomy w base g cap l) (h1 : l.length < 380) :
    (∀ ty, (Builtin.clear_ #[25] ty #[.slice (some ⟨g, l.length, none⟩) (380 - l.length) (cap - l.length)]).run Tryd.prog w = .ok (.tuple #[]) (w.setCells g l.length (List.replicate (380 - l.length) (.int .u8 0)))) ∧
    Kd.R (Kd.int .u8) 5 (w.setCells g l.length (List.replicate (380 - l.length) (.int .u8 0))) base (fun k => k = g) (.slice (some ⟨g, 0, none⟩) 380 cap) (padI l) := by
  obtain ⟨hb, hc, hm, cur, hh, hsz, htk⟩ := h
  refine ⟨fun ty => ?_, ?_⟩
  · refine Lib.run_clear_slice w 25 5 ty (.int .u8 0) Tryd.underlying25 (fun w => ?_) rfl rfl g l.length (380 - l.length) (cap - l.length) (by omega) (fun j hj => ?_) (fun j _ => blk_frozen hh _)
    · obtain ⟨i0, hi0, hz0, _, _⟩ := info_parts info5
      simp [zeroValue, typeInfo, hi0, hz0]
    · rw [blk_cell hh]
      simp
      omega
  · obtain ⟨cur', h2, h3, h4⟩ := setCells_row (e := 5) (List.replicate (380 - l.length) (Value.int .u8 0)) l.length w cur hh (by simp; omega)
    refine Kd.R_of_own ?_ (fun k hk => by simp [Value.ownBlock] at hk; exact hk.symm)
    have hp := padI_len h1
    rw [hp]
    refine ⟨by rw [encs_length, hp], .inr ⟨g, cap, cur', rfl, hb, h2, by omega, hm, by rw [h3, hsz, Nat.mul_one], ?_⟩⟩
    rw [h4, htk, Nat.mul_one]
    simp only [List.append_assoc]
    rw [← List.append_assoc, List.take_append_of_le_length (by simp; omega), List.take_of_length_le (by simp; omega)]
    simp [padI, encs]
theorem C_cells {w : World} {A : Option Addr} {n : Nat} {l : List Int} (h : Kd.C (Kd.int .u8) w A n l) (hn : 0 < n) : ∃ b, A = some b ∧ ∀ j v, (l.map (Value.int .u8))[j]? = some v → w.cell? (b.add j) = some v := by
  obtain ⟨_, _, h3⟩ := h
  obtain ⟨b, rfl, hcs⟩ := h3 hn
  refine ⟨b, rfl, fun j v hj => ?_⟩
  rw [List.getElem?_map] at hj
  obtain ⟨x, hx, rfl⟩ := Option.map_eq_some_iff.1 hj
  obtain ⟨c, hc, hk, hcc⟩ := hcs j x hx
  have e : c = [.int .u8 x] := hk
  subst e
  have := hcc 0 _ rfl
  rw [Nat.add_zero] at this
  have e1 : j * (Kd.int .u8).sz = j := Nat.mul_one j
  rwa [e1] at this
/-- What an append of one row of octets behind another leaves, where there is no room. -/
theorem append_grown {w w6 : World} {b a : Addr} {l t : List Int} {c : Nat} (hb : ∀ j v, (l.map (Value.int .u8))[j]? = some v → w6.cell? (b.add j) = some v) (ha : ∀ j v, (t.map (Value.int .u8))[j]? = some v → w6.cell? (a.add j) = some v) (h0 : 0 < t.length) (hbig : l.length + t.length < 140737488355328) (hB : Below w.heap.size w w6) :
    ∃ G w7, (∀ ty, (Builtin.append_ #[25, 25] ty #[.slice (some b) l.length l.length, .slice (some a) t.length c]).run Tryd.prog w6 = .ok (.slice (some ⟨w6.heap.size, 0, none⟩) (l.length + t.length) G) w7) ∧ Kd.R (Kd.int .u8) 5 w7 w.heap.size (fun _ => True) (.slice (some ⟨w6.heap.size, 0, none⟩) (l.length + t.length) G) (l ++ t) ∧ Below w.heap.size w w7 := by
  obtain ⟨i0, hi0, hz0, hs0, hb0⟩ := info_parts info5
  have hr := fun ty => run_append_grow (P := Tryd.prog) (w := w6) 25 ty 5 i0 (.int .u8 0) Tryd.underlying25 hi0 hz0 b l.length l.length (l.map (Value.int .u8)) (by rw [hs0]; simp) hb a t.length c (t.map (Value.int .u8)) (by rw [hs0]; simp) ha (by omega) (by omega) (growslice_fits (by omega) (by rw [hb0]; omega))
  have hGn := grownCap_ge w6 (l.length + t.length) l.length 5
  have hGm : grownCap w6 (l.length + t.length) l.length 5 ≤ maxLen := grownCap_le_maxLen w6 (l.length + t.length) l.length 5 (by unfold maxLen; omega)
  generalize grownCap w6 (l.length + t.length) l.length 5 = G at *
  refine ⟨G, _, hr, ?_, (below_drew1 hB).alloc (by have := hB.size; simpa using this) _⟩
  refine Kd.R_of_own ?_ (fun _ _ => trivial)
  refine ⟨by simp [encs], .inr ⟨w6.heap.size, G, _, by rw [List.length_append], hB.size, (by have := World.alloc_heap_new w6.drew (.cells ((l.map (Value.int .u8)).toArray ++ (t.map (Value.int .u8)).toArray ++ Builtin.zeroCells (Value.int .u8 0).cells (G - (l.length + t.length))) 5); simpa using this), by rw [List.length_append]; exact hGn, hGm, ?_, ?_⟩⟩
  · simp [Builtin.zeroCells, Value.cells]; omega
  · rw [Nat.mul_one]
    simp only [Array.toList_append, List.toList_toArray]
    rw [List.take_append_of_le_length (by simp), List.take_of_length_le (by simp)]
    simp [encs]
set_option maxHeartbeats 4000000 in
set_option maxRecDepth 100000 in
theorem put_const (A : Option Addr) (l0 : List Int) (a1 a2 : Int) (r : List Int) (w : World) (hc : Kd.C (Kd.int .u8) w A l0.length l0) (h0 : 0 < l0.length) (h : segment_put.f l0 a1 a2 = some r) (hlong : l0.length < r.length) :
    Calls Tryd.prog 25 #[.slice A l0.length l0.length, .int .i64 a1, .int .i64 a2] w fun e w' => ∃ v0_, e = .returned v0_ ∧ Kd.R (Kd.int .u8) 5 w' w.heap.size (fun _ => True) v0_ r ∧ Below w.heap.size w w' := by
  obtain ⟨b, rfl, hbc⟩ := C_cells hc h0
  have HBC := Aside0.mk hbc
  have HB0 := Aside0.mk (Below.refl w.heap.size w)
  have HC := Aside0.mk hc
  clear hbc hc
  obtain ⟨⟨t103, t104⟩, A40, H⟩ := Option.bind_eq_some_iff.mp h
  replace H : (if l0.length + t103.length < 140737488355328 then (some (l0 ++ t103)) else (none)) = some r := H
  have A4 := Aside0.mk A40
  clear A40 h
  by_cases c5 : l0.length + t103.length < 140737488355328
  · rw [if_pos c5] at H
    obtain rfl := Option.some.inj H
    have HL := Aside0.mk (show 0 < t103.length by rw [List.length_append] at hlong; omega)
    have H5 := Aside0.mk c5
    clear hlong c5 H
    have H00 := Aside0.mk h0
    clear h0
    go_enter Tryd.func25, Tryd.ntmps25
    go_wp2_with (first
      | (go_at_call 45; refine (octets_Put.calls (IntKind.u64.wrap a1) a2 t103 t104 _ A4.out).mono ?_; rintro e w6 ⟨v105, rfl, ho0, hb⟩; obtain ⟨Ao8, co8, rfl, hl8, hC8⟩ := Kd.R_reads ho0; obtain ⟨a8, rfl, ha8⟩ := C_cells hC8 HL.out; obtain ⟨b', eb', hb'⟩ := C_cells (Kd.C_below HC.out hb) H00.out; obtain rfl := Option.some.inj eb'; obtain ⟨G, w7, hG1, hG2, hG3⟩ := append_grown (c := co8) hb' ha8 HL.out H5.out hb; have HG2 := Aside0.mk hG2; have HG3 := Aside0.mk hG3; clear ho0 hl8 hC8 ha8 hb' hb hG2 hG3 eb')
      | (at_builtin; refine Lib.wpList_append_run _ rfl _ _ _ _ rfl _ _ rfl rfl _ _ (hG1 _) ?_))
    go_ret
    exact ⟨_, rfl, HG2.out, HG3.out⟩
  · rw [if_neg c5] at H; cases H
theorem const4_C (w : World) : Kd.C (Kd.int .u8) (w.alloc (.cells #[.int .u8 115, .int .u8 101, .int .u8 103, .int .u8 49] 5 (4, 5))) (some ⟨w.heap.size, 0, none⟩) 4 [115, 101, 103, 49] := by
  refine ⟨rfl, by decide, fun _ => ⟨_, rfl, fun j p hp => ?_⟩⟩
  obtain ⟨hj, rfl⟩ := List.getElem?_eq_some_iff.1 hp
  refine ⟨[.int .u8 ([115, 101, 103, 49] : List Int)[j]], rfl, rfl, fun i u hu => ?_⟩
  obtain ⟨hi, rfl⟩ := List.getElem?_eq_some_iff.1 hu
  have hi0 : i = 0 := by simpa using hi
  subst hi0
  have ha : (⟨w.heap.size, 0, none⟩ : Addr).add (j * (Kd.int .u8).sz + 0) = ⟨w.heap.size, j, none⟩ := by
    rw [Addr.add_lit, Nat.zero_add, Nat.add_zero]
    congr 1
    exact Nat.mul_one j
  rw [ha, World.cell?_alloc_mark]
  have hj4 : j < 4 := hj
  match j, hj4 with
  | 0, _ => rfl
  | 1, _ => rfl
  | 2, _ => rfl
  | 3, _ => rfl
theorem put_longer {l r : List Int} {a : Int} (h : segment_put.f l a 8 = some r) : l.length < r.length := by
  unfold segment_put.f octets_Put.f at h
  have hw : 0 ≤ IntKind.u64.wrap a ∧ IntKind.u64.wrap a ≤ 18446744073709551615 := by
    simp [IntKind.wrap, IntKind.signed, IntKind.bits]
    omega
  rw [if_pos hw, if_neg (by omega)] at h
  have hn : ¬ (8 : Int) < needI (IntKind.u64.wrap a) := by
    unfold needI
    repeat' split
    all_goals decide
  rw [if_neg hn] at h
  simp only [Option.bind_some] at h
  split at h
  · obtain rfl := Option.some.inj h
    simp [octI]
  · cases h
theorem below_cells {g : Nat} {w : World} (hg : w.heap.size ≤ g) : ∀ (vs : List Value) (o : Nat) (W : World), Below w.heap.size w W → Below w.heap.size w (W.setCells g o vs)
  | [], _, _, h => h
  | v :: r, o, W, h => below_cells hg r (o + 1) _ (below_set h hg)
theorem seal_tail {l : List Int} {w w1 : World} {g cap : Nat} (h : Roomy w1 w.heap.size g cap l) (hb : Below w.heap.size w w1) (h1 : l.length < 380) :
    (∀ ty, (Builtin.clear_ #[25] ty #[.slice (some ⟨g, l.length, none⟩) (380 - l.length) (cap - l.length)]).run Tryd.prog w1 = .ok (.tuple #[]) (w1.setCells g l.length (List.replicate (380 - l.length) (.int .u8 0)))) ∧
    Kd.R (Kd.int .u8) 5 (w1.setCells g l.length (List.replicate (380 - l.length) (.int .u8 0))) w.heap.size (fun k => k = g) (.slice (some ⟨g, 0, none⟩) 380 cap) (padI l) ∧
    (∀ W : World, (Instr.slice 25 (.slice (some ⟨g, 0, none⟩) l.length cap) none (some (.int .i64 380)) none).run Tryd.prog W = .ok (.slice (some ⟨g, 0, none⟩) 380 cap) W) ∧
    (∀ W : World, (Instr.slice 25 (.slice (some ⟨g, 0, none⟩) 380 cap) (some (.int .i64 (l.length : Int))) none none).run Tryd.prog W = .ok (.slice (some ⟨g, l.length, none⟩) (380 - l.length) (cap - l.length)) W) ∧
    Below w.heap.size w (w1.setCells g l.length (List.replicate (380 - l.length) (.int .u8 0))) := by
  obtain ⟨hc1, hc2⟩ := clear_zeros h h1
  obtain ⟨hg, hc, hm, _⟩ := h
  obtain ⟨i0, hi0, hz0, hs0, _⟩ := info_parts info5
  refine ⟨hc1, hc2, fun W => ?_, fun W => ?_, below_cells hg _ _ _ hb⟩
  · have hu : Tryd.prog.underlying 25 = some (.slice (Tryd.prog.elem 25)) := by rw [show Tryd.prog.elem 25 = 5 by simp [Program.elem, Tryd.underlying25]]; exact Tryd.underlying25
    rw [run_slice_h W 25 (some ⟨g, 0, none⟩) l.length cap hu .i64 (380 : Int) (by omega) (by omega)]
    simp [sizeOf, typeInfo, hi0, sliced, Result.andThen, Program.elem, Tryd.underlying25, Addr.add]
  · have := cut_from (P := Tryd.prog) 25 5 .i64 Tryd.underlying25 hi0 1 hs0 (some ⟨g, 0, none⟩) 380 cap (l.length : Int) (by omega) (by omega) W
    rw [Int.toNat_natCast, if_neg (by omega)] at this
    rw [this]
    simp only [Option.map_some, Addr.add, Nat.mul_one, Nat.zero_add]
    by_cases e : l.length = 0 <;> simp [e]
/-! ### segment_Seal: function 10 -/
def segment_Seal.l0 : Nat → List Int → List Int → List (S43) → Int → Int → Option (List Int × Int)
  | 0, _, _, _, _, _ => none
  | k + 1, x5, x6, x25, x26, x27 => if x27 < x26 then (if 0 ≤ x27 then (if x27 < (x25.length : Int) then ((segment_put.f x5 ((rd_T43 x25 x27).f0) 4).bind fun t123 => ((segment_put.f t123 ((rd_T43 x25 x27).f1) 1).bind fun t126 => ((segment_put.f t126 (((rd_T43 x25 x27).f2).length : Int) 1).bind fun t129 => (if x6.length + ((rd_T43 x25 x27).f2).length < 140737488355328 then (segment_Seal.l0 k t129 (x6 ++ ((rd_T43 x25 x27).f2)) x25 x26 (wrap64 (x27 + 1))) else (none))))) else (none)) else (none)) else (if x5.length + x6.length < 380 ∧ 0 < x5.length then ((crc_Sum.f (padI (x5 ++ x6))).bind fun t138 => ((segment_put.f (padI (x5 ++ x6)) (wrap64 (t138)) 4).bind fun t139 => (some (t139, 0)))) else (none))
def segment_Seal.f (k : Nat) (a0_0 : Int) (l0_1 : List (S43)) : Option (List Int × Int) := (segment_Check.f a0_0 l0_1).bind fun t111 => (if t111 = 0 then ((segment_put.f (([115, 101, 103, 49] : List Int)) a0_0 8).bind fun t115 => ((segment_put.f t115 (l0_1.length : Int) 1).bind fun t118 => (segment_Seal.l0 k t118 ([] : List Int) l0_1 (l0_1.length : Int) 0))) else (some (([] : List Int), t111)))
theorem segment_Seal.mono_l : ∀ k, (∀ y0 y1 y2 y3 y4, LeO (segment_Seal.l0 k y0 y1 y2 y3 y4) (segment_Seal.l0 (k + 1) y0 y1 y2 y3 y4))
  | 0 => fun _ _ _ _ _ r h => by simp [segment_Seal.l0] at h
  | k + 1 => by
    have ih0 := segment_Seal.mono_l k
    · intro y0 y1 y2 y3 y4
      unfold segment_Seal.l0
      repeat' first
      | (with_reducible exact ih0 _ _ _ _ _)
      | (with_reducible exact LeO.refl _)
      | (with_reducible exact LeO.none _)
      | (with_reducible refine LeO.ite ?_ ?_)
      | (with_reducible refine LeO.bind ?_ (fun _ => ?_))
      | exact ih0 _ _ _ _ _
      | exact LeO.none _
      | refine LeO.ite ?_ ?_
      | refine LeO.bind ?_ (fun _ => ?_)
theorem segment_Seal.mono : ∀ a0 a1 k, LeO (segment_Seal.f k a0 a1) (segment_Seal.f (k + 1) a0 a1) := by
  intro a0 a1 k
  have ih0 := segment_Seal.mono_l k
  unfold segment_Seal.f
  repeat' first
      | (with_reducible exact ih0 _ _ _ _ _)
      | (with_reducible exact LeO.refl _)
      | (with_reducible exact LeO.none _)
      | (with_reducible refine LeO.ite ?_ ?_)
      | (with_reducible refine LeO.bind ?_ (fun _ => ?_))
      | exact ih0 _ _ _ _ _
      | exact LeO.none _
      | refine LeO.ite ?_ ?_
      | refine LeO.bind ?_ (fun _ => ?_)
def segment_Seal.T4 : Bool × List (List Nat × List Nat) := (true, [([], []), ([0], [0]), ([], []), ([2], [2]), ([1, 3], [1, 3]), ([], []), ([5], [5]), ([6], [6]), ([4, 7, 4], [4, 7]), ([8, 8, 0, 1, 2, 3, 4, 5, 6, 7, 8], [8])])
def segment_Seal.B4 : List Nat := [0, 1, 0, 4, 15, 0, 32, 96, 255, 511]
theorem segment_Seal.tab4 : rtab .any (opsOf Tryd.f10 4) = segment_Seal.T4 := by kernel_rfl
theorem segment_Seal.bits4 : waitsOk segment_Seal.T4.2 segment_Seal.B4 = true := by kernel_rfl
def segment_Seal.T9 : Bool × List (List Nat × List Nat) := (true, [([], []), ([], []), ([1], [1]), ([0, 2], [0, 2]), ([], []), ([4], [4]), ([3, 5, 3], [3, 5]), ([], []), ([7], [7]), ([8], [8]), ([6, 9, 6], [6, 9]), ([10, 10, 0, 1, 2, 3, 4, 5, 6, 7, 8, 9, 10], [0, 10])])
def segment_Seal.B9 : List Nat := [0, 0, 2, 7, 0, 16, 63, 0, 128, 384, 1023, 2047]
theorem segment_Seal.tab9 : rtab .any (opsOf Tryd.f10 9) = segment_Seal.T9 := by kernel_rfl
theorem segment_Seal.bits9 : waitsOk segment_Seal.T9.2 segment_Seal.B9 = true := by kernel_rfl
set_option maxHeartbeats 8000000 in
set_option maxRecDepth 100000 in
theorem segment_Seal.calls (k : Nat) (a0_0 : Int) (A0_1 : Option Addr) (c0_1 : Nat) (l0_1 : List (S43)) (r1 : List Int) (r2 : Int) (w : World) (hr0_1 : Kd.C k43 w A0_1 l0_1.length l0_1) (hc0_1 : l0_1.length ≤ c0_1) (h : segment_Seal.f k a0_0 l0_1 = some (r1, r2)) :
    Calls Tryd.prog 10 #[.agg #[.int .i64 a0_0, .slice A0_1 l0_1.length c0_1]] w fun e w' => ∃ v0_ : Value, e = .returned (.tuple #[v0_, .int .i64 r2]) ∧ Kd.R (Kd.int .u8) 5 w' w.heap.size (fun _ => True) v0_ r1 ∧ Below w.heap.size w w' := by
  have hu32 := Tryd.underlying32
  have hu43 := Tryd.underlying43
  have HR0_1 := Aside0.mk hr0_1
  have HC0_1 := Aside0.mk hc0_1
  clear hr0_1 hc0_1
  have HB := Aside0.mk (Below.refl w.heap.size w)
  have H : ((segment_Check.f a0_0 l0_1).bind fun t111 => (if t111 = 0 then ((segment_put.f (([115, 101, 103, 49] : List Int)) a0_0 8).bind fun t115 => ((segment_put.f t115 (l0_1.length : Int) 1).bind fun t118 => (segment_Seal.l0 k t118 ([] : List Int) l0_1 (l0_1.length : Int) 0))) else (some (([] : List Int), t111)))) = some (r1, r2) := h
  clear h
  replace H := Option.bind_eq_some_iff.mp H
  obtain ⟨t111, A20, H⟩ := H
  replace H : (if t111 = 0 then ((segment_put.f (([115, 101, 103, 49] : List Int)) a0_0 8).bind fun t115 => ((segment_put.f t115 (l0_1.length : Int) 1).bind fun t118 => (segment_Seal.l0 k t118 ([] : List Int) l0_1 (l0_1.length : Int) 0))) else (some (([] : List Int), t111))) = some (r1, r2) := H
  have A2 := Aside0.mk A20
  clear A20
  by_cases c3 : t111 = 0
  · rw [if_pos c3] at H
    have c3b0 : (t111 == 0) = true := beq_iff_eq.mpr c3
    have c3b1 : (t111 != 0) = false := bne_eq_false_iff_eq.mpr c3
    clear c3
    obtain ⟨y112, hy112⟩ : ∃ y_ : List Int, y_ = (([115, 101, 103, 49] : List Int)) := ⟨_, rfl⟩
    replace H : ((segment_put.f y112 a0_0 8).bind fun t115 => ((segment_put.f t115 (l0_1.length : Int) 1).bind fun t118 => (segment_Seal.l0 k t118 ([] : List Int) l0_1 (l0_1.length : Int) 0))) = some (r1, r2) := by first | (rw [hy112]; with_reducible exact H) | (have H2_ := (Option.bind_some _ _).symm.trans H; rw [hy112]; with_reducible exact H2_) | (have H2_ := (Option.bind_some _ _).symm.trans H; with_reducible exact H2_) | with_reducible exact H | (rw [hy112]; exact H) | exact H
    have Ny112 := Aside0.mk hy112
    clear hy112
    replace H := Option.bind_eq_some_iff.mp H
    obtain ⟨t115, A40, H⟩ := H
    replace H : ((segment_put.f t115 (l0_1.length : Int) 1).bind fun t118 => (segment_Seal.l0 k t118 ([] : List Int) l0_1 (l0_1.length : Int) 0)) = some (r1, r2) := H
    have A4 := Aside0.mk A40
    clear A40
    replace H := Option.bind_eq_some_iff.mp H
    obtain ⟨t118, A50, H⟩ := H
    replace H : (segment_Seal.l0 k t118 ([] : List Int) l0_1 (l0_1.length : Int) 0) = some (r1, r2) := H
    have A5 := Aside0.mk A50
    clear A50
    have H' := Aside0.mk H
    clear H
    go_enter Tryd.func10, Tryd.ntmps10
    try go_wp2_with (first | ((with_reducible refine gate_dst (N := 1) rfl ?_); refine box_event ?hg (N := 1) ?hd (cs := #[.int .i64 a0_0, .slice A0_1 l0_1.length c0_1]) (t := 32) ?hr ?_; (case hd => rfl); (case hg => rfl); (case hr => first | (go_simp; done) | (go_simp; rfl)); intro gb110 hg w6 hbox hb; have n0_ := Aside0.mk (below_step (by repeat (first | (with_reducible first | exact HB.out | apply below_alloc | apply pw_below_drewN | apply below_drew1) | exact HB.out)) hb); have n1_ := Aside0.mk (hbox); have n2_ := Aside0.mk ((by rw [hg]; exact (below_size (by repeat (first | (with_reducible first | exact HB.out | apply below_alloc | apply pw_below_drewN | apply below_drew1) | exact HB.out))) : w.heap.size ≤ gb110)); have n3_ := Aside0.mk ((by rw [hg]; exact (below_size (by repeat (first | (with_reducible first | exact HB.out | apply below_alloc | apply pw_below_drewN | apply below_drew1) | exact HB.out))) : w.heap.size ≤ gb110)); clear HB; have HB := n0_; have BK110 := n1_; have GW110 := n2_; have GE110 := n3_; clear n0_ n1_ n2_ n3_; clear hb hbox hg; have hcz7_0 : w6.cell? ⟨gb110, 0, none⟩ = some (.int .i64 a0_0) := (blk_cell BK110.out 0).trans rfl; have hcz7_1 : w6.cell? ⟨gb110, 1, none⟩ = some (.slice A0_1 l0_1.length c0_1) := (blk_cell BK110.out 1).trans rfl; have hfz7_0 := blk_frozen BK110.out 0; have hfz7_1 := blk_frozen BK110.out 1) | ((with_reducible refine gate_callee (f := 23) rfl ?_); refine goesL_ (some 11) rfl rfl Tryd.func23 (by kernel_rfl) rfl #[.agg #[.int .i64 a0_0, .slice A0_1 l0_1.length c0_1]] rfl (by (try simp only [List.map_toArray, List.map_cons, List.map_nil]); first | done | rfl | (simp only [List.length_drop, List.length_take]; rfl)) ?_; (with_reducible refine (segment_Check.calls a0_0 _ _ l0_1 t111 _ ?side1 ?side2 A2.out).mono ?_); (case side1 => repeat (first | exact (Kd.C_below HR0_1.out HB.out) | (with_reducible refine Kd.C_alloc ?_ _) | (with_reducible refine Kd.C_drewN ?_ _) | (with_reducible refine Kd.C_drew ?_))); (case side2 => exact HC0_1.out); rintro e w8 ⟨rfl, hb⟩; refine ⟨_, rfl, ?_⟩; have n0_ := Aside0.mk (blk_below (g := gb110) (o := .cells #[.int .i64 a0_0, .slice A0_1 l0_1.length c0_1] 32 (0, 0)) (by (with_reducible repeat (first | refine blk_drewN ?_ _ | refine blk_drew ?_ | refine blk_alloc ?_ _)); exact BK110.out) hb); have n1_ := Aside0.mk (below_step (by repeat (first | (with_reducible first | exact HB.out | apply below_alloc | apply pw_below_drewN | apply below_drew1 | refine below_set ?_ GE110.out) | exact HB.out)) hb); clear BK110; clear HB; have BK110 := n0_; have HB := n1_; clear n0_ n1_; (try clear hb); (try clear hb2); (try clear hk); (try clear hi)))
    have n0_ := Aside0.mk (blk_drew BK110.out)
    have n1_ := Aside0.mk (below_drew1 HB.out)
    clear BK110
    clear HB
    have BK110 := n0_
    have HB := n1_
    clear n0_ n1_
    refine start_ (n := 10) (S := fun w' => w'.cell? ⟨gb110, 0, none⟩ = some (.int .i64 a0_0) ∧ w'.cell? ⟨gb110, 1, none⟩ = some (.slice A0_1 l0_1.length c0_1)) (ds := []) #[false, false, false, false, false, false, false, false, false, false] (by kernel_rfl) rfl rfl ⟨(blk_cell BK110.out 0).trans rfl, (blk_cell BK110.out 1).trans rfl⟩ (fun hHeld => ?_); refine with_tabW segment_Seal.tab4 segment_Seal.bits4 (fun HT_ HW_ => ?_)
    generalize w8.drew = w9 at BK110 HB hHeld ⊢
    refine pure_ (i := 2) (N := some 17) (v := ?_) (a' := ?_) #[false, false, true, false, false, false, false, false, false, false] rfl rfl (any_of HT_.out (by kernel_rfl)) (fun _ _ _ h => h) (Or.inl ⟨by rfl, ?_⟩) ?_ ?_
    rotate_left
    · intro w'
      go_simp
      with_reducible rfl
    rotate_left
    · simp only [Act.put, List.setIfInBounds_toArray, List.set_cons_zero, List.set_cons_succ, i64_w, i32_w]
      rfl
    refine pure_ (i := 5) (N := some 20) (v := ?_) (a' := ?_) #[false, false, true, false, false, true, false, false, false, false] rfl rfl (any_of HT_.out (by kernel_rfl)) (fun _ _ _ h => h) (Or.inl ⟨by rfl, ?_⟩) ?_ ?_
    rotate_left
    · intro w'
      go_simp
      with_reducible rfl
    rotate_left
    · simp only [Act.put, List.setIfInBounds_toArray, List.set_cons_zero, List.set_cons_succ, i64_w, i32_w]
      rfl
    refine take_ (i := 3) (N := some 18) (v := ?_) (a' := ?_) #[false, false, true, true, false, true, false, false, false, false] rfl rfl (take_ofW HT_.out HW_.out (by kernel_rfl)) (fun _ _ _ h => h) (Or.inl ⟨by rfl, ?_⟩) hHeld ?_ ?_
    rotate_left
    · rintro w' ⟨s0, s1⟩
      go_simp
      with_reducible rfl
    rotate_left
    · simp only [Act.put, List.setIfInBounds_toArray, List.set_cons_zero, List.set_cons_succ, i64_w, i32_w]
      rfl
    refine take_ (i := 6) (N := some 21) (v := ?_) (a' := ?_) #[false, false, true, true, false, true, true, false, false, false] rfl rfl (take_ofW HT_.out HW_.out (by kernel_rfl)) (fun _ _ _ h => h) (Or.inl ⟨by rfl, ?_⟩) hHeld ?_ ?_
    rotate_left
    · rintro w' ⟨s0, s1⟩
      go_simp
      with_reducible rfl
    rotate_left
    · simp only [Act.put, List.setIfInBounds_toArray, List.set_cons_zero, List.set_cons_succ, i64_w, i32_w]
      rfl
    refine pure_ (i := 7) (N := some 22) (v := ?_) (a' := ?_) #[false, false, true, true, false, true, true, true, false, false] rfl rfl (any_of HT_.out (by kernel_rfl)) (fun _ _ _ h => h) (Or.inl ⟨by rfl, ?_⟩) ?_ ?_
    rotate_left
    · intro w'
      go_simp
      with_reducible rfl
    rotate_left
    · simp only [Act.put, List.setIfInBounds_toArray, List.set_cons_zero, List.set_cons_succ, i64_w, i32_w]
      rfl
    refine one_ (i := 0) (N := some 15) #[true, false, true, true, false, true, true, true, false, false] rfl rfl (one_of HT_.out (by kernel_rfl)) (by decide) (fun K hK => ?_)
    refine event_step (v := .slice (some ⟨w9.heap.size, 0, none⟩) 4 4) (w1 := w9.alloc (.cells #[.int .u8 115, .int .u8 101, .int .u8 103, .int .u8 49] 5)) (by rfl) (by first | (go_simp; done) | (go_simp; rfl)) ?_
    have HBZ := Aside0.mk (below_size HB.out)
    have BK1 := Aside0.mk (blk_alloc BK110.out (.cells #[.int .u8 115, .int .u8 101, .int .u8 103, .int .u8 49] 5))
    refine hK.out _ _ ⟨(blk_cell BK1.out 0).trans rfl, (blk_cell BK1.out 1).trans rfl⟩ (fun hHeld => ?_)
    clear hK K BK1
    refine norm_ (a' := ?_) ?_ ?_
    rotate_left
    · show Act.put _ (some 15) _ = _
      simp only [Act.put, List.setIfInBounds_toArray, List.set_cons_zero, List.set_cons_succ, i64_w, i32_w]
      rfl
    refine one_ (i := 1) (N := some 16) #[true, true, true, true, false, true, true, true, false, false] rfl rfl (one_of HT_.out (by kernel_rfl)) (by decide) (fun K hK => ?_)
    have hkc := Lib.run_convert_bytes_const (P := Tryd.prog) w9 25 5 #[.int .u8 115, .int .u8 101, .int .u8 103, .int .u8 49] 4 4 Tryd.underlying25 Tryd.underlying5
    refine event_step (v := .slice (some ⟨w9.heap.size, 0, none⟩) 4 4) (w1 := w9.alloc (.cells #[.int .u8 115, .int .u8 101, .int .u8 103, .int .u8 49] 5 (4, 5))) (by rfl) (by first | (go_simp; done) | (go_simp; rfl)) ?_
    clear hkc
    have n0_ := Aside0.mk (blk_alloc BK110.out (.cells #[.int .u8 115, .int .u8 101, .int .u8 103, .int .u8 49] 5 (4, 5)))
    have n1_ := Aside0.mk (HB.out.alloc HBZ.out (.cells #[.int .u8 115, .int .u8 101, .int .u8 103, .int .u8 49] 5 (4, 5)))
    have HC112 := Aside0.mk (const4_C w9)
    clear BK110 HB
    have BK110 := n0_
    have HB := n1_
    clear n0_ n1_
    refine hK.out _ _ ⟨(blk_cell BK110.out 0).trans rfl, (blk_cell BK110.out 1).trans rfl⟩ (fun hHeld => ?_)
    clear hK K
    refine norm_ (a' := ?_) ?_ ?_
    rotate_left
    · show Act.put _ (some 16) _ = _
      simp only [Act.put, List.setIfInBounds_toArray, List.set_cons_zero, List.set_cons_succ, i64_w, i32_w]
      rfl
    refine one_ (i := 4) (N := some 19) #[true, true, true, true, true, true, true, true, false, false] rfl rfl (one_of HT_.out (by kernel_rfl)) (by decide) (fun K hK => ?_)
    refine goes_ Tryd.func25 (by kernel_rfl) rfl #[.slice (some ⟨w9.heap.size, 0, none⟩) 4 4, .int .i64 a0_0, .int .i64 8] (by rfl) rfl rfl (by (try simp only [List.map_toArray, List.map_cons, List.map_nil]); first | done | rfl | (simp only [List.length_drop, List.length_take]; rfl)) ?_
    refine (put_const (some ⟨w9.heap.size, 0, none⟩) [115, 101, 103, 49] a0_0 8 t115 _ HC112.out (by decide) (by rw [← Ny112.out]; exact A4.out) (put_longer (by rw [← Ny112.out]; exact A4.out))).mono ?_
    rintro e w13 ⟨v116, rfl, ho0, hb⟩
    refine ⟨_, rfl, ?_⟩
    have n0_ := Aside0.mk (blk_below BK110.out hb)
    have n1_ := Aside0.mk (Kd.R_lower ho0 (below_size HB.out))
    have n2_ := Aside0.mk (below_step HB.out hb)
    clear BK110 HB HC112
    have BK110 := n0_
    have HO117 := n1_
    have HB := n2_
    clear n0_ n1_ n2_
    clear hb ho0
    obtain ⟨Ao14, co14, eo14⟩ := Kd.R_slice HO117.out
    (first | subst eo14 | (injection eo14 with f1_ f2_ f3_; have f4_ := f1_.symm; have f5_ := f3_.symm; clear f1_ f2_ f3_; subst f4_; subst f5_))
    refine hK.out _ _ ⟨(blk_cell BK110.out 0).trans rfl, (blk_cell BK110.out 1).trans rfl⟩ (fun hHeld => ?_)
    clear hK K
    refine norm_ (a' := ?_) ?_ ?_
    rotate_left
    · show Act.put _ (some 19) _ = _
      simp only [Act.put, List.setIfInBounds_toArray, List.set_cons_zero, List.set_cons_succ, i64_w, i32_w]
      rfl
    refine one_ (i := 8) (N := some 23) #[true, true, true, true, true, true, true, true, true, false] rfl rfl (one_of HT_.out (by kernel_rfl)) (by decide) (fun K hK => ?_)
    refine goes_ Tryd.func25 (by kernel_rfl) rfl #[.slice Ao14 t115.length co14, .int .i64 (l0_1.length : Int), .int .i64 1] (by rfl) rfl rfl (by (try simp only [List.map_toArray, List.map_cons, List.map_nil]); first | done | rfl | (simp only [List.length_drop, List.length_take]; rfl)) ?_
    with_reducible refine (segment_put.calls (fun k_ => some k_ = (.slice Ao14 t115.length co14 : Value).ownBlock) (.slice Ao14 t115.length co14) t115 (l0_1.length : Int) 1 t118 w _ ?side1 ?side2 A5.out).mono ?_
    (case side1 => repeat (first | (with_reducible first | exact HB.out | apply below_alloc | apply pw_below_drewN | apply below_drew1 | refine below_set ?_ GE110.out) | exact HB.out))
    (case side2 => exact Kd.R_tight rfl HO117.out)
    rintro e w15 ⟨v119, rfl, ho0, hb, hkp⟩
    refine ⟨_, rfl, ?_⟩
    have n0_ := Aside0.mk (blk_kept (by (with_reducible repeat (first | refine blk_drewN ?_ _ | refine blk_drew ?_ | refine blk_alloc ?_ _)); exact BK110.out) hkp (fun hs_ => (fun e_ => (Kd.R_ne HO117.out BK110.out (by decide)) e_) hs_))
    have n1_ := Aside0.mk (Kd.R_mono (ok' := fun k_ => True) ho0 (fun k_ hk_ => trivial))
    have n2_ := Aside0.mk (hb)
    clear BK110
    clear HB
    clear HO117
    have BK110 := n0_
    have HO120 := n1_
    have HB := n2_
    clear n0_ n1_ n2_
    (try clear hb)
    (try clear hkp)
    (try clear ho0)
    refine hK.out _ _ ⟨(blk_cell BK110.out 0).trans rfl, (blk_cell BK110.out 1).trans rfl⟩ (fun hHeld => ?_)
    clear hK K
    refine norm_ (a' := ?_) ?_ ?_
    rotate_left
    · show Act.put _ (some 23) _ = _
      simp only [Act.put, List.setIfInBounds_toArray, List.set_cons_zero, List.set_cons_succ, i64_w, i32_w]
      rfl
    refine pure_ (i := 9) (N := some 5) (v := ?_) (a' := ?_) #[true, true, true, true, true, true, true, true, true, true] rfl rfl (any_of HT_.out (by kernel_rfl)) (fun _ _ _ h => h) (Or.inl ⟨by rfl, ?_⟩) ?_ ?_
    rotate_left
    · intro w'
      go_simp
      with_reducible rfl
    rotate_left
    · simp only [Act.put, List.setIfInBounds_toArray, List.set_cons_zero, List.set_cons_succ, i64_w, i32_w]
      rfl
    refine done_ (done_of HT_.out (by kernel_rfl)) ?_
    have hcz16_0 : w15.cell? ⟨gb110, 0, none⟩ = some (.int .i64 a0_0) := (blk_cell BK110.out 0).trans rfl
    have hcz16_1 : w15.cell? ⟨gb110, 1, none⟩ = some (.slice A0_1 l0_1.length c0_1) := (blk_cell BK110.out 1).trans rfl
    have hfz16_0 := blk_frozen BK110.out 0
    have hfz16_1 := blk_frozen BK110.out 1
    try go_wp2
    go_loopg [5, 6, 27] k (fun kq v5 v6 v27 w' => ∃ (x5_1 : List Int) (x6_1 : List Int) (x27_1 : Int), v27 = .int .i64 x27_1 ∧ Aside0 (segment_Seal.l0 kq x5_1 x6_1 l0_1 (l0_1.length : Int) x27_1 = some (r1, r2)) ∧ Aside0 (kq ≤ k) ∧ Aside0 (Kd.R (Kd.int .u8) 5 w' w.heap.size (fun k_ => some k_ ≠ (v6 : Value).ownBlock) v5 x5_1) ∧ Aside0 (Kd.R (Kd.int .u8) 5 w' w.heap.size (fun k_ => some k_ ≠ (v5 : Value).ownBlock) v6 x6_1) ∧ Aside0 (w'.heap[gb110]? = some (.cells #[.int .i64 a0_0, (.slice A0_1 l0_1.length c0_1)] 32 (0, 0))) ∧ Aside0 (Below w.heap.size w w'))
    case atStart => exact ⟨(t118), (([] : List Int)), (0), (by first | rfl | (simp; done) | (simp [*]; done)), H', ⟨Nat.le_refl _⟩, ⟨by (with_reducible repeat (first | apply Kd.R_alloc | apply Kd.R_drewN | apply Kd.R_drew)); exact Kd.R_mono HO120.out (fun _ hk => (by simp [Value.ownBlock]))⟩, ⟨by first | exact Kd.R_nil _ _ _ _ _ | exact Kd.N_nil _ _ _ _ _ | exact Kd.V_nil _ _ _ _ _ | exact Kd.Q_nil _ _ _ _ _ | exact Kd.S_nil _ _ _ _ _⟩, ⟨by (with_reducible repeat (first | refine blk_drewN ?_ _ | refine blk_drew ?_ | refine blk_alloc ?_ _)); exact BK110.out⟩, ⟨by repeat (first | (with_reducible first | exact HB.out | apply below_alloc | apply pw_below_drewN | apply below_drew1 | refine below_set ?_ GE110.out) | exact HB.out)⟩⟩
    case round =>
      clear H'
      try clear c1
      try clear c2
      try clear p2
      try clear c3
      try clear c3b0
      try clear c3b1
      try clear c10
      try clear hcz16_0
      try clear hcz16_1
      try clear hcz7_0
      try clear hcz7_1
      try clear hfz16_0
      try clear hfz16_1
      try clear hfz7_0
      try clear hfz7_1
      obtain ⟨x5_1, x6_1, x27_1, rfl, HA, HK1, HO_5, HO_6, BK110, HB⟩ := hrel
      cases gk with
      | zero => exact absurd HA.out (by simp [segment_Seal.l0])
      | succ k1 =>
        have H := HA.out
        clear HA
        simp only [segment_Seal.l0] at H
        by_cases c17 : x27_1 < (l0_1.length : Int)
        · rw [if_pos c17] at H
          have c17b0 : decide (x27_1 < (l0_1.length : Int)) = true := decide_eq_true c17
          clear c17
          by_cases c18 : 0 ≤ x27_1
          · rw [if_pos c18] at H
            have c18b0 : decide (0 ≤ x27_1) = true := decide_eq_true c18
            clear c18
            by_cases c19 : x27_1 < (l0_1.length : Int)
            · rw [if_pos c19] at H
              have c19b0 : decide (x27_1 < (l0_1.length : Int)) = true := decide_eq_true c19
              clear c19
              replace H := Option.bind_eq_some_iff.mp H
              obtain ⟨t123, A200, H⟩ := H
              replace H : ((segment_put.f t123 ((rd_T43 l0_1 x27_1).f1) 1).bind fun t126 => ((segment_put.f t126 (((rd_T43 l0_1 x27_1).f2).length : Int) 1).bind fun t129 => (if x6_1.length + ((rd_T43 l0_1 x27_1).f2).length < 140737488355328 then (segment_Seal.l0 k1 t129 (x6_1 ++ ((rd_T43 l0_1 x27_1).f2)) l0_1 (l0_1.length : Int) (wrap64 (x27_1 + 1))) else (none)))) = some (r1, r2) := H
              have A20 := Aside0.mk A200
              clear A200
              replace H := Option.bind_eq_some_iff.mp H
              obtain ⟨t126, A210, H⟩ := H
              replace H : ((segment_put.f t126 (((rd_T43 l0_1 x27_1).f2).length : Int) 1).bind fun t129 => (if x6_1.length + ((rd_T43 l0_1 x27_1).f2).length < 140737488355328 then (segment_Seal.l0 k1 t129 (x6_1 ++ ((rd_T43 l0_1 x27_1).f2)) l0_1 (l0_1.length : Int) (wrap64 (x27_1 + 1))) else (none))) = some (r1, r2) := H
              have A21 := Aside0.mk A210
              clear A210
              replace H := Option.bind_eq_some_iff.mp H
              obtain ⟨t129, A220, H⟩ := H
              replace H : (if x6_1.length + ((rd_T43 l0_1 x27_1).f2).length < 140737488355328 then (segment_Seal.l0 k1 t129 (x6_1 ++ ((rd_T43 l0_1 x27_1).f2)) l0_1 (l0_1.length : Int) (wrap64 (x27_1 + 1))) else (none)) = some (r1, r2) := H
              have A22 := Aside0.mk A220
              clear A220
              by_cases c23 : x6_1.length + ((rd_T43 l0_1 x27_1).f2).length < 140737488355328
              · rw [if_pos c23] at H
                have LMc23 := Aside0.mk c23
                clear c23
                obtain ⟨y132, hy132⟩ : ∃ y_ : List Int, y_ = (x6_1 ++ ((rd_T43 l0_1 x27_1).f2)) := ⟨_, rfl⟩
                replace H : (segment_Seal.l0 k1 t129 y132 l0_1 (l0_1.length : Int) (wrap64 (x27_1 + 1))) = some (r1, r2) := by first | (rw [hy132]; with_reducible exact H) | (have H2_ := (Option.bind_some _ _).symm.trans H; rw [hy132]; with_reducible exact H2_) | (have H2_ := (Option.bind_some _ _).symm.trans H; with_reducible exact H2_) | with_reducible exact H | (rw [hy132]; exact H) | exact H
                have Ny132 := Aside0.mk hy132
                clear hy132
                have H' := Aside0.mk H
                clear H
                have p121 : 0 ≤ (x27_1 : Int) := of_decide_eq_true (by first | (with_reducible assumption) | assumption)
                have q121 : x27_1 < (l0_1.length : Int) := of_decide_eq_true (by first | (with_reducible assumption) | assumption)
                obtain ⟨ad121, A121_2, c121_2, e121, hx121_0, hx121_1, hx121_2, hl121_2, hi121_2⟩ := at_T43 HR0_1.out x27_1 p121 q121
                cases e121
                replace hx121_0 := (HB.out.cell (World.block_lt_of_cell? w _ hx121_0)).trans hx121_0
                replace hx121_1 := (HB.out.cell (World.block_lt_of_cell? w _ hx121_1)).trans hx121_1
                replace hx121_2 := (HB.out.cell (World.block_lt_of_cell? w _ hx121_2)).trans hx121_2
                have HR121_2 := Aside0.mk hi121_2
                have HC121_2 := Aside0.mk hl121_2
                clear hi121_2 hl121_2
                replace p121 := eq_true p121
                replace q121 := eq_true q121
                try go_wp2_with (first | ((with_reducible refine gate_dst (N := 8) rfl ?_); refine box_event ?hg (N := 8) ?hd (cs := #[.int .i64 0, .int .i64 0, .slice none 0 0]) (t := 43) ?hr ?_; (case hd => rfl); (case hg => rfl); (case hr => first | (go_simp; done) | (go_simp; rfl)); intro gb122 hg w24 hbox hb; have n0_ := Aside0.mk (Kd.R_below (by (with_reducible repeat (first | apply Kd.R_alloc | apply Kd.R_drewN | apply Kd.R_drew)); exact HO_5.out) hb); have n1_ := Aside0.mk (Kd.R_below (by (with_reducible repeat (first | apply Kd.R_alloc | apply Kd.R_drewN | apply Kd.R_drew)); exact HO_6.out) hb); have n2_ := Aside0.mk (blk_below (g := gb110) (o := .cells #[.int .i64 a0_0, .slice (some ad121) l0_1.length c0_1] 32 (0, 0)) (by (with_reducible repeat (first | refine blk_drewN ?_ _ | refine blk_drew ?_ | refine blk_alloc ?_ _)); exact BK110.out) hb); have n3_ := Aside0.mk (below_step (by repeat (first | (with_reducible first | exact HB.out | apply below_alloc | apply pw_below_drewN | apply below_drew1 | refine below_set ?_ GE110.out) | exact HB.out)) hb); have n4_ := Aside0.mk (hbox); have n5_ := Aside0.mk ((by rw [hg]; exact (below_size (by repeat (first | (with_reducible first | exact HB.out | apply below_alloc | apply pw_below_drewN | apply below_drew1 | refine below_set ?_ GE110.out) | exact HB.out))) : w.heap.size ≤ gb122)); have n6_ := Aside0.mk ((by rw [hg]; exact (below_size (by repeat (first | (with_reducible first | exact HB.out | apply below_alloc | apply pw_below_drewN | apply below_drew1 | refine below_set ?_ GE110.out) | exact HB.out))) : w.heap.size ≤ gb122)); have n7_ := Aside0.mk ((by rw [hg]; exact Nat.ne_of_lt (blk_lt (g := gb110) (o := .cells #[.int .i64 a0_0, .slice (some ad121) l0_1.length c0_1] 32 (0, 0)) (by (with_reducible repeat (first | refine blk_drewN ?_ _ | refine blk_drew ?_ | refine blk_alloc ?_ _)); exact BK110.out)) : gb110 ≠ gb122)); have n8_ := Aside0.mk ((by rw [hg]; exact Nat.ne_of_gt (blk_lt (g := gb110) (o := .cells #[.int .i64 a0_0, .slice (some ad121) l0_1.length c0_1] 32 (0, 0)) (by (with_reducible repeat (first | refine blk_drewN ?_ _ | refine blk_drew ?_ | refine blk_alloc ?_ _)); exact BK110.out)) : gb122 ≠ gb110)); clear HO_5; clear HO_6; clear BK110; clear HB; have HO_5 := n0_; have HO_6 := n1_; have BK110 := n2_; have HB := n3_; have BK122 := n4_; have GW122 := n5_; have GE122 := n6_; have NB110_122 := n7_; have NB122_110 := n8_; clear n0_ n1_ n2_ n3_ n4_ n5_ n6_ n7_ n8_; clear hb hbox hg; have hnb25 := NB122_110.out; have hnc25 := NB110_122.out; have hcz26_0 : w24.cell? ⟨gb122, 0, none⟩ = some (.int .i64 0) := (blk_cell BK122.out 0).trans rfl; have hcz26_1 : w24.cell? ⟨gb122, 1, none⟩ = some (.int .i64 0) := (blk_cell BK122.out 1).trans rfl; have hcz26_2 : w24.cell? ⟨gb122, 2, none⟩ = some (.slice none 0 0) := (blk_cell BK122.out 2).trans rfl; have hfz26_0 := blk_frozen BK122.out 0; have hfz26_1 := blk_frozen BK122.out 1; have hfz26_2 := blk_frozen BK122.out 2))
                have n0_ : Aside0 (Kd.R (Kd.int .u8) 5 (((w24.setCell ⟨gb122, 0, none⟩ (.int .i64 ((rd_T43 l0_1 x27_1).f0))).setCell ⟨gb122, 1, none⟩ (.int .i64 ((rd_T43 l0_1 x27_1).f1))).setCell ⟨gb122, 2, none⟩ (.slice A121_2 ((rd_T43 l0_1 x27_1).f2).length c121_2)) w.heap.size (fun k_ => some k_ ≠ (u6 : Value).ownBlock) u5 x5_1) := ⟨by (with_reducible repeat (first | apply Kd.R_alloc | apply Kd.R_drewN | apply Kd.R_drew)); exact Kd.R_mono (Kd.R_far (p := ⟨gb122, 2, none⟩) (Kd.R_far (p := ⟨gb122, 1, none⟩) (Kd.R_far (p := ⟨gb122, 0, none⟩) (Kd.R_types HO_5.out BK122.out (by decide)) (fun _ hk => hk.2) (.int .i64 ((rd_T43 l0_1 x27_1).f0))) (fun _ hk => hk.2) (.int .i64 ((rd_T43 l0_1 x27_1).f1))) (fun _ hk => hk.2) (.slice A121_2 ((rd_T43 l0_1 x27_1).f2).length c121_2)) (fun _ hk => hk.1)⟩
                have n1_ : Aside0 (Kd.R (Kd.int .u8) 5 (((w24.setCell ⟨gb122, 0, none⟩ (.int .i64 ((rd_T43 l0_1 x27_1).f0))).setCell ⟨gb122, 1, none⟩ (.int .i64 ((rd_T43 l0_1 x27_1).f1))).setCell ⟨gb122, 2, none⟩ (.slice A121_2 ((rd_T43 l0_1 x27_1).f2).length c121_2)) w.heap.size (fun k_ => some k_ ≠ (u5 : Value).ownBlock) u6 x6_1) := ⟨by (with_reducible repeat (first | apply Kd.R_alloc | apply Kd.R_drewN | apply Kd.R_drew)); exact Kd.R_mono (Kd.R_far (p := ⟨gb122, 2, none⟩) (Kd.R_far (p := ⟨gb122, 1, none⟩) (Kd.R_far (p := ⟨gb122, 0, none⟩) (Kd.R_types HO_6.out BK122.out (by decide)) (fun _ hk => hk.2) (.int .i64 ((rd_T43 l0_1 x27_1).f0))) (fun _ hk => hk.2) (.int .i64 ((rd_T43 l0_1 x27_1).f1))) (fun _ hk => hk.2) (.slice A121_2 ((rd_T43 l0_1 x27_1).f2).length c121_2)) (fun _ hk => hk.1)⟩
                have n2_ : Aside0 ((((w24.setCell ⟨gb122, 0, none⟩ (.int .i64 ((rd_T43 l0_1 x27_1).f0))).setCell ⟨gb122, 1, none⟩ (.int .i64 ((rd_T43 l0_1 x27_1).f1))).setCell ⟨gb122, 2, none⟩ (.slice A121_2 ((rd_T43 l0_1 x27_1).f2).length c121_2)).heap[gb110]? = some (.cells #[.int .i64 a0_0, .slice (some ad121) l0_1.length c0_1] 32 (0, 0))) := ⟨by (with_reducible repeat (first | refine blk_drewN ?_ _ | refine blk_drew ?_ | refine blk_alloc ?_ _)); refine blk_far ?_ NB110_122.out _; (with_reducible repeat (first | refine blk_drewN ?_ _ | refine blk_drew ?_ | refine blk_alloc ?_ _)); refine blk_far ?_ NB110_122.out _; (with_reducible repeat (first | refine blk_drewN ?_ _ | refine blk_drew ?_ | refine blk_alloc ?_ _)); refine blk_far ?_ NB110_122.out _; (with_reducible repeat (first | refine blk_drewN ?_ _ | refine blk_drew ?_ | refine blk_alloc ?_ _)); exact BK110.out⟩
                have n3_ : Aside0 ((((w24.setCell ⟨gb122, 0, none⟩ (.int .i64 ((rd_T43 l0_1 x27_1).f0))).setCell ⟨gb122, 1, none⟩ (.int .i64 ((rd_T43 l0_1 x27_1).f1))).setCell ⟨gb122, 2, none⟩ (.slice A121_2 ((rd_T43 l0_1 x27_1).f2).length c121_2)).heap[gb122]? = some (.cells #[.int .i64 ((rd_T43 l0_1 x27_1).f0), .int .i64 ((rd_T43 l0_1 x27_1).f1), .slice A121_2 ((rd_T43 l0_1 x27_1).f2).length c121_2] 43 (0, 0))) := ⟨by (with_reducible repeat (first | refine blk_drewN ?_ _ | refine blk_drew ?_ | refine blk_alloc ?_ _)); refine blk_put (cs := #[.int .i64 ((rd_T43 l0_1 x27_1).f0), .int .i64 ((rd_T43 l0_1 x27_1).f1), .slice none 0 0]) ?_ 2 _ rfl; (with_reducible repeat (first | refine blk_drewN ?_ _ | refine blk_drew ?_ | refine blk_alloc ?_ _)); refine blk_put (cs := #[.int .i64 ((rd_T43 l0_1 x27_1).f0), .int .i64 0, .slice none 0 0]) ?_ 1 _ rfl; (with_reducible repeat (first | refine blk_drewN ?_ _ | refine blk_drew ?_ | refine blk_alloc ?_ _)); refine blk_put (cs := #[.int .i64 0, .int .i64 0, .slice none 0 0]) ?_ 0 _ rfl; (with_reducible repeat (first | refine blk_drewN ?_ _ | refine blk_drew ?_ | refine blk_alloc ?_ _)); exact BK122.out⟩
                have n4_ : Aside0 (Below w.heap.size w (((w24.setCell ⟨gb122, 0, none⟩ (.int .i64 ((rd_T43 l0_1 x27_1).f0))).setCell ⟨gb122, 1, none⟩ (.int .i64 ((rd_T43 l0_1 x27_1).f1))).setCell ⟨gb122, 2, none⟩ (.slice A121_2 ((rd_T43 l0_1 x27_1).f2).length c121_2))) := ⟨by repeat (first | (with_reducible first | exact HB.out | apply below_alloc | apply pw_below_drewN | apply below_drew1 | refine below_set ?_ GE110.out | refine below_set ?_ GE122.out) | exact HB.out)⟩
                (try clear HO_5)
                (try clear HO_6)
                (try clear BK110)
                (try clear BK122)
                (try clear HB)
                generalize (((w24.setCell ⟨gb122, 0, none⟩ (.int .i64 ((rd_T43 l0_1 x27_1).f0))).setCell ⟨gb122, 1, none⟩ (.int .i64 ((rd_T43 l0_1 x27_1).f1))).setCell ⟨gb122, 2, none⟩ (.slice A121_2 ((rd_T43 l0_1 x27_1).f2).length c121_2)) = w27 at n0_ n1_ n2_ n3_ n4_ ⊢
                have HO_5 := n0_
                have HO_6 := n1_
                have BK110 := n2_
                have BK122 := n3_
                have HB := n4_
                clear n0_ n1_ n2_ n3_ n4_
                have n0_ := Aside0.mk (Kd.R_drew HO_5.out)
                have n1_ := Aside0.mk (Kd.R_drew HO_6.out)
                have n2_ := Aside0.mk (blk_drew BK110.out)
                have n3_ := Aside0.mk (blk_drew BK122.out)
                have n4_ := Aside0.mk (below_drew1 HB.out)
                clear HO_5
                clear HO_6
                clear BK110
                clear BK122
                clear HB
                have HO_5 := n0_
                have HO_6 := n1_
                have BK110 := n2_
                have BK122 := n3_
                have HB := n4_
                clear n0_ n1_ n2_ n3_ n4_
                obtain ⟨Ao29, co29, eo29⟩ := Kd.R_slice HO_5.out
                (first | subst eo29 | (injection eo29 with f1_ f2_ f3_; have f4_ := f1_.symm; have f5_ := f3_.symm; clear f1_ f2_ f3_; subst f4_; subst f5_))
                refine start_ (n := 12) (S := fun w' => w'.cell? ⟨gb122, 0, none⟩ = some (.int .i64 ((rd_T43 l0_1 x27_1).f0)) ∧ w'.cell? ⟨gb122, 1, none⟩ = some (.int .i64 ((rd_T43 l0_1 x27_1).f1)) ∧ w'.cell? ⟨gb122, 2, none⟩ = some (.slice A121_2 ((rd_T43 l0_1 x27_1).f2).length c121_2)) (ds := []) #[false, false, false, false, false, false, false, false, false, false, false, false] (by kernel_rfl) rfl rfl ⟨(blk_cell BK122.out 0).trans rfl, (blk_cell BK122.out 1).trans rfl, (blk_cell BK122.out 2).trans rfl⟩ (fun hHeld => ?_); refine with_tabW segment_Seal.tab9 segment_Seal.bits9 (fun HT_ HW_ => ?_)
                generalize w27.drew = w28 at HO_5 HO_6 BK110 BK122 HB hHeld ⊢
                refine pure_ (i := 0) (N := some 31) (v := ?_) (a' := ?_) #[true, false, false, false, false, false, false, false, false, false, false, false] rfl rfl (any_of HT_.out (by kernel_rfl)) (fun _ _ _ h => h) (Or.inl ⟨by rfl, ?_⟩) ?_ ?_
                rotate_left
                · intro w'
                  go_simp
                  with_reducible rfl
                rotate_left
                · simp only [Act.put, List.setIfInBounds_toArray, List.set_cons_zero, List.set_cons_succ, i64_w, i32_w]
                  rfl
                refine pure_ (i := 1) (N := some 32) (v := ?_) (a' := ?_) #[true, true, false, false, false, false, false, false, false, false, false, false] rfl rfl (any_of HT_.out (by kernel_rfl)) (fun _ _ _ h => h) (Or.inl ⟨by rfl, ?_⟩) ?_ ?_
                rotate_left
                · intro w'
                  go_simp
                  with_reducible rfl
                rotate_left
                · simp only [Act.put, List.setIfInBounds_toArray, List.set_cons_zero, List.set_cons_succ, i64_w, i32_w]
                  rfl
                refine pure_ (i := 4) (N := some 35) (v := ?_) (a' := ?_) #[true, true, false, false, true, false, false, false, false, false, false, false] rfl rfl (any_of HT_.out (by kernel_rfl)) (fun _ _ _ h => h) (Or.inl ⟨by rfl, ?_⟩) ?_ ?_
                rotate_left
                · intro w'
                  go_simp
                  with_reducible rfl
                rotate_left
                · simp only [Act.put, List.setIfInBounds_toArray, List.set_cons_zero, List.set_cons_succ, i64_w, i32_w]
                  rfl
                refine pure_ (i := 7) (N := some 38) (v := ?_) (a' := ?_) #[true, true, false, false, true, false, false, true, false, false, false, false] rfl rfl (any_of HT_.out (by kernel_rfl)) (fun _ _ _ h => h) (Or.inl ⟨by rfl, ?_⟩) ?_ ?_
                rotate_left
                · intro w'
                  go_simp
                  with_reducible rfl
                rotate_left
                · simp only [Act.put, List.setIfInBounds_toArray, List.set_cons_zero, List.set_cons_succ, i64_w, i32_w]
                  rfl
                refine take_ (i := 2) (N := some 33) (v := ?_) (a' := ?_) #[true, true, true, false, true, false, false, true, false, false, false, false] rfl rfl (take_ofW HT_.out HW_.out (by kernel_rfl)) (fun _ _ _ h => h) (Or.inl ⟨by rfl, ?_⟩) hHeld ?_ ?_
                rotate_left
                · rintro w' ⟨s0, s1, s2⟩
                  go_simp
                  with_reducible rfl
                rotate_left
                · simp only [Act.put, List.setIfInBounds_toArray, List.set_cons_zero, List.set_cons_succ, i64_w, i32_w]
                  rfl
                refine take_ (i := 5) (N := some 36) (v := ?_) (a' := ?_) #[true, true, true, false, true, true, false, true, false, false, false, false] rfl rfl (take_ofW HT_.out HW_.out (by kernel_rfl)) (fun _ _ _ h => h) (Or.inl ⟨by rfl, ?_⟩) hHeld ?_ ?_
                rotate_left
                · rintro w' ⟨s0, s1, s2⟩
                  go_simp
                  with_reducible rfl
                rotate_left
                · simp only [Act.put, List.setIfInBounds_toArray, List.set_cons_zero, List.set_cons_succ, i64_w, i32_w]
                  rfl
                refine take_ (i := 8) (N := some 39) (v := ?_) (a' := ?_) #[true, true, true, false, true, true, false, true, true, false, false, false] rfl rfl (take_ofW HT_.out HW_.out (by kernel_rfl)) (fun _ _ _ h => h) (Or.inl ⟨by rfl, ?_⟩) hHeld ?_ ?_
                rotate_left
                · rintro w' ⟨s0, s1, s2⟩
                  go_simp
                  with_reducible rfl
                rotate_left
                · simp only [Act.put, List.setIfInBounds_toArray, List.set_cons_zero, List.set_cons_succ, i64_w, i32_w]
                  rfl
                refine pure_ (i := 9) (N := some 40) (v := ?_) (a' := ?_) #[true, true, true, false, true, true, false, true, true, true, false, false] rfl rfl (any_of HT_.out (by kernel_rfl)) (fun _ _ _ h => h) (Or.inl ⟨by rfl, ?_⟩) ?_ ?_
                rotate_left
                · intro w'
                  go_simp
                  with_reducible rfl
                rotate_left
                · simp only [Act.put, List.setIfInBounds_toArray, List.set_cons_zero, List.set_cons_succ, i64_w, i32_w]
                  rfl
                refine one_ (i := 3) (N := some 34) #[true, true, true, true, true, true, false, true, true, true, false, false] rfl rfl (one_of HT_.out (by kernel_rfl)) (by decide) (fun K hK => ?_)
                refine goes_ Tryd.func25 (by kernel_rfl) rfl #[.slice Ao29 x5_1.length co29, .int .i64 ((rd_T43 l0_1 x27_1).f0), .int .i64 4] (by rfl) rfl rfl (by (try simp only [List.map_toArray, List.map_cons, List.map_nil]); first | done | rfl | (simp only [List.length_drop, List.length_take]; rfl)) ?_
                with_reducible refine (segment_put.calls (fun k_ => some k_ = (.slice Ao29 x5_1.length co29 : Value).ownBlock) (.slice Ao29 x5_1.length co29) x5_1 ((rd_T43 l0_1 x27_1).f0) 4 t123 w _ ?side1 ?side2 A20.out).mono ?_
                (case side1 => repeat (first | (with_reducible first | exact HB.out | apply below_alloc | apply pw_below_drewN | apply below_drew1 | refine below_set ?_ GE110.out | refine below_set ?_ GE122.out) | exact HB.out))
                (case side2 => exact Kd.R_tight rfl HO_5.out)
                rintro e w30 ⟨v124, rfl, ho0, hb, hkp⟩
                refine ⟨_, rfl, ?_⟩
                have n0_ := Aside0.mk (Kd.R_mono (ok' := fun k_ => some k_ ≠ (v124 : Value).ownBlock) (Kd.R_keptB (HO_6.out) hkp (fun k_ hk_ hs_ => (hk_) hs_)) (fun k_ hk_ => fun e_ => Or.elim (ho0.1 k_ e_.symm) (fun hs_ => hk_.2.1 hs_) (fun hn_ => Nat.not_le.2 hk_.2.2 hn_)))
                have n1_ := Aside0.mk (blk_kept (by (with_reducible repeat (first | refine blk_drewN ?_ _ | refine blk_drew ?_ | refine blk_alloc ?_ _)); exact BK110.out) hkp (fun hs_ => (fun e_ => (Kd.R_ne HO_5.out BK110.out (by decide)) e_) hs_))
                have n2_ := Aside0.mk (blk_kept (by (with_reducible repeat (first | refine blk_drewN ?_ _ | refine blk_drew ?_ | refine blk_alloc ?_ _)); exact BK122.out) hkp (fun hs_ => (fun e_ => (Kd.R_ne HO_5.out BK122.out (by decide)) e_) hs_))
                have n3_ := Aside0.mk (Kd.R_mono (ok' := fun k_ => some k_ ≠ (u6 : Value).ownBlock) ho0 (fun k_ hk_ => Or.elim hk_ (fun hs_ => fun e_ => (((HO_6.out).1 k_ e_.symm)) hs_) (fun hn_ => (Kd.fresh' (Kd.R_lt (by (with_reducible repeat (first | apply Kd.R_alloc | apply Kd.R_drewN | apply Kd.R_drew)); exact HO_6.out)) k_ hn_))))
                have n4_ := Aside0.mk (hb)
                clear HO_6
                clear BK110
                clear BK122
                clear HB
                clear HO_5
                have HO_6 := n0_
                have BK110 := n1_
                have BK122 := n2_
                have HO125 := n3_
                have HB := n4_
                clear n0_ n1_ n2_ n3_ n4_
                (try clear hb)
                (try clear hkp)
                (try clear ho0)
                obtain ⟨Ao31, co31, eo31⟩ := Kd.R_slice HO125.out
                (first | subst eo31 | (injection eo31 with f1_ f2_ f3_; have f4_ := f1_.symm; have f5_ := f3_.symm; clear f1_ f2_ f3_; subst f4_; subst f5_))
                refine hK.out _ _ ⟨(blk_cell BK122.out 0).trans rfl, (blk_cell BK122.out 1).trans rfl, (blk_cell BK122.out 2).trans rfl⟩ (fun hHeld => ?_)
                clear hK K
                refine norm_ (a' := ?_) ?_ ?_
                rotate_left
                · show Act.put _ (some 34) _ = _
                  simp only [Act.put, List.setIfInBounds_toArray, List.set_cons_zero, List.set_cons_succ, i64_w, i32_w]
                  rfl
                refine one_ (i := 6) (N := some 37) #[true, true, true, true, true, true, true, true, true, true, false, false] rfl rfl (one_of HT_.out (by kernel_rfl)) (by decide) (fun K hK => ?_)
                refine goes_ Tryd.func25 (by kernel_rfl) rfl #[.slice Ao31 t123.length co31, .int .i64 ((rd_T43 l0_1 x27_1).f1), .int .i64 1] (by rfl) rfl rfl (by (try simp only [List.map_toArray, List.map_cons, List.map_nil]); first | done | rfl | (simp only [List.length_drop, List.length_take]; rfl)) ?_
                with_reducible refine (segment_put.calls (fun k_ => some k_ = (.slice Ao31 t123.length co31 : Value).ownBlock) (.slice Ao31 t123.length co31) t123 ((rd_T43 l0_1 x27_1).f1) 1 t126 w _ ?side1 ?side2 A21.out).mono ?_
                (case side1 => repeat (first | (with_reducible first | exact HB.out | apply below_alloc | apply pw_below_drewN | apply below_drew1 | refine below_set ?_ GE110.out | refine below_set ?_ GE122.out) | exact HB.out))
                (case side2 => exact Kd.R_tight rfl HO125.out)
                rintro e w32 ⟨v127, rfl, ho0, hb, hkp⟩
                refine ⟨_, rfl, ?_⟩
                have n0_ := Aside0.mk (Kd.R_mono (ok' := fun k_ => some k_ ≠ (v127 : Value).ownBlock) (Kd.R_keptB (HO_6.out) hkp (fun k_ hk_ hs_ => (hk_) hs_)) (fun k_ hk_ => fun e_ => Or.elim (ho0.1 k_ e_.symm) (fun hs_ => hk_.2.1 hs_) (fun hn_ => Nat.not_le.2 hk_.2.2 hn_)))
                have n1_ := Aside0.mk (blk_kept (by (with_reducible repeat (first | refine blk_drewN ?_ _ | refine blk_drew ?_ | refine blk_alloc ?_ _)); exact BK110.out) hkp (fun hs_ => (fun e_ => (Kd.R_ne HO125.out BK110.out (by decide)) e_) hs_))
                have n2_ := Aside0.mk (blk_kept (by (with_reducible repeat (first | refine blk_drewN ?_ _ | refine blk_drew ?_ | refine blk_alloc ?_ _)); exact BK122.out) hkp (fun hs_ => (fun e_ => (Kd.R_ne HO125.out BK122.out (by decide)) e_) hs_))
                have n3_ := Aside0.mk (Kd.R_mono (ok' := fun k_ => some k_ ≠ (u6 : Value).ownBlock) ho0 (fun k_ hk_ => Or.elim hk_ (fun hs_ => fun e_ => (((HO_6.out).1 k_ e_.symm)) hs_) (fun hn_ => (Kd.fresh' (Kd.R_lt (by (with_reducible repeat (first | apply Kd.R_alloc | apply Kd.R_drewN | apply Kd.R_drew)); exact HO_6.out)) k_ hn_))))
                have n4_ := Aside0.mk (hb)
                clear HO_6
                clear BK110
                clear BK122
                clear HB
                clear HO125
                have HO_6 := n0_
                have BK110 := n1_
                have BK122 := n2_
                have HO128 := n3_
                have HB := n4_
                clear n0_ n1_ n2_ n3_ n4_
                (try clear hb)
                (try clear hkp)
                (try clear ho0)
                obtain ⟨Ao33, co33, eo33⟩ := Kd.R_slice HO128.out
                (first | subst eo33 | (injection eo33 with f1_ f2_ f3_; have f4_ := f1_.symm; have f5_ := f3_.symm; clear f1_ f2_ f3_; subst f4_; subst f5_))
                refine hK.out _ _ ⟨(blk_cell BK122.out 0).trans rfl, (blk_cell BK122.out 1).trans rfl, (blk_cell BK122.out 2).trans rfl⟩ (fun hHeld => ?_)
                clear hK K
                refine norm_ (a' := ?_) ?_ ?_
                rotate_left
                · show Act.put _ (some 37) _ = _
                  simp only [Act.put, List.setIfInBounds_toArray, List.set_cons_zero, List.set_cons_succ, i64_w, i32_w]
                  rfl
                refine one_ (i := 10) (N := some 41) #[true, true, true, true, true, true, true, true, true, true, true, false] rfl rfl (one_of HT_.out (by kernel_rfl)) (by decide) (fun K hK => ?_)
                refine goes_ Tryd.func25 (by kernel_rfl) rfl #[.slice Ao33 t126.length co33, .int .i64 (((rd_T43 l0_1 x27_1).f2).length : Int), .int .i64 1] (by rfl) rfl rfl (by (try simp only [List.map_toArray, List.map_cons, List.map_nil]); first | done | rfl | (simp only [List.length_drop, List.length_take]; rfl)) ?_
                with_reducible refine (segment_put.calls (fun k_ => some k_ = (.slice Ao33 t126.length co33 : Value).ownBlock) (.slice Ao33 t126.length co33) t126 (((rd_T43 l0_1 x27_1).f2).length : Int) 1 t129 w _ ?side1 ?side2 A22.out).mono ?_
                (case side1 => repeat (first | (with_reducible first | exact HB.out | apply below_alloc | apply pw_below_drewN | apply below_drew1 | refine below_set ?_ GE110.out | refine below_set ?_ GE122.out) | exact HB.out))
                (case side2 => exact Kd.R_tight rfl HO128.out)
                rintro e w34 ⟨v130, rfl, ho0, hb, hkp⟩
                refine ⟨_, rfl, ?_⟩
                have n0_ := Aside0.mk (Kd.R_mono (ok' := fun k_ => some k_ ≠ (v130 : Value).ownBlock) (Kd.R_keptB (HO_6.out) hkp (fun k_ hk_ hs_ => (hk_) hs_)) (fun k_ hk_ => fun e_ => Or.elim (ho0.1 k_ e_.symm) (fun hs_ => hk_.2.1 hs_) (fun hn_ => Nat.not_le.2 hk_.2.2 hn_)))
                have n1_ := Aside0.mk (blk_kept (by (with_reducible repeat (first | refine blk_drewN ?_ _ | refine blk_drew ?_ | refine blk_alloc ?_ _)); exact BK110.out) hkp (fun hs_ => (fun e_ => (Kd.R_ne HO128.out BK110.out (by decide)) e_) hs_))
                have n2_ := Aside0.mk (blk_kept (by (with_reducible repeat (first | refine blk_drewN ?_ _ | refine blk_drew ?_ | refine blk_alloc ?_ _)); exact BK122.out) hkp (fun hs_ => (fun e_ => (Kd.R_ne HO128.out BK122.out (by decide)) e_) hs_))
                have n3_ := Aside0.mk (Kd.R_mono (ok' := fun k_ => some k_ ≠ (u6 : Value).ownBlock) ho0 (fun k_ hk_ => Or.elim hk_ (fun hs_ => fun e_ => (((HO_6.out).1 k_ e_.symm)) hs_) (fun hn_ => (Kd.fresh' (Kd.R_lt (by (with_reducible repeat (first | apply Kd.R_alloc | apply Kd.R_drewN | apply Kd.R_drew)); exact HO_6.out)) k_ hn_))))
                have n4_ := Aside0.mk (hb)
                clear HO_6
                clear BK110
                clear BK122
                clear HB
                clear HO128
                have HO_6 := n0_
                have BK110 := n1_
                have BK122 := n2_
                have HO131 := n3_
                have HB := n4_
                clear n0_ n1_ n2_ n3_ n4_
                (try clear hb)
                (try clear hkp)
                (try clear ho0)
                refine hK.out _ _ ⟨(blk_cell BK122.out 0).trans rfl, (blk_cell BK122.out 1).trans rfl, (blk_cell BK122.out 2).trans rfl⟩ (fun hHeld => ?_)
                clear hK K
                refine norm_ (a' := ?_) ?_ ?_
                rotate_left
                · show Act.put _ (some 41) _ = _
                  simp only [Act.put, List.setIfInBounds_toArray, List.set_cons_zero, List.set_cons_succ, i64_w, i32_w]
                  rfl
                refine pure_ (i := 11) (N := some 5) (v := ?_) (a' := ?_) #[true, true, true, true, true, true, true, true, true, true, true, true] rfl rfl (any_of HT_.out (by kernel_rfl)) (fun _ _ _ h => h) (Or.inl ⟨by rfl, ?_⟩) ?_ ?_
                rotate_left
                · intro w'
                  go_simp
                  with_reducible rfl
                rotate_left
                · simp only [Act.put, List.setIfInBounds_toArray, List.set_cons_zero, List.set_cons_succ, i64_w, i32_w]
                  rfl
                refine done_ (done_of HT_.out (by kernel_rfl)) ?_
                have hcz35_0 : w34.cell? ⟨gb122, 0, none⟩ = some (.int .i64 ((rd_T43 l0_1 x27_1).f0)) := (blk_cell BK122.out 0).trans rfl
                have hcz35_1 : w34.cell? ⟨gb122, 1, none⟩ = some (.int .i64 ((rd_T43 l0_1 x27_1).f1)) := (blk_cell BK122.out 1).trans rfl
                have hcz35_2 : w34.cell? ⟨gb122, 2, none⟩ = some (.slice A121_2 ((rd_T43 l0_1 x27_1).f2).length c121_2) := (blk_cell BK122.out 2).trans rfl
                have hfz35_0 := blk_frozen BK122.out 0
                have hfz35_1 := blk_frozen BK122.out 1
                have hfz35_2 := blk_frozen BK122.out 2
                try go_wp2_with (first | ((with_reducible refine gate_builtin (b := .append) (xs := #[.tmp 42, .tmp 44]) rfl ?_); at_builtin; refine Kd.R_append_rows (Kd.int .u8) (w0 := w) w.heap.size rfl (.tmp 42) (.tmp 44) 25 5 (.int .u8 0) 1 rfl Tryd.underlying25 info5 rfl (by decide) (by omega) u6 x6_1 ((rd_T43 l0_1 x27_1).f2) _ _ _ (fun k_ => some k_ ≠ (v130 : Value).ownBlock) (fun _ => False) rfl rfl ?aO ?aR (fun _ _ h => h) (fun _ h => h.elim) ?aF ?aB ?aS ?aL ?_; (case aR => repeat (first | exact (Kd.C_below HR121_2.out HB.out) | (with_reducible refine Kd.C_alloc ?_ _) | (with_reducible refine Kd.C_drewN ?_ _) | (with_reducible refine Kd.C_drew ?_))); (case aB => exact (by repeat (first | (with_reducible first | exact HB.out | apply below_alloc | apply pw_below_drewN | apply below_drew1 | refine below_set ?_ GE110.out | refine below_set ?_ GE122.out) | exact HB.out))); (case aF => exact (fun k_ hk => Kd.fresh' (Kd.R_lt (by (with_reducible repeat (first | apply Kd.R_alloc | apply Kd.R_drewN | apply Kd.R_drew)); exact HO131.out)) k_ hk)); (case aO => exact (by (with_reducible repeat (first | apply Kd.R_alloc | apply Kd.R_drewN | apply Kd.R_drew)); exact HO_6.out)); (case aS => exact (below_size (by repeat (first | (with_reducible first | exact HB.out | apply below_alloc | apply pw_below_drewN | apply below_drew1 | refine below_set ?_ GE110.out | refine below_set ?_ GE122.out) | exact HB.out)))); (case aL => have := LMc23.out; omega); intro v133 w36 ho hb hg hat; rw [← Ny132.out] at ho; have n0_ := Aside0.mk (blk_grown (g := gb110) (o := .cells #[.int .i64 a0_0, .slice (some ad121) l0_1.length c0_1] 32 (0, 0)) (by (with_reducible repeat (first | refine blk_drewN ?_ _ | refine blk_drew ?_ | refine blk_alloc ?_ _)); exact BK110.out) hg (Kd.R_ne HO_6.out BK110.out (by decide))); have n1_ := Aside0.mk (blk_grown (g := gb122) (o := .cells #[.int .i64 ((rd_T43 l0_1 x27_1).f0), .int .i64 ((rd_T43 l0_1 x27_1).f1), .slice A121_2 ((rd_T43 l0_1 x27_1).f2).length c121_2] 43 (0, 0)) (by (with_reducible repeat (first | refine blk_drewN ?_ _ | refine blk_drew ?_ | refine blk_alloc ?_ _)); exact BK122.out) hg (Kd.R_ne HO_6.out BK122.out (by decide))); have n2_ := Aside0.mk (Kd.R_after (ok := (fun _ => True)) (by (with_reducible repeat (first | apply Kd.R_alloc | apply Kd.R_drewN | apply Kd.R_drew)); exact Kd.R_mono HO131.out (fun _ hk => ⟨trivial, hk⟩)) hg hat); have n3_ := Aside0.mk (hb); have n4_ := Aside0.mk (ho); clear BK110; clear BK122; clear HO131; clear HB; clear HO_6; have BK110 := n0_; have BK122 := n1_; have HO131 := n2_; have HB := n3_; have HO134 := n4_; clear n0_ n1_ n2_ n3_ n4_; clear ho hb hg hat))
                go_roundg k1
                case measure => have := HK1.out; omega
                case rel => exact ⟨(t129), (y132), (wrap64 (x27_1 + 1)), (by first | rfl | (simp; done) | (simp [*]; done)), H', ⟨by have := HK1.out; omega⟩, ⟨by (with_reducible repeat (first | apply Kd.R_alloc | apply Kd.R_drewN | apply Kd.R_drew)); exact Kd.R_mono HO131.out (fun _ hk => hk.2)⟩, ⟨by (with_reducible repeat (first | apply Kd.R_alloc | apply Kd.R_drewN | apply Kd.R_drew)); exact HO134.out⟩, ⟨by (with_reducible repeat (first | refine blk_drewN ?_ _ | refine blk_drew ?_ | refine blk_alloc ?_ _)); exact BK110.out⟩, ⟨by repeat (first | (with_reducible first | exact HB.out | apply below_alloc | apply pw_below_drewN | apply below_drew1 | refine below_set ?_ GE110.out | refine below_set ?_ GE122.out) | exact HB.out)⟩⟩
              · rw [if_neg c23] at H
                exact absurd H (by simp)
            · rw [if_neg c19] at H
              exact absurd H (by simp)
          · rw [if_neg c18] at H
            exact absurd H (by simp)
        · rw [if_neg c17] at H
          have c17b0 : decide (x27_1 < (l0_1.length : Int)) = false := decide_eq_false c17
          clear c17
          by_cases c37 : x5_1.length + x6_1.length < 380 ∧ 0 < x5_1.length
          · rw [if_pos c37] at H
            obtain ⟨y134, hy134⟩ : ∃ y_ : List Int, y_ = x5_1 ++ x6_1 := ⟨_, rfl⟩
            have LY := Aside0.mk (show y134.length < 380 ∧ 0 < y134.length by rw [hy134, List.length_append]; omega)
            have LMc37 := Aside0.mk c37
            clear c37
            obtain ⟨y135, hy135⟩ : ∃ y_ : List Int, y_ = padI y134 := ⟨_, rfl⟩
            replace H : ((crc_Sum.f y135).bind fun t138 => ((segment_put.f y135 (wrap64 (t138)) 4).bind fun t139 => (some (t139, 0)))) = some (r1, r2) := by rw [hy135, hy134]; with_reducible exact H
            have LY5 := Aside0.mk (show y135.length = 380 by rw [hy135]; exact padI_len LY.out.1)
            have Ny134 := Aside0.mk hy134
            have Ny135 := Aside0.mk hy135
            clear hy135 hy134
            replace H := Option.bind_eq_some_iff.mp H
            obtain ⟨t138, A380, H⟩ := H
            replace H : ((segment_put.f y135 (wrap64 (t138)) 4).bind fun t139 => (some (t139, 0))) = some (r1, r2) := H
            have A38 := Aside0.mk A380
            clear A380
            replace H := Option.bind_eq_some_iff.mp H
            obtain ⟨t139, A390, H⟩ := H
            replace H : (some (t139, 0)) = some (r1, r2) := H
            have A39 := Aside0.mk A390
            clear A390
            simp only [Option.some.injEq, Prod.mk.injEq] at H
            obtain ⟨rfl, rfl⟩ := H
            obtain ⟨Ao41, co41, eo41⟩ := Kd.R_slice HO_6.out
            subst eo41
            go_wp2_with (first
              | ((with_reducible refine gate_builtin (b := .append) (xs := #[.tmp 47, .tmp 48]) rfl ?_); at_builtin; refine Kd.R_append_rows (Kd.int .u8) (w0 := w) w.heap.size rfl (.tmp 47) (.tmp 48) 25 5 (.int .u8 0) 1 rfl Tryd.underlying25 info5 rfl (by decide) (by omega) u5 x5_1 x6_1 _ _ _ (fun k_ => some k_ ≠ (.slice Ao41 x6_1.length co41 : Value).ownBlock) (fun _ => False) rfl rfl ?aO ?aR (fun _ _ h => h) (fun _ h => h.elim) ?aF ?aB ?aS ?aL ?_; (case aR => repeat (first | exact (Kd.R_reads' HO_6.out).2.2 | (with_reducible refine Kd.C_alloc ?_ _) | (with_reducible refine Kd.C_drewN ?_ _) | (with_reducible refine Kd.C_drew ?_))); (case aB => exact (by repeat (first | (with_reducible first | exact HB.out | apply below_alloc | apply pw_below_drewN | apply below_drew1 | refine below_set ?_ GE110.out) | exact HB.out))); (case aF => exact (fun k_ hk => Kd.fresh' (Kd.R_lt (by (with_reducible repeat (first | apply Kd.R_alloc | apply Kd.R_drewN | apply Kd.R_drew)); exact HO_6.out)) k_ hk)); (case aO => exact (by (with_reducible repeat (first | apply Kd.R_alloc | apply Kd.R_drewN | apply Kd.R_drew)); exact HO_5.out)); (case aS => exact (below_size (by repeat (first | (with_reducible first | exact HB.out | apply below_alloc | apply pw_below_drewN | apply below_drew1 | refine below_set ?_ GE110.out) | exact HB.out)))); (case aL => have := LMc37.out; omega); intro v136 w40 ho hb hg hat; rw [← Ny134.out] at ho; have n0_ := Aside0.mk (Kd.R_after (ok := (fun _ => True)) (by (with_reducible repeat (first | apply Kd.R_alloc | apply Kd.R_drewN | apply Kd.R_drew)); exact Kd.R_mono HO_6.out (fun _ hk => ⟨trivial, hk⟩)) hg hat); have n1_ := Aside0.mk (blk_grown (g := gb110) (o := .cells #[.int .i64 a0_0, .slice A0_1 l0_1.length c0_1] 32 (0, 0)) (by (with_reducible repeat (first | refine blk_drewN ?_ _ | refine blk_drew ?_ | refine blk_alloc ?_ _)); exact BK110.out) hg (Kd.R_ne HO_5.out BK110.out (by decide))); have n2_ := Aside0.mk (hb); have n3_ := Aside0.mk (ho); clear HO_6; clear BK110; clear HB; clear HO_5; have HO_6 := n0_; have BK110 := n1_; have HB := n2_; have HO137 := n3_; clear n0_ n1_ n2_ n3_; clear ho hb hg hat; obtain ⟨Ao42, co42, eo42⟩ := Kd.R_slice HO137.out; subst eo42)
              | (go_at_call 26; refine (grow_calls y134 w.heap.size w _ (by repeat (first | (with_reducible first | exact HB.out | apply below_alloc | apply pw_below_drewN | apply below_drew1 | refine below_set ?_ GE110.out) | exact HB.out)) (below_size (by repeat (first | (with_reducible first | exact HB.out | apply below_alloc | apply pw_below_drewN | apply below_drew1 | refine below_set ?_ GE110.out) | exact HB.out))) _ Ao42 co42 (by (with_reducible repeat (first | apply Kd.R_alloc | apply Kd.R_drewN | apply Kd.R_drew)); exact HO137.out) LY.out.2 LY.out.1).mono ?_; rintro e w50 ⟨g, cap, rfl, hr, hb⟩; obtain ⟨hz1, hz2, hz3, hz4, hz5⟩ := seal_tail hr hb LY.out.1; rw [← Ny135.out] at hz2; obtain ⟨Z, hZ⟩ : ∃ Z, Z = List.replicate (380 - y134.length) (Value.int .u8 0) := ⟨_, rfl⟩; rw [← hZ] at hz1 hz2 hz5; clear HB HO137 HO_6 BK110 hb hr hZ; have HB := Aside0.mk hz5; have HOZ := Aside0.mk hz2; clear hz2 hz5)
              | (go_at_call 27; have hC_ := crc_Sum.calls (some ⟨g, 0, none⟩) cap y135 t138 _ (Kd.R_reads' HOZ.out).2.2 (by have h1_ := (Kd.R_reads' HOZ.out).2.1; have h2_ := LY5.out; omega) A38.out; rw [LY5.out] at hC_; refine hC_.mono ?_; clear hC_; rintro e w51 ⟨rfl, hb⟩; have n0_ := Aside0.mk (Kd.R_below HOZ.out hb); have n1_ := Aside0.mk (below_step HB.out hb); clear HOZ HB hb; have HOZ := n0_; have HB := n1_; clear n0_ n1_)
              | (go_at_call 25; refine (segment_put.calls (fun k => k = g) (.slice (some ⟨g, 0, none⟩) 380 cap) y135 (wrap64 t138) 4 t139 w _ (by repeat (first | (with_reducible first | exact HB.out | apply below_alloc | apply pw_below_drewN | apply below_drew1 | refine below_set ?_ GE110.out) | exact HB.out)) (by (with_reducible repeat (first | apply Kd.R_alloc | apply Kd.R_drewN | apply Kd.R_drew)); exact HOZ.out) A39.out).mono ?_; rintro e w52 ⟨v140, rfl, ho, hb, hk⟩; have HO141 := Aside0.mk ho; clear HB HOZ; have HB := Aside0.mk hb; clear ho hb hk))
            go_ret2
            exact ⟨_, rfl, Kd.R_mono HO141.out (fun _ _ => trivial), HB.out⟩
          · rw [if_neg c37] at H
            exact absurd H (by simp)
  · rw [if_neg c3] at H
    have c3b0 : (t111 == 0) = false := beq_eq_false_iff_ne.mpr c3
    have c3b1 : (t111 != 0) = true := bne_iff_ne.mpr c3
    simp only [Option.some.injEq, Prod.mk.injEq] at H
    obtain ⟨rfl, rfl⟩ := H
    go_enter Tryd.func10, Tryd.ntmps10
    go_wp2_with (first | ((with_reducible refine gate_dst (N := 1) rfl ?_); refine box_event ?hg (N := 1) ?hd (cs := #[.int .i64 a0_0, .slice A0_1 l0_1.length c0_1]) (t := 32) ?hr ?_; (case hd => rfl); (case hg => rfl); (case hr => first | (go_simp; done) | (go_simp; rfl)); intro gb110 hg w45 hbox hb; have n0_ := Aside0.mk (below_step (by repeat (first | (with_reducible first | exact HB.out | apply below_alloc | apply pw_below_drewN | apply below_drew1) | exact HB.out)) hb); have n1_ := Aside0.mk (hbox); have n2_ := Aside0.mk ((by rw [hg]; exact (below_size (by repeat (first | (with_reducible first | exact HB.out | apply below_alloc | apply pw_below_drewN | apply below_drew1) | exact HB.out))) : w.heap.size ≤ gb110)); have n3_ := Aside0.mk ((by rw [hg]; exact (below_size (by repeat (first | (with_reducible first | exact HB.out | apply below_alloc | apply pw_below_drewN | apply below_drew1) | exact HB.out))) : w.heap.size ≤ gb110)); clear HB; have HB := n0_; have BK110 := n1_; have GW110 := n2_; have GE110 := n3_; clear n0_ n1_ n2_ n3_; clear hb hbox hg; have hcz46_0 : w45.cell? ⟨gb110, 0, none⟩ = some (.int .i64 a0_0) := (blk_cell BK110.out 0).trans rfl; have hcz46_1 : w45.cell? ⟨gb110, 1, none⟩ = some (.slice A0_1 l0_1.length c0_1) := (blk_cell BK110.out 1).trans rfl; have hfz46_0 := blk_frozen BK110.out 0; have hfz46_1 := blk_frozen BK110.out 1) | ((with_reducible refine gate_callee (f := 23) rfl ?_); refine goesL_ (some 11) rfl rfl Tryd.func23 (by kernel_rfl) rfl #[.agg #[.int .i64 a0_0, .slice A0_1 l0_1.length c0_1]] rfl (by (try simp only [List.map_toArray, List.map_cons, List.map_nil]); first | done | rfl | (simp only [List.length_drop, List.length_take]; rfl)) ?_; (with_reducible refine (segment_Check.calls a0_0 _ _ l0_1 t111 _ ?side1 ?side2 A2.out).mono ?_); (case side1 => repeat (first | exact (Kd.C_below HR0_1.out HB.out) | (with_reducible refine Kd.C_alloc ?_ _) | (with_reducible refine Kd.C_drewN ?_ _) | (with_reducible refine Kd.C_drew ?_))); (case side2 => exact HC0_1.out); rintro e w47 ⟨rfl, hb⟩; refine ⟨_, rfl, ?_⟩; have n0_ := Aside0.mk (blk_below (g := gb110) (o := .cells #[.int .i64 a0_0, .slice A0_1 l0_1.length c0_1] 32 (0, 0)) (by (with_reducible repeat (first | refine blk_drewN ?_ _ | refine blk_drew ?_ | refine blk_alloc ?_ _)); exact BK110.out) hb); have n1_ := Aside0.mk (below_step (by repeat (first | (with_reducible first | exact HB.out | apply below_alloc | apply pw_below_drewN | apply below_drew1 | refine below_set ?_ GE110.out) | exact HB.out)) hb); clear BK110; clear HB; have BK110 := n0_; have HB := n1_; clear n0_ n1_; (try clear hb); (try clear hb2); (try clear hk); (try clear hi)))
    go_ret2
    exact ⟨_, by first | rfl | (simp [errW_none, errW_some] <;> rfl) | (simp [*, errW_none, errW_some] <;> rfl) | (exfalso; simp only [beq_iff_eq, decide_eq_true_eq] at *; omega), by first | exact Kd.R_nil _ _ _ _ _ | exact Kd.N_nil _ _ _ _ _ | exact Kd.V_nil _ _ _ _ _ | exact Kd.Q_nil _ _ _ _ _ | exact Kd.S_nil _ _ _ _ _, by repeat (first | (with_reducible first | exact HB.out | apply below_alloc | apply pw_below_drewN | apply below_drew1 | refine below_set ?_ GE110.out) | exact HB.out)⟩



end Go.Proofs.YtokjiinlhghggaaDoor.PTel
