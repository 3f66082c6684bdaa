-- Written by a program of this session (gen.py).
import Derived.Test.YtomebhohkonhlaaDoorPFowx0
import Derived.Test.YtomebhohkonhlaaDoorPFowx3
import Derived.Test.YtomebhohkonhlaaDoorPFowx4
import Derived.Test.YtomebhohkonhlaaDoorPFowx5
import Derived.Test.YtomebhohkonhlaaDoorPFowx8
namespace Go.Proofs.YtomebhohkonhlaaDoor.PFow
open Go.RowKit Go.Proofs.YtomebhohkonhlaaDoorW.PrintWords Go.Proofs.YtomebhohkonhlaaDoorW.PrintLast Go.Proofs.YtomebhohkonhlaaDoorW.PrintMore
open Go.Proofs.YtomebhohkonhlaaDoor.Own
attribute [local go_sem high] unary_not_u32 unary_not_u64 unary_not_u8 string_leq_ string_gtr_
attribute [local go_sem] max2_int min2_int max_two min_two max_three min_three max_four min_four   -- for this text's walks alone
set_option linter.unusedVariables false
set_option linter.unusedSimpArgs false

/-! ### undercroftlaw07_Alike: function 14 -/
mutual
def undercroftlaw07_Alike.j0 : Nat → Bool → Int → List (S39) → Int → List (S57) → Option (Int)
  | 0, _, _, _, _, _ => none
  | k + 1, x19, x204000, x204001, x205000, x205001 => if x19 = true then (some 1) else (undercroftlaw07_Alike.l0 k 0 x204000 x204001 x205000 x205001)
def undercroftlaw07_Alike.l0 : Nat → Int → Int → List (S39) → Int → List (S57) → Option (Int)
  | 0, _, _, _, _, _ => none
  | k + 1, x5, x204000, x204001, x205000, x205001 => if x5 < (x204001.length : Int) then (if 0 ≤ x5 then (if x5 < (x205001.length : Int) then (if ((rd_T39 x204001 x5).f0) = ((rd_T57 x205001 x5).f0) then ((undercroftplain_SameBytes.f k ((rd_T39 x204001 x5).f1) ((rd_T57 x205001 x5).f1)).bind fun t209 => (if t209 = true then (undercroftlaw07_Alike.l0 k (wrap64 (x5 + 1)) x204000 x204001 x205000 x205001) else (some 1))) else (some 1)) else (none)) else (none)) else (some 0)
end
def undercroftlaw07_Alike.f (k : Nat) (a0_0 : Int) (l0_1 : List (S39)) (a1_0 : Int) (l1_1 : List (S57)) : Option (Int) := if a0_0 = a1_0 then (undercroftlaw07_Alike.j0 k ((l0_1.length : Int) != (l1_1.length : Int)) a0_0 l0_1 a1_0 l1_1) else (undercroftlaw07_Alike.j0 k true a0_0 l0_1 a1_0 l1_1)
theorem undercroftlaw07_Alike.mono_l : ∀ k, (∀ y0 y1 y2 y3 y4, LeO (undercroftlaw07_Alike.j0 k y0 y1 y2 y3 y4) (undercroftlaw07_Alike.j0 (k + 1) y0 y1 y2 y3 y4)) ∧ (∀ y0 y1 y2 y3 y4, LeO (undercroftlaw07_Alike.l0 k y0 y1 y2 y3 y4) (undercroftlaw07_Alike.l0 (k + 1) y0 y1 y2 y3 y4))
  | 0 => ⟨fun _ _ _ _ _ r h => by simp [undercroftlaw07_Alike.j0] at h, fun _ _ _ _ _ r h => by simp [undercroftlaw07_Alike.l0] at h⟩
  | k + 1 => by
    obtain ⟨ih0, ih1⟩ := undercroftlaw07_Alike.mono_l k
    refine ⟨?_, ?_⟩
    · intro y0 y1 y2 y3 y4
      unfold undercroftlaw07_Alike.j0
      repeat' first
      | (with_reducible exact ih0 _ _ _ _ _)
      | (with_reducible exact ih1 _ _ _ _ _)
      | (with_reducible exact undercroftplain_SameBytes.mono _ _ _)
      | (with_reducible exact LeO.refl _)
      | (with_reducible exact LeO.none _)
      | (with_reducible refine LeO.ite ?_ ?_)
      | (with_reducible refine LeO.bind ?_ (fun _ => ?_))
      | exact ih0 _ _ _ _ _
      | exact ih1 _ _ _ _ _
      | exact undercroftplain_SameBytes.mono _ _ _
      | exact LeO.none _
      | refine LeO.ite ?_ ?_
      | refine LeO.bind ?_ (fun _ => ?_)
    · intro y0 y1 y2 y3 y4
      unfold undercroftlaw07_Alike.l0
      repeat' first
      | (with_reducible exact ih0 _ _ _ _ _)
      | (with_reducible exact ih1 _ _ _ _ _)
      | (with_reducible exact undercroftplain_SameBytes.mono _ _ _)
      | (with_reducible exact LeO.refl _)
      | (with_reducible exact LeO.none _)
      | (with_reducible refine LeO.ite ?_ ?_)
      | (with_reducible refine LeO.bind ?_ (fun _ => ?_))
      | exact ih0 _ _ _ _ _
      | exact ih1 _ _ _ _ _
      | exact undercroftplain_SameBytes.mono _ _ _
      | exact LeO.none _
      | refine LeO.ite ?_ ?_
      | refine LeO.bind ?_ (fun _ => ?_)
theorem undercroftlaw07_Alike.mono : ∀ a0 a1 a2 a3 k, LeO (undercroftlaw07_Alike.f k a0 a1 a2 a3) (undercroftlaw07_Alike.f (k + 1) a0 a1 a2 a3) := by
  intro a0 a1 a2 a3 k
  obtain ⟨ih0, ih1⟩ := undercroftlaw07_Alike.mono_l k
  unfold undercroftlaw07_Alike.f
  repeat' first
      | (with_reducible exact ih0 _ _ _ _ _)
      | (with_reducible exact ih1 _ _ _ _ _)
      | (with_reducible exact undercroftplain_SameBytes.mono _ _ _)
      | (with_reducible exact LeO.refl _)
      | (with_reducible exact LeO.none _)
      | (with_reducible refine LeO.ite ?_ ?_)
      | (with_reducible refine LeO.bind ?_ (fun _ => ?_))
      | exact ih0 _ _ _ _ _
      | exact ih1 _ _ _ _ _
      | exact undercroftplain_SameBytes.mono _ _ _
      | exact LeO.none _
      | refine LeO.ite ?_ ?_
      | refine LeO.bind ?_ (fun _ => ?_)
set_option maxHeartbeats 8000000 in
set_option maxRecDepth 100000 in
theorem undercroftlaw07_Alike.calls (k : Nat) (a0_0 : Int) (A0_1 : Option Addr) (c0_1 : Nat) (l0_1 : List (S39)) (a1_0 : Int) (A1_1 : Option Addr) (c1_1 : Nat) (l1_1 : List (S57)) (r : Int) (w : World) (hr0_1 : Kd.C k39 w A0_1 l0_1.length l0_1) (hc0_1 : l0_1.length ≤ c0_1) (hr1_1 : Kd.C k57 w A1_1 l1_1.length l1_1) (hc1_1 : l1_1.length ≤ c1_1) (h : undercroftlaw07_Alike.f k a0_0 l0_1 a1_0 l1_1 = some r) :
    Calls Tryd.prog 14 #[.agg #[.int .i64 a0_0, .slice A0_1 l0_1.length c0_1], .agg #[.int .i64 a1_0, .slice A1_1 l1_1.length c1_1]] w fun e w' => e = .returned (.int .i64 r) ∧ Below w.heap.size w w' := by
  have hu29 := Tryd.underlying29
  have hu24 := Tryd.underlying24
  have HR0_1 := Aside0.mk hr0_1
  have HC0_1 := Aside0.mk hc0_1
  clear hr0_1 hc0_1
  have HR1_1 := Aside0.mk hr1_1
  have HC1_1 := Aside0.mk hc1_1
  clear hr1_1 hc1_1
  have HB := Aside0.mk (Below.refl w.heap.size w)
  have H : (if a0_0 = a1_0 then (undercroftlaw07_Alike.j0 k ((l0_1.length : Int) != (l1_1.length : Int)) a0_0 l0_1 a1_0 l1_1) else (undercroftlaw07_Alike.j0 k true a0_0 l0_1 a1_0 l1_1)) = some r := h
  clear h
  have HC3 := Aside0.mk H
  clear H
  go_enter Tryd.func14, Tryd.ntmps14
  go_upto_region 1 with (first | ((with_reducible refine gate_dst (N := 2) rfl ?_); (try (refine gate_guard (by rfl) ?_; dsimp only)); refine box_event ?hg (N := 2) ?hd (cs := #[.int .i64 a0_0, .slice A0_1 l0_1.length c0_1]) (t := 29) ?hr ?_; (case hd => rfl); (case hg => rfl); (case hr => first | (go_simp; done) | (go_simp; rfl)); intro gb203 hg w4 hbox hb; have n0_ := Aside0.mk (below_step (by repeat (first | (with_reducible first | exact HB.out | apply below_alloc | apply pw_below_drewN | apply below_drew1) | exact HB.out)) hb); have n1_ := Aside0.mk (hbox); have n2_ := Aside0.mk ((by rw [hg]; exact (below_size (by repeat (first | (with_reducible first | exact HB.out | apply below_alloc | apply pw_below_drewN | apply below_drew1) | exact HB.out))) : w.heap.size ≤ gb203)); have n3_ := Aside0.mk ((by rw [hg]; exact (below_size (by repeat (first | (with_reducible first | exact HB.out | apply below_alloc | apply pw_below_drewN | apply below_drew1) | exact HB.out))) : w.heap.size ≤ gb203)); clear HB; have HB := n0_; have BK203 := n1_; have GW203 := n2_; have GE203 := n3_; clear n0_ n1_ n2_ n3_; clear hb hbox hg) | ((with_reducible refine gate_dst (N := 3) rfl ?_); (try (refine gate_guard (by rfl) ?_; dsimp only)); refine box_event ?hg (N := 3) ?hd (cs := #[.int .i64 a1_0, .slice A1_1 l1_1.length c1_1]) (t := 24) ?hr ?_; (case hd => rfl); (case hg => rfl); (case hr => first | (go_simp; done) | (go_simp; rfl)); intro gb204 hg w5 hbox hb; have n0_ := Aside0.mk (blk_below (g := gb203) (o := .cells #[.int .i64 a0_0, .slice A0_1 l0_1.length c0_1] 29 (0, 0)) (by (with_reducible repeat (first | refine blk_drewN ?_ _ | refine blk_drew ?_ | refine blk_alloc ?_ _)); exact BK203.out) hb); have n1_ := Aside0.mk (below_step (by repeat (first | (with_reducible first | exact HB.out | apply below_alloc | apply pw_below_drewN | apply below_drew1 | refine below_set ?_ GE203.out) | exact HB.out)) hb); have n2_ := Aside0.mk (hbox); have n3_ := Aside0.mk ((by rw [hg]; exact (below_size (by repeat (first | (with_reducible first | exact HB.out | apply below_alloc | apply pw_below_drewN | apply below_drew1 | refine below_set ?_ GE203.out) | exact HB.out))) : w.heap.size ≤ gb204)); have n4_ := Aside0.mk ((by rw [hg]; exact (below_size (by repeat (first | (with_reducible first | exact HB.out | apply below_alloc | apply pw_below_drewN | apply below_drew1 | refine below_set ?_ GE203.out) | exact HB.out))) : w.heap.size ≤ gb204)); have n5_ := Aside0.mk ((by rw [hg]; exact Nat.ne_of_lt (blk_lt (g := gb203) (o := .cells #[.int .i64 a0_0, .slice A0_1 l0_1.length c0_1] 29 (0, 0)) (by (with_reducible repeat (first | refine blk_drewN ?_ _ | refine blk_drew ?_ | refine blk_alloc ?_ _)); exact BK203.out)) : gb203 ≠ gb204)); have n6_ := Aside0.mk ((by rw [hg]; exact Nat.ne_of_gt (blk_lt (g := gb203) (o := .cells #[.int .i64 a0_0, .slice A0_1 l0_1.length c0_1] 29 (0, 0)) (by (with_reducible repeat (first | refine blk_drewN ?_ _ | refine blk_drew ?_ | refine blk_alloc ?_ _)); exact BK203.out)) : gb204 ≠ gb203)); clear BK203; clear HB; have BK203 := n0_; have HB := n1_; have BK204 := n2_; have GW204 := n3_; have GE204 := n4_; have NB203_204 := n5_; have NB204_203 := n6_; clear n0_ n1_ n2_ n3_ n4_ n5_ n6_; clear hb hbox hg))
  repeat (go_quiet (first | ((with_reducible refine gate_dst (N := 2) rfl ?_); (try (refine gate_guard (by rfl) ?_; dsimp only)); refine box_event ?hg (N := 2) ?hd (cs := #[.int .i64 a0_0, .slice A0_1 l0_1.length c0_1]) (t := 29) ?hr ?_; (case hd => rfl); (case hg => rfl); (case hr => first | (go_simp; done) | (go_simp; rfl)); intro gb203 hg w4 hbox hb; have n0_ := Aside0.mk (below_step (by repeat (first | (with_reducible first | exact HB.out | apply below_alloc | apply pw_below_drewN | apply below_drew1) | exact HB.out)) hb); have n1_ := Aside0.mk (hbox); have n2_ := Aside0.mk ((by rw [hg]; exact (below_size (by repeat (first | (with_reducible first | exact HB.out | apply below_alloc | apply pw_below_drewN | apply below_drew1) | exact HB.out))) : w.heap.size ≤ gb203)); have n3_ := Aside0.mk ((by rw [hg]; exact (below_size (by repeat (first | (with_reducible first | exact HB.out | apply below_alloc | apply pw_below_drewN | apply below_drew1) | exact HB.out))) : w.heap.size ≤ gb203)); clear HB; have HB := n0_; have BK203 := n1_; have GW203 := n2_; have GE203 := n3_; clear n0_ n1_ n2_ n3_; clear hb hbox hg) | ((with_reducible refine gate_dst (N := 3) rfl ?_); (try (refine gate_guard (by rfl) ?_; dsimp only)); refine box_event ?hg (N := 3) ?hd (cs := #[.int .i64 a1_0, .slice A1_1 l1_1.length c1_1]) (t := 24) ?hr ?_; (case hd => rfl); (case hg => rfl); (case hr => first | (go_simp; done) | (go_simp; rfl)); intro gb204 hg w5 hbox hb; have n0_ := Aside0.mk (blk_below (g := gb203) (o := .cells #[.int .i64 a0_0, .slice A0_1 l0_1.length c0_1] 29 (0, 0)) (by (with_reducible repeat (first | refine blk_drewN ?_ _ | refine blk_drew ?_ | refine blk_alloc ?_ _)); exact BK203.out) hb); have n1_ := Aside0.mk (below_step (by repeat (first | (with_reducible first | exact HB.out | apply below_alloc | apply pw_below_drewN | apply below_drew1 | refine below_set ?_ GE203.out) | exact HB.out)) hb); have n2_ := Aside0.mk (hbox); have n3_ := Aside0.mk ((by rw [hg]; exact (below_size (by repeat (first | (with_reducible first | exact HB.out | apply below_alloc | apply pw_below_drewN | apply below_drew1 | refine below_set ?_ GE203.out) | exact HB.out))) : w.heap.size ≤ gb204)); have n4_ := Aside0.mk ((by rw [hg]; exact (below_size (by repeat (first | (with_reducible first | exact HB.out | apply below_alloc | apply pw_below_drewN | apply below_drew1 | refine below_set ?_ GE203.out) | exact HB.out))) : w.heap.size ≤ gb204)); have n5_ := Aside0.mk ((by rw [hg]; exact Nat.ne_of_lt (blk_lt (g := gb203) (o := .cells #[.int .i64 a0_0, .slice A0_1 l0_1.length c0_1] 29 (0, 0)) (by (with_reducible repeat (first | refine blk_drewN ?_ _ | refine blk_drew ?_ | refine blk_alloc ?_ _)); exact BK203.out)) : gb203 ≠ gb204)); have n6_ := Aside0.mk ((by rw [hg]; exact Nat.ne_of_gt (blk_lt (g := gb203) (o := .cells #[.int .i64 a0_0, .slice A0_1 l0_1.length c0_1] 29 (0, 0)) (by (with_reducible repeat (first | refine blk_drewN ?_ _ | refine blk_drew ?_ | refine blk_alloc ?_ _)); exact BK203.out)) : gb204 ≠ gb203)); clear BK203; clear HB; have BK203 := n0_; have HB := n1_; have BK204 := n2_; have GW204 := n3_; have GE204 := n4_; have NB203_204 := n5_; have NB204_203 := n6_; clear n0_ n1_ n2_ n3_ n4_ n5_ n6_; clear hb hbox hg)); go_upto_region 1 with (first | ((with_reducible refine gate_dst (N := 2) rfl ?_); (try (refine gate_guard (by rfl) ?_; dsimp only)); refine box_event ?hg (N := 2) ?hd (cs := #[.int .i64 a0_0, .slice A0_1 l0_1.length c0_1]) (t := 29) ?hr ?_; (case hd => rfl); (case hg => rfl); (case hr => first | (go_simp; done) | (go_simp; rfl)); intro gb203 hg w4 hbox hb; have n0_ := Aside0.mk (below_step (by repeat (first | (with_reducible first | exact HB.out | apply below_alloc | apply pw_below_drewN | apply below_drew1) | exact HB.out)) hb); have n1_ := Aside0.mk (hbox); have n2_ := Aside0.mk ((by rw [hg]; exact (below_size (by repeat (first | (with_reducible first | exact HB.out | apply below_alloc | apply pw_below_drewN | apply below_drew1) | exact HB.out))) : w.heap.size ≤ gb203)); have n3_ := Aside0.mk ((by rw [hg]; exact (below_size (by repeat (first | (with_reducible first | exact HB.out | apply below_alloc | apply pw_below_drewN | apply below_drew1) | exact HB.out))) : w.heap.size ≤ gb203)); clear HB; have HB := n0_; have BK203 := n1_; have GW203 := n2_; have GE203 := n3_; clear n0_ n1_ n2_ n3_; clear hb hbox hg) | ((with_reducible refine gate_dst (N := 3) rfl ?_); (try (refine gate_guard (by rfl) ?_; dsimp only)); refine box_event ?hg (N := 3) ?hd (cs := #[.int .i64 a1_0, .slice A1_1 l1_1.length c1_1]) (t := 24) ?hr ?_; (case hd => rfl); (case hg => rfl); (case hr => first | (go_simp; done) | (go_simp; rfl)); intro gb204 hg w5 hbox hb; have n0_ := Aside0.mk (blk_below (g := gb203) (o := .cells #[.int .i64 a0_0, .slice A0_1 l0_1.length c0_1] 29 (0, 0)) (by (with_reducible repeat (first | refine blk_drewN ?_ _ | refine blk_drew ?_ | refine blk_alloc ?_ _)); exact BK203.out) hb); have n1_ := Aside0.mk (below_step (by repeat (first | (with_reducible first | exact HB.out | apply below_alloc | apply pw_below_drewN | apply below_drew1 | refine below_set ?_ GE203.out) | exact HB.out)) hb); have n2_ := Aside0.mk (hbox); have n3_ := Aside0.mk ((by rw [hg]; exact (below_size (by repeat (first | (with_reducible first | exact HB.out | apply below_alloc | apply pw_below_drewN | apply below_drew1 | refine below_set ?_ GE203.out) | exact HB.out))) : w.heap.size ≤ gb204)); have n4_ := Aside0.mk ((by rw [hg]; exact (below_size (by repeat (first | (with_reducible first | exact HB.out | apply below_alloc | apply pw_below_drewN | apply below_drew1 | refine below_set ?_ GE203.out) | exact HB.out))) : w.heap.size ≤ gb204)); have n5_ := Aside0.mk ((by rw [hg]; exact Nat.ne_of_lt (blk_lt (g := gb203) (o := .cells #[.int .i64 a0_0, .slice A0_1 l0_1.length c0_1] 29 (0, 0)) (by (with_reducible repeat (first | refine blk_drewN ?_ _ | refine blk_drew ?_ | refine blk_alloc ?_ _)); exact BK203.out)) : gb203 ≠ gb204)); have n6_ := Aside0.mk ((by rw [hg]; exact Nat.ne_of_gt (blk_lt (g := gb203) (o := .cells #[.int .i64 a0_0, .slice A0_1 l0_1.length c0_1] 29 (0, 0)) (by (with_reducible repeat (first | refine blk_drewN ?_ _ | refine blk_drew ?_ | refine blk_alloc ?_ _)); exact BK203.out)) : gb204 ≠ gb203)); clear BK203; clear HB; have BK203 := n0_; have HB := n1_; have BK204 := n2_; have GW204 := n3_; have GE204 := n4_; have NB203_204 := n5_; have NB204_203 := n6_; clear n0_ n1_ n2_ n3_ n4_ n5_ n6_; clear hb hbox hg)))
  (try simp only [Act.put, List.setIfInBounds_toArray, List.set_cons_zero, List.set_cons_succ])
  go_cut [19] (fun v19 wc => ∃ (kq : Nat) (x19_2 : Bool), v19 = .bool x19_2 ∧ Aside0 (undercroftlaw07_Alike.j0 kq x19_2 a0_0 l0_1 a1_0 l1_1 = some r) ∧ Aside0 (kq ≤ k) ∧ Aside0 (wc.heap[gb203]? = some (.cells #[.int .i64 a0_0, (.slice A0_1 l0_1.length c0_1)] 29 (0, 0))) ∧ Aside0 (wc.heap[gb204]? = some (.cells #[.int .i64 a1_0, (.slice A1_1 l1_1.length c1_1)] 24 (0, 0))) ∧ Aside0 (Below w.heap.size w wc))
  case first =>
    have H := HC3.out
    clear HC3
    by_cases c6 : a0_0 = a1_0
    · rw [if_pos c6] at H
      have c6b0 : (a0_0 == a1_0) = true := beq_iff_eq.mpr c6
      have c6b1 : (a0_0 != a1_0) = false := bne_eq_false_iff_eq.mpr c6
      clear c6
      (first | rw [c6b0] | (simp only [i64_w, i32_w]; rw [c6b0]) | skip)
      have H' := Aside0.mk H
      clear H
      have hnb7 := NB203_204.out
      have hnc7 := NB204_203.out
      have hcz8_0 : w5.cell? ⟨gb203, 0, none⟩ = some (.int .i64 a0_0) := (blk_cell BK203.out 0).trans rfl
      have hcz8_1 : w5.cell? ⟨gb203, 1, none⟩ = some (.slice A0_1 l0_1.length c0_1) := (blk_cell BK203.out 1).trans rfl
      have hfz8_0 := blk_frozen BK203.out 0
      have hfz8_1 := blk_frozen BK203.out 1
      have hcz9_0 : w5.cell? ⟨gb204, 0, none⟩ = some (.int .i64 a1_0) := (blk_cell BK204.out 0).trans rfl
      have hcz9_1 : w5.cell? ⟨gb204, 1, none⟩ = some (.slice A1_1 l1_1.length c1_1) := (blk_cell BK204.out 1).trans rfl
      have hfz9_0 := blk_frozen BK204.out 0
      have hfz9_1 := blk_frozen BK204.out 1
      go_wp2
      repeat (go_quiet (fail); try go_wp2)
      go_meet
      case rel => exact ⟨_, (((l0_1.length : Int) != (l1_1.length : Int))), (by first | rfl | (simp; done) | (simp [*]; done)), H', ⟨by first | omega | exact Nat.le_refl _⟩, ⟨by (with_reducible repeat (first | refine blk_drewN ?_ _ | refine blk_drew ?_ | refine blk_alloc ?_ _)); exact BK203.out⟩, ⟨by (with_reducible repeat (first | refine blk_drewN ?_ _ | refine blk_drew ?_ | refine blk_alloc ?_ _)); exact BK204.out⟩, ⟨by repeat (first | (with_reducible first | exact HB.out | apply below_alloc | apply pw_below_drewN | apply below_drew1 | refine below_set ?_ GE203.out | refine below_set ?_ GE204.out) | exact HB.out)⟩⟩
    · rw [if_neg c6] at H
      have c6b0 : (a0_0 == a1_0) = false := beq_eq_false_iff_ne.mpr c6
      have c6b1 : (a0_0 != a1_0) = true := bne_iff_ne.mpr c6
      (first | rw [c6b0] | (simp only [i64_w, i32_w]; rw [c6b0]) | skip)
      have H' := Aside0.mk H
      clear H
      have hnb10 := NB203_204.out
      have hnc10 := NB204_203.out
      have hcz11_0 : w5.cell? ⟨gb203, 0, none⟩ = some (.int .i64 a0_0) := (blk_cell BK203.out 0).trans rfl
      have hcz11_1 : w5.cell? ⟨gb203, 1, none⟩ = some (.slice A0_1 l0_1.length c0_1) := (blk_cell BK203.out 1).trans rfl
      have hfz11_0 := blk_frozen BK203.out 0
      have hfz11_1 := blk_frozen BK203.out 1
      have hcz12_0 : w5.cell? ⟨gb204, 0, none⟩ = some (.int .i64 a1_0) := (blk_cell BK204.out 0).trans rfl
      have hcz12_1 : w5.cell? ⟨gb204, 1, none⟩ = some (.slice A1_1 l1_1.length c1_1) := (blk_cell BK204.out 1).trans rfl
      have hfz12_0 := blk_frozen BK204.out 0
      have hfz12_1 := blk_frozen BK204.out 1
      go_wp2
      repeat (go_quiet (fail); try go_wp2)
      go_meet
      case rel => exact ⟨_, (true), (by first | rfl | (simp; done) | (simp [*]; done)), H', ⟨by first | omega | exact Nat.le_refl _⟩, ⟨by (with_reducible repeat (first | refine blk_drewN ?_ _ | refine blk_drew ?_ | refine blk_alloc ?_ _)); exact BK203.out⟩, ⟨by (with_reducible repeat (first | refine blk_drewN ?_ _ | refine blk_drew ?_ | refine blk_alloc ?_ _)); exact BK204.out⟩, ⟨by repeat (first | (with_reducible first | exact HB.out | apply below_alloc | apply pw_below_drewN | apply below_drew1 | refine below_set ?_ GE203.out | refine below_set ?_ GE204.out) | exact HB.out)⟩⟩
  case rest =>
    clear HC3
    try clear c1
    try clear p2
    try clear c6
    try clear c6b0
    try clear c6b1
    try clear c7
    try clear c10
    try clear hcz11_0
    try clear hcz11_1
    try clear hcz12_0
    try clear hcz12_1
    try clear hcz8_0
    try clear hcz8_1
    try clear hcz9_0
    try clear hcz9_1
    try clear hfz11_0
    try clear hfz11_1
    try clear hfz12_0
    try clear hfz12_1
    try clear hfz8_0
    try clear hfz8_1
    try clear hfz9_0
    try clear hfz9_1
    obtain ⟨kq, x19_2, rfl, HA, HJ2, BK203, BK204, HB⟩ := hcut
    cases kq with
    | zero => exact absurd HA.out (by simp [undercroftlaw07_Alike.j0])
    | succ kj2 =>
      have H := HA.out
      clear HA
      simp only [undercroftlaw07_Alike.j0] at H
      by_cases c13 : x19_2 = true
      · subst c13
        have H1 : (some 1) = some r := by rw [if_pos rfl] at H; exact H
        clear H
        have H := H1
        clear H1
        obtain rfl := Option.some.inj H
        go_wp2
        repeat (go_quiet (fail); try go_wp2)
        go_ret
        exact ⟨by first | rfl | (simp [errW_none, errW_some] <;> rfl) | (simp [*, errW_none, errW_some] <;> rfl) | (exfalso; simp only [beq_iff_eq, decide_eq_true_eq] at *; omega), by repeat (first | (with_reducible first | exact HB.out | apply below_alloc | apply pw_below_drewN | apply below_drew1 | refine below_set ?_ GE203.out | refine below_set ?_ GE204.out) | exact HB.out)⟩
      · replace c13 := Bool.eq_false_iff.mpr c13
        subst c13
        have H1 : (undercroftlaw07_Alike.l0 kj2 0 a0_0 l0_1 a1_0 l1_1) = some r := by rw [if_neg (show ¬ (false = true) by decide)] at H; exact H
        clear H
        have H := H1
        clear H1
        have H' := Aside0.mk H
        clear H
        go_wp2
        repeat (go_quiet (fail); try go_wp2)
        go_loopg [5] kj2 (fun kq v5 w' => ∃ (x5_2 : Int), v5 = .int .i64 x5_2 ∧ Aside0 (undercroftlaw07_Alike.l0 kq x5_2 a0_0 l0_1 a1_0 l1_1 = some r) ∧ Aside0 (kq ≤ kj2) ∧ Aside0 (w'.heap[gb203]? = some (.cells #[.int .i64 a0_0, (.slice A0_1 l0_1.length c0_1)] 29 (0, 0))) ∧ Aside0 (w'.heap[gb204]? = some (.cells #[.int .i64 a1_0, (.slice A1_1 l1_1.length c1_1)] 24 (0, 0))) ∧ Aside0 (Below w.heap.size w w'))
        case atStart => exact ⟨(0), (by first | rfl | (simp; done) | (simp [*]; done)), H', ⟨Nat.le_refl _⟩, ⟨by (with_reducible repeat (first | refine blk_drewN ?_ _ | refine blk_drew ?_ | refine blk_alloc ?_ _)); exact BK203.out⟩, ⟨by (with_reducible repeat (first | refine blk_drewN ?_ _ | refine blk_drew ?_ | refine blk_alloc ?_ _)); exact BK204.out⟩, ⟨by repeat (first | (with_reducible first | exact HB.out | apply below_alloc | apply pw_below_drewN | apply below_drew1 | refine below_set ?_ GE203.out | refine below_set ?_ GE204.out) | exact HB.out)⟩⟩
        case round =>
          clear H'
          try clear c1
          try clear p2
          try clear c6
          try clear c6b0
          try clear c6b1
          try clear c7
          try clear c10
          try clear c13
          try clear hcz11_0
          try clear hcz11_1
          try clear hcz12_0
          try clear hcz12_1
          try clear hcz8_0
          try clear hcz8_1
          try clear hcz9_0
          try clear hcz9_1
          try clear hfz11_0
          try clear hfz11_1
          try clear hfz12_0
          try clear hfz12_1
          try clear hfz8_0
          try clear hfz8_1
          try clear hfz9_0
          try clear hfz9_1
          try clear p2
          obtain ⟨x5_2, rfl, HA, HK2, BK203, BK204, HB⟩ := hrel
          cases gk with
          | zero => exact absurd HA.out (by simp [undercroftlaw07_Alike.l0])
          | succ k2 =>
            have H := HA.out
            clear HA
            simp only [undercroftlaw07_Alike.l0] at H
            by_cases c14 : x5_2 < (l0_1.length : Int)
            · rw [if_pos c14] at H
              have c14b0 : decide (x5_2 < (l0_1.length : Int)) = true := decide_eq_true c14
              clear c14
              by_cases c15 : 0 ≤ x5_2
              · rw [if_pos c15] at H
                have c15b0 : decide (0 ≤ x5_2) = true := decide_eq_true c15
                clear c15
                by_cases c16 : x5_2 < (l1_1.length : Int)
                · rw [if_pos c16] at H
                  have c16b0 : decide (x5_2 < (l1_1.length : Int)) = true := decide_eq_true c16
                  clear c16
                  by_cases c17 : ((rd_T39 l0_1 x5_2).f0) = ((rd_T57 l1_1 x5_2).f0)
                  · rw [if_pos c17] at H
                    have c17b0 : (((rd_T39 l0_1 x5_2).f0) == ((rd_T57 l1_1 x5_2).f0)) = true := beq_iff_eq.mpr c17
                    have c17b1 : (((rd_T39 l0_1 x5_2).f0) != ((rd_T57 l1_1 x5_2).f0)) = false := bne_eq_false_iff_eq.mpr c17
                    clear c17
                    replace H := Option.bind_eq_some_iff.mp H
                    obtain ⟨t209, A180, H⟩ := H
                    replace H : (if t209 = true then (undercroftlaw07_Alike.l0 k2 (wrap64 (x5_2 + 1)) a0_0 l0_1 a1_0 l1_1) else (some 1)) = some r := H
                    have A18 := Aside0.mk A180
                    clear A180
                    by_cases c19 : t209 = true
                    · subst c19
                      have H1 : (undercroftlaw07_Alike.l0 k2 (wrap64 (x5_2 + 1)) a0_0 l0_1 a1_0 l1_1) = some r := by rw [if_pos rfl] at H; exact H
                      clear H
                      have H := H1
                      clear H1
                      have H' := Aside0.mk H
                      clear H
                      have hnb20 := NB203_204.out
                      have hnc20 := NB204_203.out
                      have hcz21_0 : wr.cell? ⟨gb203, 0, none⟩ = some (.int .i64 a0_0) := (blk_cell BK203.out 0).trans rfl
                      have hcz21_1 : wr.cell? ⟨gb203, 1, none⟩ = some (.slice A0_1 l0_1.length c0_1) := (blk_cell BK203.out 1).trans rfl
                      have hfz21_0 := blk_frozen BK203.out 0
                      have hfz21_1 := blk_frozen BK203.out 1
                      have p205 : 0 ≤ (x5_2 : Int) := of_decide_eq_true (by first | (with_reducible assumption) | assumption)
                      have q205 : x5_2 < (l0_1.length : Int) := of_decide_eq_true (by first | (with_reducible assumption) | assumption)
                      obtain ⟨ad205, A205_1, c205_1, e205, hx205_0, hx205_1, hl205_1, hi205_1⟩ := at_T39 HR0_1.out x5_2 p205 q205
                      cases e205
                      replace hx205_0 := (HB.out.cell (World.block_lt_of_cell? w _ hx205_0)).trans hx205_0
                      replace hx205_1 := (HB.out.cell (World.block_lt_of_cell? w _ hx205_1)).trans hx205_1
                      have HR205_1 := Aside0.mk hi205_1
                      have HC205_1 := Aside0.mk hl205_1
                      clear hi205_1 hl205_1
                      replace p205 := eq_true p205
                      replace q205 := eq_true q205
                      have hcz22_0 : wr.cell? ⟨gb204, 0, none⟩ = some (.int .i64 a1_0) := (blk_cell BK204.out 0).trans rfl
                      have hcz22_1 : wr.cell? ⟨gb204, 1, none⟩ = some (.slice A1_1 l1_1.length c1_1) := (blk_cell BK204.out 1).trans rfl
                      have hfz22_0 := blk_frozen BK204.out 0
                      have hfz22_1 := blk_frozen BK204.out 1
                      have p206 : 0 ≤ (x5_2 : Int) := of_decide_eq_true (by first | (with_reducible assumption) | assumption)
                      have q206 : x5_2 < (l1_1.length : Int) := of_decide_eq_true (by first | (with_reducible assumption) | assumption)
                      obtain ⟨ad206, A206_1, c206_1, e206, hx206_0, hx206_1, hl206_1, hi206_1⟩ := at_T57 HR1_1.out x5_2 p206 q206
                      cases e206
                      replace hx206_0 := (HB.out.cell (World.block_lt_of_cell? w _ hx206_0)).trans hx206_0
                      replace hx206_1 := (HB.out.cell (World.block_lt_of_cell? w _ hx206_1)).trans hx206_1
                      have HR206_1 := Aside0.mk hi206_1
                      have HC206_1 := Aside0.mk hl206_1
                      clear hi206_1 hl206_1
                      replace p206 := eq_true p206
                      replace q206 := eq_true q206
                      have p207 : 0 ≤ (x5_2 : Int) := of_decide_eq_true (by first | (with_reducible assumption) | assumption)
                      have q207 : x5_2 < (l0_1.length : Int) := of_decide_eq_true (by first | (with_reducible assumption) | assumption)
                      obtain ⟨ad207, A207_1, c207_1, e207, hx207_0, hx207_1, hl207_1, hi207_1⟩ := at_T39 HR0_1.out x5_2 p207 q207
                      obtain rfl : ad205 = ad207 := (by injection e207)
                      replace hx207_0 := (HB.out.cell (World.block_lt_of_cell? w _ hx207_0)).trans hx207_0
                      replace hx207_1 := (HB.out.cell (World.block_lt_of_cell? w _ hx207_1)).trans hx207_1
                      have HR207_1 := Aside0.mk hi207_1
                      have HC207_1 := Aside0.mk hl207_1
                      clear hi207_1 hl207_1
                      replace p207 := eq_true p207
                      replace q207 := eq_true q207
                      have ea_ := Option.some.inj (hx205_1.symm.trans hx207_1)
                      injection ea_ with ea_ en_ ec_
                      subst ea_
                      subst ec_
                      clear en_
                      have p208 : 0 ≤ (x5_2 : Int) := of_decide_eq_true (by first | (with_reducible assumption) | assumption)
                      have q208 : x5_2 < (l1_1.length : Int) := of_decide_eq_true (by first | (with_reducible assumption) | assumption)
                      obtain ⟨ad208, A208_1, c208_1, e208, hx208_0, hx208_1, hl208_1, hi208_1⟩ := at_T57 HR1_1.out x5_2 p208 q208
                      obtain rfl : ad206 = ad208 := (by injection e208)
                      replace hx208_0 := (HB.out.cell (World.block_lt_of_cell? w _ hx208_0)).trans hx208_0
                      replace hx208_1 := (HB.out.cell (World.block_lt_of_cell? w _ hx208_1)).trans hx208_1
                      have HR208_1 := Aside0.mk hi208_1
                      have HC208_1 := Aside0.mk hl208_1
                      clear hi208_1 hl208_1
                      replace p208 := eq_true p208
                      replace q208 := eq_true q208
                      have ea_ := Option.some.inj (hx206_1.symm.trans hx208_1)
                      injection ea_ with ea_ en_ ec_
                      subst ea_
                      subst ec_
                      clear en_
                      go_wp2_with (first | (go_at_call 19; (with_reducible refine (undercroftplain_SameBytes.calls k2 _ _ ((rd_T39 l0_1 x5_2).f1) _ _ ((rd_T57 l1_1 x5_2).f1) true _ ?side1 ?side2 ?side3 ?side4 A18.out).mono ?_); (case side1 => repeat (first | exact (Kd.C_below HR207_1.out HB.out) | (with_reducible refine Kd.C_alloc ?_ _) | (with_reducible refine Kd.C_drewN ?_ _) | (with_reducible refine Kd.C_drew ?_))); (case side2 => exact HC207_1.out); (case side3 => repeat (first | exact (Kd.C_below HR208_1.out HB.out) | (with_reducible refine Kd.C_alloc ?_ _) | (with_reducible refine Kd.C_drewN ?_ _) | (with_reducible refine Kd.C_drew ?_))); (case side4 => exact HC208_1.out); rintro e w' ⟨rfl, ⟨nd, rfl⟩⟩; (try first | exact ⟨rfl, _, World.drewN_drewN _ _ _⟩ | exact ⟨rfl, _, Eq.trans (World.drewN_drewN _ _ _) (congrArg (World.drewN _) (Nat.add_assoc _ _ _))⟩)))
                      repeat (go_quiet (first | (go_at_call 19; (with_reducible refine (undercroftplain_SameBytes.calls k2 _ _ ((rd_T39 l0_1 x5_2).f1) _ _ ((rd_T57 l1_1 x5_2).f1) true _ ?side1 ?side2 ?side3 ?side4 A18.out).mono ?_); (case side1 => repeat (first | exact (Kd.C_below HR207_1.out HB.out) | (with_reducible refine Kd.C_alloc ?_ _) | (with_reducible refine Kd.C_drewN ?_ _) | (with_reducible refine Kd.C_drew ?_))); (case side2 => exact HC207_1.out); (case side3 => repeat (first | exact (Kd.C_below HR208_1.out HB.out) | (with_reducible refine Kd.C_alloc ?_ _) | (with_reducible refine Kd.C_drewN ?_ _) | (with_reducible refine Kd.C_drew ?_))); (case side4 => exact HC208_1.out); rintro e w' ⟨rfl, ⟨nd, rfl⟩⟩; (try first | exact ⟨rfl, _, World.drewN_drewN _ _ _⟩ | exact ⟨rfl, _, Eq.trans (World.drewN_drewN _ _ _) (congrArg (World.drewN _) (Nat.add_assoc _ _ _))⟩))); try go_wp2_with (first | (go_at_call 19; (with_reducible refine (undercroftplain_SameBytes.calls k2 _ _ ((rd_T39 l0_1 x5_2).f1) _ _ ((rd_T57 l1_1 x5_2).f1) true _ ?side1 ?side2 ?side3 ?side4 A18.out).mono ?_); (case side1 => repeat (first | exact (Kd.C_below HR207_1.out HB.out) | (with_reducible refine Kd.C_alloc ?_ _) | (with_reducible refine Kd.C_drewN ?_ _) | (with_reducible refine Kd.C_drew ?_))); (case side2 => exact HC207_1.out); (case side3 => repeat (first | exact (Kd.C_below HR208_1.out HB.out) | (with_reducible refine Kd.C_alloc ?_ _) | (with_reducible refine Kd.C_drewN ?_ _) | (with_reducible refine Kd.C_drew ?_))); (case side4 => exact HC208_1.out); rintro e w' ⟨rfl, ⟨nd, rfl⟩⟩; (try first | exact ⟨rfl, _, World.drewN_drewN _ _ _⟩ | exact ⟨rfl, _, Eq.trans (World.drewN_drewN _ _ _) (congrArg (World.drewN _) (Nat.add_assoc _ _ _))⟩))))
                      go_roundg k2
                      case measure => have := HJ2.out; have := HK2.out; omega
                      case rel => exact ⟨(wrap64 (x5_2 + 1)), (by first | rfl | (simp; done) | (simp [*]; done)), H', ⟨by have := HJ2.out; have := HK2.out; omega⟩, ⟨by (with_reducible repeat (first | refine blk_drewN ?_ _ | refine blk_drew ?_ | refine blk_alloc ?_ _)); exact BK203.out⟩, ⟨by (with_reducible repeat (first | refine blk_drewN ?_ _ | refine blk_drew ?_ | refine blk_alloc ?_ _)); exact BK204.out⟩, ⟨by repeat (first | (with_reducible first | exact HB.out | apply below_alloc | apply pw_below_drewN | apply below_drew1 | refine below_set ?_ GE203.out | refine below_set ?_ GE204.out) | exact HB.out)⟩⟩
                    · replace c19 := Bool.eq_false_iff.mpr c19
                      subst c19
                      have H1 : (some 1) = some r := by rw [if_neg (show ¬ (false = true) by decide)] at H; exact H
                      clear H
                      have H := H1
                      clear H1
                      obtain rfl := Option.some.inj H
                      have hnb23 := NB203_204.out
                      have hnc23 := NB204_203.out
                      have hcz24_0 : wr.cell? ⟨gb203, 0, none⟩ = some (.int .i64 a0_0) := (blk_cell BK203.out 0).trans rfl
                      have hcz24_1 : wr.cell? ⟨gb203, 1, none⟩ = some (.slice A0_1 l0_1.length c0_1) := (blk_cell BK203.out 1).trans rfl
                      have hfz24_0 := blk_frozen BK203.out 0
                      have hfz24_1 := blk_frozen BK203.out 1
                      have p205 : 0 ≤ (x5_2 : Int) := of_decide_eq_true (by first | (with_reducible assumption) | assumption)
                      have q205 : x5_2 < (l0_1.length : Int) := of_decide_eq_true (by first | (with_reducible assumption) | assumption)
                      obtain ⟨ad205, A205_1, c205_1, e205, hx205_0, hx205_1, hl205_1, hi205_1⟩ := at_T39 HR0_1.out x5_2 p205 q205
                      cases e205
                      replace hx205_0 := (HB.out.cell (World.block_lt_of_cell? w _ hx205_0)).trans hx205_0
                      replace hx205_1 := (HB.out.cell (World.block_lt_of_cell? w _ hx205_1)).trans hx205_1
                      have HR205_1 := Aside0.mk hi205_1
                      have HC205_1 := Aside0.mk hl205_1
                      clear hi205_1 hl205_1
                      replace p205 := eq_true p205
                      replace q205 := eq_true q205
                      have hcz25_0 : wr.cell? ⟨gb204, 0, none⟩ = some (.int .i64 a1_0) := (blk_cell BK204.out 0).trans rfl
                      have hcz25_1 : wr.cell? ⟨gb204, 1, none⟩ = some (.slice A1_1 l1_1.length c1_1) := (blk_cell BK204.out 1).trans rfl
                      have hfz25_0 := blk_frozen BK204.out 0
                      have hfz25_1 := blk_frozen BK204.out 1
                      have p206 : 0 ≤ (x5_2 : Int) := of_decide_eq_true (by first | (with_reducible assumption) | assumption)
                      have q206 : x5_2 < (l1_1.length : Int) := of_decide_eq_true (by first | (with_reducible assumption) | assumption)
                      obtain ⟨ad206, A206_1, c206_1, e206, hx206_0, hx206_1, hl206_1, hi206_1⟩ := at_T57 HR1_1.out x5_2 p206 q206
                      cases e206
                      replace hx206_0 := (HB.out.cell (World.block_lt_of_cell? w _ hx206_0)).trans hx206_0
                      replace hx206_1 := (HB.out.cell (World.block_lt_of_cell? w _ hx206_1)).trans hx206_1
                      have HR206_1 := Aside0.mk hi206_1
                      have HC206_1 := Aside0.mk hl206_1
                      clear hi206_1 hl206_1
                      replace p206 := eq_true p206
                      replace q206 := eq_true q206
                      have p207 : 0 ≤ (x5_2 : Int) := of_decide_eq_true (by first | (with_reducible assumption) | assumption)
                      have q207 : x5_2 < (l0_1.length : Int) := of_decide_eq_true (by first | (with_reducible assumption) | assumption)
                      obtain ⟨ad207, A207_1, c207_1, e207, hx207_0, hx207_1, hl207_1, hi207_1⟩ := at_T39 HR0_1.out x5_2 p207 q207
                      obtain rfl : ad205 = ad207 := (by injection e207)
                      replace hx207_0 := (HB.out.cell (World.block_lt_of_cell? w _ hx207_0)).trans hx207_0
                      replace hx207_1 := (HB.out.cell (World.block_lt_of_cell? w _ hx207_1)).trans hx207_1
                      have HR207_1 := Aside0.mk hi207_1
                      have HC207_1 := Aside0.mk hl207_1
                      clear hi207_1 hl207_1
                      replace p207 := eq_true p207
                      replace q207 := eq_true q207
                      have ea_ := Option.some.inj (hx205_1.symm.trans hx207_1)
                      injection ea_ with ea_ en_ ec_
                      subst ea_
                      subst ec_
                      clear en_
                      have p208 : 0 ≤ (x5_2 : Int) := of_decide_eq_true (by first | (with_reducible assumption) | assumption)
                      have q208 : x5_2 < (l1_1.length : Int) := of_decide_eq_true (by first | (with_reducible assumption) | assumption)
                      obtain ⟨ad208, A208_1, c208_1, e208, hx208_0, hx208_1, hl208_1, hi208_1⟩ := at_T57 HR1_1.out x5_2 p208 q208
                      obtain rfl : ad206 = ad208 := (by injection e208)
                      replace hx208_0 := (HB.out.cell (World.block_lt_of_cell? w _ hx208_0)).trans hx208_0
                      replace hx208_1 := (HB.out.cell (World.block_lt_of_cell? w _ hx208_1)).trans hx208_1
                      have HR208_1 := Aside0.mk hi208_1
                      have HC208_1 := Aside0.mk hl208_1
                      clear hi208_1 hl208_1
                      replace p208 := eq_true p208
                      replace q208 := eq_true q208
                      have ea_ := Option.some.inj (hx206_1.symm.trans hx208_1)
                      injection ea_ with ea_ en_ ec_
                      subst ea_
                      subst ec_
                      clear en_
                      go_wp2_with (first | (go_at_call 19; (with_reducible refine (undercroftplain_SameBytes.calls k2 _ _ ((rd_T39 l0_1 x5_2).f1) _ _ ((rd_T57 l1_1 x5_2).f1) false _ ?side1 ?side2 ?side3 ?side4 A18.out).mono ?_); (case side1 => repeat (first | exact (Kd.C_below HR207_1.out HB.out) | (with_reducible refine Kd.C_alloc ?_ _) | (with_reducible refine Kd.C_drewN ?_ _) | (with_reducible refine Kd.C_drew ?_))); (case side2 => exact HC207_1.out); (case side3 => repeat (first | exact (Kd.C_below HR208_1.out HB.out) | (with_reducible refine Kd.C_alloc ?_ _) | (with_reducible refine Kd.C_drewN ?_ _) | (with_reducible refine Kd.C_drew ?_))); (case side4 => exact HC208_1.out); rintro e w' ⟨rfl, ⟨nd, rfl⟩⟩; (try first | exact ⟨rfl, _, World.drewN_drewN _ _ _⟩ | exact ⟨rfl, _, Eq.trans (World.drewN_drewN _ _ _) (congrArg (World.drewN _) (Nat.add_assoc _ _ _))⟩)))
                      repeat (go_quiet (first | (go_at_call 19; (with_reducible refine (undercroftplain_SameBytes.calls k2 _ _ ((rd_T39 l0_1 x5_2).f1) _ _ ((rd_T57 l1_1 x5_2).f1) false _ ?side1 ?side2 ?side3 ?side4 A18.out).mono ?_); (case side1 => repeat (first | exact (Kd.C_below HR207_1.out HB.out) | (with_reducible refine Kd.C_alloc ?_ _) | (with_reducible refine Kd.C_drewN ?_ _) | (with_reducible refine Kd.C_drew ?_))); (case side2 => exact HC207_1.out); (case side3 => repeat (first | exact (Kd.C_below HR208_1.out HB.out) | (with_reducible refine Kd.C_alloc ?_ _) | (with_reducible refine Kd.C_drewN ?_ _) | (with_reducible refine Kd.C_drew ?_))); (case side4 => exact HC208_1.out); rintro e w' ⟨rfl, ⟨nd, rfl⟩⟩; (try first | exact ⟨rfl, _, World.drewN_drewN _ _ _⟩ | exact ⟨rfl, _, Eq.trans (World.drewN_drewN _ _ _) (congrArg (World.drewN _) (Nat.add_assoc _ _ _))⟩))); try go_wp2_with (first | (go_at_call 19; (with_reducible refine (undercroftplain_SameBytes.calls k2 _ _ ((rd_T39 l0_1 x5_2).f1) _ _ ((rd_T57 l1_1 x5_2).f1) false _ ?side1 ?side2 ?side3 ?side4 A18.out).mono ?_); (case side1 => repeat (first | exact (Kd.C_below HR207_1.out HB.out) | (with_reducible refine Kd.C_alloc ?_ _) | (with_reducible refine Kd.C_drewN ?_ _) | (with_reducible refine Kd.C_drew ?_))); (case side2 => exact HC207_1.out); (case side3 => repeat (first | exact (Kd.C_below HR208_1.out HB.out) | (with_reducible refine Kd.C_alloc ?_ _) | (with_reducible refine Kd.C_drewN ?_ _) | (with_reducible refine Kd.C_drew ?_))); (case side4 => exact HC208_1.out); rintro e w' ⟨rfl, ⟨nd, rfl⟩⟩; (try first | exact ⟨rfl, _, World.drewN_drewN _ _ _⟩ | exact ⟨rfl, _, Eq.trans (World.drewN_drewN _ _ _) (congrArg (World.drewN _) (Nat.add_assoc _ _ _))⟩))))
                      go_ret
                      exact ⟨by first | rfl | (simp [errW_none, errW_some] <;> rfl) | (simp [*, errW_none, errW_some] <;> rfl) | (exfalso; simp only [beq_iff_eq, decide_eq_true_eq] at *; omega), by repeat (first | (with_reducible first | exact HB.out | apply below_alloc | apply pw_below_drewN | apply below_drew1 | refine below_set ?_ GE203.out | refine below_set ?_ GE204.out) | exact HB.out)⟩
                  · rw [if_neg c17] at H
                    have c17b0 : (((rd_T39 l0_1 x5_2).f0) == ((rd_T57 l1_1 x5_2).f0)) = false := beq_eq_false_iff_ne.mpr c17
                    have c17b1 : (((rd_T39 l0_1 x5_2).f0) != ((rd_T57 l1_1 x5_2).f0)) = true := bne_iff_ne.mpr c17
                    obtain rfl := Option.some.inj H
                    have hnb26 := NB203_204.out
                    have hnc26 := NB204_203.out
                    have hcz27_0 : wr.cell? ⟨gb203, 0, none⟩ = some (.int .i64 a0_0) := (blk_cell BK203.out 0).trans rfl
                    have hcz27_1 : wr.cell? ⟨gb203, 1, none⟩ = some (.slice A0_1 l0_1.length c0_1) := (blk_cell BK203.out 1).trans rfl
                    have hfz27_0 := blk_frozen BK203.out 0
                    have hfz27_1 := blk_frozen BK203.out 1
                    have p205 : 0 ≤ (x5_2 : Int) := of_decide_eq_true (by first | (with_reducible assumption) | assumption)
                    have q205 : x5_2 < (l0_1.length : Int) := of_decide_eq_true (by first | (with_reducible assumption) | assumption)
                    obtain ⟨ad205, A205_1, c205_1, e205, hx205_0, hx205_1, hl205_1, hi205_1⟩ := at_T39 HR0_1.out x5_2 p205 q205
                    cases e205
                    replace hx205_0 := (HB.out.cell (World.block_lt_of_cell? w _ hx205_0)).trans hx205_0
                    replace hx205_1 := (HB.out.cell (World.block_lt_of_cell? w _ hx205_1)).trans hx205_1
                    have HR205_1 := Aside0.mk hi205_1
                    have HC205_1 := Aside0.mk hl205_1
                    clear hi205_1 hl205_1
                    replace p205 := eq_true p205
                    replace q205 := eq_true q205
                    have hcz28_0 : wr.cell? ⟨gb204, 0, none⟩ = some (.int .i64 a1_0) := (blk_cell BK204.out 0).trans rfl
                    have hcz28_1 : wr.cell? ⟨gb204, 1, none⟩ = some (.slice A1_1 l1_1.length c1_1) := (blk_cell BK204.out 1).trans rfl
                    have hfz28_0 := blk_frozen BK204.out 0
                    have hfz28_1 := blk_frozen BK204.out 1
                    have p206 : 0 ≤ (x5_2 : Int) := of_decide_eq_true (by first | (with_reducible assumption) | assumption)
                    have q206 : x5_2 < (l1_1.length : Int) := of_decide_eq_true (by first | (with_reducible assumption) | assumption)
                    obtain ⟨ad206, A206_1, c206_1, e206, hx206_0, hx206_1, hl206_1, hi206_1⟩ := at_T57 HR1_1.out x5_2 p206 q206
                    cases e206
                    replace hx206_0 := (HB.out.cell (World.block_lt_of_cell? w _ hx206_0)).trans hx206_0
                    replace hx206_1 := (HB.out.cell (World.block_lt_of_cell? w _ hx206_1)).trans hx206_1
                    have HR206_1 := Aside0.mk hi206_1
                    have HC206_1 := Aside0.mk hl206_1
                    clear hi206_1 hl206_1
                    replace p206 := eq_true p206
                    replace q206 := eq_true q206
                    go_wp2
                    repeat (go_quiet (fail); try go_wp2)
                    go_ret
                    exact ⟨by first | rfl | (simp [errW_none, errW_some] <;> rfl) | (simp [*, errW_none, errW_some] <;> rfl) | (exfalso; simp only [beq_iff_eq, decide_eq_true_eq] at *; omega), by repeat (first | (with_reducible first | exact HB.out | apply below_alloc | apply pw_below_drewN | apply below_drew1 | refine below_set ?_ GE203.out | refine below_set ?_ GE204.out) | exact HB.out)⟩
                · rw [if_neg c16] at H
                  exact absurd H (by simp)
              · rw [if_neg c15] at H
                exact absurd H (by simp)
            · rw [if_neg c14] at H
              have c14b0 : decide (x5_2 < (l0_1.length : Int)) = false := decide_eq_false c14
              clear c14
              obtain rfl := Option.some.inj H
              have hnb29 := NB203_204.out
              have hnc29 := NB204_203.out
              have hcz30_0 : wr.cell? ⟨gb203, 0, none⟩ = some (.int .i64 a0_0) := (blk_cell BK203.out 0).trans rfl
              have hcz30_1 : wr.cell? ⟨gb203, 1, none⟩ = some (.slice A0_1 l0_1.length c0_1) := (blk_cell BK203.out 1).trans rfl
              have hfz30_0 := blk_frozen BK203.out 0
              have hfz30_1 := blk_frozen BK203.out 1
              go_wp2
              repeat (go_quiet (fail); try go_wp2)
              go_ret
              exact ⟨by first | rfl | (simp [errW_none, errW_some] <;> rfl) | (simp [*, errW_none, errW_some] <;> rfl) | (exfalso; simp only [beq_iff_eq, decide_eq_true_eq] at *; omega), by repeat (first | (with_reducible first | exact HB.out | apply below_alloc | apply pw_below_drewN | apply below_drew1 | refine below_set ?_ GE203.out | refine below_set ?_ GE204.out) | exact HB.out)⟩

/-! ### undercroftlaw07_FileOwn: function 3 -/
theorem own_gap {W : World} {base g n cap i : Nat} {okw : Nat → Prop} {xs : List S39} (h : Kd.S k39 39 W base okw (.slice (some ⟨g, 0, none⟩) n cap) xs) (hi : i < xs.length) :
    ∃ (oki : Nat → Prop) (v1 : Value), W.cell? ⟨g, i * 2, none⟩ = some (.int .i64 xs[i].f0) ∧ W.cell? ⟨g, i * 2 + 1, none⟩ = some v1 ∧ (∀ k, oki k → okw k ∧ k ≠ g) ∧ (Kd.int .u8).R 5 W base oki v1 xs[i].f1 ∧ Kd.H k39 39 W base okw (.slice (some ⟨g, 0, none⟩) n cap) xs (i : Int) oki [.int .i64 xs[i].f0, v1] := by
  have hn : n = xs.length := (Kd.S_reads' h).1
  obtain ⟨oki, c, hcl, hM, hcc, hfr, hoki, hH⟩ := Kd.S_elem h z39 (i : Int) (by omega) (by omega)
  rw [Int.toNat_natCast] at hM hcc hfr
  have e : xs.getD i z39 = xs[i] := by rw [List.getD_eq_getElem?_getD, List.getElem?_eq_getElem hi]; rfl
  rw [e] at hM
  obtain ⟨v1, rfl, hR⟩ := k39_openM hM
  exact ⟨oki, v1, hcc 0 _ rfl, hcc 1 _ rfl, hoki, hR, hH⟩
/-- Behind a block's spoiling. -/
theorem own_back {W W1 : World} {base g n cap i : Nat} {okw oki : Nat → Prop} {xs : List S39} {v1 : Value} {f0 : Int} {x1 r : List Int} (hH : Kd.H k39 39 W base okw (.slice (some ⟨g, 0, none⟩) n cap) xs (i : Int) oki [.int .i64 f0, v1]) (hR : (Kd.int .u8).R 5 W base oki v1 x1) (hk : Kept W W1 oki) {ok' : Nat → Prop} (hR1 : (Kd.int .u8).R 5 W1 base ok' v1 r) :
    Kd.S k39 39 W1 base okw (.slice (some ⟨g, 0, none⟩) n cap) (xs.set i ⟨f0, r⟩) := by
  have h1 : (Kd.int .u8).R 5 W1 base oki v1 r := Kd.R_mono (Kd.R_tight rfl hR1) (fun k hk => hR.1 k hk.symm)
  have h2 := Kd.H_back (Kd.H_kept hH hk (fun k _ h _ => h ‹_›)) (x' := (⟨f0, r⟩ : S39)) (k39_mkM W1 base oki ⟨f0, r⟩ h1) (fun _ h => h)
  rw [Int.toNat_natCast] at h2
  exact h2
theorem own_less {N j : Nat} (h : j < N) : N - (intOf (.int .i64 ((j + 1 : Nat) : Int))).toNat < N - (intOf (.int .i64 (j : Int))).toNat := by simp only [intOf]; omega
theorem own_wrap {N j : Nat} (h : j < N) (h2 : N ≤ 4611686018427387904) : wrap64 ((j : Int) + 1) = ((j + 1 : Nat) : Int) := by unfold wrap64; omega
def undercroftlaw07_FileOwn.f (k : Nat) (sz : Int) (l : List S57) (off : Int) (d : List Int) : Option Bool := (undercroftlaw07_Of.f k sz l).bind fun x => (undercroftplain_CopyBytes.f d).bind fun own => (file_Write.f x.1 x.2 off own).bind fun a => (undercroftref07_Write.f k sz l off d).bind fun b => (undercroftplain_Spoil.f k own).bind fun _ => if (x.2.all fun y => (undercroftplain_Spoil.f k y.f1).isSome) = true ∧ x.2.length ≤ 4611686018427387904 ∧ a.2.2 = b.2.2 then (undercroftlaw07_Alike.f k a.1 a.2.1 b.1 b.2.1).bind fun t => some (t == 0) else none
theorem undercroftlaw07_FileOwn.mono : ∀ a0 a1 a2 a3 k, LeO (undercroftlaw07_FileOwn.f k a0 a1 a2 a3) (undercroftlaw07_FileOwn.f (k + 1) a0 a1 a2 a3) := by
  intro a0 a1 a2 a3 k
  unfold undercroftlaw07_FileOwn.f
  refine LeO.bind (undercroftlaw07_Of.mono _ _ k) (fun x => LeO.bind (LeO.refl _) (fun own => LeO.bind (LeO.refl _) (fun a => LeO.bind (undercroftref07_Write.mono _ _ _ _ k) (fun b => LeO.bind (undercroftplain_Spoil.mono _ k) (fun _ => ?_)))))
  by_cases h : (x.2.all fun y => (undercroftplain_Spoil.f k y.f1).isSome) = true ∧ x.2.length ≤ 4611686018427387904 ∧ a.2.2 = b.2.2
  · have h' : (x.2.all fun y => (undercroftplain_Spoil.f (k + 1) y.f1).isSome) = true ∧ x.2.length ≤ 4611686018427387904 ∧ a.2.2 = b.2.2 := ⟨by
      rw [List.all_eq_true] at *
      intro y hy
      obtain ⟨r, hr⟩ := Option.isSome_iff_exists.1 (h.1 y hy)
      rw [undercroftplain_Spoil.mono _ k r hr]; rfl, h.2⟩
    rw [if_pos h, if_pos h']
    exact LeO.bind (undercroftlaw07_Alike.mono _ _ _ _ k) (fun _ => LeO.refl _)
  · rw [if_neg h]
    exact LeO.none _
set_option maxHeartbeats 8000000 in
set_option maxRecDepth 100000 in
theorem undercroftlaw07_FileOwn.calls (k : Nat) (sz : Int) (A1 : Option Addr) (c1 : Nat) (l : List S57) (off : Int) (A2 : Option Addr) (c2 : Nat) (d : List Int) (r : Bool) (w : World) (hr1 : Kd.C k57 w A1 l.length l) (hc1 : l.length ≤ c1) (hr2 : Kd.C (Kd.int .u8) w A2 d.length d) (hc2 : d.length ≤ c2) (h : undercroftlaw07_FileOwn.f k sz l off d = some r) :
    Calls Tryd.prog 3 #[.agg #[.int .i64 sz, .slice A1 l.length c1], .int .i64 off, .slice A2 d.length c2] w fun e w' => e = .returned (.bool r) ∧ Below w.heap.size w w' := by
  unfold undercroftlaw07_FileOwn.f at h
  obtain ⟨⟨m, tl⟩, h1, g1⟩ := Option.bind_eq_some_iff.1 h
  obtain ⟨own, h2, g2⟩ := Option.bind_eq_some_iff.1 g1
  obtain ⟨⟨a1, a2, a3⟩, h3, g3⟩ := Option.bind_eq_some_iff.1 g2
  obtain ⟨⟨b1, b2, b3⟩, h4, g4⟩ := Option.bind_eq_some_iff.1 g3
  obtain ⟨sp, h5, g5⟩ := Option.bind_eq_some_iff.1 g4
  simp only at h3 g5
  by_cases ha : (tl.all fun y => (undercroftplain_Spoil.f k y.f1).isSome) = true ∧ tl.length ≤ 4611686018427387904 ∧ a3 = b3
  case neg => rw [if_neg ha] at g5; cases g5
  rw [if_pos ha] at g5
  obtain ⟨al, h6, g6⟩ := Option.bind_eq_some_iff.1 g5
  have hr := Option.some.inj g6
  obtain ⟨ha1, ha2, ha3⟩ := ha
  subst ha3
  have B1 := Aside0.mk h1
  have B2 := Aside0.mk h2
  have B3 := Aside0.mk h3
  have B4 := Aside0.mk h4
  have B5 := Aside0.mk h5
  have B6 := Aside0.mk h6
  have AA := Aside0.mk ha1
  have HLT := Aside0.mk ha2
  have HR_ := Aside0.mk hr
  obtain ⟨W0, hW0⟩ : ∃ W, W = w.alloc (.cells #[.int .i64 sz, .slice A1 l.length c1] 24) := ⟨_, rfl⟩
  have hB0 : Below w.heap.size w W0 := by rw [hW0]; exact below_alloc (Below.refl _ _) _
  obtain ⟨gq, hgq⟩ : ∃ k, k = w.heap.size := ⟨_, rfl⟩
  have HG0 : Aside0 (W0.heap[gq]? = some (.cells #[.int .i64 sz, .slice A1 l.length c1] 24 (0, 0))) := ⟨by rw [hW0, hgq]; exact (MapKept.heap_alloc _ _).1⟩
  have HB0 := Aside0.mk hB0
  have HRL := Aside0.mk hr1
  have HRD := Aside0.mk hr2
  have HC1 := Aside0.mk hc1
  have HC2 := Aside0.mk hc2
  have HW0 := Aside0.mk hW0
  have HGE := Aside0.mk hgq
  clear h g1 g2 g3 g4 g5 g6 h1 h2 h3 h4 h5 h6 ha1 ha2 hr hr1 hr2 hc1 hc2 hW0 hB0 hgq
  have hu24 := Tryd.underlying24
  have hu29 := Tryd.underlying29
  have hu39 := Tryd.underlying39
  go_enter Tryd.func3, Tryd.ntmps3
  go_wp2_with (first
    | (go_at_call 7; go_loud (rw [← HW0.out]; refine (undercroftlaw07_alive.calls true _ rfl).mono ?_; rintro e w1 ⟨rfl, hb⟩; have HB1 := Aside0.mk (below_step HB0.out hb); have HZ01 := Aside0.mk HB1.out.size; have HG1 := Aside0.mk ((hb.block gq (blk_lt HG0.out)).trans HG0.out); have gc0 := blk_cell HG1.out 0; have gc1 := blk_cell HG1.out 1; rw [HGE.out] at gc0 gc1; clear hb HB0 HG0))
    | (go_at_call 8; go_loud (refine (undercroftlaw07_Of.calls k sz A1 c1 l m tl _ (Kd.C_below HRL.out HB1.out) HC1.out B1.out).mono ?_; rintro e w2 ⟨v2, rfl, ho, hb⟩; obtain ⟨D2, e2, rfl⟩ := Kd.S_slice ho; have HS2 := Aside0.mk (Kd.S_mono (ok' := fun k_ => w1.heap.size ≤ k_ ∧ k_ < w2.heap.size) (Kd.S_bound ho) (fun _ h_ => ⟨h_.2.1, h_.2.2.1⟩)); have HB2 := Aside0.mk (below_step HB1.out hb); have HG2 := Aside0.mk ((hb.block gq (blk_lt HG1.out)).trans HG1.out); have HZ12 := Aside0.mk hb.size; clear ho hb gc0 gc1))
    | (go_at_call 9; go_loud (refine (undercroftplain_CopyBytes.calls A2 c2 d own _ (Kd.C_below HRD.out HB2.out) HC2.out B2.out).mono ?_; rintro e w3 ⟨v3, rfl, ho, hb⟩; obtain ⟨D3, e3, rfl⟩ := Kd.R_slice ho; have HO3 := Aside0.mk (Kd.R_mono (ok' := fun k_ => w2.heap.size ≤ k_ ∧ k_ < w3.heap.size) (Kd.R_bound ho) (fun _ h_ => ⟨h_.2.1, h_.2.2.1⟩)); have HB3 := Aside0.mk (below_step HB2.out hb); have HG3 := Aside0.mk ((hb.block gq (blk_lt HG2.out)).trans HG2.out); have HS3 := Aside0.mk (Kd.S_below HS2.out hb); have HZ23 := Aside0.mk hb.size; clear ho hb))
    | (go_at_call 10; go_loud (obtain ⟨W3, hW3⟩ : ∃ W, W = w3.alloc (.cells #[.int .i64 m, .slice D2 tl.length e2] 29) := ⟨_, rfl⟩; obtain ⟨gx, hgx⟩ : ∃ k, k = w3.heap.size := ⟨_, rfl⟩; rw [← hW3]; have hb3 : Below w3.heap.size w3 W3 := (by rw [hW3]; exact below_alloc (Below.refl _ _) _); have HGX := Aside0.mk hgx; have HX3 : Aside0 (W3.heap[gx]? = some (.cells #[.int .i64 m, .slice D2 tl.length e2] 29 (0, 0))) := ⟨by rw [hW3, hgx]; exact (MapKept.heap_alloc _ _).1⟩; have HBX3 := Aside0.mk (below_step HB3.out hb3); have HGX3 := Aside0.mk ((hb3.block gq (blk_lt HG3.out)).trans HG3.out); have HSX3 := Aside0.mk (Kd.S_below HS3.out hb3); have HOX3 := Aside0.mk (Kd.R_below HO3.out hb3); have HZX3 := Aside0.mk (show w3.heap.size < W3.heap.size from hgx ▸ blk_lt HX3.out); clear hb3 hgx hW3 HB3 HG3 HS3 HO3; refine (file_Write.calls m D2 e2 tl off D3 e3 own a1 a2 a3 _ (Kd.S_reads' HSX3.out).2.2 (Kd.S_reads' HSX3.out).2.1 (Kd.R_reads' HOX3.out).2.2 (Kd.R_reads' HOX3.out).2.1 B3.out).mono ?_; rintro e w4 ⟨v4, rfl, ho, hb⟩; obtain ⟨D4, e4, rfl⟩ := Kd.S_slice ho; have HA4 := Aside0.mk (Kd.S_mono (ok' := fun k_ => W3.heap.size ≤ k_ ∧ k_ < w4.heap.size) (Kd.S_bound ho) (fun _ h_ => ⟨h_.2.1, h_.2.2.1⟩)); have HB4 := Aside0.mk (below_step HBX3.out hb); have HG4 := Aside0.mk ((hb.block gq (blk_lt HGX3.out)).trans HGX3.out); have HX4 := Aside0.mk ((hb.block gx (blk_lt HX3.out)).trans HX3.out); have HS4 := Aside0.mk (Kd.S_below HSX3.out hb); have HO4 := Aside0.mk (Kd.R_below HOX3.out hb); have HZ34 := Aside0.mk hb.size; clear ho hb HBX3 HGX3 HX3 HSX3 HOX3; have hb4 : Below w4.heap.size w4 (w4.alloc (.cells #[.int .i64 a1, .slice D4 a2.length e4] 29)) := below_alloc (Below.refl _ _) _; have gc0 : (w4.alloc (.cells #[.int .i64 a1, .slice D4 a2.length e4] 29)).cell? ⟨w.heap.size, 0, none⟩ = some (.int .i64 sz) := (by rw [← HGE.out]; exact blk_cell ((hb4.block gq (blk_lt HG4.out)).trans HG4.out) 0); have gc1 : (w4.alloc (.cells #[.int .i64 a1, .slice D4 a2.length e4] 29)).cell? ⟨w.heap.size, 1, none⟩ = some (.slice A1 l.length c1) := (by rw [← HGE.out]; exact blk_cell ((hb4.block gq (blk_lt HG4.out)).trans HG4.out) 1); clear hb4))
    | (go_at_call 11; go_loud (clear gc0 gc1; obtain ⟨W4, hW4⟩ : ∃ W, W = w4.alloc (.cells #[.int .i64 a1, .slice D4 a2.length e4] 29) := ⟨_, rfl⟩; obtain ⟨ga, hga⟩ : ∃ k, k = w4.heap.size := ⟨_, rfl⟩; rw [← hW4]; have hb4 : Below w4.heap.size w4 W4 := (by rw [hW4]; exact below_alloc (Below.refl _ _) _); have HGA := Aside0.mk hga; have HA_4 : Aside0 (W4.heap[ga]? = some (.cells #[.int .i64 a1, .slice D4 a2.length e4] 29 (0, 0))) := ⟨by rw [hW4, hga]; exact (MapKept.heap_alloc _ _).1⟩; have HBX4 := Aside0.mk (below_step HB4.out hb4); have HXX4 := Aside0.mk ((hb4.block gx (blk_lt HX4.out)).trans HX4.out); have HSX4 := Aside0.mk (Kd.S_below HS4.out hb4); have HOX4 := Aside0.mk (Kd.R_below HO4.out hb4); have HAX4 := Aside0.mk (Kd.S_below HA4.out hb4); have HZX4 := Aside0.mk (show w4.heap.size < W4.heap.size from hga ▸ blk_lt HA_4.out); clear hb4 hga hW4 HB4 HG4 HX4 HS4 HO4 HA4; refine (undercroftref07_Write.calls k sz A1 c1 l off A2 c2 d b1 b2 a3 _ (Kd.C_below HRL.out HBX4.out) HC1.out (Kd.C_below HRD.out HBX4.out) HC2.out B4.out).mono ?_; rintro e w5 ⟨v5, rfl, ho, hb⟩; obtain ⟨D5, e5, rfl⟩ := Kd.S_slice ho; have HB_5 := Aside0.mk (Kd.S_mono (ok' := fun k_ => W4.heap.size ≤ k_ ∧ k_ < w5.heap.size) (Kd.S_bound ho) (fun _ h_ => ⟨h_.2.1, h_.2.2.1⟩)); have HB5 := Aside0.mk (below_step HBX4.out hb); have HX5 := Aside0.mk ((hb.block gx (blk_lt HXX4.out)).trans HXX4.out); have HA_5 := Aside0.mk ((hb.block ga (blk_lt HA_4.out)).trans HA_4.out); have HS5 := Aside0.mk (Kd.S_below HSX4.out hb); have HO5 := Aside0.mk (Kd.R_below HOX4.out hb); have HA5 := Aside0.mk (Kd.S_below HAX4.out hb); have HZ45 := Aside0.mk hb.size; clear ho hb HBX4 HXX4 HA_4 HSX4 HOX4 HAX4))
    | (go_at_call 12; go_loud (obtain ⟨W5, hW5⟩ : ∃ W, W = w5.alloc (.cells #[.int .i64 b1, .slice D5 b2.length e5] 24) := ⟨_, rfl⟩; obtain ⟨gb, hgb⟩ : ∃ k, k = w5.heap.size := ⟨_, rfl⟩; rw [← hW5]; have hb5 : Below w5.heap.size w5 W5 := (by rw [hW5]; exact below_alloc (Below.refl _ _) _); have HGB := Aside0.mk hgb; have HBB5 : Aside0 (W5.heap[gb]? = some (.cells #[.int .i64 b1, .slice D5 b2.length e5] 24 (0, 0))) := ⟨by rw [hW5, hgb]; exact (MapKept.heap_alloc _ _).1⟩; have HBX5 := Aside0.mk (below_step HB5.out hb5); have HXX5 := Aside0.mk ((hb5.block gx (blk_lt HX5.out)).trans HX5.out); have HAA5 := Aside0.mk ((hb5.block ga (blk_lt HA_5.out)).trans HA_5.out); have HSX5 := Aside0.mk (Kd.S_below HS5.out hb5); have HOX5 := Aside0.mk (Kd.R_below HO5.out hb5); have HAX5 := Aside0.mk (Kd.S_below HA5.out hb5); have HBX_5 := Aside0.mk (Kd.S_below HB_5.out hb5); have HZX5 := Aside0.mk (show w5.heap.size < W5.heap.size from hgb ▸ blk_lt HBB5.out); clear hb5 hgb hW5 HB5 HX5 HA_5 HS5 HO5 HA5 HB_5; have hq0 := HZ01.out; have hz0 := HZ12.out; have hz1 := HZ23.out; have hz2 := HZX3.out; have hz3 := HZ34.out; have hz4 := HZX4.out; have hz5 := HZ45.out; have hz6 := HGX.out; have hz7 := HGA.out; have hz8 := HGB.out; have hz9 := HZX5.out; refine (undercroftplain_Spoil.calls k (fun k_ => w2.heap.size ≤ k_ ∧ k_ < w3.heap.size) (.slice D3 own.length e3) own sp w _ HBX5.out (Kd.R_lower HOX5.out (by omega)) B5.out).mono ?_; rintro e w6 ⟨rfl, _, hb, hk⟩; have HB6 := Aside0.mk hb; have HX6 := Aside0.mk (blk_kept HXX5.out hk (fun h_ => by omega)); have HA_6 := Aside0.mk (blk_kept HAA5.out hk (fun h_ => by omega)); have HB_6 := Aside0.mk (blk_kept HBB5.out hk (fun h_ => by omega)); have HS6 := Aside0.mk (Kd.S_kept HSX5.out hk (fun k_ h1_ h2_ => by omega)); have HA6 := Aside0.mk (Kd.S_kept HAX5.out hk (fun k_ h1_ h2_ => by omega)); have HBS6 := Aside0.mk (Kd.S_kept HBX_5.out hk (fun k_ h1_ h2_ => by omega)); have HB_6 := HB_6; clear hb hk hq0 hz0 hz1 hz2 hz3 hz4 hz5 hz6 hz7 hz8 hz9 HBX5 HXX5 HAA5 HBB5 HSX5 HOX5 HAX5 HBX_5)))
  obtain ⟨N, hN⟩ : ∃ N, N = tl.length := ⟨_, rfl⟩
  have HN := Aside0.mk hN
  have hN63 : N ≤ 4611686018427387904 := by rw [hN]; exact HLT.out
  have hz0 := HZ01.out
  have hz1 := HZ12.out
  have hz2 := HZ23.out
  have hz3 := HZX3.out
  have hz4 := HZ34.out
  have hz5 := HZX4.out
  have hz6 := HZ45.out
  have HGX_ := Aside0.mk HGX.out
  have HGA_ := Aside0.mk HGA.out
  have HGB_ := Aside0.mk HGB.out
  rw [← hN] at HS6 HX6
  clear hN
  go_loopw [13] (fun v13 W => ∃ (j : Nat) (xs : List S39), j ≤ N ∧ v13 = .int .i64 (j : Int) ∧ Aside0 (xs.length = N) ∧ Aside0 (xs.drop j = tl.drop j) ∧ Aside0 (Kd.S k39 39 W w.heap.size (fun k_ => w1.heap.size ≤ k_ ∧ k_ < w2.heap.size) (.slice D2 N e2) xs) ∧ Aside0 (Kept w6 W (fun k_ => w1.heap.size ≤ k_ ∧ k_ < w2.heap.size)) ∧ Aside0 (W.heap[gx]? = some (.cells #[.int .i64 m, .slice D2 N e2] 29 (0, 0))) ∧ Aside0 (Below w.heap.size w W)) (fun v13 _ => N - (intOf v13).toNat)
  case atStart => exact ⟨0, tl, Nat.zero_le _, rfl, ⟨HN.out.symm⟩, ⟨rfl⟩, ⟨Kd.S_lower HS6.out hz0⟩, ⟨Kept.refl _ _⟩, HX6, HB6⟩
  case round =>
    obtain ⟨j, xs, hm, rfl, HXL, HXD, HW, HK, HGX2, HBw⟩ := hrel
    have hq1 : wr.cell? ⟨w3.heap.size, 1, none⟩ = some (.slice D2 N e2) := by rw [← HGX_.out]; exact (blk_cell HGX2.out 1).trans rfl
    by_cases hlt : j < N
    · have hd : decide ((j : Int) < (N : Int)) = true := by simp; omega
      have hmL : j < xs.length := by have := HXL.out; omega
      obtain ⟨g, cap, he, hg1, hg2, cells, hgc⟩ := Kd.S_form HW.out (by omega)
      injection he with he1 he2 he3
      clear he2
      subst he1 he3
      clear hgc hg2 hg1
      obtain ⟨oki, v1, hx0, hx1, hoki, hR2, hH⟩ := own_gap HW.out hmL
      have hsp : ∃ r2, undercroftplain_Spoil.f k xs[j].f1 = some r2 := by
        have h1 : tl[j]? = xs[j]? := by
          have h2 := congrArg (fun l => l[0]?) HXD.out
          simpa [List.getElem?_drop] using h2.symm
        have h3 : xs[j] ∈ tl := by
          rw [List.getElem?_eq_getElem hmL] at h1
          exact List.mem_of_getElem? h1
        exact Option.isSome_iff_exists.1 (List.all_eq_true.1 AA.out _ h3)
      obtain ⟨r2, hr2⟩ := hsp
      have HSP := Aside0.mk hr2
      have HR2 := Aside0.mk hR2
      have HH := Aside0.mk hH
      have HOK := Aside0.mk hoki
      clear hr2 hR2 hH hoki hx0
      have HX := Aside0.mk (show (xs.set j (⟨xs[j].f0, r2⟩ : S39)).length = xs.length from List.length_set)
      generalize hx : xs[j] = x at *
      clear hx
      go_wp2_with (first
        | (go_at_call 12; go_loud (refine (undercroftplain_Spoil.calls k oki v1 x.f1 r2 w _ HBw.out HR2.out HSP.out).mono ?_; rintro e w7 ⟨rfl, hr7, hb7, hk7⟩; have HS7 := Aside0.mk (own_back HH.out HR2.out hk7 hr7); have HB7 := Aside0.mk hb7; have HK7 := Aside0.mk (HK.out.then_ hk7 (fun k_ hk_ => .inl (HOK.out k_ hk_).1)); have HG7 := Aside0.mk (blk_kept HGX2.out hk7 (fun h_ => by have h1_ := (HOK.out _ h_).1.2; have h2_ := HGX_.out; omega)); clear hr7 hb7 hk7)))
      have hw := own_wrap hlt hN63
      refine ⟨⟨j + 1, xs.set j ⟨x.f0, r2⟩, hlt, by simp, ⟨by rw [List.length_set]; exact HXL.out⟩, ⟨?_⟩, HS7, HK7, HG7, HB7⟩, own_less hlt⟩
      rw [List.drop_set, if_pos (by omega), ← List.drop_drop, HXD.out, List.drop_drop]
    · have hmN : j = N := by omega
      have hd : decide ((j : Int) < (N : Int)) = false := by simp; omega
      obtain rfl := hmN
      have HA7 := Aside0.mk (Kd.S_kept HA6.out HK.out (fun k_ h1_ h2_ => by omega))
      have HBS7 := Aside0.mk (Kd.S_kept HBS6.out HK.out (fun k_ h1_ h2_ => by omega))
      have HGA7 := Aside0.mk (blk_kept HA_6.out HK.out (fun h_ => by have := HGA_.out; omega))
      have HGB7 := Aside0.mk (blk_kept HB_6.out HK.out (fun h_ => by have := HGB_.out; omega))
      go_wp2_with (first
        | (go_at_call 13; go_loud (refine (undercroftlaw07_num.calls a3 a3 _ rfl).mono ?_; rintro e w8 ⟨rfl, hd8⟩; obtain ⟨nd, rfl⟩ := hd8.out; have ga0 : (wr.drewN nd).cell? ⟨w4.heap.size, 0, none⟩ = some (.int .i64 a1) := (by rw [← HGA_.out]; exact (blk_cell (blk_drewN HGA7.out nd) 0).trans rfl); have ga1 : (wr.drewN nd).cell? ⟨w4.heap.size, 1, none⟩ = some (.slice D4 a2.length e4) := (by rw [← HGA_.out]; exact (blk_cell (blk_drewN HGA7.out nd) 1).trans rfl); have gb0 : (wr.drewN nd).cell? ⟨w5.heap.size, 0, none⟩ = some (.int .i64 b1) := (by rw [← HGB_.out]; exact (blk_cell (blk_drewN HGB7.out nd) 0).trans rfl); have gb1 : (wr.drewN nd).cell? ⟨w5.heap.size, 1, none⟩ = some (.slice D5 b2.length e5) := (by rw [← HGB_.out]; exact (blk_cell (blk_drewN HGB7.out nd) 1).trans rfl)))
        | (go_at_call 14; go_loud (refine (undercroftlaw07_Alike.calls k a1 D4 e4 a2 b1 D5 e5 b2 al _ (Kd.C_drewN (Kd.S_reads' HA7.out).2.2 _) (Kd.S_reads' HA7.out).2.1 (Kd.C_drewN (Kd.S_reads' HBS7.out).2.2 _) (Kd.S_reads' HBS7.out).2.1 B6.out).mono ?_; rintro e w9 ⟨rfl, hb9⟩; have HB9 := Aside0.mk (below_step (pw_below_drewN HBw.out _) hb9); clear hb9)))
      go_ret
      exact ⟨by rw [← HR_.out]; rfl, HB9.out⟩

end Go.Proofs.YtomebhohkonhlaaDoor.PFow
