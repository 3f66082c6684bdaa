-- PRINTED BY print.sh 35421559b90ae4d0a3588c463048766b98c2df88dd9212a6774a882060cdf62d: not written by this session
import Derived.Test.YtkilcdcamjmehaaRRPBlockmapBesidex0
import Derived.Test.YtkilcdcamjmehaaRRPBlockmapBesidex1
namespace Go.Proofs.YtkilcdcamjmehaaRR.PBlockmapBeside
open Go.RowKit Go.Proofs.YtkilcdcamjmehaaRRW.PrintWords Go.Proofs.YtkilcdcamjmehaaRRW.PrintLast Go.Proofs.YtkilcdcamjmehaaRRW.PrintMore
attribute [local go_sem] max2_int min2_int max_two min_two max_three min_three max_four min_four   -- for this text's walks alone
set_option linter.unusedVariables false
set_option linter.unusedSimpArgs false

/-! ### undercroftlaw06_BlockmapBeside: function 4 -/
mutual
def undercroftlaw06_BlockmapBeside.j0 : Nat → Int → Int → Bool → Option (Bool)
  | 0, _, _, _ => none
  | k + 1, x3, x4, x30 => if x30 = true then (some false) else (undercroftlaw06_BlockmapBeside.l0 k x3 x4 false (-1) 0 0)
def undercroftlaw06_BlockmapBeside.l0 : Nat → Int → Int → Bool → Int → Int → Int → Option (Bool)
  | 0, _, _, _, _, _, _ => none
  | k + 1, x3, x4, x6, x7, x8, x9 => if x9 < x3 then ((blockmap_Path.f k x9).bind fun bt141 => ((undercroftlaw06_num.f bt141.2).bind fun t145 => (if t145 = 0 then (if (bt141.1.length : Int) < 1 then (undercroftlaw06_BlockmapBeside.j2 k x3 x4 x6 x7 x8 x9 bt141.1 true) else (undercroftlaw06_BlockmapBeside.j2 k x3 x4 x6 x7 x8 x9 bt141.1 (decide ((bt141.1.length : Int) > 3)))) else (undercroftlaw06_BlockmapBeside.j2 k x3 x4 x6 x7 x8 x9 bt141.1 true)))) else (some (x4 == x8))
def undercroftlaw06_BlockmapBeside.j2 : Nat → Int → Int → Bool → Int → Int → Int → List Int → Bool → Option (Bool)
  | 0, _, _, _, _, _, _, _, _ => none
  | k + 1, x3, x4, x6, x7, x8, x9, x10, x53 => if x53 = true then (some false) else (if (x10.length : Int) = 2 then (undercroftlaw06_BlockmapBeside.j3 k x3 x4 x6 x7 x8 x9 x10 (!x6)) else (undercroftlaw06_BlockmapBeside.j3 k x3 x4 x6 x7 x8 x9 x10 false))
def undercroftlaw06_BlockmapBeside.j3 : Nat → Int → Int → Bool → Int → Int → Int → List Int → Bool → Option (Bool)
  | 0, _, _, _, _, _, _, _, _ => none
  | k + 1, x3, x4, x6, x7, x8, x9, x10, x60 => if x60 = true then (undercroftlaw06_BlockmapBeside.j4 k x3 x4 true x7 (wrap64 (x8 + 1)) x9 x10) else (undercroftlaw06_BlockmapBeside.j4 k x3 x4 x6 x7 x8 x9 x10)
def undercroftlaw06_BlockmapBeside.j4 : Nat → Int → Int → Bool → Int → Int → Int → List Int → Option (Bool)
  | 0, _, _, _, _, _, _, _ => none
  | k + 1, x3, x4, x6, x7, x8, x9, x10 => if (x10.length : Int) = 3 then (if 1 < (x10.length : Int) then (undercroftlaw06_BlockmapBeside.j5 k x3 x4 x6 x7 x8 x9 x10 ((rd x10 1) != x7)) else (none)) else (undercroftlaw06_BlockmapBeside.j5 k x3 x4 x6 x7 x8 x9 x10 false)
def undercroftlaw06_BlockmapBeside.j5 : Nat → Int → Int → Bool → Int → Int → Int → List Int → Bool → Option (Bool)
  | 0, _, _, _, _, _, _, _, _ => none
  | k + 1, x3, x4, x6, x7, x8, x9, x10, x72 => if x72 = true then (if x7 < 0 then (if 1 < (x10.length : Int) then (undercroftlaw06_BlockmapBeside.l0 k x3 x4 x6 (rd x10 1) (wrap64 ((wrap64 (x8 + 1)) + 1)) (wrap64 (x9 + 1))) else (none)) else (if 1 < (x10.length : Int) then (undercroftlaw06_BlockmapBeside.l0 k x3 x4 x6 (rd x10 1) (wrap64 (x8 + 1)) (wrap64 (x9 + 1))) else (none))) else (undercroftlaw06_BlockmapBeside.l0 k x3 x4 x6 x7 x8 (wrap64 (x9 + 1)))
end
def undercroftlaw06_BlockmapBeside.f (k : Nat) (a0 : Int) : Option (Bool) := (undercroftlaw06_alive.f k).bind fun t136 => (if t136 = true then ((blockmap_Blocks.f (Int.tmod (wrap64 ((Int.tmod a0 2433) + 2433)) 2433)).bind fun bt137 => ((undercroftlaw06_num.f bt137.2.2).bind fun t140 => (if t140 = 0 then (undercroftlaw06_BlockmapBeside.j0 k bt137.1 bt137.2.1 (decide (bt137.1 > 76))) else (undercroftlaw06_BlockmapBeside.j0 k bt137.1 bt137.2.1 true)))) else (some false))
theorem undercroftlaw06_BlockmapBeside.mono_l : ∀ k, (∀ y0 y1 y2, LeO (undercroftlaw06_BlockmapBeside.j0 k y0 y1 y2) (undercroftlaw06_BlockmapBeside.j0 (k + 1) y0 y1 y2)) ∧ (∀ y0 y1 y2 y3 y4 y5, LeO (undercroftlaw06_BlockmapBeside.l0 k y0 y1 y2 y3 y4 y5) (undercroftlaw06_BlockmapBeside.l0 (k + 1) y0 y1 y2 y3 y4 y5)) ∧ (∀ y0 y1 y2 y3 y4 y5 y6 y7, LeO (undercroftlaw06_BlockmapBeside.j2 k y0 y1 y2 y3 y4 y5 y6 y7) (undercroftlaw06_BlockmapBeside.j2 (k + 1) y0 y1 y2 y3 y4 y5 y6 y7)) ∧ (∀ y0 y1 y2 y3 y4 y5 y6 y7, LeO (undercroftlaw06_BlockmapBeside.j3 k y0 y1 y2 y3 y4 y5 y6 y7) (undercroftlaw06_BlockmapBeside.j3 (k + 1) y0 y1 y2 y3 y4 y5 y6 y7)) ∧ (∀ y0 y1 y2 y3 y4 y5 y6, LeO (undercroftlaw06_BlockmapBeside.j4 k y0 y1 y2 y3 y4 y5 y6) (undercroftlaw06_BlockmapBeside.j4 (k + 1) y0 y1 y2 y3 y4 y5 y6)) ∧ (∀ y0 y1 y2 y3 y4 y5 y6 y7, LeO (undercroftlaw06_BlockmapBeside.j5 k y0 y1 y2 y3 y4 y5 y6 y7) (undercroftlaw06_BlockmapBeside.j5 (k + 1) y0 y1 y2 y3 y4 y5 y6 y7))
  | 0 => ⟨fun _ _ _ r h => by simp [undercroftlaw06_BlockmapBeside.j0] at h, fun _ _ _ _ _ _ r h => by simp [undercroftlaw06_BlockmapBeside.l0] at h, fun _ _ _ _ _ _ _ _ r h => by simp [undercroftlaw06_BlockmapBeside.j2] at h, fun _ _ _ _ _ _ _ _ r h => by simp [undercroftlaw06_BlockmapBeside.j3] at h, fun _ _ _ _ _ _ _ r h => by simp [undercroftlaw06_BlockmapBeside.j4] at h, fun _ _ _ _ _ _ _ _ r h => by simp [undercroftlaw06_BlockmapBeside.j5] at h⟩
  | k + 1 => by
    obtain ⟨ih0, ih1, ih2, ih3, ih4, ih5⟩ := undercroftlaw06_BlockmapBeside.mono_l k
    refine ⟨?_, ?_, ?_, ?_, ?_, ?_⟩
    · intro y0 y1 y2
      unfold undercroftlaw06_BlockmapBeside.j0
      repeat' first
      | (with_reducible exact ih0 _ _ _)
      | (with_reducible exact ih1 _ _ _ _ _ _)
      | (with_reducible exact ih2 _ _ _ _ _ _ _ _)
      | (with_reducible exact ih3 _ _ _ _ _ _ _ _)
      | (with_reducible exact ih4 _ _ _ _ _ _ _)
      | (with_reducible exact ih5 _ _ _ _ _ _ _ _)
      | (with_reducible exact blockmap_Path.mono _ _)
      | (with_reducible exact undercroftlaw06_alive.mono _)
      | (with_reducible exact LeO.refl _)
      | (with_reducible exact LeO.none _)
      | (with_reducible refine LeO.ite ?_ ?_)
      | (with_reducible refine LeO.bind ?_ (fun _ => ?_))
      | exact ih0 _ _ _
      | exact ih1 _ _ _ _ _ _
      | exact ih2 _ _ _ _ _ _ _ _
      | exact ih3 _ _ _ _ _ _ _ _
      | exact ih4 _ _ _ _ _ _ _
      | exact ih5 _ _ _ _ _ _ _ _
      | exact blockmap_Path.mono _ _
      | exact undercroftlaw06_alive.mono _
      | exact LeO.none _
      | refine LeO.ite ?_ ?_
      | refine LeO.bind ?_ (fun _ => ?_)
    · intro y0 y1 y2 y3 y4 y5
      unfold undercroftlaw06_BlockmapBeside.l0
      repeat' first
      | (with_reducible exact ih0 _ _ _)
      | (with_reducible exact ih1 _ _ _ _ _ _)
      | (with_reducible exact ih2 _ _ _ _ _ _ _ _)
      | (with_reducible exact ih3 _ _ _ _ _ _ _ _)
      | (with_reducible exact ih4 _ _ _ _ _ _ _)
      | (with_reducible exact ih5 _ _ _ _ _ _ _ _)
      | (with_reducible exact blockmap_Path.mono _ _)
      | (with_reducible exact undercroftlaw06_alive.mono _)
      | (with_reducible exact LeO.refl _)
      | (with_reducible exact LeO.none _)
      | (with_reducible refine LeO.ite ?_ ?_)
      | (with_reducible refine LeO.bind ?_ (fun _ => ?_))
      | exact ih0 _ _ _
      | exact ih1 _ _ _ _ _ _
      | exact ih2 _ _ _ _ _ _ _ _
      | exact ih3 _ _ _ _ _ _ _ _
      | exact ih4 _ _ _ _ _ _ _
      | exact ih5 _ _ _ _ _ _ _ _
      | exact blockmap_Path.mono _ _
      | exact undercroftlaw06_alive.mono _
      | exact LeO.none _
      | refine LeO.ite ?_ ?_
      | refine LeO.bind ?_ (fun _ => ?_)
    · intro y0 y1 y2 y3 y4 y5 y6 y7
      unfold undercroftlaw06_BlockmapBeside.j2
      repeat' first
      | (with_reducible exact ih0 _ _ _)
      | (with_reducible exact ih1 _ _ _ _ _ _)
      | (with_reducible exact ih2 _ _ _ _ _ _ _ _)
      | (with_reducible exact ih3 _ _ _ _ _ _ _ _)
      | (with_reducible exact ih4 _ _ _ _ _ _ _)
      | (with_reducible exact ih5 _ _ _ _ _ _ _ _)
      | (with_reducible exact blockmap_Path.mono _ _)
      | (with_reducible exact undercroftlaw06_alive.mono _)
      | (with_reducible exact LeO.refl _)
      | (with_reducible exact LeO.none _)
      | (with_reducible refine LeO.ite ?_ ?_)
      | (with_reducible refine LeO.bind ?_ (fun _ => ?_))
      | exact ih0 _ _ _
      | exact ih1 _ _ _ _ _ _
      | exact ih2 _ _ _ _ _ _ _ _
      | exact ih3 _ _ _ _ _ _ _ _
      | exact ih4 _ _ _ _ _ _ _
      | exact ih5 _ _ _ _ _ _ _ _
      | exact blockmap_Path.mono _ _
      | exact undercroftlaw06_alive.mono _
      | exact LeO.none _
      | refine LeO.ite ?_ ?_
      | refine LeO.bind ?_ (fun _ => ?_)
    · intro y0 y1 y2 y3 y4 y5 y6 y7
      unfold undercroftlaw06_BlockmapBeside.j3
      repeat' first
      | (with_reducible exact ih0 _ _ _)
      | (with_reducible exact ih1 _ _ _ _ _ _)
      | (with_reducible exact ih2 _ _ _ _ _ _ _ _)
      | (with_reducible exact ih3 _ _ _ _ _ _ _ _)
      | (with_reducible exact ih4 _ _ _ _ _ _ _)
      | (with_reducible exact ih5 _ _ _ _ _ _ _ _)
      | (with_reducible exact blockmap_Path.mono _ _)
      | (with_reducible exact undercroftlaw06_alive.mono _)
      | (with_reducible exact LeO.refl _)
      | (with_reducible exact LeO.none _)
      | (with_reducible refine LeO.ite ?_ ?_)
      | (with_reducible refine LeO.bind ?_ (fun _ => ?_))
      | exact ih0 _ _ _
      | exact ih1 _ _ _ _ _ _
      | exact ih2 _ _ _ _ _ _ _ _
      | exact ih3 _ _ _ _ _ _ _ _
      | exact ih4 _ _ _ _ _ _ _
      | exact ih5 _ _ _ _ _ _ _ _
      | exact blockmap_Path.mono _ _
      | exact undercroftlaw06_alive.mono _
      | exact LeO.none _
      | refine LeO.ite ?_ ?_
      | refine LeO.bind ?_ (fun _ => ?_)
    · intro y0 y1 y2 y3 y4 y5 y6
      unfold undercroftlaw06_BlockmapBeside.j4
      repeat' first
      | (with_reducible exact ih0 _ _ _)
      | (with_reducible exact ih1 _ _ _ _ _ _)
      | (with_reducible exact ih2 _ _ _ _ _ _ _ _)
      | (with_reducible exact ih3 _ _ _ _ _ _ _ _)
      | (with_reducible exact ih4 _ _ _ _ _ _ _)
      | (with_reducible exact ih5 _ _ _ _ _ _ _ _)
      | (with_reducible exact blockmap_Path.mono _ _)
      | (with_reducible exact undercroftlaw06_alive.mono _)
      | (with_reducible exact LeO.refl _)
      | (with_reducible exact LeO.none _)
      | (with_reducible refine LeO.ite ?_ ?_)
      | (with_reducible refine LeO.bind ?_ (fun _ => ?_))
      | exact ih0 _ _ _
      | exact ih1 _ _ _ _ _ _
      | exact ih2 _ _ _ _ _ _ _ _
      | exact ih3 _ _ _ _ _ _ _ _
      | exact ih4 _ _ _ _ _ _ _
      | exact ih5 _ _ _ _ _ _ _ _
      | exact blockmap_Path.mono _ _
      | exact undercroftlaw06_alive.mono _
      | exact LeO.none _
      | refine LeO.ite ?_ ?_
      | refine LeO.bind ?_ (fun _ => ?_)
    · intro y0 y1 y2 y3 y4 y5 y6 y7
      unfold undercroftlaw06_BlockmapBeside.j5
      repeat' first
      | (with_reducible exact ih0 _ _ _)
      | (with_reducible exact ih1 _ _ _ _ _ _)
      | (with_reducible exact ih2 _ _ _ _ _ _ _ _)
      | (with_reducible exact ih3 _ _ _ _ _ _ _ _)
      | (with_reducible exact ih4 _ _ _ _ _ _ _)
      | (with_reducible exact ih5 _ _ _ _ _ _ _ _)
      | (with_reducible exact blockmap_Path.mono _ _)
      | (with_reducible exact undercroftlaw06_alive.mono _)
      | (with_reducible exact LeO.refl _)
      | (with_reducible exact LeO.none _)
      | (with_reducible refine LeO.ite ?_ ?_)
      | (with_reducible refine LeO.bind ?_ (fun _ => ?_))
      | exact ih0 _ _ _
      | exact ih1 _ _ _ _ _ _
      | exact ih2 _ _ _ _ _ _ _ _
      | exact ih3 _ _ _ _ _ _ _ _
      | exact ih4 _ _ _ _ _ _ _
      | exact ih5 _ _ _ _ _ _ _ _
      | exact blockmap_Path.mono _ _
      | exact undercroftlaw06_alive.mono _
      | exact LeO.none _
      | refine LeO.ite ?_ ?_
      | refine LeO.bind ?_ (fun _ => ?_)
theorem undercroftlaw06_BlockmapBeside.mono : ∀ a0 k, LeO (undercroftlaw06_BlockmapBeside.f k a0) (undercroftlaw06_BlockmapBeside.f (k + 1) a0) := by
  intro a0 k
  obtain ⟨ih0, ih1, ih2, ih3, ih4, ih5⟩ := undercroftlaw06_BlockmapBeside.mono_l k
  unfold undercroftlaw06_BlockmapBeside.f
  repeat' first
      | (with_reducible exact ih0 _ _ _)
      | (with_reducible exact ih1 _ _ _ _ _ _)
      | (with_reducible exact ih2 _ _ _ _ _ _ _ _)
      | (with_reducible exact ih3 _ _ _ _ _ _ _ _)
      | (with_reducible exact ih4 _ _ _ _ _ _ _)
      | (with_reducible exact ih5 _ _ _ _ _ _ _ _)
      | (with_reducible exact blockmap_Path.mono _ _)
      | (with_reducible exact undercroftlaw06_alive.mono _)
      | (with_reducible exact LeO.refl _)
      | (with_reducible exact LeO.none _)
      | (with_reducible refine LeO.ite ?_ ?_)
      | (with_reducible refine LeO.bind ?_ (fun _ => ?_))
      | exact ih0 _ _ _
      | exact ih1 _ _ _ _ _ _
      | exact ih2 _ _ _ _ _ _ _ _
      | exact ih3 _ _ _ _ _ _ _ _
      | exact ih4 _ _ _ _ _ _ _
      | exact ih5 _ _ _ _ _ _ _ _
      | exact blockmap_Path.mono _ _
      | exact undercroftlaw06_alive.mono _
      | exact LeO.none _
      | refine LeO.ite ?_ ?_
      | refine LeO.bind ?_ (fun _ => ?_)
set_option maxHeartbeats 8000000 in
set_option maxRecDepth 100000 in
theorem undercroftlaw06_BlockmapBeside.calls (k : Nat) (a0 : Int) (r : Bool) (w : World) (h : undercroftlaw06_BlockmapBeside.f k a0 = some r) :
    Calls Try.prog 4 #[.int .i64 a0] w fun e w' => e = .returned (.bool r) ∧ Below w.heap.size w w' := by
  have HB := Aside0.mk (Below.refl w.heap.size w)
  have H : ((undercroftlaw06_alive.f k).bind fun t136 => (if t136 = true then ((blockmap_Blocks.f (Int.tmod (wrap64 ((Int.tmod a0 2433) + 2433)) 2433)).bind fun bt137 => ((undercroftlaw06_num.f bt137.2.2).bind fun t140 => (if t140 = 0 then (undercroftlaw06_BlockmapBeside.j0 k bt137.1 bt137.2.1 (decide (bt137.1 > 76))) else (undercroftlaw06_BlockmapBeside.j0 k bt137.1 bt137.2.1 true)))) else (some false))) = some r := h
  clear h
  replace H := Option.bind_eq_some_iff.mp H
  obtain ⟨t136, A20, H⟩ := H
  replace H : (if t136 = true then ((blockmap_Blocks.f (Int.tmod (wrap64 ((Int.tmod a0 2433) + 2433)) 2433)).bind fun bt137 => ((undercroftlaw06_num.f bt137.2.2).bind fun t140 => (if t140 = 0 then (undercroftlaw06_BlockmapBeside.j0 k bt137.1 bt137.2.1 (decide (bt137.1 > 76))) else (undercroftlaw06_BlockmapBeside.j0 k bt137.1 bt137.2.1 true)))) else (some false)) = some r := H
  have A2 := Aside0.mk A20
  clear A20
  by_cases c3 : t136 = true
  · subst c3
    have H1 : ((blockmap_Blocks.f (Int.tmod (wrap64 ((Int.tmod a0 2433) + 2433)) 2433)).bind fun bt137 => ((undercroftlaw06_num.f bt137.2.2).bind fun t140 => (if t140 = 0 then (undercroftlaw06_BlockmapBeside.j0 k bt137.1 bt137.2.1 (decide (bt137.1 > 76))) else (undercroftlaw06_BlockmapBeside.j0 k bt137.1 bt137.2.1 true)))) = some r := by rw [if_pos rfl] at H; exact H
    clear H
    have H := H1
    clear H1
    replace H := Option.bind_eq_some_iff.mp H
    obtain ⟨⟨t137, t138, t139⟩, A40, H⟩ := H
    replace H : ((undercroftlaw06_num.f t139).bind fun t140 => (if t140 = 0 then (undercroftlaw06_BlockmapBeside.j0 k t137 t138 (decide (t137 > 76))) else (undercroftlaw06_BlockmapBeside.j0 k t137 t138 true))) = some r := H
    have A4 := Aside0.mk A40
    clear A40
    have HC5 := Aside0.mk H
    clear H
    go_enter Try.func4, Try.ntmps4
    go_upto_region 5 with (first | ((with_reducible refine gate_callee (f := 6) rfl ?_); refine goesL_ (some 12) rfl rfl Try.func6 (by kernel_rfl) rfl #[] rfl (by (try simp only [List.map_toArray, List.map_cons, List.map_nil]); first | done | rfl | (simp only [List.length_drop, List.length_take]; rfl)) ?_; (with_reducible refine (undercroftlaw06_alive.calls k  true _ A2.out).mono ?_); rintro e w6 ⟨rfl, hb⟩; refine ⟨_, rfl, ?_⟩; have n0_ := Aside0.mk (below_step (by repeat (first | (with_reducible first | exact HB.out | apply below_alloc | apply pw_below_drewN | apply below_drew1) | exact HB.out)) hb); clear HB; have HB := n0_; clear n0_; (try clear hb); (try clear hb2); (try clear hk); (try clear hi)) | ((with_reducible refine gate_callee (f := 7) rfl ?_); refine goesL_ (some 20) rfl rfl Try.func7 (by kernel_rfl) rfl #[.int .i64 (Int.tmod (wrap64 ((Int.tmod a0 2433) + 2433)) 2433)] rfl (by (try simp only [List.map_toArray, List.map_cons, List.map_nil]); first | done | rfl | (simp only [List.length_drop, List.length_take]; rfl)) ?_; (with_reducible refine (blockmap_Blocks.calls (Int.tmod (wrap64 ((Int.tmod a0 2433) + 2433)) 2433) t137 t138 t139 _ A4.out).mono ?_); rintro e w' ⟨rfl, ⟨nd, rfl⟩⟩; refine ⟨_, rfl, ?_⟩))
    (try simp only [Act.put, List.setIfInBounds_toArray, List.set_cons_zero, List.set_cons_succ])
    go_cut [30] (fun v30 wc => ∃ (kq : Nat) (x30_4 : Bool), v30 = .bool x30_4 ∧ Aside0 (undercroftlaw06_BlockmapBeside.j0 kq t137 t138 x30_4 = some r) ∧ Aside0 (kq ≤ k) ∧ Aside0 (Below w.heap.size w wc))
    case first =>
      have H := HC5.out
      clear HC5
      replace H := Option.bind_eq_some_iff.mp H
      obtain ⟨t140, A70, H⟩ := H
      replace H : (if t140 = 0 then (undercroftlaw06_BlockmapBeside.j0 k t137 t138 (decide (t137 > 76))) else (undercroftlaw06_BlockmapBeside.j0 k t137 t138 true)) = some r := H
      have A7 := Aside0.mk A70
      clear A70
      by_cases c8 : t140 = 0
      · rw [if_pos c8] at H
        have c8b0 : (t140 == 0) = true := beq_iff_eq.mpr c8
        have c8b1 : (t140 != 0) = false := bne_eq_false_iff_eq.mpr c8
        clear c8
        (first | rw [c8b0] | (simp only [i64_w, i32_w]; rw [c8b0]) | skip)
        have H' := Aside0.mk H
        clear H
        go_wp2_with (first | ((with_reducible refine gate_callee (f := 8) rfl ?_); refine goesL_ (some 25) rfl rfl Try.func8 (by kernel_rfl) rfl #[.int .i64 t139] rfl (by (try simp only [List.map_toArray, List.map_cons, List.map_nil]); first | done | rfl | (simp only [List.length_drop, List.length_take]; rfl)) ?_; (with_reducible refine (undercroftlaw06_num.calls t139 t140 _ A7.out).mono ?_); rintro e w' ⟨rfl, ⟨nd, rfl⟩⟩; refine ⟨_, rfl, ?_⟩))
        go_meet
        case rel => exact ⟨_, (decide (t137 > 76)), (by first | rfl | (simp; done) | (simp [*]; done)), H', ⟨by first | omega | exact Nat.le_refl _⟩, ⟨by repeat (first | (with_reducible first | exact HB.out | apply below_alloc | apply pw_below_drewN | apply below_drew1) | exact HB.out)⟩⟩
      · rw [if_neg c8] at H
        have c8b0 : (t140 == 0) = false := beq_eq_false_iff_ne.mpr c8
        have c8b1 : (t140 != 0) = true := bne_iff_ne.mpr c8
        (first | rw [c8b0] | (simp only [i64_w, i32_w]; rw [c8b0]) | skip)
        have H' := Aside0.mk H
        clear H
        go_wp2_with (first | ((with_reducible refine gate_callee (f := 8) rfl ?_); refine goesL_ (some 25) rfl rfl Try.func8 (by kernel_rfl) rfl #[.int .i64 t139] rfl (by (try simp only [List.map_toArray, List.map_cons, List.map_nil]); first | done | rfl | (simp only [List.length_drop, List.length_take]; rfl)) ?_; (with_reducible refine (undercroftlaw06_num.calls t139 t140 _ A7.out).mono ?_); rintro e w' ⟨rfl, ⟨nd, rfl⟩⟩; refine ⟨_, rfl, ?_⟩))
        go_meet
        case rel => exact ⟨_, (true), (by first | rfl | (simp; done) | (simp [*]; done)), H', ⟨by first | omega | exact Nat.le_refl _⟩, ⟨by repeat (first | (with_reducible first | exact HB.out | apply below_alloc | apply pw_below_drewN | apply below_drew1) | exact HB.out)⟩⟩
    case rest =>
      clear HC5
      try clear p2
      try clear c3
      try clear c4
      try clear c6
      try clear p6
      try clear c7
      try clear c8
      try clear c8b0
      try clear c8b1
      obtain ⟨kq, x30_4, rfl, HA, HJ4, HB⟩ := hcut
      cases kq with
      | zero => exact absurd HA.out (by simp [undercroftlaw06_BlockmapBeside.j0])
      | succ kj4 =>
        have H := HA.out
        clear HA
        simp only [undercroftlaw06_BlockmapBeside.j0] at H
        by_cases c9 : x30_4 = true
        · subst c9
          have H1 : (some false) = some r := by rw [if_pos rfl] at H; exact H
          clear H
          have H := H1
          clear H1
          obtain rfl := Option.some.inj H
          go_wp2
          go_ret
          exact ⟨by first | rfl | (simp [errW_none, errW_some] <;> rfl) | (simp [*, errW_none, errW_some] <;> rfl), by repeat (first | (with_reducible first | exact HB.out | apply below_alloc | apply pw_below_drewN | apply below_drew1) | exact HB.out)⟩
        · replace c9 := Bool.eq_false_iff.mpr c9
          subst c9
          have H1 : (undercroftlaw06_BlockmapBeside.l0 kj4 t137 t138 false (-1) 0 0) = some r := by rw [if_neg (show ¬ (false = true) by decide)] at H; exact H
          clear H
          have H := H1
          clear H1
          have H' := Aside0.mk H
          clear H
          go_wp2
          go_loopg [6, 7, 8, 9] kj4 (fun kq v6 v7 v8 v9 w' => ∃ (x6_2 : Bool) (x7_2 : Int) (x8_2 : Int) (x9_2 : Int), v6 = .bool x6_2 ∧ v7 = .int .i64 x7_2 ∧ v8 = .int .i64 x8_2 ∧ v9 = .int .i64 x9_2 ∧ Aside0 (undercroftlaw06_BlockmapBeside.l0 kq t137 t138 x6_2 x7_2 x8_2 x9_2 = some r) ∧ Aside0 (kq ≤ kj4) ∧ Aside0 (Below w.heap.size w w'))
          case atStart => exact ⟨(false), ((-1)), (0), (0), (by first | rfl | (simp; done) | (simp [*]; done)), (by first | rfl | (simp; done) | (simp [*]; done)), (by first | rfl | (simp; done) | (simp [*]; done)), (by first | rfl | (simp; done) | (simp [*]; done)), H', ⟨Nat.le_refl _⟩, ⟨by repeat (first | (with_reducible first | exact HB.out | apply below_alloc | apply pw_below_drewN | apply below_drew1) | exact HB.out)⟩⟩
          case round =>
            clear H'
            try clear p2
            try clear c3
            try clear c4
            try clear c6
            try clear p6
            try clear c7
            try clear c8
            try clear c8b0
            try clear c8b1
            try clear c9
            try clear p2
            try clear p6
            obtain ⟨x6_2, x7_2, x8_2, x9_2, rfl, rfl, rfl, rfl, HA, HK2, HB⟩ := hrel
            cases gk with
            | zero => exact absurd HA.out (by simp [undercroftlaw06_BlockmapBeside.l0])
            | succ k2 =>
              have H := HA.out
              clear HA
              simp only [undercroftlaw06_BlockmapBeside.l0] at H
              by_cases c10 : x9_2 < t137
              · rw [if_pos c10] at H
                have c10b0 : decide (x9_2 < t137) = true := decide_eq_true c10
                clear c10
                replace H := Option.bind_eq_some_iff.mp H
                obtain ⟨⟨t141, t142⟩, A110, H⟩ := H
                replace H : ((undercroftlaw06_num.f t142).bind fun t145 => (if t145 = 0 then (if (t141.length : Int) < 1 then (undercroftlaw06_BlockmapBeside.j2 k2 t137 t138 x6_2 x7_2 x8_2 x9_2 t141 true) else (undercroftlaw06_BlockmapBeside.j2 k2 t137 t138 x6_2 x7_2 x8_2 x9_2 t141 (decide ((t141.length : Int) > 3)))) else (undercroftlaw06_BlockmapBeside.j2 k2 t137 t138 x6_2 x7_2 x8_2 x9_2 t141 true))) = some r := H
                have A11 := Aside0.mk A110
                clear A110
                have HC12 := Aside0.mk H
                clear H
                go_upto_region 12 with (first | ((with_reducible refine gate_callee (f := 9) rfl ?_); refine goesL_ (some 38) rfl rfl Try.func9 (by kernel_rfl) rfl #[.int .i64 x9_2] rfl (by (try simp only [List.map_toArray, List.map_cons, List.map_nil]); first | done | rfl | (simp only [List.length_drop, List.length_take]; rfl)) ?_; (with_reducible refine (blockmap_Path.calls k2 x9_2 t141 t142 _ A11.out).mono ?_); rintro e w13 ⟨v143, rfl, ho0, hb⟩; refine ⟨_, rfl, ?_⟩; have n0_ := Aside0.mk (Kd.R_lower ho0 (below_size (by repeat (first | (with_reducible first | exact HB.out | apply below_alloc | apply pw_below_drewN | apply below_drew1) | exact HB.out)))); have n1_ := Aside0.mk (below_step (by repeat (first | (with_reducible first | exact HB.out | apply below_alloc | apply pw_below_drewN | apply below_drew1) | exact HB.out)) hb); clear HB; have HO144 := n0_; have HB := n1_; clear n0_ n1_; (try clear hb); (try clear hb2); (try clear hk); (try clear hi); (try clear ho0)))
                (try simp only [Act.put, List.setIfInBounds_toArray, List.set_cons_zero, List.set_cons_succ])
                go_cut [53] (fun v53 wc => ∃ (kq : Nat) (x53_11 : Bool), v53 = .bool x53_11 ∧ Aside0 (undercroftlaw06_BlockmapBeside.j2 kq t137 t138 x6_2 x7_2 x8_2 x9_2 t141 x53_11 = some r) ∧ Aside0 (kq ≤ k2) ∧ Aside0 (Kd.R (Kd.int .i64) 3 wc w.heap.size (fun _ => True) v143 t141) ∧ Aside0 (Below w.heap.size w wc))
                case first =>
                  have H := HC12.out
                  clear HC12
                  replace H := Option.bind_eq_some_iff.mp H
                  obtain ⟨t145, A140, H⟩ := H
                  replace H : (if t145 = 0 then (if (t141.length : Int) < 1 then (undercroftlaw06_BlockmapBeside.j2 k2 t137 t138 x6_2 x7_2 x8_2 x9_2 t141 true) else (undercroftlaw06_BlockmapBeside.j2 k2 t137 t138 x6_2 x7_2 x8_2 x9_2 t141 (decide ((t141.length : Int) > 3)))) else (undercroftlaw06_BlockmapBeside.j2 k2 t137 t138 x6_2 x7_2 x8_2 x9_2 t141 true)) = some r := H
                  have A14 := Aside0.mk A140
                  clear A140
                  by_cases c15 : t145 = 0
                  · rw [if_pos c15] at H
                    have c15b0 : (t145 == 0) = true := beq_iff_eq.mpr c15
                    have c15b1 : (t145 != 0) = false := bne_eq_false_iff_eq.mpr c15
                    clear c15
                    (first | rw [c15b0] | (simp only [i64_w, i32_w]; rw [c15b0]) | skip)
                    by_cases c16 : (t141.length : Int) < 1
                    · rw [if_pos c16] at H
                      have c16b0 : decide ((t141.length : Int) < 1) = true := decide_eq_true c16
                      have c16b1 : decide (t141.length < 1) = true := decide_eq_true (by omega)
                      clear c16
                      have H' := Aside0.mk H
                      clear H
                      go_wp2_with (first | ((with_reducible refine gate_callee (f := 8) rfl ?_); refine goesL_ (some 42) rfl rfl Try.func8 (by kernel_rfl) rfl #[.int .i64 t142] rfl (by (try simp only [List.map_toArray, List.map_cons, List.map_nil]); first | done | rfl | (simp only [List.length_drop, List.length_take]; rfl)) ?_; (with_reducible refine (undercroftlaw06_num.calls t142 t145 _ A14.out).mono ?_); rintro e w' ⟨rfl, ⟨nd, rfl⟩⟩; refine ⟨_, rfl, ?_⟩; obtain ⟨Ao17, co17, eo17⟩ := Kd.R_slice HO144.out; subst eo17))
                      go_meet
                      case rel => exact ⟨_, (true), (by first | rfl | (simp; done) | (simp [*]; done)), H', ⟨by have := HJ4.out; have := HK2.out; first | omega | exact Nat.le_refl _⟩, ⟨by (with_reducible repeat (first | apply Kd.R_alloc | apply Kd.R_drewN | apply Kd.R_drew)); exact HO144.out⟩, ⟨by repeat (first | (with_reducible first | exact HB.out | apply below_alloc | apply pw_below_drewN | apply below_drew1) | exact HB.out)⟩⟩
                    · rw [if_neg c16] at H
                      have c16b0 : decide ((t141.length : Int) < 1) = false := decide_eq_false c16
                      have c16b1 : decide (t141.length < 1) = false := decide_eq_false (by omega)
                      clear c16
                      have H' := Aside0.mk H
                      clear H
                      go_wp2_with (first | ((with_reducible refine gate_callee (f := 8) rfl ?_); refine goesL_ (some 42) rfl rfl Try.func8 (by kernel_rfl) rfl #[.int .i64 t142] rfl (by (try simp only [List.map_toArray, List.map_cons, List.map_nil]); first | done | rfl | (simp only [List.length_drop, List.length_take]; rfl)) ?_; (with_reducible refine (undercroftlaw06_num.calls t142 t145 _ A14.out).mono ?_); rintro e w' ⟨rfl, ⟨nd, rfl⟩⟩; refine ⟨_, rfl, ?_⟩; obtain ⟨Ao18, co18, eo18⟩ := Kd.R_slice HO144.out; subst eo18))
                      go_meet
                      case rel => exact ⟨_, (decide ((t141.length : Int) > 3)), (by first | rfl | (simp; done) | (simp [*]; done)), H', ⟨by have := HJ4.out; have := HK2.out; first | omega | exact Nat.le_refl _⟩, ⟨by (with_reducible repeat (first | apply Kd.R_alloc | apply Kd.R_drewN | apply Kd.R_drew)); exact HO144.out⟩, ⟨by repeat (first | (with_reducible first | exact HB.out | apply below_alloc | apply pw_below_drewN | apply below_drew1) | exact HB.out)⟩⟩
                  · rw [if_neg c15] at H
                    have c15b0 : (t145 == 0) = false := beq_eq_false_iff_ne.mpr c15
                    have c15b1 : (t145 != 0) = true := bne_iff_ne.mpr c15
                    (first | rw [c15b0] | (simp only [i64_w, i32_w]; rw [c15b0]) | skip)
                    have H' := Aside0.mk H
                    clear H
                    go_wp2_with (first | ((with_reducible refine gate_callee (f := 8) rfl ?_); refine goesL_ (some 42) rfl rfl Try.func8 (by kernel_rfl) rfl #[.int .i64 t142] rfl (by (try simp only [List.map_toArray, List.map_cons, List.map_nil]); first | done | rfl | (simp only [List.length_drop, List.length_take]; rfl)) ?_; (with_reducible refine (undercroftlaw06_num.calls t142 t145 _ A14.out).mono ?_); rintro e w' ⟨rfl, ⟨nd, rfl⟩⟩; refine ⟨_, rfl, ?_⟩))
                    go_meet
                    case rel => exact ⟨_, (true), (by first | rfl | (simp; done) | (simp [*]; done)), H', ⟨by have := HJ4.out; have := HK2.out; first | omega | exact Nat.le_refl _⟩, ⟨by (with_reducible repeat (first | apply Kd.R_alloc | apply Kd.R_drewN | apply Kd.R_drew)); exact HO144.out⟩, ⟨by repeat (first | (with_reducible first | exact HB.out | apply below_alloc | apply pw_below_drewN | apply below_drew1) | exact HB.out)⟩⟩
                case rest =>
                  clear HC12
                  try clear c1
                  try clear p2
                  try clear c3
                  try clear c4
                  try clear c6
                  try clear p6
                  try clear c7
                  try clear c8
                  try clear c8b0
                  try clear c8b1
                  try clear c9
                  try clear c10
                  try clear c10b0
                  try clear c15
                  try clear c15b0
                  try clear c15b1
                  try clear c16
                  try clear c16b0
                  try clear c16b1
                  try clear p2
                  try clear p6
                  obtain ⟨kq, x53_11, rfl, HA, HJ11, HO_10, HB⟩ := hcut
                  cases kq with
                  | zero => exact absurd HA.out (by simp [undercroftlaw06_BlockmapBeside.j2])
                  | succ kj11 =>
                    have H := HA.out
                    clear HA
                    simp only [undercroftlaw06_BlockmapBeside.j2] at H
                    by_cases c19 : x53_11 = true
                    · subst c19
                      have H1 : (some false) = some r := by rw [if_pos rfl] at H; exact H
                      clear H
                      have H := H1
                      clear H1
                      obtain rfl := Option.some.inj H
                      go_wp2
                      go_ret
                      exact ⟨by first | rfl | (simp [errW_none, errW_some] <;> rfl) | (simp [*, errW_none, errW_some] <;> rfl), by repeat (first | (with_reducible first | exact HB.out | apply below_alloc | apply pw_below_drewN | apply below_drew1) | exact HB.out)⟩
                    · replace c19 := Bool.eq_false_iff.mpr c19
                      subst c19
                      have H1 : (if (t141.length : Int) = 2 then (undercroftlaw06_BlockmapBeside.j3 kj11 t137 t138 x6_2 x7_2 x8_2 x9_2 t141 (!x6_2)) else (undercroftlaw06_BlockmapBeside.j3 kj11 t137 t138 x6_2 x7_2 x8_2 x9_2 t141 false)) = some r := by rw [if_neg (show ¬ (false = true) by decide)] at H; exact H
                      clear H
                      have H := H1
                      clear H1
                      have HC20 := Aside0.mk H
                      clear H
                      go_upto_region 14 with (fail)
                      go_cut [60] (fun v60 wc => ∃ (kq : Nat) (x60_19 : Bool), v60 = .bool x60_19 ∧ Aside0 (undercroftlaw06_BlockmapBeside.j3 kq t137 t138 x6_2 x7_2 x8_2 x9_2 t141 x60_19 = some r) ∧ Aside0 (kq ≤ kj11) ∧ Aside0 (Kd.R (Kd.int .i64) 3 wc w.heap.size (fun _ => True) v143 t141) ∧ Aside0 (Below w.heap.size w wc))
                      case first =>
                        have H := HC20.out
                        clear HC20
                        by_cases c21 : (t141.length : Int) = 2
                        · rw [if_pos c21] at H
                          have c21b0 : ((t141.length : Int) == 2) = true := beq_iff_eq.mpr c21
                          have c21b1 : ((t141.length : Int) != 2) = false := bne_eq_false_iff_eq.mpr c21
                          clear c21
                          (first | rw [c21b0] | (simp only [i64_w, i32_w]; rw [c21b0]) | skip)
                          have H' := Aside0.mk H
                          clear H
                          obtain ⟨Ao22, co22, eo22⟩ := Kd.R_slice HO_10.out
                          subst eo22
                          go_wp2
                          go_meet
                          case rel => exact ⟨_, (!x6_2), (by first | rfl | (simp; done) | (simp [*]; done)), H', ⟨by have := HJ4.out; have := HK2.out; have := HJ11.out; first | omega | exact Nat.le_refl _⟩, ⟨by (with_reducible repeat (first | apply Kd.R_alloc | apply Kd.R_drewN | apply Kd.R_drew)); exact HO_10.out⟩, ⟨by repeat (first | (with_reducible first | exact HB.out | apply below_alloc | apply pw_below_drewN | apply below_drew1) | exact HB.out)⟩⟩
                        · rw [if_neg c21] at H
                          have c21b0 : ((t141.length : Int) == 2) = false := beq_eq_false_iff_ne.mpr c21
                          have c21b1 : ((t141.length : Int) != 2) = true := bne_iff_ne.mpr c21
                          (first | rw [c21b0] | (simp only [i64_w, i32_w]; rw [c21b0]) | skip)
                          have H' := Aside0.mk H
                          clear H
                          obtain ⟨Ao23, co23, eo23⟩ := Kd.R_slice HO_10.out
                          subst eo23
                          go_wp2
                          go_meet
                          case rel => exact ⟨_, (false), (by first | rfl | (simp; done) | (simp [*]; done)), H', ⟨by have := HJ4.out; have := HK2.out; have := HJ11.out; first | omega | exact Nat.le_refl _⟩, ⟨by (with_reducible repeat (first | apply Kd.R_alloc | apply Kd.R_drewN | apply Kd.R_drew)); exact HO_10.out⟩, ⟨by repeat (first | (with_reducible first | exact HB.out | apply below_alloc | apply pw_below_drewN | apply below_drew1) | exact HB.out)⟩⟩
                      case rest =>
                        clear HC20
                        try clear c1
                        try clear c2
                        try clear p2
                        try clear c3
                        try clear c4
                        try clear c6
                        try clear p6
                        try clear c7
                        try clear c8
                        try clear c8b0
                        try clear c8b1
                        try clear c9
                        try clear c10
                        try clear c10b0
                        try clear c15
                        try clear c15b0
                        try clear c15b1
                        try clear c16
                        try clear c16b0
                        try clear c16b1
                        try clear c19
                        try clear c21
                        try clear c21b0
                        try clear c21b1
                        try clear p2
                        try clear p6
                        obtain ⟨kq, x60_19, rfl, HA, HJ19, HO_10, HB⟩ := hcut
                        cases kq with
                        | zero => exact absurd HA.out (by simp [undercroftlaw06_BlockmapBeside.j3])
                        | succ kj19 =>
                          have H := HA.out
                          clear HA
                          simp only [undercroftlaw06_BlockmapBeside.j3] at H
                          have HC24 := Aside0.mk H
                          clear H
                          go_upto_if 60 with (fail)
                          go_cut [6, 8] (fun v6 v8 wc => ∃ (kq : Nat) (x6_23 : Bool) (x8_23 : Int), v6 = .bool x6_23 ∧ v8 = .int .i64 x8_23 ∧ Aside0 (undercroftlaw06_BlockmapBeside.j4 kq t137 t138 x6_23 x7_2 x8_23 x9_2 t141 = some r) ∧ Aside0 (kq ≤ kj19) ∧ Aside0 (Kd.R (Kd.int .i64) 3 wc w.heap.size (fun _ => True) v143 t141) ∧ Aside0 (Below w.heap.size w wc))
                          case first =>
                            have H := HC24.out
                            clear HC24
                            by_cases c25 : x60_19 = true
                            · subst c25
                              have H1 : (undercroftlaw06_BlockmapBeside.j4 kj19 t137 t138 true x7_2 (wrap64 (x8_2 + 1)) x9_2 t141) = some r := by rw [if_pos rfl] at H; exact H
                              clear H
                              have H := H1
                              clear H1
                              have H' := Aside0.mk H
                              clear H
                              go_wp2
                              go_meet
                              case rel => exact ⟨_, (true), (wrap64 (x8_2 + 1)), (by first | rfl | (simp; done) | (simp [*]; done)), (by first | rfl | (simp; done) | (simp [*]; done)), H', ⟨by have := HJ4.out; have := HK2.out; have := HJ11.out; have := HJ19.out; first | omega | exact Nat.le_refl _⟩, ⟨by (with_reducible repeat (first | apply Kd.R_alloc | apply Kd.R_drewN | apply Kd.R_drew)); exact HO_10.out⟩, ⟨by repeat (first | (with_reducible first | exact HB.out | apply below_alloc | apply pw_below_drewN | apply below_drew1) | exact HB.out)⟩⟩
                            · replace c25 := Bool.eq_false_iff.mpr c25
                              subst c25
                              have H1 : (undercroftlaw06_BlockmapBeside.j4 kj19 t137 t138 x6_2 x7_2 x8_2 x9_2 t141) = some r := by rw [if_neg (show ¬ (false = true) by decide)] at H; exact H
                              clear H
                              have H := H1
                              clear H1
                              have H' := Aside0.mk H
                              clear H
                              go_wp2
                              go_meet
                              case rel => exact ⟨_, (x6_2), (x8_2), (by first | rfl | (simp; done) | (simp [*]; done)), (by first | rfl | (simp; done) | (simp [*]; done)), H', ⟨by have := HJ4.out; have := HK2.out; have := HJ11.out; have := HJ19.out; first | omega | exact Nat.le_refl _⟩, ⟨by (with_reducible repeat (first | apply Kd.R_alloc | apply Kd.R_drewN | apply Kd.R_drew)); exact HO_10.out⟩, ⟨by repeat (first | (with_reducible first | exact HB.out | apply below_alloc | apply pw_below_drewN | apply below_drew1) | exact HB.out)⟩⟩
                          case rest =>
                            clear HC24
                            try clear c1
                            try clear c2
                            try clear p2
                            try clear c3
                            try clear c4
                            try clear c6
                            try clear p6
                            try clear c7
                            try clear c8
                            try clear c8b0
                            try clear c8b1
                            try clear c9
                            try clear c10
                            try clear c10b0
                            try clear c15
                            try clear c15b0
                            try clear c15b1
                            try clear c16
                            try clear c16b0
                            try clear c16b1
                            try clear c19
                            try clear c21
                            try clear c21b0
                            try clear c21b1
                            try clear c25
                            try clear p2
                            try clear p6
                            obtain ⟨kq, x6_23, x8_23, rfl, rfl, HA, HJ23, HO_10, HB⟩ := hcut
                            cases kq with
                            | zero => exact absurd HA.out (by simp [undercroftlaw06_BlockmapBeside.j4])
                            | succ kj23 =>
                              have H := HA.out
                              clear HA
                              simp only [undercroftlaw06_BlockmapBeside.j4] at H
                              have HC26 := Aside0.mk H
                              clear H
                              go_upto_region 17 with (fail)
                              go_cut [72] (fun v72 wc => ∃ (kq : Nat) (x72_25 : Bool), v72 = .bool x72_25 ∧ Aside0 (undercroftlaw06_BlockmapBeside.j5 kq t137 t138 x6_23 x7_2 x8_23 x9_2 t141 x72_25 = some r) ∧ Aside0 (kq ≤ kj23) ∧ Aside0 (Kd.R (Kd.int .i64) 3 wc w.heap.size (fun _ => True) v143 t141) ∧ Aside0 (Below w.heap.size w wc))
                              case first =>
                                have H := HC26.out
                                clear HC26
                                by_cases c27 : (t141.length : Int) = 3
                                · rw [if_pos c27] at H
                                  have c27b0 : ((t141.length : Int) == 3) = true := beq_iff_eq.mpr c27
                                  have c27b1 : ((t141.length : Int) != 3) = false := bne_eq_false_iff_eq.mpr c27
                                  clear c27
                                  (first | rw [c27b0] | (simp only [i64_w, i32_w]; rw [c27b0]) | skip)
                                  by_cases c28 : 1 < (t141.length : Int)
                                  · rw [if_pos c28] at H
                                    have c28b0 : decide (1 < (t141.length : Int)) = true := decide_eq_true c28
                                    have c28b1 : decide (1 < t141.length) = true := decide_eq_true (by omega)
                                    clear c28
                                    have H' := Aside0.mk H
                                    clear H
                                    obtain ⟨Ao29, co29, eo29⟩ := Kd.R_slice HO_10.out
                                    subst eo29
                                    have p146 : 0 ≤ (1 : Int) := (by omega)
                                    have q146 : 1 < (t141.length : Int) := of_decide_eq_true (by first | (with_reducible assumption) | assumption)
                                    obtain ⟨ad146, e146, hx146_0⟩ := Kd.at_int (Kd.R_reads' HO_10.out).2.2 1 p146 q146
                                    cases e146
                                    (try simp only [show (1 : Int).toNat = 1 from rfl, Nat.reduceMul, Nat.reduceEqDiff, Go.Addr.add, ↓reduceIte] at hx146_0)
                                    have qi146 : (1 < t141.length) = True := eq_true (by omega)
                                    (try rw [show ((1 : Int)).toNat = 1 from rfl] at hx146_0)
                                    replace p146 := eq_true p146
                                    replace q146 := eq_true q146
                                    go_wp2
                                    go_meet
                                    case rel => exact ⟨_, (((rd t141 1) != x7_2)), (by first | rfl | (simp; done) | (simp [*]; done)), H', ⟨by have := HJ4.out; have := HK2.out; have := HJ11.out; have := HJ19.out; have := HJ23.out; first | omega | exact Nat.le_refl _⟩, ⟨by (with_reducible repeat (first | apply Kd.R_alloc | apply Kd.R_drewN | apply Kd.R_drew)); exact HO_10.out⟩, ⟨by repeat (first | (with_reducible first | exact HB.out | apply below_alloc | apply pw_below_drewN | apply below_drew1) | exact HB.out)⟩⟩
                                  · rw [if_neg c28] at H
                                    exact absurd H (by simp)
                                · rw [if_neg c27] at H
                                  have c27b0 : ((t141.length : Int) == 3) = false := beq_eq_false_iff_ne.mpr c27
                                  have c27b1 : ((t141.length : Int) != 3) = true := bne_iff_ne.mpr c27
                                  (first | rw [c27b0] | (simp only [i64_w, i32_w]; rw [c27b0]) | skip)
                                  have H' := Aside0.mk H
                                  clear H
                                  obtain ⟨Ao30, co30, eo30⟩ := Kd.R_slice HO_10.out
                                  subst eo30
                                  go_wp2
                                  go_meet
                                  case rel => exact ⟨_, (false), (by first | rfl | (simp; done) | (simp [*]; done)), H', ⟨by have := HJ4.out; have := HK2.out; have := HJ11.out; have := HJ19.out; have := HJ23.out; first | omega | exact Nat.le_refl _⟩, ⟨by (with_reducible repeat (first | apply Kd.R_alloc | apply Kd.R_drewN | apply Kd.R_drew)); exact HO_10.out⟩, ⟨by repeat (first | (with_reducible first | exact HB.out | apply below_alloc | apply pw_below_drewN | apply below_drew1) | exact HB.out)⟩⟩
                              case rest =>
                                clear HC26
                                try clear c1
                                try clear p1
                                try clear q1
                                try clear hx1
                                try clear qi1
                                try clear c2
                                try clear p2
                                try clear c3
                                try clear c4
                                try clear c6
                                try clear p6
                                try clear c7
                                try clear c8
                                try clear c8b0
                                try clear c8b1
                                try clear c9
                                try clear c10
                                try clear c10b0
                                try clear p14
                                try clear q14
                                try clear hx14
                                try clear qi14
                                try clear c15
                                try clear c15b0
                                try clear c15b1
                                try clear c16
                                try clear c16b0
                                try clear c16b1
                                try clear c19
                                try clear c21
                                try clear c21b0
                                try clear c21b1
                                try clear c25
                                try clear c27
                                try clear c27b0
                                try clear c27b1
                                try clear c28
                                try clear c28b0
                                try clear c28b1
                                try clear hx146_0
                                try clear p146
                                try clear p2
                                try clear p6
                                try clear q146
                                obtain ⟨kq, x72_25, rfl, HA, HJ25, HO_10, HB⟩ := hcut
                                cases kq with
                                | zero => exact absurd HA.out (by simp [undercroftlaw06_BlockmapBeside.j5])
                                | succ kj25 =>
                                  have H := HA.out
                                  clear HA
                                  simp only [undercroftlaw06_BlockmapBeside.j5] at H
                                  by_cases c31 : x72_25 = true
                                  · subst c31
                                    have H1 : (if x7_2 < 0 then (if 1 < (t141.length : Int) then (undercroftlaw06_BlockmapBeside.l0 kj25 t137 t138 x6_23 (rd t141 1) (wrap64 ((wrap64 (x8_23 + 1)) + 1)) (wrap64 (x9_2 + 1))) else (none)) else (if 1 < (t141.length : Int) then (undercroftlaw06_BlockmapBeside.l0 kj25 t137 t138 x6_23 (rd t141 1) (wrap64 (x8_23 + 1)) (wrap64 (x9_2 + 1))) else (none))) = some r := by rw [if_pos rfl] at H; exact H
                                    clear H
                                    have H := H1
                                    clear H1
                                    by_cases c32 : x7_2 < 0
                                    · rw [if_pos c32] at H
                                      have c32b0 : decide (x7_2 < 0) = true := decide_eq_true c32
                                      clear c32
                                      by_cases c33 : 1 < (t141.length : Int)
                                      · rw [if_pos c33] at H
                                        have c33b0 : decide (1 < (t141.length : Int)) = true := decide_eq_true c33
                                        have c33b1 : decide (1 < t141.length) = true := decide_eq_true (by omega)
                                        clear c33
                                        have H' := Aside0.mk H
                                        clear H
                                        obtain ⟨Ao34, co34, eo34⟩ := Kd.R_slice HO_10.out
                                        subst eo34
                                        have p147 : 0 ≤ (1 : Int) := (by omega)
                                        have q147 : 1 < (t141.length : Int) := of_decide_eq_true (by first | (with_reducible assumption) | assumption)
                                        obtain ⟨ad147, e147, hx147_0⟩ := Kd.at_int (Kd.R_reads' HO_10.out).2.2 1 p147 q147
                                        cases e147
                                        (try simp only [show (1 : Int).toNat = 1 from rfl, Nat.reduceMul, Nat.reduceEqDiff, Go.Addr.add, ↓reduceIte] at hx147_0)
                                        have qi147 : (1 < t141.length) = True := eq_true (by omega)
                                        (try rw [show ((1 : Int)).toNat = 1 from rfl] at hx147_0)
                                        replace p147 := eq_true p147
                                        replace q147 := eq_true q147
                                        go_wp2
                                        go_roundg kj25
                                        case measure => have := HJ4.out; have := HK2.out; have := HJ11.out; have := HJ19.out; have := HJ23.out; have := HJ25.out; omega
                                        case rel => exact ⟨(x6_23), (rd t141 1), (wrap64 ((wrap64 (x8_23 + 1)) + 1)), (wrap64 (x9_2 + 1)), (by first | rfl | (simp; done) | (simp [*]; done)), (by first | rfl | (simp; done) | (simp [*]; done)), (by first | rfl | (simp; done) | (simp [*]; done)), (by first | rfl | (simp; done) | (simp [*]; done)), H', ⟨by have := HJ4.out; have := HK2.out; have := HJ11.out; have := HJ19.out; have := HJ23.out; have := HJ25.out; omega⟩, ⟨by repeat (first | (with_reducible first | exact HB.out | apply below_alloc | apply pw_below_drewN | apply below_drew1) | exact HB.out)⟩⟩
                                      · rw [if_neg c33] at H
                                        exact absurd H (by simp)
                                    · rw [if_neg c32] at H
                                      have c32b0 : decide (x7_2 < 0) = false := decide_eq_false c32
                                      clear c32
                                      by_cases c35 : 1 < (t141.length : Int)
                                      · rw [if_pos c35] at H
                                        have c35b0 : decide (1 < (t141.length : Int)) = true := decide_eq_true c35
                                        have c35b1 : decide (1 < t141.length) = true := decide_eq_true (by omega)
                                        clear c35
                                        have H' := Aside0.mk H
                                        clear H
                                        obtain ⟨Ao36, co36, eo36⟩ := Kd.R_slice HO_10.out
                                        subst eo36
                                        have p148 : 0 ≤ (1 : Int) := (by omega)
                                        have q148 : 1 < (t141.length : Int) := of_decide_eq_true (by first | (with_reducible assumption) | assumption)
                                        obtain ⟨ad148, e148, hx148_0⟩ := Kd.at_int (Kd.R_reads' HO_10.out).2.2 1 p148 q148
                                        cases e148
                                        (try simp only [show (1 : Int).toNat = 1 from rfl, Nat.reduceMul, Nat.reduceEqDiff, Go.Addr.add, ↓reduceIte] at hx148_0)
                                        have qi148 : (1 < t141.length) = True := eq_true (by omega)
                                        (try rw [show ((1 : Int)).toNat = 1 from rfl] at hx148_0)
                                        replace p148 := eq_true p148
                                        replace q148 := eq_true q148
                                        go_wp2
                                        go_roundg kj25
                                        case measure => have := HJ4.out; have := HK2.out; have := HJ11.out; have := HJ19.out; have := HJ23.out; have := HJ25.out; omega
                                        case rel => exact ⟨(x6_23), (rd t141 1), (wrap64 (x8_23 + 1)), (wrap64 (x9_2 + 1)), (by first | rfl | (simp; done) | (simp [*]; done)), (by first | rfl | (simp; done) | (simp [*]; done)), (by first | rfl | (simp; done) | (simp [*]; done)), (by first | rfl | (simp; done) | (simp [*]; done)), H', ⟨by have := HJ4.out; have := HK2.out; have := HJ11.out; have := HJ19.out; have := HJ23.out; have := HJ25.out; omega⟩, ⟨by repeat (first | (with_reducible first | exact HB.out | apply below_alloc | apply pw_below_drewN | apply below_drew1) | exact HB.out)⟩⟩
                                      · rw [if_neg c35] at H
                                        exact absurd H (by simp)
                                  · replace c31 := Bool.eq_false_iff.mpr c31
                                    subst c31
                                    have H1 : (undercroftlaw06_BlockmapBeside.l0 kj25 t137 t138 x6_23 x7_2 x8_23 (wrap64 (x9_2 + 1))) = some r := by rw [if_neg (show ¬ (false = true) by decide)] at H; exact H
                                    clear H
                                    have H := H1
                                    clear H1
                                    have H' := Aside0.mk H
                                    clear H
                                    go_wp2
                                    go_roundg kj25
                                    case measure => have := HJ4.out; have := HK2.out; have := HJ11.out; have := HJ19.out; have := HJ23.out; have := HJ25.out; omega
                                    case rel => exact ⟨(x6_23), (x7_2), (x8_23), (wrap64 (x9_2 + 1)), (by first | rfl | (simp; done) | (simp [*]; done)), (by first | rfl | (simp; done) | (simp [*]; done)), (by first | rfl | (simp; done) | (simp [*]; done)), (by first | rfl | (simp; done) | (simp [*]; done)), H', ⟨by have := HJ4.out; have := HK2.out; have := HJ11.out; have := HJ19.out; have := HJ23.out; have := HJ25.out; omega⟩, ⟨by repeat (first | (with_reducible first | exact HB.out | apply below_alloc | apply pw_below_drewN | apply below_drew1) | exact HB.out)⟩⟩
              · rw [if_neg c10] at H
                have c10b0 : decide (x9_2 < t137) = false := decide_eq_false c10
                clear c10
                obtain rfl := Option.some.inj H
                go_wp2
                go_ret
                exact ⟨by first | rfl | (simp [errW_none, errW_some] <;> rfl) | (simp [*, errW_none, errW_some] <;> rfl), by repeat (first | (with_reducible first | exact HB.out | apply below_alloc | apply pw_below_drewN | apply below_drew1) | exact HB.out)⟩
  · replace c3 := Bool.eq_false_iff.mpr c3
    subst c3
    have H1 : (some false) = some r := by rw [if_neg (show ¬ (false = true) by decide)] at H; exact H
    clear H
    have H := H1
    clear H1
    obtain rfl := Option.some.inj H
    go_enter Try.func4, Try.ntmps4
    go_wp2_with (first | ((with_reducible refine gate_callee (f := 6) rfl ?_); refine goesL_ (some 12) rfl rfl Try.func6 (by kernel_rfl) rfl #[] rfl (by (try simp only [List.map_toArray, List.map_cons, List.map_nil]); first | done | rfl | (simp only [List.length_drop, List.length_take]; rfl)) ?_; (with_reducible refine (undercroftlaw06_alive.calls k  false _ A2.out).mono ?_); rintro e w37 ⟨rfl, hb⟩; refine ⟨_, rfl, ?_⟩; have n0_ := Aside0.mk (below_step (by repeat (first | (with_reducible first | exact HB.out | apply below_alloc | apply pw_below_drewN | apply below_drew1) | exact HB.out)) hb); clear HB; have HB := n0_; clear n0_; (try clear hb); (try clear hb2); (try clear hk); (try clear hi)))
    go_ret
    exact ⟨by first | rfl | (simp [errW_none, errW_some] <;> rfl) | (simp [*, errW_none, errW_some] <;> rfl), by repeat (first | (with_reducible first | exact HB.out | apply below_alloc | apply pw_below_drewN | apply below_drew1) | exact HB.out)⟩

/-- THE ONE PURE STATEMENT of undercroftlaw06_BlockmapBeside: yours. -/
def undercroftlaw06_BlockmapBeside.Pure : Prop := ∀ (a0 : Int), (Lit.int .i64 a0).wf = true → ∃ k, undercroftlaw06_BlockmapBeside.f k a0 = some true
theorem undercroftlaw06_BlockmapBeside.walk (P : undercroftlaw06_BlockmapBeside.Pure) (a0 : Int) (w : World) (w0 : (Lit.int .i64 a0).wf = true) :
    Calls Try.prog 4 #[.int .i64 a0] w fun e w' => e = .returned (.bool true) ∧ Below w.heap.size w w' := by
  obtain ⟨k, h⟩ := P a0 w0
  refine (undercroftlaw06_BlockmapBeside.calls k a0 true w h).mono ?_
  rintro e w' ⟨rfl, hd⟩
  exact ⟨rfl, hd⟩

end Go.Proofs.YtkilcdcamjmehaaRR.PBlockmapBeside
