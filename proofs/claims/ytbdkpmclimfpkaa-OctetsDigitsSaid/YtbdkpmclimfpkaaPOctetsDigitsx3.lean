-- Written by a program of this session (gen.py).
import Derived.Test.YtbdkpmclimfpkaaPOctetsDigitsx0
import Derived.Test.YtbdkpmclimfpkaaPOctetsDigitsx1
import Derived.Test.YtbdkpmclimfpkaaPOctetsDigitsx2
namespace Go.Proofs.Ytbdkpmclimfpkaa.POctetsDigits
open Go.RowKit Go.Proofs.YtbdkpmclimfpkaaW.PrintWords Go.Proofs.YtbdkpmclimfpkaaW.PrintLast Go.Proofs.YtbdkpmclimfpkaaW.PrintMore
open Go.Proofs.Ytbdkpmclimfpkaa.Own
attribute [local go_sem high] unary_not_u32 unary_not_u64 unary_not_u8
attribute [local go_sem] max2_int min2_int max_two min_two max_three min_three max_four min_four   -- for this text's walks alone
set_option linter.unusedVariables false
set_option linter.unusedSimpArgs false

/-! ### undercroftlaw01_OctetsDigits: function 4 -/
mutual
def undercroftlaw01_OctetsDigits.j0 : Nat → Int → ByteArray → Int → Int → Option (Bool)
  | 0, _, _, _, _ => none
  | k + 1, x0, x3, x4, x5 => if (x3.size : Int) ≤ x4 then (undercroftlaw01_OctetsDigits.j1 k x0 x3 x4 x5 true) else (if x0 < 0 then (if 0 < (x3.size : Int) then (if (bt x3 0) = 45 then (if (x3.size : Int) > (wrap64 (x4 + 1)) then (if 0 ≤ x4 then (if x4 < (x3.size : Int) then (undercroftlaw01_OctetsDigits.j1 k x0 x3 x4 x5 ((bt x3 x4) == 48)) else (none)) else (none)) else (undercroftlaw01_OctetsDigits.j1 k x0 x3 x4 x5 false)) else (undercroftlaw01_OctetsDigits.j1 k x0 x3 x4 x5 true)) else (none)) else (if (x3.size : Int) > (wrap64 (x4 + 1)) then (if 0 ≤ x4 then (if x4 < (x3.size : Int) then (undercroftlaw01_OctetsDigits.j1 k x0 x3 x4 x5 ((bt x3 x4) == 48)) else (none)) else (none)) else (undercroftlaw01_OctetsDigits.j1 k x0 x3 x4 x5 false)))
def undercroftlaw01_OctetsDigits.j1 : Nat → Int → ByteArray → Int → Int → Bool → Option (Bool)
  | 0, _, _, _, _, _ => none
  | k + 1, x0, x3, x4, x5, x38 => if x38 = true then (some false) else (undercroftlaw01_OctetsDigits.l0 k x0 x3 x5 x4)
def undercroftlaw01_OctetsDigits.l0 : Nat → Int → ByteArray → Int → Int → Option (Bool)
  | 0, _, _, _, _ => none
  | k + 1, x0, x3, x5, x6 => if x6 < (x3.size : Int) then (if 0 ≤ x6 then (if (bt x3 x6) < 48 then (some false) else (if (bt x3 x6) > 57 then (some false) else (undercroftlaw01_OctetsDigits.l0 k x0 x3 (IntKind.u64.wrap ((IntKind.u64.wrap (10 * x5)) + (((bt x3 x6) - 48) % 256))) (wrap64 (x6 + 1))))) else (none)) else (if x0 < 0 then (some (x5 == (IntKind.u64.wrap (-(IntKind.u64.wrap (x0)))))) else (if x5 = (IntKind.u64.wrap (x0)) then (if x0 = 0 then (some true) else ((octets_Decimal.f (wrap64 (-x0))).bind fun t121 => (if 1 + x3.size ≤ 9223372036854775807 then (some (t121.toList == ((⟨#[45]⟩ : ByteArray) ++ x3).toList)) else (none)))) else (some false)))
end
def undercroftlaw01_OctetsDigits.f (k : Nat) (a0 : Int) : Option (Bool) := (undercroftlaw01_alive.f k).bind fun t119 => (if t119 = true then ((octets_Decimal.f a0).bind fun t120 => (if a0 < 0 then (undercroftlaw01_OctetsDigits.j0 k a0 t120 1 0) else (undercroftlaw01_OctetsDigits.j0 k a0 t120 0 0))) else (some false))
theorem undercroftlaw01_OctetsDigits.mono_l : ∀ k, (∀ y0 y1 y2 y3, LeO (undercroftlaw01_OctetsDigits.j0 k y0 y1 y2 y3) (undercroftlaw01_OctetsDigits.j0 (k + 1) y0 y1 y2 y3)) ∧ (∀ y0 y1 y2 y3 y4, LeO (undercroftlaw01_OctetsDigits.j1 k y0 y1 y2 y3 y4) (undercroftlaw01_OctetsDigits.j1 (k + 1) y0 y1 y2 y3 y4)) ∧ (∀ y0 y1 y2 y3, LeO (undercroftlaw01_OctetsDigits.l0 k y0 y1 y2 y3) (undercroftlaw01_OctetsDigits.l0 (k + 1) y0 y1 y2 y3))
  | 0 => ⟨fun _ _ _ _ r h => by simp [undercroftlaw01_OctetsDigits.j0] at h, fun _ _ _ _ _ r h => by simp [undercroftlaw01_OctetsDigits.j1] at h, fun _ _ _ _ r h => by simp [undercroftlaw01_OctetsDigits.l0] at h⟩
  | k + 1 => by
    obtain ⟨ih0, ih1, ih2⟩ := undercroftlaw01_OctetsDigits.mono_l k
    refine ⟨?_, ?_, ?_⟩
    · intro y0 y1 y2 y3
      unfold undercroftlaw01_OctetsDigits.j0
      repeat' first
      | (with_reducible exact ih0 _ _ _ _)
      | (with_reducible exact ih1 _ _ _ _ _)
      | (with_reducible exact ih2 _ _ _ _)
      | (with_reducible exact undercroftlaw01_alive.mono _)
      | (with_reducible exact LeO.refl _)
      | (with_reducible exact LeO.none _)
      | (with_reducible refine LeO.ite ?_ ?_)
      | (with_reducible refine LeO.bind ?_ (fun _ => ?_))
      | exact ih0 _ _ _ _
      | exact ih1 _ _ _ _ _
      | exact ih2 _ _ _ _
      | exact undercroftlaw01_alive.mono _
      | exact LeO.none _
      | refine LeO.ite ?_ ?_
      | refine LeO.bind ?_ (fun _ => ?_)
    · intro y0 y1 y2 y3 y4
      unfold undercroftlaw01_OctetsDigits.j1
      repeat' first
      | (with_reducible exact ih0 _ _ _ _)
      | (with_reducible exact ih1 _ _ _ _ _)
      | (with_reducible exact ih2 _ _ _ _)
      | (with_reducible exact undercroftlaw01_alive.mono _)
      | (with_reducible exact LeO.refl _)
      | (with_reducible exact LeO.none _)
      | (with_reducible refine LeO.ite ?_ ?_)
      | (with_reducible refine LeO.bind ?_ (fun _ => ?_))
      | exact ih0 _ _ _ _
      | exact ih1 _ _ _ _ _
      | exact ih2 _ _ _ _
      | exact undercroftlaw01_alive.mono _
      | exact LeO.none _
      | refine LeO.ite ?_ ?_
      | refine LeO.bind ?_ (fun _ => ?_)
    · intro y0 y1 y2 y3
      unfold undercroftlaw01_OctetsDigits.l0
      repeat' first
      | (with_reducible exact ih0 _ _ _ _)
      | (with_reducible exact ih1 _ _ _ _ _)
      | (with_reducible exact ih2 _ _ _ _)
      | (with_reducible exact undercroftlaw01_alive.mono _)
      | (with_reducible exact LeO.refl _)
      | (with_reducible exact LeO.none _)
      | (with_reducible refine LeO.ite ?_ ?_)
      | (with_reducible refine LeO.bind ?_ (fun _ => ?_))
      | exact ih0 _ _ _ _
      | exact ih1 _ _ _ _ _
      | exact ih2 _ _ _ _
      | exact undercroftlaw01_alive.mono _
      | exact LeO.none _
      | refine LeO.ite ?_ ?_
      | refine LeO.bind ?_ (fun _ => ?_)
theorem undercroftlaw01_OctetsDigits.mono : ∀ a0 k, LeO (undercroftlaw01_OctetsDigits.f k a0) (undercroftlaw01_OctetsDigits.f (k + 1) a0) := by
  intro a0 k
  obtain ⟨ih0, ih1, ih2⟩ := undercroftlaw01_OctetsDigits.mono_l k
  unfold undercroftlaw01_OctetsDigits.f
  repeat' first
      | (with_reducible exact ih0 _ _ _ _)
      | (with_reducible exact ih1 _ _ _ _ _)
      | (with_reducible exact ih2 _ _ _ _)
      | (with_reducible exact undercroftlaw01_alive.mono _)
      | (with_reducible exact LeO.refl _)
      | (with_reducible exact LeO.none _)
      | (with_reducible refine LeO.ite ?_ ?_)
      | (with_reducible refine LeO.bind ?_ (fun _ => ?_))
      | exact ih0 _ _ _ _
      | exact ih1 _ _ _ _ _
      | exact ih2 _ _ _ _
      | exact undercroftlaw01_alive.mono _
      | exact LeO.none _
      | refine LeO.ite ?_ ?_
      | refine LeO.bind ?_ (fun _ => ?_)
set_option maxHeartbeats 8000000 in
set_option maxRecDepth 100000 in
theorem undercroftlaw01_OctetsDigits.calls (k : Nat) (a0 : Int) (r : Bool) (w : World) (h : undercroftlaw01_OctetsDigits.f k a0 = some r) :
    Calls Try.prog 4 #[.int .i64 a0] w fun e w' => e = .returned (.bool r) ∧ Below w.heap.size w w' := by
  have HB := Aside0.mk (Below.refl w.heap.size w)
  have H : ((undercroftlaw01_alive.f k).bind fun t119 => (if t119 = true then ((octets_Decimal.f a0).bind fun t120 => (if a0 < 0 then (undercroftlaw01_OctetsDigits.j0 k a0 t120 1 0) else (undercroftlaw01_OctetsDigits.j0 k a0 t120 0 0))) else (some false))) = some r := h
  clear h
  replace H := Option.bind_eq_some_iff.mp H
  obtain ⟨t119, A20, H⟩ := H
  replace H : (if t119 = true then ((octets_Decimal.f a0).bind fun t120 => (if a0 < 0 then (undercroftlaw01_OctetsDigits.j0 k a0 t120 1 0) else (undercroftlaw01_OctetsDigits.j0 k a0 t120 0 0))) else (some false)) = some r := H
  have A2 := Aside0.mk A20
  clear A20
  by_cases c3 : t119 = true
  · subst c3
    have H1 : ((octets_Decimal.f a0).bind fun t120 => (if a0 < 0 then (undercroftlaw01_OctetsDigits.j0 k a0 t120 1 0) else (undercroftlaw01_OctetsDigits.j0 k a0 t120 0 0))) = some r := by rw [if_pos rfl] at H; exact H
    clear H
    have H := H1
    clear H1
    replace H := Option.bind_eq_some_iff.mp H
    obtain ⟨t120, A40, H⟩ := H
    replace H : (if a0 < 0 then (undercroftlaw01_OctetsDigits.j0 k a0 t120 1 0) else (undercroftlaw01_OctetsDigits.j0 k a0 t120 0 0)) = some r := H
    have A4 := Aside0.mk A40
    clear A40
    have HC5 := Aside0.mk H
    clear H
    go_enter Try.func4, Try.ntmps4
    go_upto_if 12 with (first | ((with_reducible refine gate_callee (f := 7) rfl ?_); refine goesL_ (some 7) rfl rfl Try.func7 (by kernel_rfl) rfl #[] rfl (by (try simp only [List.map_toArray, List.map_cons, List.map_nil]); first | done | rfl | (simp only [List.length_drop, List.length_take]; rfl)) ?_; (with_reducible refine (undercroftlaw01_alive.calls k  true _ A2.out).mono ?_); rintro e w6 ⟨rfl, hb⟩; refine ⟨_, rfl, ?_⟩; have n0_ := Aside0.mk (below_step (by repeat (first | (with_reducible first | exact HB.out | apply below_alloc | apply pw_below_drewN | apply below_drew1) | exact HB.out)) hb); clear HB; have HB := n0_; clear n0_; (try clear hb); (try clear hb2); (try clear hk); (try clear hi)) | ((with_reducible refine gate_callee (f := 10) rfl ?_); refine goesL_ (some 10) rfl rfl Try.func10 (by kernel_rfl) rfl #[.int .i64 a0] rfl (by (try simp only [List.map_toArray, List.map_cons, List.map_nil]); first | done | rfl | (simp only [List.length_drop, List.length_take]; rfl)) ?_; (with_reducible refine (octets_Decimal.calls a0 t120 _ A4.out).mono ?_); rintro e w7 ⟨rfl, hb⟩; refine ⟨_, rfl, ?_⟩; have n0_ := Aside0.mk (below_step (by repeat (first | (with_reducible first | exact HB.out | apply below_alloc | apply pw_below_drewN | apply below_drew1) | exact HB.out)) hb); clear HB; have HB := n0_; clear n0_; (try clear hb); (try clear hb2); (try clear hk); (try clear hi)))
    (try simp only [Act.put, List.setIfInBounds_toArray, List.set_cons_zero, List.set_cons_succ])
    go_cut [4] (fun v4 wc => ∃ (kq : Nat) (x4_4 : Int), v4 = .int .i64 x4_4 ∧ Aside0 (undercroftlaw01_OctetsDigits.j0 kq a0 t120 x4_4 0 = some r) ∧ Aside0 (kq ≤ k) ∧ Aside0 (Below w.heap.size w wc))
    case first =>
      have H := HC5.out
      clear HC5
      by_cases c8 : a0 < 0
      · rw [if_pos c8] at H
        have c8b0 : decide (a0 < 0) = true := decide_eq_true c8
        clear c8
        (first | rw [c8b0] | (simp only [i64_w, i32_w]; rw [c8b0]) | skip)
        have H' := Aside0.mk H
        clear H
        go_wp2
        go_meet
        case rel => exact ⟨_, (1), (by first | rfl | (simp; done) | (simp [*]; done)), H', ⟨by first | omega | exact Nat.le_refl _⟩, ⟨by repeat (first | (with_reducible first | exact HB.out | apply below_alloc | apply pw_below_drewN | apply below_drew1) | exact HB.out)⟩⟩
      · rw [if_neg c8] at H
        have c8b0 : decide (a0 < 0) = false := decide_eq_false c8
        clear c8
        (first | rw [c8b0] | (simp only [i64_w, i32_w]; rw [c8b0]) | skip)
        have H' := Aside0.mk H
        clear H
        go_wp2
        go_meet
        case rel => exact ⟨_, (0), (by first | rfl | (simp; done) | (simp [*]; done)), H', ⟨by first | omega | exact Nat.le_refl _⟩, ⟨by repeat (first | (with_reducible first | exact HB.out | apply below_alloc | apply pw_below_drewN | apply below_drew1) | exact HB.out)⟩⟩
    case rest =>
      clear HC5
      try clear c1
      try clear p2
      try clear c3
      try clear c4
      try clear c7
      try clear c8
      try clear c8b0
      obtain ⟨kq, x4_4, rfl, HA, HJ4, HB⟩ := hcut
      cases kq with
      | zero => exact absurd HA.out (by simp [undercroftlaw01_OctetsDigits.j0])
      | succ kj4 =>
        have H := HA.out
        clear HA
        simp only [undercroftlaw01_OctetsDigits.j0] at H
        have HC9 := Aside0.mk H
        clear H
        go_upto_region 7 with (fail)
        go_cut [38] (fun v38 wc => ∃ (kq : Nat) (x38_8 : Bool), v38 = .bool x38_8 ∧ Aside0 (undercroftlaw01_OctetsDigits.j1 kq a0 t120 x4_4 0 x38_8 = some r) ∧ Aside0 (kq ≤ kj4) ∧ Aside0 (Below w.heap.size w wc))
        case first =>
          have H := HC9.out
          clear HC9
          by_cases c10 : (t120.size : Int) ≤ x4_4
          · rw [if_pos c10] at H
            have c10b0 : decide ((t120.size : Int) ≤ x4_4) = true := decide_eq_true c10
            clear c10
            (first | rw [c10b0] | (simp only [i64_w, i32_w]; rw [c10b0]) | skip)
            have H' := Aside0.mk H
            clear H
            go_wp2
            go_meet
            case rel => exact ⟨_, (true), (by first | rfl | (simp; done) | (simp [*]; done)), H', ⟨by have := HJ4.out; first | omega | exact Nat.le_refl _⟩, ⟨by repeat (first | (with_reducible first | exact HB.out | apply below_alloc | apply pw_below_drewN | apply below_drew1) | exact HB.out)⟩⟩
          · rw [if_neg c10] at H
            have c10b0 : decide ((t120.size : Int) ≤ x4_4) = false := decide_eq_false c10
            clear c10
            (first | rw [c10b0] | (simp only [i64_w, i32_w]; rw [c10b0]) | skip)
            by_cases c11 : a0 < 0
            · rw [if_pos c11] at H
              have c11b0 : decide (a0 < 0) = true := decide_eq_true c11
              clear c11
              by_cases c12 : 0 < (t120.size : Int)
              · rw [if_pos c12] at H
                have c12b0 : decide (0 < (t120.size : Int)) = true := decide_eq_true c12
                have c12b1 : decide (0 < t120.size) = true := decide_eq_true (by omega)
                clear c12
                by_cases c14 : (bt t120 0) = 45
                · rw [if_pos c14] at H
                  have c14b0 : ((bt t120 0) == 45) = true := beq_iff_eq.mpr c14
                  have c14b1 : ((bt t120 0) != 45) = false := bne_eq_false_iff_eq.mpr c14
                  clear c14
                  by_cases c15 : (t120.size : Int) > (wrap64 (x4_4 + 1))
                  · rw [if_pos c15] at H
                    have c15b0 : decide ((wrap64 (x4_4 + 1)) < (t120.size : Int)) = true := decide_eq_true c15
                    clear c15
                    by_cases c16 : 0 ≤ x4_4
                    · rw [if_pos c16] at H
                      have c16b0 : decide (0 ≤ x4_4) = true := decide_eq_true c16
                      clear c16
                      by_cases c17 : x4_4 < (t120.size : Int)
                      · rw [if_pos c17] at H
                        have c17b0 : decide (x4_4 < (t120.size : Int)) = true := decide_eq_true c17
                        clear c17
                        have H' := Aside0.mk H
                        clear H
                        have p13 : 0 ≤ (0 : Int) := (by omega)
                        have q13 : 0 < t120.size := (by have : (0 : Int) < (t120.size : Int) := of_decide_eq_true (by first | (with_reducible assumption) | assumption); omega)
                        have hx13 : ∀ h : 0 < t120.size, ((t120[0]'h).toNat : Int) = bt t120 0 := bt_at t120 0
                        clear p13
                        have qi13 : (0 < (t120.size : Int)) = True := eq_true (of_decide_eq_true (by first | (with_reducible assumption) | assumption))
                        replace q13 := eq_true q13
                        have p18 : 0 ≤ (x4_4 : Int) := of_decide_eq_true (by first | (with_reducible assumption) | assumption)
                        have q18 : x4_4 < (t120.size : Int) := of_decide_eq_true (by first | (with_reducible assumption) | assumption)
                        have hx18 := bt_at t120 x4_4
                        replace p18 := eq_true p18
                        replace q18 := eq_true q18
                        go_wp2
                        go_meet
                        case rel => exact ⟨_, (((bt t120 x4_4) == 48)), (by first | rfl | (simp; done) | (simp [*]; done)), H', ⟨by have := HJ4.out; first | omega | exact Nat.le_refl _⟩, ⟨by repeat (first | (with_reducible first | exact HB.out | apply below_alloc | apply pw_below_drewN | apply below_drew1) | exact HB.out)⟩⟩
                      · rw [if_neg c17] at H
                        exact absurd H (by simp)
                    · rw [if_neg c16] at H
                      exact absurd H (by simp)
                  · rw [if_neg c15] at H
                    have c15b0 : decide ((wrap64 (x4_4 + 1)) < (t120.size : Int)) = false := decide_eq_false c15
                    clear c15
                    have H' := Aside0.mk H
                    clear H
                    have p13 : 0 ≤ (0 : Int) := (by omega)
                    have q13 : 0 < t120.size := (by have : (0 : Int) < (t120.size : Int) := of_decide_eq_true (by first | (with_reducible assumption) | assumption); omega)
                    have hx13 : ∀ h : 0 < t120.size, ((t120[0]'h).toNat : Int) = bt t120 0 := bt_at t120 0
                    clear p13
                    have qi13 : (0 < (t120.size : Int)) = True := eq_true (of_decide_eq_true (by first | (with_reducible assumption) | assumption))
                    replace q13 := eq_true q13
                    go_wp2
                    go_meet
                    case rel => exact ⟨_, (false), (by first | rfl | (simp; done) | (simp [*]; done)), H', ⟨by have := HJ4.out; first | omega | exact Nat.le_refl _⟩, ⟨by repeat (first | (with_reducible first | exact HB.out | apply below_alloc | apply pw_below_drewN | apply below_drew1) | exact HB.out)⟩⟩
                · rw [if_neg c14] at H
                  have c14b0 : ((bt t120 0) == 45) = false := beq_eq_false_iff_ne.mpr c14
                  have c14b1 : ((bt t120 0) != 45) = true := bne_iff_ne.mpr c14
                  have H' := Aside0.mk H
                  clear H
                  have p13 : 0 ≤ (0 : Int) := (by omega)
                  have q13 : 0 < t120.size := (by have : (0 : Int) < (t120.size : Int) := of_decide_eq_true (by first | (with_reducible assumption) | assumption); omega)
                  have hx13 : ∀ h : 0 < t120.size, ((t120[0]'h).toNat : Int) = bt t120 0 := bt_at t120 0
                  clear p13
                  have qi13 : (0 < (t120.size : Int)) = True := eq_true (of_decide_eq_true (by first | (with_reducible assumption) | assumption))
                  replace q13 := eq_true q13
                  go_wp2
                  go_meet
                  case rel => exact ⟨_, (true), (by first | rfl | (simp; done) | (simp [*]; done)), H', ⟨by have := HJ4.out; first | omega | exact Nat.le_refl _⟩, ⟨by repeat (first | (with_reducible first | exact HB.out | apply below_alloc | apply pw_below_drewN | apply below_drew1) | exact HB.out)⟩⟩
              · rw [if_neg c12] at H
                exact absurd H (by simp)
            · rw [if_neg c11] at H
              have c11b0 : decide (a0 < 0) = false := decide_eq_false c11
              clear c11
              by_cases c19 : (t120.size : Int) > (wrap64 (x4_4 + 1))
              · rw [if_pos c19] at H
                have c19b0 : decide ((wrap64 (x4_4 + 1)) < (t120.size : Int)) = true := decide_eq_true c19
                clear c19
                by_cases c20 : 0 ≤ x4_4
                · rw [if_pos c20] at H
                  have c20b0 : decide (0 ≤ x4_4) = true := decide_eq_true c20
                  clear c20
                  by_cases c21 : x4_4 < (t120.size : Int)
                  · rw [if_pos c21] at H
                    have c21b0 : decide (x4_4 < (t120.size : Int)) = true := decide_eq_true c21
                    clear c21
                    have H' := Aside0.mk H
                    clear H
                    have p22 : 0 ≤ (x4_4 : Int) := of_decide_eq_true (by first | (with_reducible assumption) | assumption)
                    have q22 : x4_4 < (t120.size : Int) := of_decide_eq_true (by first | (with_reducible assumption) | assumption)
                    have hx22 := bt_at t120 x4_4
                    replace p22 := eq_true p22
                    replace q22 := eq_true q22
                    go_wp2
                    go_meet
                    case rel => exact ⟨_, (((bt t120 x4_4) == 48)), (by first | rfl | (simp; done) | (simp [*]; done)), H', ⟨by have := HJ4.out; first | omega | exact Nat.le_refl _⟩, ⟨by repeat (first | (with_reducible first | exact HB.out | apply below_alloc | apply pw_below_drewN | apply below_drew1) | exact HB.out)⟩⟩
                  · rw [if_neg c21] at H
                    exact absurd H (by simp)
                · rw [if_neg c20] at H
                  exact absurd H (by simp)
              · rw [if_neg c19] at H
                have c19b0 : decide ((wrap64 (x4_4 + 1)) < (t120.size : Int)) = false := decide_eq_false c19
                clear c19
                have H' := Aside0.mk H
                clear H
                go_wp2
                go_meet
                case rel => exact ⟨_, (false), (by first | rfl | (simp; done) | (simp [*]; done)), H', ⟨by have := HJ4.out; first | omega | exact Nat.le_refl _⟩, ⟨by repeat (first | (with_reducible first | exact HB.out | apply below_alloc | apply pw_below_drewN | apply below_drew1) | exact HB.out)⟩⟩
        case rest =>
          clear HC9
          try clear c1
          try clear p1
          try clear q1
          try clear hx1
          try clear qi1
          try clear c2
          try clear p2
          try clear q2
          try clear hx2
          try clear c3
          try clear c4
          try clear p6
          try clear c7
          try clear c8
          try clear c8b0
          try clear c10
          try clear c10b0
          try clear c11
          try clear c11b0
          try clear c12
          try clear c12b0
          try clear c12b1
          try clear p13
          try clear q13
          try clear hx13
          try clear qi13
          try clear c14
          try clear c14b0
          try clear c14b1
          try clear c15
          try clear c15b0
          try clear c16
          try clear c16b0
          try clear c17
          try clear c17b0
          try clear p18
          try clear q18
          try clear hx18
          try clear c19
          try clear c19b0
          try clear c20
          try clear c20b0
          try clear c21
          try clear c21b0
          try clear p22
          try clear q22
          try clear hx22
          try clear p13
          try clear p18
          try clear p2
          try clear p22
          try clear q13
          try clear q18
          try clear q22
          obtain ⟨kq, x38_8, rfl, HA, HJ8, HB⟩ := hcut
          cases kq with
          | zero => exact absurd HA.out (by simp [undercroftlaw01_OctetsDigits.j1])
          | succ kj8 =>
            have H := HA.out
            clear HA
            simp only [undercroftlaw01_OctetsDigits.j1] at H
            by_cases c23 : x38_8 = true
            · subst c23
              have H1 : (some false) = some r := by rw [if_pos rfl] at H; exact H
              clear H
              have H := H1
              clear H1
              obtain rfl := Option.some.inj H
              go_wp2
              go_ret
              exact ⟨by first | rfl | (simp [errW_none, errW_some] <;> rfl) | (simp [*, errW_none, errW_some] <;> rfl), by repeat (first | (with_reducible first | exact HB.out | apply below_alloc | apply pw_below_drewN | apply below_drew1) | exact HB.out)⟩
            · replace c23 := Bool.eq_false_iff.mpr c23
              subst c23
              have H1 : (undercroftlaw01_OctetsDigits.l0 kj8 a0 t120 0 x4_4) = some r := by rw [if_neg (show ¬ (false = true) by decide)] at H; exact H
              clear H
              have H := H1
              clear H1
              have H' := Aside0.mk H
              clear H
              go_wp2
              go_loopg [5, 6] kj8 (fun kq v5 v6 w' => ∃ (x5_3 : Int) (x6_3 : Int), v5 = .int .u64 x5_3 ∧ v6 = .int .i64 x6_3 ∧ Aside0 (undercroftlaw01_OctetsDigits.l0 kq a0 t120 x5_3 x6_3 = some r) ∧ Aside0 (kq ≤ kj8) ∧ Aside0 (Below w.heap.size w w'))
              case atStart => exact ⟨(0), (x4_4), (by first | rfl | (simp; done) | (simp [*]; done)), (by first | rfl | (simp; done) | (simp [*]; done)), H', ⟨Nat.le_refl _⟩, ⟨by repeat (first | (with_reducible first | exact HB.out | apply below_alloc | apply pw_below_drewN | apply below_drew1) | exact HB.out)⟩⟩
              case round =>
                clear H'
                try clear c1
                try clear p1
                try clear q1
                try clear hx1
                try clear qi1
                try clear c2
                try clear p2
                try clear q2
                try clear hx2
                try clear c3
                try clear c4
                try clear p6
                try clear c7
                try clear c8
                try clear c8b0
                try clear c10
                try clear c10b0
                try clear c11
                try clear c11b0
                try clear c12
                try clear c12b0
                try clear c12b1
                try clear p13
                try clear q13
                try clear hx13
                try clear qi13
                try clear c14
                try clear c14b0
                try clear c14b1
                try clear c15
                try clear c15b0
                try clear c16
                try clear c16b0
                try clear c17
                try clear c17b0
                try clear p18
                try clear q18
                try clear hx18
                try clear c19
                try clear c19b0
                try clear c20
                try clear c20b0
                try clear c21
                try clear c21b0
                try clear p22
                try clear q22
                try clear hx22
                try clear c23
                try clear p1
                try clear p13
                try clear p18
                try clear p2
                try clear p22
                try clear p6
                try clear q1
                try clear q13
                try clear q18
                try clear q2
                try clear q22
                obtain ⟨x5_3, x6_3, rfl, rfl, HA, HK3, HB⟩ := hrel
                cases gk with
                | zero => exact absurd HA.out (by simp [undercroftlaw01_OctetsDigits.l0])
                | succ k3 =>
                  have H := HA.out
                  clear HA
                  simp only [undercroftlaw01_OctetsDigits.l0] at H
                  by_cases c24 : x6_3 < (t120.size : Int)
                  · rw [if_pos c24] at H
                    have c24b0 : decide (x6_3 < (t120.size : Int)) = true := decide_eq_true c24
                    clear c24
                    by_cases c25 : 0 ≤ x6_3
                    · rw [if_pos c25] at H
                      have c25b0 : decide (0 ≤ x6_3) = true := decide_eq_true c25
                      clear c25
                      by_cases c27 : (bt t120 x6_3) < 48
                      · rw [if_pos c27] at H
                        have c27b0 : decide ((bt t120 x6_3) < 48) = true := decide_eq_true c27
                        clear c27
                        obtain rfl := Option.some.inj H
                        have p26 : 0 ≤ (x6_3 : Int) := of_decide_eq_true (by first | (with_reducible assumption) | assumption)
                        have q26 : x6_3 < (t120.size : Int) := of_decide_eq_true (by first | (with_reducible assumption) | assumption)
                        have hx26 := bt_at t120 x6_3
                        replace p26 := eq_true p26
                        replace q26 := eq_true q26
                        go_wp2
                        go_ret
                        exact ⟨by first | rfl | (simp [errW_none, errW_some] <;> rfl) | (simp [*, errW_none, errW_some] <;> rfl), by repeat (first | (with_reducible first | exact HB.out | apply below_alloc | apply pw_below_drewN | apply below_drew1) | exact HB.out)⟩
                      · rw [if_neg c27] at H
                        have c27b0 : decide ((bt t120 x6_3) < 48) = false := decide_eq_false c27
                        clear c27
                        by_cases c29 : (bt t120 x6_3) > 57
                        · rw [if_pos c29] at H
                          have c29b0 : decide (57 < (bt t120 x6_3)) = true := decide_eq_true c29
                          clear c29
                          obtain rfl := Option.some.inj H
                          have p26 : 0 ≤ (x6_3 : Int) := of_decide_eq_true (by first | (with_reducible assumption) | assumption)
                          have q26 : x6_3 < (t120.size : Int) := of_decide_eq_true (by first | (with_reducible assumption) | assumption)
                          have hx26 := bt_at t120 x6_3
                          replace p26 := eq_true p26
                          replace q26 := eq_true q26
                          have p28 : 0 ≤ (x6_3 : Int) := of_decide_eq_true (by first | (with_reducible assumption) | assumption)
                          have q28 : x6_3 < (t120.size : Int) := of_decide_eq_true (by first | (with_reducible assumption) | assumption)
                          have hx28 := bt_at t120 x6_3
                          replace p28 := eq_true p28
                          replace q28 := eq_true q28
                          go_wp2
                          go_ret
                          exact ⟨by first | rfl | (simp [errW_none, errW_some] <;> rfl) | (simp [*, errW_none, errW_some] <;> rfl), by repeat (first | (with_reducible first | exact HB.out | apply below_alloc | apply pw_below_drewN | apply below_drew1) | exact HB.out)⟩
                        · rw [if_neg c29] at H
                          have c29b0 : decide (57 < (bt t120 x6_3)) = false := decide_eq_false c29
                          clear c29
                          have H' := Aside0.mk H
                          clear H
                          have p26 : 0 ≤ (x6_3 : Int) := of_decide_eq_true (by first | (with_reducible assumption) | assumption)
                          have q26 : x6_3 < (t120.size : Int) := of_decide_eq_true (by first | (with_reducible assumption) | assumption)
                          have hx26 := bt_at t120 x6_3
                          replace p26 := eq_true p26
                          replace q26 := eq_true q26
                          have p28 : 0 ≤ (x6_3 : Int) := of_decide_eq_true (by first | (with_reducible assumption) | assumption)
                          have q28 : x6_3 < (t120.size : Int) := of_decide_eq_true (by first | (with_reducible assumption) | assumption)
                          have hx28 := bt_at t120 x6_3
                          replace p28 := eq_true p28
                          replace q28 := eq_true q28
                          have p30 : 0 ≤ (x6_3 : Int) := of_decide_eq_true (by first | (with_reducible assumption) | assumption)
                          have q30 : x6_3 < (t120.size : Int) := of_decide_eq_true (by first | (with_reducible assumption) | assumption)
                          have hx30 := bt_at t120 x6_3
                          replace p30 := eq_true p30
                          replace q30 := eq_true q30
                          go_wp2
                          go_roundg k3
                          case measure => have := HJ4.out; have := HJ8.out; have := HK3.out; omega
                          case rel => exact ⟨(IntKind.u64.wrap ((IntKind.u64.wrap (10 * x5_3)) + (((bt t120 x6_3) - 48) % 256))), (wrap64 (x6_3 + 1)), (by first | rfl | (simp; done) | (simp [*]; done)), (by first | rfl | (simp; done) | (simp [*]; done)), H', ⟨by have := HJ4.out; have := HJ8.out; have := HK3.out; omega⟩, ⟨by repeat (first | (with_reducible first | exact HB.out | apply below_alloc | apply pw_below_drewN | apply below_drew1) | exact HB.out)⟩⟩
                    · rw [if_neg c25] at H
                      exact absurd H (by simp)
                  · rw [if_neg c24] at H
                    have c24b0 : decide (x6_3 < (t120.size : Int)) = false := decide_eq_false c24
                    clear c24
                    by_cases c31 : a0 < 0
                    · rw [if_pos c31] at H
                      have c31b0 : decide (a0 < 0) = true := decide_eq_true c31
                      clear c31
                      obtain rfl := Option.some.inj H
                      go_wp2
                      go_ret
                      exact ⟨by first | rfl | (simp [errW_none, errW_some] <;> rfl) | (simp [*, errW_none, errW_some] <;> rfl), by repeat (first | (with_reducible first | exact HB.out | apply below_alloc | apply pw_below_drewN | apply below_drew1) | exact HB.out)⟩
                    · rw [if_neg c31] at H
                      have c31b0 : decide (a0 < 0) = false := decide_eq_false c31
                      clear c31
                      by_cases c32 : x5_3 = (IntKind.u64.wrap (a0))
                      · rw [if_pos c32] at H
                        have c32b0 : (x5_3 == (IntKind.u64.wrap (a0))) = true := beq_iff_eq.mpr c32
                        have c32b1 : (x5_3 != (IntKind.u64.wrap (a0))) = false := bne_eq_false_iff_eq.mpr c32
                        clear c32
                        by_cases c33 : a0 = 0
                        · rw [if_pos c33] at H
                          have c33b0 : (a0 == 0) = true := beq_iff_eq.mpr c33
                          have c33b1 : (a0 != 0) = false := bne_eq_false_iff_eq.mpr c33
                          clear c33
                          obtain rfl := Option.some.inj H
                          go_wp2
                          go_ret
                          exact ⟨by first | rfl | (simp [errW_none, errW_some] <;> rfl) | (simp [*, errW_none, errW_some] <;> rfl), by repeat (first | (with_reducible first | exact HB.out | apply below_alloc | apply pw_below_drewN | apply below_drew1) | exact HB.out)⟩
                        · rw [if_neg c33] at H
                          have c33b0 : (a0 == 0) = false := beq_eq_false_iff_ne.mpr c33
                          have c33b1 : (a0 != 0) = true := bne_iff_ne.mpr c33
                          replace H := Option.bind_eq_some_iff.mp H
                          obtain ⟨t121, A340, H⟩ := H
                          replace H : (if 1 + t120.size ≤ 9223372036854775807 then (some (t121.toList == ((⟨#[45]⟩ : ByteArray) ++ t120).toList)) else (none)) = some r := H
                          have A34 := Aside0.mk A340
                          clear A340
                          by_cases c35 : 1 + t120.size ≤ 9223372036854775807
                          · rw [if_pos c35] at H
                            have c35b0 := eq_true c35
                            have c35b1 : decide (1 + t120.size ≤ 9223372036854775807) = true := decide_eq_true c35
                            try have c35b2 : (9223372036854775807 < 1 + t120.size) = False := eq_false (Nat.not_lt.2 c35)
                            obtain rfl := Option.some.inj H
                            go_wp2_with (first | (go_at_call 10; (with_reducible refine (octets_Decimal.calls (wrap64 (-a0)) t121 _ A34.out).mono ?_); rintro e w36 ⟨rfl, hb⟩; have n0_ := Aside0.mk (below_step (by repeat (first | (with_reducible first | exact HB.out | apply below_alloc | apply pw_below_drewN | apply below_drew1) | exact HB.out)) hb); clear HB; have HB := n0_; clear n0_; (try clear hb); (try clear hb2); (try clear hk); (try clear hi)))
                            go_ret
                            exact ⟨by first | rfl | (simp [errW_none, errW_some] <;> rfl) | (simp [*, errW_none, errW_some] <;> rfl), by repeat (first | (with_reducible first | exact HB.out | apply below_alloc | apply pw_below_drewN | apply below_drew1) | exact HB.out)⟩
                          · rw [if_neg c35] at H
                            exact absurd H (by simp)
                      · rw [if_neg c32] at H
                        have c32b0 : (x5_3 == (IntKind.u64.wrap (a0))) = false := beq_eq_false_iff_ne.mpr c32
                        have c32b1 : (x5_3 != (IntKind.u64.wrap (a0))) = true := bne_iff_ne.mpr c32
                        obtain rfl := Option.some.inj H
                        go_wp2
                        go_ret
                        exact ⟨by first | rfl | (simp [errW_none, errW_some] <;> rfl) | (simp [*, errW_none, errW_some] <;> rfl), by repeat (first | (with_reducible first | exact HB.out | apply below_alloc | apply pw_below_drewN | apply below_drew1) | exact HB.out)⟩
  · replace c3 := Bool.eq_false_iff.mpr c3
    subst c3
    have H1 : (some false) = some r := by rw [if_neg (show ¬ (false = true) by decide)] at H; exact H
    clear H
    have H := H1
    clear H1
    obtain rfl := Option.some.inj H
    go_enter Try.func4, Try.ntmps4
    go_wp2_with (first | ((with_reducible refine gate_callee (f := 7) rfl ?_); refine goesL_ (some 7) rfl rfl Try.func7 (by kernel_rfl) rfl #[] rfl (by (try simp only [List.map_toArray, List.map_cons, List.map_nil]); first | done | rfl | (simp only [List.length_drop, List.length_take]; rfl)) ?_; (with_reducible refine (undercroftlaw01_alive.calls k  false _ A2.out).mono ?_); rintro e w37 ⟨rfl, hb⟩; refine ⟨_, rfl, ?_⟩; have n0_ := Aside0.mk (below_step (by repeat (first | (with_reducible first | exact HB.out | apply below_alloc | apply pw_below_drewN | apply below_drew1) | exact HB.out)) hb); clear HB; have HB := n0_; clear n0_; (try clear hb); (try clear hb2); (try clear hk); (try clear hi)))
    go_ret
    exact ⟨by first | rfl | (simp [errW_none, errW_some] <;> rfl) | (simp [*, errW_none, errW_some] <;> rfl), by repeat (first | (with_reducible first | exact HB.out | apply below_alloc | apply pw_below_drewN | apply below_drew1) | exact HB.out)⟩

/-- THE ONE PURE STATEMENT of undercroftlaw01_OctetsDigits: yours. -/
def undercroftlaw01_OctetsDigits.Pure : Prop := ∀ (a0 : Int), (Lit.int .i64 a0).wf = true → ∃ k, undercroftlaw01_OctetsDigits.f k a0 = some true
theorem undercroftlaw01_OctetsDigits.walk (P : undercroftlaw01_OctetsDigits.Pure) (a0 : Int) (w : World) (w0 : (Lit.int .i64 a0).wf = true) :
    Calls Try.prog 4 #[.int .i64 a0] w fun e w' => e = .returned (.bool true) ∧ Below w.heap.size w w' := by
  obtain ⟨k, h⟩ := P a0 w0
  refine (undercroftlaw01_OctetsDigits.calls k a0 true w h).mono ?_
  rintro e w' ⟨rfl, hd⟩
  exact ⟨rfl, hd⟩

end Go.Proofs.Ytbdkpmclimfpkaa.POctetsDigits
