-- Written by a program of this session (gen.py).
import Derived.Test.YtmplcdcgafbfhaaPCrcFindsx0
import Derived.Test.YtmplcdcgafbfhaaPCrcFindsx1
namespace Go.Proofs.Ytmplcdcgafbfhaa.PCrcFinds
open Go.RowKit Go.Proofs.YtmplcdcgafbfhaaW.PrintWords Go.Proofs.YtmplcdcgafbfhaaW.PrintLast Go.Proofs.YtmplcdcgafbfhaaW.PrintMore
open Go.Proofs.Ytmplcdcgafbfhaa.Own
attribute [local go_sem high] unary_not_u32 unary_not_u64 unary_not_u8
attribute [local go_sem] max2_int min2_int max_two min_two max_three min_three max_four min_four   -- for this text's walks alone
set_option linter.unusedVariables false
set_option linter.unusedSimpArgs false

/-! ### undercroftlaw02_CrcFinds: function 7 -/
mutual
def undercroftlaw02_CrcFinds.j0 : Nat → Int → Int → List Int → Bool → Option (Bool)
  | 0, _, _, _, _ => none
  | k + 1, x1, x2, x7, x31 => if x31 = true then (some false) else (if (wrap64 ((wrap64 (8 * (wrap64 ((x7.length : Int) - 4)))) + 1)) = 0 then (none) else (undercroftlaw02_CrcFinds.l0 k (Int.tmod (wrap64 ((Int.tmod x1 (wrap64 ((wrap64 (8 * (wrap64 ((x7.length : Int) - 4)))) + 1))) + (wrap64 ((wrap64 (8 * (wrap64 ((x7.length : Int) - 4)))) + 1)))) (wrap64 ((wrap64 (8 * (wrap64 ((x7.length : Int) - 4)))) + 1))) x2 x7 0))
def undercroftlaw02_CrcFinds.l0 : Nat → Int → Int → List Int → Int → Option (Bool)
  | 0, _, _, _, _ => none
  | k + 1, x1, x2, x7, x11 => if x11 < 32 then (if 0 ≤ x11 then (if (Go.bits .and .u32 (shr .u32 x2 x11) 1) = 1 then (if 0 ≤ (wrap64 (Int.tdiv (wrap64 (x1 + x11)) 8)) then (if (wrap64 (Int.tdiv (wrap64 (x1 + x11)) 8)) < (x7.length : Int) then (if 0 ≤ (Int.tmod (wrap64 (x1 + x11)) 8) then (undercroftlaw02_CrcFinds.l0 k x1 x2 (x7.set ((wrap64 (Int.tdiv (wrap64 (x1 + x11)) 8)) : Int).toNat (Go.bits .xor .u8 (rd x7 (wrap64 (Int.tdiv (wrap64 (x1 + x11)) 8))) (shl .u8 1 (Int.tmod (wrap64 (x1 + x11)) 8)))) (wrap64 (x11 + 1))) else (none)) else (none)) else (none)) else (undercroftlaw02_CrcFinds.l0 k x1 x2 x7 (wrap64 (x11 + 1)))) else (none)) else ((crc_Open.f k x7).bind fun bt140 => (if x2 = 0 then ((undercroftlaw02_num.f bt140.2).bind fun t144 => (if t144 = 0 then (some true) else (some false))) else ((undercroftlaw02_num.f bt140.2).bind fun t145 => (if t145 = 21 then (some ((bt140.1.length : Int) == 0)) else (some false)))))
end
def undercroftlaw02_CrcFinds.f (k : Nat) (l0 : List Int) (a1 : Int) (a2 : Int) : Option (Bool) := (undercroftlaw02_alive.f).bind fun t128 => (if t128 = true then ((crc_Seal.f k l0).bind fun t129 => ((crc_Open.f k t129).bind fun bt132 => ((undercroftlaw02_num.f bt132.2).bind fun t136 => (if t136 = 0 then ((undercroftplain_SameBytes.f k bt132.1 l0).bind fun t137 => (undercroftlaw02_CrcFinds.j0 k a1 a2 t129 (!t137))) else (undercroftlaw02_CrcFinds.j0 k a1 a2 t129 true))))) else (some false))
theorem undercroftlaw02_CrcFinds.mono_l : ∀ k, (∀ y0 y1 y2 y3, LeO (undercroftlaw02_CrcFinds.j0 k y0 y1 y2 y3) (undercroftlaw02_CrcFinds.j0 (k + 1) y0 y1 y2 y3)) ∧ (∀ y0 y1 y2 y3, LeO (undercroftlaw02_CrcFinds.l0 k y0 y1 y2 y3) (undercroftlaw02_CrcFinds.l0 (k + 1) y0 y1 y2 y3))
  | 0 => ⟨fun _ _ _ _ r h => by simp [undercroftlaw02_CrcFinds.j0] at h, fun _ _ _ _ r h => by simp [undercroftlaw02_CrcFinds.l0] at h⟩
  | k + 1 => by
    obtain ⟨ih0, ih1⟩ := undercroftlaw02_CrcFinds.mono_l k
    refine ⟨?_, ?_⟩
    · intro y0 y1 y2 y3
      unfold undercroftlaw02_CrcFinds.j0
      repeat' first
      | (with_reducible exact ih0 _ _ _ _)
      | (with_reducible exact ih1 _ _ _ _)
      | (with_reducible exact crc_Open.mono _ _)
      | (with_reducible exact crc_Seal.mono _ _)
      | (with_reducible exact undercroftplain_SameBytes.mono _ _ _)
      | (with_reducible exact LeO.refl _)
      | (with_reducible exact LeO.none _)
      | (with_reducible refine LeO.ite ?_ ?_)
      | (with_reducible refine LeO.bind ?_ (fun _ => ?_))
      | exact ih0 _ _ _ _
      | exact ih1 _ _ _ _
      | exact crc_Open.mono _ _
      | exact crc_Seal.mono _ _
      | exact undercroftplain_SameBytes.mono _ _ _
      | exact LeO.none _
      | refine LeO.ite ?_ ?_
      | refine LeO.bind ?_ (fun _ => ?_)
    · intro y0 y1 y2 y3
      unfold undercroftlaw02_CrcFinds.l0
      repeat' first
      | (with_reducible exact ih0 _ _ _ _)
      | (with_reducible exact ih1 _ _ _ _)
      | (with_reducible exact crc_Open.mono _ _)
      | (with_reducible exact crc_Seal.mono _ _)
      | (with_reducible exact undercroftplain_SameBytes.mono _ _ _)
      | (with_reducible exact LeO.refl _)
      | (with_reducible exact LeO.none _)
      | (with_reducible refine LeO.ite ?_ ?_)
      | (with_reducible refine LeO.bind ?_ (fun _ => ?_))
      | exact ih0 _ _ _ _
      | exact ih1 _ _ _ _
      | exact crc_Open.mono _ _
      | exact crc_Seal.mono _ _
      | exact undercroftplain_SameBytes.mono _ _ _
      | exact LeO.none _
      | refine LeO.ite ?_ ?_
      | refine LeO.bind ?_ (fun _ => ?_)
theorem undercroftlaw02_CrcFinds.mono : ∀ a0 a1 a2 k, LeO (undercroftlaw02_CrcFinds.f k a0 a1 a2) (undercroftlaw02_CrcFinds.f (k + 1) a0 a1 a2) := by
  intro a0 a1 a2 k
  obtain ⟨ih0, ih1⟩ := undercroftlaw02_CrcFinds.mono_l k
  unfold undercroftlaw02_CrcFinds.f
  repeat' first
      | (with_reducible exact ih0 _ _ _ _)
      | (with_reducible exact ih1 _ _ _ _)
      | (with_reducible exact crc_Open.mono _ _)
      | (with_reducible exact crc_Seal.mono _ _)
      | (with_reducible exact undercroftplain_SameBytes.mono _ _ _)
      | (with_reducible exact LeO.refl _)
      | (with_reducible exact LeO.none _)
      | (with_reducible refine LeO.ite ?_ ?_)
      | (with_reducible refine LeO.bind ?_ (fun _ => ?_))
      | exact ih0 _ _ _ _
      | exact ih1 _ _ _ _
      | exact crc_Open.mono _ _
      | exact crc_Seal.mono _ _
      | exact undercroftplain_SameBytes.mono _ _ _
      | exact LeO.none _
      | refine LeO.ite ?_ ?_
      | refine LeO.bind ?_ (fun _ => ?_)
def undercroftlaw02_CrcFinds.T13 : Bool × List (List Nat × List Nat) := (true, [([], []), ([], []), ([], []), ([1, 2], [1, 2]), ([3], [3]), ([0, 4], [0, 4]), ([5], [5]), ([], []), ([], []), ([7, 8], [7, 8]), ([9], [9]), ([10], [10]), ([6, 11], [6, 11]), ([0, 4, 0, 1, 2, 3, 4, 5, 6, 7, 8, 9, 10, 11, 12], [0, 4]), ([13, 12, 0, 1, 2, 3, 4, 5, 6, 7, 8, 9, 10, 11, 12], [12, 13])])
def undercroftlaw02_CrcFinds.B13 : List Nat := [0, 0, 0, 6, 14, 31, 63, 0, 0, 384, 896, 1920, 4095, 8191, 16383]
theorem undercroftlaw02_CrcFinds.tab13 : rtab .any (opsOf Try.f7 13) = undercroftlaw02_CrcFinds.T13 := by kernel_rfl
theorem undercroftlaw02_CrcFinds.bits13 : waitsOk undercroftlaw02_CrcFinds.T13.2 undercroftlaw02_CrcFinds.B13 = true := by kernel_rfl
set_option maxHeartbeats 8000000 in
set_option maxRecDepth 100000 in
theorem undercroftlaw02_CrcFinds.calls (k : Nat) (A0 : Option Addr) (c0 : Nat) (l0 : List Int) (a1 : Int) (a2 : Int) (r : Bool) (w : World) (hr0 : Kd.C (Kd.int .u8) w A0 l0.length l0) (hc0 : l0.length ≤ c0) (h : undercroftlaw02_CrcFinds.f k l0 a1 a2 = some r) :
    Calls Try.prog 7 #[.slice A0 l0.length c0, .int .i64 a1, .int .u32 a2] w fun e w' => e = .returned (.bool r) ∧ Below w.heap.size w w' := by
  have HR0 := Aside0.mk hr0
  have HC0 := Aside0.mk hc0
  clear hr0 hc0
  have HB := Aside0.mk (Below.refl w.heap.size w)
  have H : ((undercroftlaw02_alive.f).bind fun t128 => (if t128 = true then ((crc_Seal.f k l0).bind fun t129 => ((crc_Open.f k t129).bind fun bt132 => ((undercroftlaw02_num.f bt132.2).bind fun t136 => (if t136 = 0 then ((undercroftplain_SameBytes.f k bt132.1 l0).bind fun t137 => (undercroftlaw02_CrcFinds.j0 k a1 a2 t129 (!t137))) else (undercroftlaw02_CrcFinds.j0 k a1 a2 t129 true))))) else (some false))) = some r := h
  clear h
  replace H := Option.bind_eq_some_iff.mp H
  obtain ⟨t128, A40, H⟩ := H
  replace H : (if t128 = true then ((crc_Seal.f k l0).bind fun t129 => ((crc_Open.f k t129).bind fun bt132 => ((undercroftlaw02_num.f bt132.2).bind fun t136 => (if t136 = 0 then ((undercroftplain_SameBytes.f k bt132.1 l0).bind fun t137 => (undercroftlaw02_CrcFinds.j0 k a1 a2 t129 (!t137))) else (undercroftlaw02_CrcFinds.j0 k a1 a2 t129 true))))) else (some false)) = some r := H
  have A4 := Aside0.mk A40
  clear A40
  by_cases c5 : t128 = true
  · subst c5
    have H1 : ((crc_Seal.f k l0).bind fun t129 => ((crc_Open.f k t129).bind fun bt132 => ((undercroftlaw02_num.f bt132.2).bind fun t136 => (if t136 = 0 then ((undercroftplain_SameBytes.f k bt132.1 l0).bind fun t137 => (undercroftlaw02_CrcFinds.j0 k a1 a2 t129 (!t137))) else (undercroftlaw02_CrcFinds.j0 k a1 a2 t129 true))))) = some r := by rw [if_pos rfl] at H; exact H
    clear H
    have H := H1
    clear H1
    replace H := Option.bind_eq_some_iff.mp H
    obtain ⟨t129, A60, H⟩ := H
    replace H : ((crc_Open.f k t129).bind fun bt132 => ((undercroftlaw02_num.f bt132.2).bind fun t136 => (if t136 = 0 then ((undercroftplain_SameBytes.f k bt132.1 l0).bind fun t137 => (undercroftlaw02_CrcFinds.j0 k a1 a2 t129 (!t137))) else (undercroftlaw02_CrcFinds.j0 k a1 a2 t129 true)))) = some r := H
    have A6 := Aside0.mk A60
    clear A60
    replace H := Option.bind_eq_some_iff.mp H
    obtain ⟨⟨t132, t133⟩, A70, H⟩ := H
    replace H : ((undercroftlaw02_num.f t133).bind fun t136 => (if t136 = 0 then ((undercroftplain_SameBytes.f k t132 l0).bind fun t137 => (undercroftlaw02_CrcFinds.j0 k a1 a2 t129 (!t137))) else (undercroftlaw02_CrcFinds.j0 k a1 a2 t129 true))) = some r := H
    have A7 := Aside0.mk A70
    clear A70
    have HC8 := Aside0.mk H
    clear H
    go_enter Try.func7, Try.ntmps7
    go_upto_region 5 with (first | ((with_reducible refine gate_callee (f := 9) rfl ?_); refine goesL_ (some 14) rfl rfl Try.func9 (by kernel_rfl) rfl #[] rfl (by (try simp only [List.map_toArray, List.map_cons, List.map_nil]); first | done | rfl | (simp only [List.length_drop, List.length_take]; rfl)) ?_; (with_reducible refine (undercroftlaw02_alive.calls  true _ A4.out).mono ?_); rintro e w9 ⟨rfl, hb⟩; refine ⟨_, rfl, ?_⟩; have n0_ := Aside0.mk (below_step (by repeat (first | (with_reducible first | exact HB.out | apply below_alloc | apply pw_below_drewN | apply below_drew1) | exact HB.out)) hb); clear HB; have HB := n0_; clear n0_; (try clear hb); (try clear hb2); (try clear hk); (try clear hi)) | ((with_reducible refine gate_callee (f := 12) rfl ?_); refine goesL_ (some 17) rfl rfl Try.func12 (by kernel_rfl) rfl #[.slice A0 l0.length c0] rfl (by (try simp only [List.map_toArray, List.map_cons, List.map_nil]); first | done | rfl | (simp only [List.length_drop, List.length_take]; rfl)) ?_; (with_reducible refine (crc_Seal.calls k (fun k_ => k_ < w.heap.size) _ _ l0 t129 _ ?side1 A6.out).mono ?_); (case side1 => exact Kd.V_mk HC0.out (Kd.F_below (Kd.C_F (Kd.heap_int .u8) HR0.out) (by repeat (first | (with_reducible first | exact HB.out | apply below_alloc | apply pw_below_drewN | apply below_drew1) | exact HB.out)))); rintro e w10 ⟨v130, rfl, ho0, hb⟩; refine ⟨_, rfl, ?_⟩; have n0_ := Aside0.mk (Kd.R_lower (Kd.R_mono (ok' := fun k_ => True) ho0 (fun _ hk_ => trivial)) (below_size (by repeat (first | (with_reducible first | exact HB.out | apply below_alloc | apply pw_below_drewN | apply below_drew1) | exact HB.out)))); have n1_ := Aside0.mk (below_step (by repeat (first | (with_reducible first | exact HB.out | apply below_alloc | apply pw_below_drewN | apply below_drew1) | exact HB.out)) hb); clear HB; have HO131 := n0_; have HB := n1_; clear n0_ n1_; (try clear hb); (try clear hb2); (try clear hk); (try clear hi); (try clear ho0); obtain ⟨Ao11, co11, eo11⟩ := Kd.R_slice HO131.out; subst eo11) | ((with_reducible refine gate_callee (f := 14) rfl ?_); refine goesL_ (some 20) rfl rfl Try.func14 (by kernel_rfl) rfl #[.slice Ao11 t129.length co11] rfl (by (try simp only [List.map_toArray, List.map_cons, List.map_nil]); first | done | rfl | (simp only [List.length_drop, List.length_take]; rfl)) ?_; (with_reducible refine (crc_Open.calls k _ _ t129 t132 t133 _ ?side1 ?side2 A7.out).mono ?_); (case side1 => repeat (first | exact (Kd.R_reads' HO131.out).2.2 | (with_reducible refine Kd.C_alloc ?_ _) | (with_reducible refine Kd.C_drewN ?_ _) | (with_reducible refine Kd.C_drew ?_))); (case side2 => exact (Kd.R_reads' HO131.out).2.1); rintro e w12 ⟨v134, rfl, ho0, hb⟩; refine ⟨_, rfl, ?_⟩; have n0_ := Aside0.mk (Kd.R_elder' (by (with_reducible repeat (first | apply Kd.R_alloc | apply Kd.R_drewN | apply Kd.R_drew)); exact HO131.out) (Kd.R_base ho0) hb); have n1_ := Aside0.mk (Kd.R_lower (Kd.R_new' ho0 (Kd.R_lt (by (with_reducible repeat (first | apply Kd.R_alloc | apply Kd.R_drewN | apply Kd.R_drew)); exact HO131.out))) (below_size (by repeat (first | (with_reducible first | exact HB.out | apply below_alloc | apply pw_below_drewN | apply below_drew1) | exact HB.out)))); have n2_ := Aside0.mk (below_step (by repeat (first | (with_reducible first | exact HB.out | apply below_alloc | apply pw_below_drewN | apply below_drew1) | exact HB.out)) hb); clear HO131; clear HB; have HO131 := n0_; have HO135 := n1_; have HB := n2_; clear n0_ n1_ n2_; (try clear hb); (try clear hb2); (try clear hk); (try clear hi); (try clear ho0)))
    (try simp only [Act.put, List.setIfInBounds_toArray, List.set_cons_zero, List.set_cons_succ])
    go_cut [31] (fun v31 wc => ∃ (kq : Nat) (x31_7 : Bool), v31 = .bool x31_7 ∧ Aside0 (undercroftlaw02_CrcFinds.j0 kq a1 a2 t129 x31_7 = some r) ∧ Aside0 (kq ≤ k) ∧ Aside0 (Kd.R (Kd.int .u8) 5 wc w.heap.size (fun _ => True) (.slice Ao11 t129.length co11) t129) ∧ Aside0 (Below w.heap.size w wc))
    case first =>
      have H := HC8.out
      clear HC8
      replace H := Option.bind_eq_some_iff.mp H
      obtain ⟨t136, A130, H⟩ := H
      replace H : (if t136 = 0 then ((undercroftplain_SameBytes.f k t132 l0).bind fun t137 => (undercroftlaw02_CrcFinds.j0 k a1 a2 t129 (!t137))) else (undercroftlaw02_CrcFinds.j0 k a1 a2 t129 true)) = some r := H
      have A13 := Aside0.mk A130
      clear A130
      by_cases c14 : t136 = 0
      · rw [if_pos c14] at H
        have c14b0 : (t136 == 0) = true := beq_iff_eq.mpr c14
        have c14b1 : (t136 != 0) = false := bne_eq_false_iff_eq.mpr c14
        clear c14
        (first | rw [c14b0] | (simp only [i64_w, i32_w]; rw [c14b0]) | skip)
        replace H := Option.bind_eq_some_iff.mp H
        obtain ⟨t137, A150, H⟩ := H
        replace H : (undercroftlaw02_CrcFinds.j0 k a1 a2 t129 (!t137)) = some r := H
        have A15 := Aside0.mk A150
        clear A150
        have H' := Aside0.mk H
        clear H
        go_wp2_with (first | ((with_reducible refine gate_callee (f := 20) rfl ?_); refine goesL_ (some 24) rfl rfl Try.func20 (by kernel_rfl) rfl #[.int .i64 t133] rfl (by (try simp only [List.map_toArray, List.map_cons, List.map_nil]); first | done | rfl | (simp only [List.length_drop, List.length_take]; rfl)) ?_; (with_reducible refine (undercroftlaw02_num.calls t133 t136 _ A13.out).mono ?_); rintro e w' ⟨rfl, ⟨nd, rfl⟩⟩; refine ⟨_, rfl, ?_⟩; obtain ⟨Ao16, co16, eo16⟩ := Kd.R_slice HO135.out; subst eo16) | (go_at_call 18; (with_reducible refine (undercroftplain_SameBytes.calls k _ _ t132 _ _ l0 t137 _ ?side1 ?side2 ?side3 ?side4 A15.out).mono ?_); (case side1 => repeat (first | exact (Kd.R_reads' HO135.out).2.2 | (with_reducible refine Kd.C_alloc ?_ _) | (with_reducible refine Kd.C_drewN ?_ _) | (with_reducible refine Kd.C_drew ?_))); (case side2 => exact (Kd.R_reads' HO135.out).2.1); (case side3 => repeat (first | exact (Kd.C_below HR0.out (by repeat (first | (with_reducible first | exact HB.out | apply below_alloc | apply pw_below_drewN | apply below_drew1) | exact HB.out))) | (with_reducible refine Kd.C_alloc ?_ _) | (with_reducible refine Kd.C_drewN ?_ _) | (with_reducible refine Kd.C_drew ?_))); (case side4 => exact HC0.out); rintro e w' ⟨rfl, ⟨nd, rfl⟩⟩))
        go_meet
        case rel => exact ⟨_, (!t137), (by first | rfl | (simp; done) | (simp [*]; done)), H', ⟨by first | omega | exact Nat.le_refl _⟩, ⟨by (with_reducible repeat (first | apply Kd.R_alloc | apply Kd.R_drewN | apply Kd.R_drew)); exact Kd.R_mono HO131.out (fun _ hk => trivial)⟩, ⟨by repeat (first | (with_reducible first | exact HB.out | apply below_alloc | apply pw_below_drewN | apply below_drew1) | exact HB.out)⟩⟩
      · rw [if_neg c14] at H
        have c14b0 : (t136 == 0) = false := beq_eq_false_iff_ne.mpr c14
        have c14b1 : (t136 != 0) = true := bne_iff_ne.mpr c14
        (first | rw [c14b0] | (simp only [i64_w, i32_w]; rw [c14b0]) | skip)
        have H' := Aside0.mk H
        clear H
        go_wp2_with (first | ((with_reducible refine gate_callee (f := 20) rfl ?_); refine goesL_ (some 24) rfl rfl Try.func20 (by kernel_rfl) rfl #[.int .i64 t133] rfl (by (try simp only [List.map_toArray, List.map_cons, List.map_nil]); first | done | rfl | (simp only [List.length_drop, List.length_take]; rfl)) ?_; (with_reducible refine (undercroftlaw02_num.calls t133 t136 _ A13.out).mono ?_); rintro e w' ⟨rfl, ⟨nd, rfl⟩⟩; refine ⟨_, rfl, ?_⟩))
        go_meet
        case rel => exact ⟨_, (true), (by first | rfl | (simp; done) | (simp [*]; done)), H', ⟨by first | omega | exact Nat.le_refl _⟩, ⟨by (with_reducible repeat (first | apply Kd.R_alloc | apply Kd.R_drewN | apply Kd.R_drew)); exact Kd.R_mono HO131.out (fun _ hk => trivial)⟩, ⟨by repeat (first | (with_reducible first | exact HB.out | apply below_alloc | apply pw_below_drewN | apply below_drew1) | exact HB.out)⟩⟩
    case rest =>
      clear HC8
      try clear c1
      try clear c2
      try clear p2
      try clear c5
      try clear c7
      try clear c9
      try clear c12
      try clear c14
      try clear c14b0
      try clear c14b1
      obtain ⟨kq, x31_7, rfl, HA, HJ7, HO_7, HB⟩ := hcut
      cases kq with
      | zero => exact absurd HA.out (by simp [undercroftlaw02_CrcFinds.j0])
      | succ kj7 =>
        have H := HA.out
        clear HA
        simp only [undercroftlaw02_CrcFinds.j0] at H
        by_cases c17 : x31_7 = true
        · subst c17
          have H1 : (some false) = some r := by rw [if_pos rfl] at H; exact H
          clear H
          have H := H1
          clear H1
          obtain rfl := Option.some.inj H
          go_wp2
          go_ret
          exact ⟨by first | rfl | (simp [errW_none, errW_some] <;> rfl) | (simp [*, errW_none, errW_some] <;> rfl), by repeat (first | (with_reducible first | exact HB.out | apply below_alloc | apply pw_below_drewN | apply below_drew1) | exact HB.out)⟩
        · replace c17 := Bool.eq_false_iff.mpr c17
          subst c17
          have H1 : (if (wrap64 ((wrap64 (8 * (wrap64 ((t129.length : Int) - 4)))) + 1)) = 0 then (none) else (undercroftlaw02_CrcFinds.l0 kj7 (Int.tmod (wrap64 ((Int.tmod a1 (wrap64 ((wrap64 (8 * (wrap64 ((t129.length : Int) - 4)))) + 1))) + (wrap64 ((wrap64 (8 * (wrap64 ((t129.length : Int) - 4)))) + 1)))) (wrap64 ((wrap64 (8 * (wrap64 ((t129.length : Int) - 4)))) + 1))) a2 t129 0)) = some r := by rw [if_neg (show ¬ (false = true) by decide)] at H; exact H
          clear H
          have H := H1
          clear H1
          by_cases c18 : (wrap64 ((wrap64 (8 * (wrap64 ((t129.length : Int) - 4)))) + 1)) = 0
          · rw [if_pos c18] at H
            exact absurd H (by simp)
          · rw [if_neg c18] at H
            have c18b0 : ((wrap64 ((wrap64 (8 * (wrap64 ((t129.length : Int) - 4)))) + 1)) == 0) = false := beq_eq_false_iff_ne.mpr c18
            have c18b1 : ((wrap64 ((wrap64 (8 * (wrap64 ((t129.length : Int) - 4)))) + 1)) != 0) = true := bne_iff_ne.mpr c18
            have H' := Aside0.mk H
            clear H
            go_wp2
            go_loopg [11] kj7 (fun kq v11 w' => ∃ (x7_2 : List Int) (x11_2 : Int), v11 = .int .i64 x11_2 ∧ Aside0 (undercroftlaw02_CrcFinds.l0 kq (Int.tmod (wrap64 ((Int.tmod a1 (wrap64 ((wrap64 (8 * (wrap64 ((t129.length : Int) - 4)))) + 1))) + (wrap64 ((wrap64 (8 * (wrap64 ((t129.length : Int) - 4)))) + 1)))) (wrap64 ((wrap64 (8 * (wrap64 ((t129.length : Int) - 4)))) + 1))) a2 x7_2 x11_2 = some r) ∧ Aside0 (kq ≤ kj7) ∧ Aside0 (Kd.R (Kd.int .u8) 5 w' w.heap.size (fun _ => True) (.slice Ao11 t129.length co11) x7_2) ∧ Aside0 (Below w.heap.size w w'))
            case atStart => exact ⟨(t129), (0), (by first | rfl | (simp; done) | (simp [*]; done)), H', ⟨Nat.le_refl _⟩, ⟨by (with_reducible repeat (first | apply Kd.R_alloc | apply Kd.R_drewN | apply Kd.R_drew)); exact HO_7.out⟩, ⟨by repeat (first | (with_reducible first | exact HB.out | apply below_alloc | apply pw_below_drewN | apply below_drew1) | exact HB.out)⟩⟩
            case round =>
              clear H'
              try clear c1
              try clear c2
              try clear p2
              try clear c5
              try clear p6
              try clear c7
              try clear c9
              try clear c12
              try clear c14
              try clear c14b0
              try clear c14b1
              try clear c17
              try clear c18
              try clear c18b0
              try clear c18b1
              try clear p2
              obtain ⟨x7_2, x11_2, rfl, HA, HK2, HO_7, HB⟩ := hrel
              have hl7_2 := (Kd.R_reads' HO_7.out).1
              rw [hl7_2] at HO_7
              (try simp only [hl7_2])
              cases gk with
              | zero => exact absurd HA.out (by simp [undercroftlaw02_CrcFinds.l0])
              | succ k2 =>
                have H := HA.out
                clear HA
                simp only [undercroftlaw02_CrcFinds.l0] at H
                by_cases c19 : x11_2 < 32
                · rw [if_pos c19] at H
                  have c19b0 : decide (x11_2 < 32) = true := decide_eq_true c19
                  (try (have c19b0_0 := c19b0; simp only [hl7_2] at c19b0_0))
                  clear c19
                  by_cases c20 : 0 ≤ x11_2
                  · rw [if_pos c20] at H
                    have c20b0 := eq_true c20
                    have c20b1 : decide (0 ≤ x11_2) = true := decide_eq_true c20
                    clear c20
                    obtain ⟨ji21, hji21⟩ : ∃ j_ : Int, (shr .u32 a2 x11_2) = j_ := ⟨_, rfl⟩
                    replace H : (if (Go.bits .and .u32 (ji21) 1) = 1 then (if 0 ≤ (wrap64 (Int.tdiv (wrap64 ((Int.tmod (wrap64 ((Int.tmod a1 (wrap64 ((wrap64 (8 * (wrap64 ((t129.length : Int) - 4)))) + 1))) + (wrap64 ((wrap64 (8 * (wrap64 ((t129.length : Int) - 4)))) + 1)))) (wrap64 ((wrap64 (8 * (wrap64 ((t129.length : Int) - 4)))) + 1))) + x11_2)) 8)) then (if (wrap64 (Int.tdiv (wrap64 ((Int.tmod (wrap64 ((Int.tmod a1 (wrap64 ((wrap64 (8 * (wrap64 ((t129.length : Int) - 4)))) + 1))) + (wrap64 ((wrap64 (8 * (wrap64 ((t129.length : Int) - 4)))) + 1)))) (wrap64 ((wrap64 (8 * (wrap64 ((t129.length : Int) - 4)))) + 1))) + x11_2)) 8)) < (x7_2.length : Int) then (if 0 ≤ (Int.tmod (wrap64 ((Int.tmod (wrap64 ((Int.tmod a1 (wrap64 ((wrap64 (8 * (wrap64 ((t129.length : Int) - 4)))) + 1))) + (wrap64 ((wrap64 (8 * (wrap64 ((t129.length : Int) - 4)))) + 1)))) (wrap64 ((wrap64 (8 * (wrap64 ((t129.length : Int) - 4)))) + 1))) + x11_2)) 8) then (undercroftlaw02_CrcFinds.l0 k2 (Int.tmod (wrap64 ((Int.tmod a1 (wrap64 ((wrap64 (8 * (wrap64 ((t129.length : Int) - 4)))) + 1))) + (wrap64 ((wrap64 (8 * (wrap64 ((t129.length : Int) - 4)))) + 1)))) (wrap64 ((wrap64 (8 * (wrap64 ((t129.length : Int) - 4)))) + 1))) a2 (x7_2.set ((wrap64 (Int.tdiv (wrap64 ((Int.tmod (wrap64 ((Int.tmod a1 (wrap64 ((wrap64 (8 * (wrap64 ((t129.length : Int) - 4)))) + 1))) + (wrap64 ((wrap64 (8 * (wrap64 ((t129.length : Int) - 4)))) + 1)))) (wrap64 ((wrap64 (8 * (wrap64 ((t129.length : Int) - 4)))) + 1))) + x11_2)) 8)) : Int).toNat (Go.bits .xor .u8 (rd x7_2 (wrap64 (Int.tdiv (wrap64 ((Int.tmod (wrap64 ((Int.tmod a1 (wrap64 ((wrap64 (8 * (wrap64 ((t129.length : Int) - 4)))) + 1))) + (wrap64 ((wrap64 (8 * (wrap64 ((t129.length : Int) - 4)))) + 1)))) (wrap64 ((wrap64 (8 * (wrap64 ((t129.length : Int) - 4)))) + 1))) + x11_2)) 8))) (shl .u8 1 (Int.tmod (wrap64 ((Int.tmod (wrap64 ((Int.tmod a1 (wrap64 ((wrap64 (8 * (wrap64 ((t129.length : Int) - 4)))) + 1))) + (wrap64 ((wrap64 (8 * (wrap64 ((t129.length : Int) - 4)))) + 1)))) (wrap64 ((wrap64 (8 * (wrap64 ((t129.length : Int) - 4)))) + 1))) + x11_2)) 8)))) (wrap64 (x11_2 + 1))) else (none)) else (none)) else (none)) else (undercroftlaw02_CrcFinds.l0 k2 (Int.tmod (wrap64 ((Int.tmod a1 (wrap64 ((wrap64 (8 * (wrap64 ((t129.length : Int) - 4)))) + 1))) + (wrap64 ((wrap64 (8 * (wrap64 ((t129.length : Int) - 4)))) + 1)))) (wrap64 ((wrap64 (8 * (wrap64 ((t129.length : Int) - 4)))) + 1))) a2 x7_2 (wrap64 (x11_2 + 1)))) = some r := by first | (rw [hji21] at H; exact H) | (simp only [hji21] at H ⊢; exact H)
                    have hji21_ : (a2 / 2 ^ min x11_2.toNat 32) = ji21 := hji21
                    have hji21z : x11_2 ≤ 32 → (a2 / 2 ^ x11_2.toNat) = ji21 := shr_small hji21
                    (try (have hji21_0 := hji21; simp only [hl7_2] at hji21_0))
                    (try (have hji21w_0 := hji21w; simp only [hl7_2] at hji21w_0))
                    (try (have hji21__0 := hji21_; simp only [hl7_2] at hji21__0))
                    (try (have hji21z_0 := hji21z; simp only [hl7_2] at hji21z_0))
                    (try (have hji21u_0 := hji21u; simp only [hl7_2] at hji21u_0))
                    (try (have hji21v_0 := hji21v; simp only [hl7_2] at hji21v_0))
                    (try (have hji21y_0 := hji21y; simp only [hl7_2] at hji21y_0))
                    (try (have hji21x_0 := hji21x; simp only [hl7_2] at hji21x_0))
                    (try (have hji21p_0 := hji21p; simp only [hl7_2] at hji21p_0))
                    (try (have hji21q_0 := hji21q; simp only [hl7_2] at hji21q_0))
                    by_cases c22 : (Go.bits .and .u32 (ji21) 1) = 1
                    · rw [if_pos c22] at H
                      have c22b0 : ((Go.bits .and .u32 (ji21) 1) == 1) = true := beq_iff_eq.mpr c22
                      have c22b1 : ((Go.bits .and .u32 (ji21) 1) != 1) = false := bne_eq_false_iff_eq.mpr c22
                      (try (have c22b0_0 := c22b0; simp only [hl7_2] at c22b0_0))
                      (try (have c22b1_0 := c22b1; simp only [hl7_2] at c22b1_0))
                      clear c22
                      obtain ⟨ji23, hji23⟩ : ∃ j_ : Int, (wrap64 (Int.tdiv (wrap64 ((Int.tmod (wrap64 ((Int.tmod a1 (wrap64 ((wrap64 (8 * (wrap64 ((t129.length : Int) - 4)))) + 1))) + (wrap64 ((wrap64 (8 * (wrap64 ((t129.length : Int) - 4)))) + 1)))) (wrap64 ((wrap64 (8 * (wrap64 ((t129.length : Int) - 4)))) + 1))) + x11_2)) 8)) = j_ := ⟨_, rfl⟩
                      replace H : (if 0 ≤ (ji23) then (if (ji23) < (x7_2.length : Int) then (if 0 ≤ (Int.tmod (wrap64 ((Int.tmod (wrap64 ((Int.tmod a1 (wrap64 ((wrap64 (8 * (wrap64 ((t129.length : Int) - 4)))) + 1))) + (wrap64 ((wrap64 (8 * (wrap64 ((t129.length : Int) - 4)))) + 1)))) (wrap64 ((wrap64 (8 * (wrap64 ((t129.length : Int) - 4)))) + 1))) + x11_2)) 8) then (undercroftlaw02_CrcFinds.l0 k2 (Int.tmod (wrap64 ((Int.tmod a1 (wrap64 ((wrap64 (8 * (wrap64 ((t129.length : Int) - 4)))) + 1))) + (wrap64 ((wrap64 (8 * (wrap64 ((t129.length : Int) - 4)))) + 1)))) (wrap64 ((wrap64 (8 * (wrap64 ((t129.length : Int) - 4)))) + 1))) a2 (x7_2.set ((ji23) : Int).toNat (Go.bits .xor .u8 (rd x7_2 (ji23)) (shl .u8 1 (Int.tmod (wrap64 ((Int.tmod (wrap64 ((Int.tmod a1 (wrap64 ((wrap64 (8 * (wrap64 ((t129.length : Int) - 4)))) + 1))) + (wrap64 ((wrap64 (8 * (wrap64 ((t129.length : Int) - 4)))) + 1)))) (wrap64 ((wrap64 (8 * (wrap64 ((t129.length : Int) - 4)))) + 1))) + x11_2)) 8)))) (wrap64 (x11_2 + 1))) else (none)) else (none)) else (none)) = some r := by first | (rw [hji23] at H; exact H) | (simp only [hji23] at H ⊢; exact H)
                      have hji23w : (IntKind.i64.wrap (Int.tdiv (wrap64 ((Int.tmod (wrap64 ((Int.tmod a1 (wrap64 ((wrap64 (8 * (wrap64 ((t129.length : Int) - 4)))) + 1))) + (wrap64 ((wrap64 (8 * (wrap64 ((t129.length : Int) - 4)))) + 1)))) (wrap64 ((wrap64 (8 * (wrap64 ((t129.length : Int) - 4)))) + 1))) + x11_2)) 8)) = ji23 := (i64_w _).trans hji23
                      (try (have hji23_0 := hji23; simp only [hl7_2] at hji23_0))
                      (try (have hji23w_0 := hji23w; simp only [hl7_2] at hji23w_0))
                      (try (have hji23__0 := hji23_; simp only [hl7_2] at hji23__0))
                      (try (have hji23z_0 := hji23z; simp only [hl7_2] at hji23z_0))
                      (try (have hji23u_0 := hji23u; simp only [hl7_2] at hji23u_0))
                      (try (have hji23v_0 := hji23v; simp only [hl7_2] at hji23v_0))
                      (try (have hji23y_0 := hji23y; simp only [hl7_2] at hji23y_0))
                      (try (have hji23x_0 := hji23x; simp only [hl7_2] at hji23x_0))
                      (try (have hji23p_0 := hji23p; simp only [hl7_2] at hji23p_0))
                      (try (have hji23q_0 := hji23q; simp only [hl7_2] at hji23q_0))
                      by_cases c24 : 0 ≤ (ji23)
                      · rw [if_pos c24] at H
                        have c24b0 : decide (0 ≤ (ji23)) = true := decide_eq_true c24
                        (try (have c24b0_0 := c24b0; simp only [hl7_2] at c24b0_0))
                        clear c24
                        by_cases c25 : (ji23) < (x7_2.length : Int)
                        · rw [if_pos c25] at H
                          have c25b0 : decide ((ji23) < (x7_2.length : Int)) = true := decide_eq_true c25
                          (try (have c25b0_0 := c25b0; simp only [hl7_2] at c25b0_0))
                          clear c25
                          obtain ⟨ji26, hji26⟩ : ∃ j_ : Int, (Int.tmod (wrap64 ((Int.tmod (wrap64 ((Int.tmod a1 (wrap64 ((wrap64 (8 * (wrap64 ((t129.length : Int) - 4)))) + 1))) + (wrap64 ((wrap64 (8 * (wrap64 ((t129.length : Int) - 4)))) + 1)))) (wrap64 ((wrap64 (8 * (wrap64 ((t129.length : Int) - 4)))) + 1))) + x11_2)) 8) = j_ := ⟨_, rfl⟩
                          replace H : (if 0 ≤ (ji26) then (undercroftlaw02_CrcFinds.l0 k2 (Int.tmod (wrap64 ((Int.tmod a1 (wrap64 ((wrap64 (8 * (wrap64 ((t129.length : Int) - 4)))) + 1))) + (wrap64 ((wrap64 (8 * (wrap64 ((t129.length : Int) - 4)))) + 1)))) (wrap64 ((wrap64 (8 * (wrap64 ((t129.length : Int) - 4)))) + 1))) a2 (x7_2.set ((ji23) : Int).toNat (Go.bits .xor .u8 (rd x7_2 (ji23)) (shl .u8 1 (ji26)))) (wrap64 (x11_2 + 1))) else (none)) = some r := by first | (rw [hji26] at H; exact H) | (simp only [hji26] at H ⊢; exact H)
                          (try (have hji26_0 := hji26; simp only [hl7_2] at hji26_0))
                          (try (have hji26w_0 := hji26w; simp only [hl7_2] at hji26w_0))
                          (try (have hji26__0 := hji26_; simp only [hl7_2] at hji26__0))
                          (try (have hji26z_0 := hji26z; simp only [hl7_2] at hji26z_0))
                          (try (have hji26u_0 := hji26u; simp only [hl7_2] at hji26u_0))
                          (try (have hji26v_0 := hji26v; simp only [hl7_2] at hji26v_0))
                          (try (have hji26y_0 := hji26y; simp only [hl7_2] at hji26y_0))
                          (try (have hji26x_0 := hji26x; simp only [hl7_2] at hji26x_0))
                          (try (have hji26p_0 := hji26p; simp only [hl7_2] at hji26p_0))
                          (try (have hji26q_0 := hji26q; simp only [hl7_2] at hji26q_0))
                          by_cases c27 : 0 ≤ (ji26)
                          · rw [if_pos c27] at H
                            have c27b0 := eq_true c27
                            have c27b1 : decide (0 ≤ (ji26)) = true := decide_eq_true c27
                            clear c27
                            obtain ⟨ji28, hji28⟩ : ∃ j_ : Int, (shl .u8 1 (ji26)) = j_ := ⟨_, rfl⟩
                            replace H : (undercroftlaw02_CrcFinds.l0 k2 (Int.tmod (wrap64 ((Int.tmod a1 (wrap64 ((wrap64 (8 * (wrap64 ((t129.length : Int) - 4)))) + 1))) + (wrap64 ((wrap64 (8 * (wrap64 ((t129.length : Int) - 4)))) + 1)))) (wrap64 ((wrap64 (8 * (wrap64 ((t129.length : Int) - 4)))) + 1))) a2 (x7_2.set ((ji23) : Int).toNat (Go.bits .xor .u8 (rd x7_2 (ji23)) (ji28))) (wrap64 (x11_2 + 1))) = some r := by first | (rw [hji28] at H; exact H) | (simp only [hji28] at H ⊢; exact H)
                            have hji28_ : (IntKind.u8.wrap (1 * 2 ^ min (ji26).toNat 8)) = ji28 := hji28
                            have hji28z : (ji26) ≤ 8 → (IntKind.u8.wrap (1 * 2 ^ (ji26).toNat)) = ji28 := shl_small hji28
                            have hji28u : (IntKind.u8.wrap (2 ^ min (ji26).toNat 8)) = ji28 := by have h_ := hji28_; rw [Int.one_mul] at h_; exact h_
                            have hji28v : (ji26) ≤ 8 → (IntKind.u8.wrap (2 ^ (ji26).toNat)) = ji28 := fun hle_ => by have h_ := hji28z hle_; rw [Int.one_mul] at h_; exact h_
                            (try (have hji28_0 := hji28; simp only [hl7_2] at hji28_0))
                            (try (have hji28w_0 := hji28w; simp only [hl7_2] at hji28w_0))
                            (try (have hji28__0 := hji28_; simp only [hl7_2] at hji28__0))
                            (try (have hji28z_0 := hji28z; simp only [hl7_2] at hji28z_0))
                            (try (have hji28u_0 := hji28u; simp only [hl7_2] at hji28u_0))
                            (try (have hji28v_0 := hji28v; simp only [hl7_2] at hji28v_0))
                            (try (have hji28y_0 := hji28y; simp only [hl7_2] at hji28y_0))
                            (try (have hji28x_0 := hji28x; simp only [hl7_2] at hji28x_0))
                            (try (have hji28p_0 := hji28p; simp only [hl7_2] at hji28p_0))
                            (try (have hji28q_0 := hji28q; simp only [hl7_2] at hji28q_0))
                            obtain ⟨y139, hy139⟩ : ∃ y_ : List Int, y_ = (x7_2.set ((ji23) : Int).toNat (Go.bits .xor .u8 (rd x7_2 (ji23)) (ji28))) := ⟨_, rfl⟩
                            replace H : (undercroftlaw02_CrcFinds.l0 k2 (Int.tmod (wrap64 ((Int.tmod a1 (wrap64 ((wrap64 (8 * (wrap64 ((t129.length : Int) - 4)))) + 1))) + (wrap64 ((wrap64 (8 * (wrap64 ((t129.length : Int) - 4)))) + 1)))) (wrap64 ((wrap64 (8 * (wrap64 ((t129.length : Int) - 4)))) + 1))) a2 y139 (wrap64 (x11_2 + 1))) = some r := by first | (rw [hy139]; with_reducible exact H) | (have H2_ := (Option.bind_some _ _).symm.trans H; rw [hy139]; with_reducible exact H2_) | (have H2_ := (Option.bind_some _ _).symm.trans H; with_reducible exact H2_) | with_reducible exact H | (rw [hy139]; exact H) | exact H
                            have Ny139 := Aside0.mk hy139
                            clear hy139
                            have H' := Aside0.mk H
                            clear H
                            try go_wp2
                            have n0_ := Aside0.mk (Kd.R_drew HO_7.out)
                            have n1_ := Aside0.mk (below_drew1 HB.out)
                            clear HO_7
                            clear HB
                            have HO_7 := n0_
                            have HB := n1_
                            clear n0_ n1_
                            have p138 : 0 ≤ ((ji23) : Int) := of_decide_eq_true (by first | (with_reducible assumption) | assumption)
                            have q138 : (ji23) < (x7_2.length : Int) := of_decide_eq_true (by first | (with_reducible assumption) | assumption)
                            obtain ⟨ad138, e138, hx138_0⟩ := Kd.at_int (Kd.R_reads' HO_7.out).2.2 (ji23) p138 q138
                            cases e138
                            replace p138 := eq_true p138
                            replace q138 := eq_true q138
                            have p29 : 0 ≤ ((ji23) : Int) := of_decide_eq_true (by first | (with_reducible assumption) | assumption)
                            have q29 : ((ji23) : Int) < ((x7_2.length : Int) : Int) := of_decide_eq_true (by first | (with_reducible assumption) | assumption)
                            obtain ⟨go29, co29, eo29, gb29, gl29, cl29, HG29⟩ := Kd.R_form HO_7.out (by omega)
                            (first | cases eo29 | (injection eo29 with ea_ en_ ec_; (first | subst ea_ | (injection ea_ with ea_; subst ea_)); subst ec_; clear en_))
                            have GB29 := Aside0.mk gb29
                            have GG29 := Aside0.mk HG29
                            clear gb29 gl29 HG29
                            (first | simp only [add_plain] at hx138_0 | skip)
                            obtain ⟨hx29_0, hf29_0⟩ := Kd.R_celln 0 HO_7.out ((ji23) : Int) p29 q29
                            replace p29 := eq_true p29
                            replace q29 := eq_true q29
                            have HP31 := Kd.R_putn HO_7.out ((ji23) : Int) (Go.bits .xor .u8 (rd x7_2 (ji23)) (ji28))
                            rw [← Ny139.out] at HP31
                            have HQ31 := Aside0.mk HP31
                            clear HP31
                            refine start_ (n := 15) (S := fun w' => w'.cell? ⟨go29, ((ji23)).toNat, none⟩ = some (.int .u8 (rd x7_2 (ji23)))) (ds := [14]) #[false, false, false, false, false, false, false, false, false, false, false, false, false, false, false] (by kernel_rfl) rfl rfl (hx138_0) (fun hHeld => ?_); refine with_tabW undercroftlaw02_CrcFinds.tab13 undercroftlaw02_CrcFinds.bits13 (fun HT_ HW_ => ?_)
                            generalize wr.drew = w30 at HO_7 HB GG29 HQ31 hf29_0 hx138_0 hx29_0 hHeld ⊢
                            refine pure_ (i := 0) (N := some 53) (v := ?_) (a' := ?_) #[true, false, false, false, false, false, false, false, false, false, false, false, false, false, false] rfl rfl (any_of HT_.out (by kernel_rfl)) (fun _ _ _ h => h) (Or.inl ⟨by rfl, ?_⟩) ?_ ?_
                            rotate_left
                            · intro w'
                              go_simp
                              with_reducible rfl
                            rotate_left
                            · simp only [Act.put, List.setIfInBounds_toArray, List.set_cons_zero, List.set_cons_succ, i64_w, i32_w]
                              rfl
                            refine pure_ (i := 1) (N := some 54) (v := ?_) (a' := ?_) #[true, true, false, false, false, false, false, false, false, false, false, false, false, false, false] rfl rfl (any_of HT_.out (by kernel_rfl)) (fun _ _ _ h => h) (Or.inl ⟨by rfl, ?_⟩) ?_ ?_
                            rotate_left
                            · intro w'
                              go_simp
                              with_reducible rfl
                            rotate_left
                            · simp only [Act.put, List.setIfInBounds_toArray, List.set_cons_zero, List.set_cons_succ, i64_w, i32_w]
                              rfl
                            refine pure_ (i := 2) (N := some 55) (v := ?_) (a' := ?_) #[true, true, true, false, false, false, false, false, false, false, false, false, false, false, false] rfl rfl (any_of HT_.out (by kernel_rfl)) (fun _ _ _ h => h) (Or.inl ⟨by rfl, ?_⟩) ?_ ?_
                            rotate_left
                            · intro w'
                              go_simp
                              with_reducible rfl
                            rotate_left
                            · simp only [Act.put, List.setIfInBounds_toArray, List.set_cons_zero, List.set_cons_succ, i64_w, i32_w]
                              rfl
                            refine pure_ (i := 3) (N := some 56) (v := ?_) (a' := ?_) #[true, true, true, true, false, false, false, false, false, false, false, false, false, false, false] rfl rfl (any_of HT_.out (by kernel_rfl)) (fun _ _ _ h => h) (Or.inl ⟨by rfl, ?_⟩) ?_ ?_
                            rotate_left
                            · intro w'
                              go_simp
                              with_reducible rfl
                            rotate_left
                            · simp only [Act.put, List.setIfInBounds_toArray, List.set_cons_zero, List.set_cons_succ, i64_w, i32_w]
                              rfl
                            refine pure_ (i := 4) (N := some 57) (v := ?_) (a' := ?_) #[true, true, true, true, true, false, false, false, false, false, false, false, false, false, false] rfl rfl (any_of HT_.out (by kernel_rfl)) (fun _ _ _ h => h) (Or.inl ⟨by rfl, ?_⟩) ?_ ?_
                            rotate_left
                            · intro w'
                              go_simp
                              with_reducible rfl
                            rotate_left
                            · simp only [Act.put, List.setIfInBounds_toArray, List.set_cons_zero, List.set_cons_succ, i64_w, i32_w]
                              rfl
                            refine pure_ (i := 5) (N := some 58) (v := ?_) (a' := ?_) #[true, true, true, true, true, true, false, false, false, false, false, false, false, false, false] rfl rfl (any_of HT_.out (by kernel_rfl)) (fun _ _ _ h => h) (Or.inl ⟨by rfl, ?_⟩) ?_ ?_
                            rotate_left
                            · intro w'
                              go_simp
                              with_reducible rfl
                            rotate_left
                            · simp only [Act.put, List.setIfInBounds_toArray, List.set_cons_zero, List.set_cons_succ, i64_w, i32_w]
                              rfl
                            refine pure_ (i := 7) (N := some 60) (v := ?_) (a' := ?_) #[true, true, true, true, true, true, false, true, false, false, false, false, false, false, false] rfl rfl (any_of HT_.out (by kernel_rfl)) (fun _ _ _ h => h) (Or.inl ⟨by rfl, ?_⟩) ?_ ?_
                            rotate_left
                            · intro w'
                              go_simp
                              with_reducible rfl
                            rotate_left
                            · simp only [Act.put, List.setIfInBounds_toArray, List.set_cons_zero, List.set_cons_succ, i64_w, i32_w]
                              rfl
                            refine pure_ (i := 8) (N := some 61) (v := ?_) (a' := ?_) #[true, true, true, true, true, true, false, true, true, false, false, false, false, false, false] rfl rfl (any_of HT_.out (by kernel_rfl)) (fun _ _ _ h => h) (Or.inl ⟨by rfl, ?_⟩) ?_ ?_
                            rotate_left
                            · intro w'
                              go_simp
                              with_reducible rfl
                            rotate_left
                            · simp only [Act.put, List.setIfInBounds_toArray, List.set_cons_zero, List.set_cons_succ, i64_w, i32_w]
                              rfl
                            refine pure_ (i := 9) (N := some 62) (v := ?_) (a' := ?_) #[true, true, true, true, true, true, false, true, true, true, false, false, false, false, false] rfl rfl (any_of HT_.out (by kernel_rfl)) (fun _ _ _ h => h) (Or.inl ⟨by rfl, ?_⟩) ?_ ?_
                            rotate_left
                            · intro w'
                              go_simp
                              with_reducible rfl
                            rotate_left
                            · simp only [Act.put, List.setIfInBounds_toArray, List.set_cons_zero, List.set_cons_succ, i64_w, i32_w]
                              rfl
                            refine pure_ (i := 10) (N := some 63) (v := ?_) (a' := ?_) #[true, true, true, true, true, true, false, true, true, true, true, false, false, false, false] rfl rfl (any_of HT_.out (by kernel_rfl)) (fun _ _ _ h => h) (Or.inl ⟨by rfl, ?_⟩) ?_ ?_
                            rotate_left
                            · intro w'
                              go_simp
                              with_reducible rfl
                            rotate_left
                            · simp only [Act.put, List.setIfInBounds_toArray, List.set_cons_zero, List.set_cons_succ, i64_w, i32_w]
                              rfl
                            refine pure_ (i := 11) (N := some 64) (v := ?_) (a' := ?_) #[true, true, true, true, true, true, false, true, true, true, true, true, false, false, false] rfl rfl (any_of HT_.out (by kernel_rfl)) (fun _ _ _ h => h) (Or.inl ⟨by rfl, ?_⟩) ?_ ?_
                            rotate_left
                            · intro w'
                              go_simp
                              with_reducible rfl
                            rotate_left
                            · simp only [Act.put, List.setIfInBounds_toArray, List.set_cons_zero, List.set_cons_succ, i64_w, i32_w]
                              rfl
                            refine take_ (i := 6) (N := some 59) (v := ?_) (a' := ?_) #[true, true, true, true, true, true, true, true, true, true, true, true, false, false, false] rfl rfl (take_ofW HT_.out HW_.out (by kernel_rfl)) (fun _ _ _ h => h) (Or.inl ⟨by rfl, ?_⟩) hHeld ?_ ?_
                            rotate_left
                            · intro w' s0
                              go_simp
                              with_reducible rfl
                            rotate_left
                            · simp only [Act.put, List.setIfInBounds_toArray, List.set_cons_zero, List.set_cons_succ, i64_w, i32_w]
                              rfl
                            refine pure_ (i := 12) (N := some 65) (v := ?_) (a' := ?_) #[true, true, true, true, true, true, true, true, true, true, true, true, true, false, false] rfl rfl (any_of HT_.out (by kernel_rfl)) (fun _ _ _ h => h) (Or.inl ⟨by rfl, ?_⟩) ?_ ?_
                            rotate_left
                            · intro w'
                              go_simp
                              with_reducible rfl
                            rotate_left
                            · simp only [Act.put, List.setIfInBounds_toArray, List.set_cons_zero, List.set_cons_succ, i64_w, i32_w]
                              rfl
                            refine pure_ (i := 13) (N := some 66) (v := ?_) (a' := ?_) #[true, true, true, true, true, true, true, true, true, true, true, true, true, true, false] rfl rfl (any_of HT_.out (by kernel_rfl)) (fun _ _ _ h => h) (Or.inl ⟨by rfl, ?_⟩) ?_ ?_
                            rotate_left
                            · intro w'
                              go_simp
                              with_reducible rfl
                            rotate_left
                            · simp only [Act.put, List.setIfInBounds_toArray, List.set_cons_zero, List.set_cons_succ, i64_w, i32_w]
                              rfl
                            refine last_ (i := 14) (N := none) #[true, true, true, true, true, true, true, true, true, true, true, true, true, true, true] rfl rfl (one_of HT_.out (by kernel_rfl)) (by decide) (fun K hK => ?_)
                            refine skip_ (w1 := ?_) (by rfl) rfl ?_ ?_
                            rotate_left
                            · go_simp
                              rfl
                            refine hK.out _ _ ?_
                            clear hK K
                            refine done_ (done_of HT_.out (by kernel_rfl)) ?_
                            try go_wp2
                            (try simp only [← hl7_2])
                            go_roundg k2
                            case measure => have := HJ7.out; have := HK2.out; omega
                            case rel => exact ⟨(y139), (wrap64 (x11_2 + 1)), (by first | rfl | (simp; done) | (simp [*]; done)), H', ⟨by have := HJ7.out; have := HK2.out; omega⟩, ⟨by (try simp only [hl7_2]); (with_reducible repeat (first | apply Kd.R_alloc | apply Kd.R_drewN | apply Kd.R_drew)); exact HQ31.out⟩, ⟨by repeat (first | (with_reducible first | exact HB.out | apply below_alloc | apply pw_below_drewN | apply below_drew1 | refine below_set ?_ GB29.out) | exact HB.out)⟩⟩
                          · rw [if_neg c27] at H
                            exact absurd H (by simp)
                        · rw [if_neg c25] at H
                          exact absurd H (by simp)
                      · rw [if_neg c24] at H
                        exact absurd H (by simp)
                    · rw [if_neg c22] at H
                      have c22b0 : ((Go.bits .and .u32 (ji21) 1) == 1) = false := beq_eq_false_iff_ne.mpr c22
                      have c22b1 : ((Go.bits .and .u32 (ji21) 1) != 1) = true := bne_iff_ne.mpr c22
                      (try (have c22b0_0 := c22b0; simp only [hl7_2] at c22b0_0))
                      (try (have c22b1_0 := c22b1; simp only [hl7_2] at c22b1_0))
                      have H' := Aside0.mk H
                      clear H
                      go_wp2
                      (try simp only [← hl7_2])
                      go_roundg k2
                      case measure => have := HJ7.out; have := HK2.out; omega
                      case rel => exact ⟨(x7_2), (wrap64 (x11_2 + 1)), (by first | rfl | (simp; done) | (simp [*]; done)), H', ⟨by have := HJ7.out; have := HK2.out; omega⟩, ⟨by (try simp only [hl7_2]); (with_reducible repeat (first | apply Kd.R_alloc | apply Kd.R_drewN | apply Kd.R_drew)); exact HO_7.out⟩, ⟨by repeat (first | (with_reducible first | exact HB.out | apply below_alloc | apply pw_below_drewN | apply below_drew1) | exact HB.out)⟩⟩
                  · rw [if_neg c20] at H
                    exact absurd H (by simp)
                · rw [if_neg c19] at H
                  have c19b0 : decide (x11_2 < 32) = false := decide_eq_false c19
                  (try (have c19b0_0 := c19b0; simp only [hl7_2] at c19b0_0))
                  clear c19
                  replace H := Option.bind_eq_some_iff.mp H
                  obtain ⟨⟨t140, t141⟩, A320, H⟩ := H
                  replace H : (if a2 = 0 then ((undercroftlaw02_num.f t141).bind fun t144 => (if t144 = 0 then (some true) else (some false))) else ((undercroftlaw02_num.f t141).bind fun t145 => (if t145 = 21 then (some ((t140.length : Int) == 0)) else (some false)))) = some r := H
                  have A32 := Aside0.mk A320
                  clear A320
                  by_cases c33 : a2 = 0
                  · rw [if_pos c33] at H
                    have c33b0 : (a2 == 0) = true := beq_iff_eq.mpr c33
                    have c33b1 : (a2 != 0) = false := bne_eq_false_iff_eq.mpr c33
                    (try (have c33b0_0 := c33b0; simp only [hl7_2] at c33b0_0))
                    (try (have c33b1_0 := c33b1; simp only [hl7_2] at c33b1_0))
                    clear c33
                    replace H := Option.bind_eq_some_iff.mp H
                    obtain ⟨t144, A340, H⟩ := H
                    replace H : (if t144 = 0 then (some true) else (some false)) = some r := H
                    have A34 := Aside0.mk A340
                    clear A340
                    by_cases c35 : t144 = 0
                    · rw [if_pos c35] at H
                      have c35b0 : (t144 == 0) = true := beq_iff_eq.mpr c35
                      have c35b1 : (t144 != 0) = false := bne_eq_false_iff_eq.mpr c35
                      (try (have c35b0_0 := c35b0; simp only [hl7_2] at c35b0_0))
                      (try (have c35b1_0 := c35b1; simp only [hl7_2] at c35b1_0))
                      clear c35
                      obtain rfl := Option.some.inj H
                      go_wp2_with (first | ((with_reducible refine gate_callee (f := 14) rfl ?_); refine goesL_ (some 69) rfl rfl Try.func14 (by kernel_rfl) rfl #[.slice Ao11 x7_2.length co11] rfl (by (try simp only [List.map_toArray, List.map_cons, List.map_nil]); first | done | rfl | (simp only [List.length_drop, List.length_take]; rfl)) ?_; (with_reducible refine (crc_Open.calls k2 _ _ x7_2 t140 t141 _ ?side1 ?side2 A32.out).mono ?_); (case side1 => repeat (first | exact (Kd.R_reads' HO_7.out).2.2 | (with_reducible refine Kd.C_alloc ?_ _) | (with_reducible refine Kd.C_drewN ?_ _) | (with_reducible refine Kd.C_drew ?_))); (case side2 => exact (Kd.R_reads' HO_7.out).2.1); rintro e w36 ⟨v142, rfl, ho0, hb⟩; refine ⟨_, rfl, ?_⟩; have n0_ := Aside0.mk (Kd.R_elder' (by (with_reducible repeat (first | apply Kd.R_alloc | apply Kd.R_drewN | apply Kd.R_drew)); exact HO_7.out) (Kd.R_base ho0) hb); have n1_ := Aside0.mk (Kd.R_lower (Kd.R_new' ho0 (Kd.R_lt (by (with_reducible repeat (first | apply Kd.R_alloc | apply Kd.R_drewN | apply Kd.R_drew)); exact HO_7.out))) (below_size (by repeat (first | (with_reducible first | exact HB.out | apply below_alloc | apply pw_below_drewN | apply below_drew1) | exact HB.out)))); have n2_ := Aside0.mk (below_step (by repeat (first | (with_reducible first | exact HB.out | apply below_alloc | apply pw_below_drewN | apply below_drew1) | exact HB.out)) hb); clear HO_7; clear HB; have HO_7 := n0_; have HO143 := n1_; have HB := n2_; clear n0_ n1_ n2_; (try clear hb); (try clear hb2); (try clear hk); (try clear hi); (try clear ho0)) | (go_at_call 20; (with_reducible refine (undercroftlaw02_num.calls t141 t144 _ A34.out).mono ?_); rintro e w' ⟨rfl, ⟨nd, rfl⟩⟩))
                      go_ret
                      exact ⟨by first | rfl | (simp [errW_none, errW_some] <;> rfl) | (simp [*, errW_none, errW_some] <;> rfl), by repeat (first | (with_reducible first | exact HB.out | apply below_alloc | apply pw_below_drewN | apply below_drew1) | exact HB.out)⟩
                    · rw [if_neg c35] at H
                      have c35b0 : (t144 == 0) = false := beq_eq_false_iff_ne.mpr c35
                      have c35b1 : (t144 != 0) = true := bne_iff_ne.mpr c35
                      (try (have c35b0_0 := c35b0; simp only [hl7_2] at c35b0_0))
                      (try (have c35b1_0 := c35b1; simp only [hl7_2] at c35b1_0))
                      obtain rfl := Option.some.inj H
                      go_wp2_with (first | ((with_reducible refine gate_callee (f := 14) rfl ?_); refine goesL_ (some 69) rfl rfl Try.func14 (by kernel_rfl) rfl #[.slice Ao11 x7_2.length co11] rfl (by (try simp only [List.map_toArray, List.map_cons, List.map_nil]); first | done | rfl | (simp only [List.length_drop, List.length_take]; rfl)) ?_; (with_reducible refine (crc_Open.calls k2 _ _ x7_2 t140 t141 _ ?side1 ?side2 A32.out).mono ?_); (case side1 => repeat (first | exact (Kd.R_reads' HO_7.out).2.2 | (with_reducible refine Kd.C_alloc ?_ _) | (with_reducible refine Kd.C_drewN ?_ _) | (with_reducible refine Kd.C_drew ?_))); (case side2 => exact (Kd.R_reads' HO_7.out).2.1); rintro e w37 ⟨v142, rfl, ho0, hb⟩; refine ⟨_, rfl, ?_⟩; have n0_ := Aside0.mk (Kd.R_elder' (by (with_reducible repeat (first | apply Kd.R_alloc | apply Kd.R_drewN | apply Kd.R_drew)); exact HO_7.out) (Kd.R_base ho0) hb); have n1_ := Aside0.mk (Kd.R_lower (Kd.R_new' ho0 (Kd.R_lt (by (with_reducible repeat (first | apply Kd.R_alloc | apply Kd.R_drewN | apply Kd.R_drew)); exact HO_7.out))) (below_size (by repeat (first | (with_reducible first | exact HB.out | apply below_alloc | apply pw_below_drewN | apply below_drew1) | exact HB.out)))); have n2_ := Aside0.mk (below_step (by repeat (first | (with_reducible first | exact HB.out | apply below_alloc | apply pw_below_drewN | apply below_drew1) | exact HB.out)) hb); clear HO_7; clear HB; have HO_7 := n0_; have HO143 := n1_; have HB := n2_; clear n0_ n1_ n2_; (try clear hb); (try clear hb2); (try clear hk); (try clear hi); (try clear ho0)) | (go_at_call 20; (with_reducible refine (undercroftlaw02_num.calls t141 t144 _ A34.out).mono ?_); rintro e w' ⟨rfl, ⟨nd, rfl⟩⟩))
                      go_ret
                      exact ⟨by first | rfl | (simp [errW_none, errW_some] <;> rfl) | (simp [*, errW_none, errW_some] <;> rfl), by repeat (first | (with_reducible first | exact HB.out | apply below_alloc | apply pw_below_drewN | apply below_drew1) | exact HB.out)⟩
                  · rw [if_neg c33] at H
                    have c33b0 : (a2 == 0) = false := beq_eq_false_iff_ne.mpr c33
                    have c33b1 : (a2 != 0) = true := bne_iff_ne.mpr c33
                    (try (have c33b0_0 := c33b0; simp only [hl7_2] at c33b0_0))
                    (try (have c33b1_0 := c33b1; simp only [hl7_2] at c33b1_0))
                    replace H := Option.bind_eq_some_iff.mp H
                    obtain ⟨t145, A380, H⟩ := H
                    replace H : (if t145 = 21 then (some ((t140.length : Int) == 0)) else (some false)) = some r := H
                    have A38 := Aside0.mk A380
                    clear A380
                    by_cases c39 : t145 = 21
                    · rw [if_pos c39] at H
                      have c39b0 : (t145 == 21) = true := beq_iff_eq.mpr c39
                      have c39b1 : (t145 != 21) = false := bne_eq_false_iff_eq.mpr c39
                      (try (have c39b0_0 := c39b0; simp only [hl7_2] at c39b0_0))
                      (try (have c39b1_0 := c39b1; simp only [hl7_2] at c39b1_0))
                      clear c39
                      obtain rfl := Option.some.inj H
                      go_wp2_with (first | ((with_reducible refine gate_callee (f := 14) rfl ?_); refine goesL_ (some 69) rfl rfl Try.func14 (by kernel_rfl) rfl #[.slice Ao11 x7_2.length co11] rfl (by (try simp only [List.map_toArray, List.map_cons, List.map_nil]); first | done | rfl | (simp only [List.length_drop, List.length_take]; rfl)) ?_; (with_reducible refine (crc_Open.calls k2 _ _ x7_2 t140 t141 _ ?side1 ?side2 A32.out).mono ?_); (case side1 => repeat (first | exact (Kd.R_reads' HO_7.out).2.2 | (with_reducible refine Kd.C_alloc ?_ _) | (with_reducible refine Kd.C_drewN ?_ _) | (with_reducible refine Kd.C_drew ?_))); (case side2 => exact (Kd.R_reads' HO_7.out).2.1); rintro e w40 ⟨v142, rfl, ho0, hb⟩; refine ⟨_, rfl, ?_⟩; have n0_ := Aside0.mk (Kd.R_elder' (by (with_reducible repeat (first | apply Kd.R_alloc | apply Kd.R_drewN | apply Kd.R_drew)); exact HO_7.out) (Kd.R_base ho0) hb); have n1_ := Aside0.mk (Kd.R_lower (Kd.R_new' ho0 (Kd.R_lt (by (with_reducible repeat (first | apply Kd.R_alloc | apply Kd.R_drewN | apply Kd.R_drew)); exact HO_7.out))) (below_size (by repeat (first | (with_reducible first | exact HB.out | apply below_alloc | apply pw_below_drewN | apply below_drew1) | exact HB.out)))); have n2_ := Aside0.mk (below_step (by repeat (first | (with_reducible first | exact HB.out | apply below_alloc | apply pw_below_drewN | apply below_drew1) | exact HB.out)) hb); clear HO_7; clear HB; have HO_7 := n0_; have HO143 := n1_; have HB := n2_; clear n0_ n1_ n2_; (try clear hb); (try clear hb2); (try clear hk); (try clear hi); (try clear ho0)) | (go_at_call 20; (with_reducible refine (undercroftlaw02_num.calls t141 t145 _ A38.out).mono ?_); rintro e w' ⟨rfl, ⟨nd, rfl⟩⟩; obtain ⟨Ao41, co41, eo41⟩ := Kd.R_slice HO143.out; subst eo41))
                      go_ret
                      exact ⟨by first | rfl | (simp [errW_none, errW_some] <;> rfl) | (simp [*, errW_none, errW_some] <;> rfl), by repeat (first | (with_reducible first | exact HB.out | apply below_alloc | apply pw_below_drewN | apply below_drew1) | exact HB.out)⟩
                    · rw [if_neg c39] at H
                      have c39b0 : (t145 == 21) = false := beq_eq_false_iff_ne.mpr c39
                      have c39b1 : (t145 != 21) = true := bne_iff_ne.mpr c39
                      (try (have c39b0_0 := c39b0; simp only [hl7_2] at c39b0_0))
                      (try (have c39b1_0 := c39b1; simp only [hl7_2] at c39b1_0))
                      obtain rfl := Option.some.inj H
                      go_wp2_with (first | ((with_reducible refine gate_callee (f := 14) rfl ?_); refine goesL_ (some 69) rfl rfl Try.func14 (by kernel_rfl) rfl #[.slice Ao11 x7_2.length co11] rfl (by (try simp only [List.map_toArray, List.map_cons, List.map_nil]); first | done | rfl | (simp only [List.length_drop, List.length_take]; rfl)) ?_; (with_reducible refine (crc_Open.calls k2 _ _ x7_2 t140 t141 _ ?side1 ?side2 A32.out).mono ?_); (case side1 => repeat (first | exact (Kd.R_reads' HO_7.out).2.2 | (with_reducible refine Kd.C_alloc ?_ _) | (with_reducible refine Kd.C_drewN ?_ _) | (with_reducible refine Kd.C_drew ?_))); (case side2 => exact (Kd.R_reads' HO_7.out).2.1); rintro e w42 ⟨v142, rfl, ho0, hb⟩; refine ⟨_, rfl, ?_⟩; have n0_ := Aside0.mk (Kd.R_elder' (by (with_reducible repeat (first | apply Kd.R_alloc | apply Kd.R_drewN | apply Kd.R_drew)); exact HO_7.out) (Kd.R_base ho0) hb); have n1_ := Aside0.mk (Kd.R_lower (Kd.R_new' ho0 (Kd.R_lt (by (with_reducible repeat (first | apply Kd.R_alloc | apply Kd.R_drewN | apply Kd.R_drew)); exact HO_7.out))) (below_size (by repeat (first | (with_reducible first | exact HB.out | apply below_alloc | apply pw_below_drewN | apply below_drew1) | exact HB.out)))); have n2_ := Aside0.mk (below_step (by repeat (first | (with_reducible first | exact HB.out | apply below_alloc | apply pw_below_drewN | apply below_drew1) | exact HB.out)) hb); clear HO_7; clear HB; have HO_7 := n0_; have HO143 := n1_; have HB := n2_; clear n0_ n1_ n2_; (try clear hb); (try clear hb2); (try clear hk); (try clear hi); (try clear ho0)) | (go_at_call 20; (with_reducible refine (undercroftlaw02_num.calls t141 t145 _ A38.out).mono ?_); rintro e w' ⟨rfl, ⟨nd, rfl⟩⟩))
                      go_ret
                      exact ⟨by first | rfl | (simp [errW_none, errW_some] <;> rfl) | (simp [*, errW_none, errW_some] <;> rfl), by repeat (first | (with_reducible first | exact HB.out | apply below_alloc | apply pw_below_drewN | apply below_drew1) | exact HB.out)⟩
  · replace c5 := Bool.eq_false_iff.mpr c5
    subst c5
    have H1 : (some false) = some r := by rw [if_neg (show ¬ (false = true) by decide)] at H; exact H
    clear H
    have H := H1
    clear H1
    obtain rfl := Option.some.inj H
    go_enter Try.func7, Try.ntmps7
    go_wp2_with (first | ((with_reducible refine gate_callee (f := 9) rfl ?_); refine goesL_ (some 14) rfl rfl Try.func9 (by kernel_rfl) rfl #[] rfl (by (try simp only [List.map_toArray, List.map_cons, List.map_nil]); first | done | rfl | (simp only [List.length_drop, List.length_take]; rfl)) ?_; (with_reducible refine (undercroftlaw02_alive.calls  false _ A4.out).mono ?_); rintro e w43 ⟨rfl, hb⟩; refine ⟨_, rfl, ?_⟩; have n0_ := Aside0.mk (below_step (by repeat (first | (with_reducible first | exact HB.out | apply below_alloc | apply pw_below_drewN | apply below_drew1) | exact HB.out)) hb); clear HB; have HB := n0_; clear n0_; (try clear hb); (try clear hb2); (try clear hk); (try clear hi)))
    go_ret
    exact ⟨by first | rfl | (simp [errW_none, errW_some] <;> rfl) | (simp [*, errW_none, errW_some] <;> rfl), by repeat (first | (with_reducible first | exact HB.out | apply below_alloc | apply pw_below_drewN | apply below_drew1) | exact HB.out)⟩

/-- THE ONE PURE STATEMENT of undercroftlaw02_CrcFinds: yours. -/
def undercroftlaw02_CrcFinds.Pure : Prop := ∀ (l0 : List Int) (a1 : Int) (a2 : Int), l0.length ≤ maxLen → l0.length * 1 ≤ 140737488351232 → (∀ x ∈ l0, (Lit.int .u8 x).wf = true) → (Lit.int .i64 a1).wf = true → (Lit.int .u32 a2).wf = true → ∃ k, undercroftlaw02_CrcFinds.f k l0 a1 a2 = some true
theorem undercroftlaw02_CrcFinds.walk (P : undercroftlaw02_CrcFinds.Pure) (a0 : Option Addr) (len0 cap0 : Nat) (z0 : List Int) (a1 : Int) (a2 : Int) (w : World) (w0 : (a0 = none ∧ len0 = 0 ∧ cap0 = 0 ∧ z0 = []) ∨ ∃ x, a0 = some x ∧ len0 ≤ cap0 ∧ cap0 ≤ maxLen ∧ z0.length = cap0 ∧ (∀ i, i < z0.length → w.cell? (x.add i) = some (.int .u8 (z0.getD i 0))) ∧ ∀ n ∈ z0, (Lit.int .u8 n).wf = true) (y0 : len0 * 1 ≤ 140737488351232) (w1 : (Lit.int .i64 a1).wf = true) (w2 : (Lit.int .u32 a2).wf = true) :
    Calls Try.prog 7 #[.slice a0 len0 cap0, .int .i64 a1, .int .u32 a2] w fun e w' => e = .returned (.bool true) ∧ Below w.heap.size w w' := by
  obtain ⟨l0, rfl, hr0, hm0, hw0, hc0⟩ := ReadsInt.ofRowC w0
  obtain ⟨k, h⟩ := P l0 a1 a2 hm0 y0 hw0 w1 w2
  refine (undercroftlaw02_CrcFinds.calls k _ _ l0 a1 a2 true w (Kd.C_of_reads (d := (0 : Int)) (h1 := fun _ => rfl) hr0) hc0 h).mono ?_
  rintro e w' ⟨rfl, hd⟩
  exact ⟨rfl, hd⟩

end Go.Proofs.Ytmplcdcgafbfhaa.PCrcFinds
