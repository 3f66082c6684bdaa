-- Written by a program of this session (gen.py).
import Derived.Test.YtofflfacfjkikaaPClix0
import Derived.Test.YtofflfacfjkikaaPClix5
import Derived.Test.YtofflfacfjkikaaPClix6
namespace Go.Proofs.Ytofflfacfjkikaa.PCli
open Go.RowKit Go.Proofs.YtofflfacfjkikaaW.PrintWords Go.Proofs.YtofflfacfjkikaaW.PrintLast Go.Proofs.YtofflfacfjkikaaW.PrintMore
open Go.Proofs.Ytofflfacfjkikaa.Own
attribute [local go_sem high] unary_not_u32 unary_not_u64 unary_not_u8 string_leq_ string_gtr_
attribute [local go_sem] max2_int min2_int max_two min_two max_three min_three max_four min_four   -- for this text's walks alone
set_option linter.unusedVariables false
set_option linter.unusedSimpArgs false

/-! ### undercroftref20_Own: function 27 -/
def undercroftref20_Own.l0 : Nat → List (S52) → List (S52) → Int → Option ((List (S52)))
  | 0, _, _, _ => none
  | k + 1, x0, x3, x4 => if x4 < (x0.length : Int) then (if 0 ≤ x4 then ((undercroftref02_Copied.f ((rd_T52 x0 x4).f2)).bind fun t150 => (if x3.length < 3518437208883 then (undercroftref20_Own.l0 k x0 (x3 ++ [(⟨(rd_T52 x0 x4).f0, (rd_T52 x0 x4).f1, t150⟩ : S52)]) (wrap64 (x4 + 1))) else (none))) else (none)) else (some x3)
def undercroftref20_Own.f (k : Nat) (l0 : List (S52)) : Option ((List (S52))) := undercroftref20_Own.l0 k l0 ([] : List (S52)) 0
theorem undercroftref20_Own.mono_l : ∀ k, (∀ y0 y1 y2, LeO (undercroftref20_Own.l0 k y0 y1 y2) (undercroftref20_Own.l0 (k + 1) y0 y1 y2))
  | 0 => fun _ _ _ r h => by simp [undercroftref20_Own.l0] at h
  | k + 1 => by
    have ih0 := undercroftref20_Own.mono_l k
    · intro y0 y1 y2
      unfold undercroftref20_Own.l0
      repeat' first
      | (with_reducible exact ih0 _ _ _)
      | (with_reducible exact LeO.refl _)
      | (with_reducible exact LeO.none _)
      | (with_reducible refine LeO.ite ?_ ?_)
      | (with_reducible refine LeO.bind ?_ (fun _ => ?_))
      | exact ih0 _ _ _
      | exact LeO.none _
      | refine LeO.ite ?_ ?_
      | refine LeO.bind ?_ (fun _ => ?_)
theorem undercroftref20_Own.mono : ∀ a0 k, LeO (undercroftref20_Own.f k a0) (undercroftref20_Own.f (k + 1) a0) := by
  intro a0 k
  have ih0 := undercroftref20_Own.mono_l k
  unfold undercroftref20_Own.f
  repeat' first
      | (with_reducible exact ih0 _ _ _)
      | (with_reducible exact LeO.refl _)
      | (with_reducible exact LeO.none _)
      | (with_reducible refine LeO.ite ?_ ?_)
      | (with_reducible refine LeO.bind ?_ (fun _ => ?_))
      | exact ih0 _ _ _
      | exact LeO.none _
      | refine LeO.ite ?_ ?_
      | refine LeO.bind ?_ (fun _ => ?_)
def undercroftref20_Own.T5 : Bool × List (List Nat × List Nat) := (true, [([], []), ([], []), ([], []), ([1, 2], [1, 2]), ([3], [3]), ([4], [4]), ([], []), ([], []), ([6, 7], [6, 7]), ([8], [8]), ([9], [9]), ([], []), ([], []), ([11, 12], [11, 12]), ([13], [13]), ([14], [14]), ([15], [15]), ([5, 10, 16], [5, 10, 16]), ([17], [17]), ([0, 18, 16], [0, 18]), ([19, 19, 0, 1, 2, 3, 4, 5, 6, 7, 8, 9, 10, 11, 12, 13, 14, 15, 16, 17, 18, 19], [0, 19])])
def undercroftref20_Own.B5 : List Nat := [0, 0, 0, 6, 14, 30, 0, 0, 192, 448, 960, 0, 0, 6144, 14336, 30720, 63488, 131070, 262142, 524287, 1048575]
theorem undercroftref20_Own.tab5 : rtab .any (opsOf Try.f27 5) = undercroftref20_Own.T5 := by kernel_rfl
theorem undercroftref20_Own.bits5 : waitsOk undercroftref20_Own.T5.2 undercroftref20_Own.B5 = true := by kernel_rfl
set_option maxHeartbeats 8000000 in
set_option maxRecDepth 100000 in
theorem undercroftref20_Own.calls (k : Nat) (A0 : Option Addr) (c0 : Nat) (l0 : List (S52)) (r : List (S52)) (w : World) (hr0 : Kd.C k52 w A0 l0.length l0) (hc0 : l0.length ≤ c0) (h : undercroftref20_Own.f k l0 = some r) :
    Calls Try.prog 27 #[.slice A0 l0.length c0] w fun e w' => ∃ v0_ : Value, e = .returned (v0_) ∧ Kd.S k52 52 w' w.heap.size (fun _ => True) v0_ r ∧ Below w.heap.size w w' := by
  have hu52 := Try.underlying52
  have HR0 := Aside0.mk hr0
  have HC0 := Aside0.mk hc0
  clear hr0 hc0
  have HB := Aside0.mk (Below.refl w.heap.size w)
  have H : (undercroftref20_Own.l0 k l0 ([] : List (S52)) 0) = some r := h
  clear h
  have H' := Aside0.mk H
  clear H
  go_enter Try.func27, Try.ntmps27
  go_wp2
  go_loopg [3, 4] k (fun kq v3 v4 w' => ∃ (x3_1 : List (S52)) (x4_1 : Int), v4 = .int .i64 x4_1 ∧ Aside0 (undercroftref20_Own.l0 kq l0 x3_1 x4_1 = some r) ∧ Aside0 (kq ≤ k) ∧ Aside0 (Kd.S k52 52 w' w.heap.size (fun _ => True) v3 x3_1) ∧ Aside0 (Below w.heap.size w w'))
  case atStart => exact ⟨(([] : List (S52))), (0), (by first | rfl | (simp; done) | (simp [*]; done)), H', ⟨Nat.le_refl _⟩, ⟨by first | exact Kd.S_nil _ _ _ _ _ | exact Kd.N_nil _ _ _ _ _ | exact Kd.V_nil _ _ _ _ _ | exact Kd.Q_nil _ _ _ _ _ | exact Kd.R_nil _ _ _ _ _⟩, ⟨by repeat (first | (with_reducible first | exact HB.out | apply below_alloc | apply pw_below_drewN | apply below_drew1) | exact HB.out)⟩⟩
  case round =>
    clear H'
    obtain ⟨x3_1, x4_1, rfl, HA, HK1, HO_3, HB⟩ := hrel
    cases gk with
    | zero => exact absurd HA.out (by simp [undercroftref20_Own.l0])
    | succ k1 =>
      have H := HA.out
      clear HA
      simp only [undercroftref20_Own.l0] at H
      by_cases c2 : x4_1 < (l0.length : Int)
      · rw [if_pos c2] at H
        have c2b0 : decide (x4_1 < (l0.length : Int)) = true := decide_eq_true c2
        clear c2
        by_cases c3 : 0 ≤ x4_1
        · rw [if_pos c3] at H
          have c3b0 : decide (0 ≤ x4_1) = true := decide_eq_true c3
          clear c3
          replace H := Option.bind_eq_some_iff.mp H
          obtain ⟨t150, A40, H⟩ := H
          replace H : (if x3_1.length < 3518437208883 then (undercroftref20_Own.l0 k1 l0 (x3_1 ++ [(⟨(rd_T52 l0 x4_1).f0, (rd_T52 l0 x4_1).f1, t150⟩ : S52)]) (wrap64 (x4_1 + 1))) else (none)) = some r := H
          have A4 := Aside0.mk A40
          clear A40
          by_cases c5 : x3_1.length < 3518437208883
          · rw [if_pos c5] at H
            have LMc5 := Aside0.mk c5
            clear c5
            obtain ⟨y153, hy153⟩ : ∃ y_ : List (S52), y_ = (x3_1 ++ [(⟨(rd_T52 l0 x4_1).f0, (rd_T52 l0 x4_1).f1, t150⟩ : S52)]) := ⟨_, rfl⟩
            replace H : (undercroftref20_Own.l0 k1 l0 y153 (wrap64 (x4_1 + 1))) = some r := by first | (rw [hy153]; with_reducible exact H) | (have H2_ := (Option.bind_some _ _).symm.trans H; rw [hy153]; with_reducible exact H2_) | (have H2_ := (Option.bind_some _ _).symm.trans H; with_reducible exact H2_) | with_reducible exact H | (rw [hy153]; exact H) | exact H
            have Ny153 := Aside0.mk hy153
            clear hy153
            have H' := Aside0.mk H
            clear H
            try go_wp2
            have n0_ := Aside0.mk (Kd.S_drew HO_3.out)
            have n1_ := Aside0.mk (below_drew1 HB.out)
            clear HO_3
            clear HB
            have HO_3 := n0_
            have HB := n1_
            clear n0_ n1_
            have p147 : 0 ≤ (x4_1 : Int) := of_decide_eq_true (by first | (with_reducible assumption) | assumption)
            have q147 : x4_1 < (l0.length : Int) := of_decide_eq_true (by first | (with_reducible assumption) | assumption)
            obtain ⟨ad147, A147_2, c147_2, e147, hx147_0, hx147_1, hx147_2, hl147_2, hi147_2⟩ := at_T52 HR0.out x4_1 p147 q147
            have hw147_2 := hx147_2
            have hw147_1 := hx147_1
            have hw147_0 := hx147_0
            cases e147
            replace hx147_0 := (HB.out.cell (World.block_lt_of_cell? w _ hx147_0)).trans hx147_0
            replace hx147_1 := (HB.out.cell (World.block_lt_of_cell? w _ hx147_1)).trans hx147_1
            replace hx147_2 := (HB.out.cell (World.block_lt_of_cell? w _ hx147_2)).trans hx147_2
            have HR147_2 := Aside0.mk hi147_2
            have HC147_2 := Aside0.mk hl147_2
            clear hi147_2 hl147_2
            replace p147 := eq_true p147
            replace q147 := eq_true q147
            have p148 : 0 ≤ (x4_1 : Int) := of_decide_eq_true (by first | (with_reducible assumption) | assumption)
            have q148 : x4_1 < (l0.length : Int) := of_decide_eq_true (by first | (with_reducible assumption) | assumption)
            obtain ⟨ad148, A148_2, c148_2, e148, hx148_0, hx148_1, hx148_2, hl148_2, hi148_2⟩ := at_T52 HR0.out x4_1 p148 q148
            have hw148_2 := hx148_2
            have hw148_1 := hx148_1
            have hw148_0 := hx148_0
            obtain rfl : ad147 = ad148 := (by injection e148)
            replace hx148_0 := (HB.out.cell (World.block_lt_of_cell? w _ hx148_0)).trans hx148_0
            replace hx148_1 := (HB.out.cell (World.block_lt_of_cell? w _ hx148_1)).trans hx148_1
            replace hx148_2 := (HB.out.cell (World.block_lt_of_cell? w _ hx148_2)).trans hx148_2
            have HR148_2 := Aside0.mk hi148_2
            have HC148_2 := Aside0.mk hl148_2
            clear hi148_2 hl148_2
            replace p148 := eq_true p148
            replace q148 := eq_true q148
            have ea_ := Option.some.inj (hx147_2.symm.trans hx148_2)
            injection ea_ with ea_ en_ ec_
            subst ea_
            subst ec_
            clear en_
            have p149 : 0 ≤ (x4_1 : Int) := of_decide_eq_true (by first | (with_reducible assumption) | assumption)
            have q149 : x4_1 < (l0.length : Int) := of_decide_eq_true (by first | (with_reducible assumption) | assumption)
            obtain ⟨ad149, A149_2, c149_2, e149, hx149_0, hx149_1, hx149_2, hl149_2, hi149_2⟩ := at_T52 HR0.out x4_1 p149 q149
            have hw149_2 := hx149_2
            have hw149_1 := hx149_1
            have hw149_0 := hx149_0
            obtain rfl : ad147 = ad149 := (by injection e149)
            replace hx149_0 := (HB.out.cell (World.block_lt_of_cell? w _ hx149_0)).trans hx149_0
            replace hx149_1 := (HB.out.cell (World.block_lt_of_cell? w _ hx149_1)).trans hx149_1
            replace hx149_2 := (HB.out.cell (World.block_lt_of_cell? w _ hx149_2)).trans hx149_2
            have HR149_2 := Aside0.mk hi149_2
            have HC149_2 := Aside0.mk hl149_2
            clear hi149_2 hl149_2
            replace p149 := eq_true p149
            replace q149 := eq_true q149
            have ea_ := Option.some.inj (hx147_2.symm.trans hx149_2)
            injection ea_ with ea_ en_ ec_
            subst ea_
            subst ec_
            clear en_
            refine start_ (n := 21) (S := fun w' => w'.cell? (ad147.add ((x4_1).toNat * 3)) = some (.int .i64 ((rd_T52 l0 x4_1).f0)) ∧ w'.cell? ⟨(ad147.add ((x4_1).toNat * 3)).block, (ad147.add ((x4_1).toNat * 3)).off + 1, none⟩ = some (.int .i64 ((rd_T52 l0 x4_1).f1)) ∧ w'.cell? ⟨(ad147.add ((x4_1).toNat * 3)).block, (ad147.add ((x4_1).toNat * 3)).off + 2, none⟩ = some (.slice A147_2 ((rd_T52 l0 x4_1).f2).length c147_2) ∧ w'.cell? (ad147.add ((x4_1).toNat * 3)) = some (.int .i64 ((rd_T52 l0 x4_1).f0)) ∧ w'.cell? ⟨(ad147.add ((x4_1).toNat * 3)).block, (ad147.add ((x4_1).toNat * 3)).off + 1, none⟩ = some (.int .i64 ((rd_T52 l0 x4_1).f1)) ∧ w'.cell? ⟨(ad147.add ((x4_1).toNat * 3)).block, (ad147.add ((x4_1).toNat * 3)).off + 2, none⟩ = some (.slice A147_2 ((rd_T52 l0 x4_1).f2).length c147_2) ∧ w'.cell? (ad147.add ((x4_1).toNat * 3)) = some (.int .i64 ((rd_T52 l0 x4_1).f0)) ∧ w'.cell? ⟨(ad147.add ((x4_1).toNat * 3)).block, (ad147.add ((x4_1).toNat * 3)).off + 1, none⟩ = some (.int .i64 ((rd_T52 l0 x4_1).f1)) ∧ w'.cell? ⟨(ad147.add ((x4_1).toNat * 3)).block, (ad147.add ((x4_1).toNat * 3)).off + 2, none⟩ = some (.slice A147_2 ((rd_T52 l0 x4_1).f2).length c147_2)) (ds := []) #[false, false, false, false, false, false, false, false, false, false, false, false, false, false, false, false, false, false, false, false, false] (by kernel_rfl) rfl rfl ⟨((HB.out.cell (World.block_lt_of_cell? w _ hw147_0)).trans hw147_0), ((HB.out.cell (World.block_lt_of_cell? w _ hw147_1)).trans hw147_1), ((HB.out.cell (World.block_lt_of_cell? w _ hw147_2)).trans hw147_2), ((HB.out.cell (World.block_lt_of_cell? w _ hw148_0)).trans hw148_0), ((HB.out.cell (World.block_lt_of_cell? w _ hw148_1)).trans hw148_1), ((HB.out.cell (World.block_lt_of_cell? w _ hw148_2)).trans hw148_2), ((HB.out.cell (World.block_lt_of_cell? w _ hw149_0)).trans hw149_0), ((HB.out.cell (World.block_lt_of_cell? w _ hw149_1)).trans hw149_1), ((HB.out.cell (World.block_lt_of_cell? w _ hw149_2)).trans hw149_2)⟩ (fun hHeld => ?_); refine with_tabW undercroftref20_Own.tab5 undercroftref20_Own.bits5 (fun HT_ HW_ => ?_)
            generalize wr.drew = w6 at HO_3 HB HR147_2 HR148_2 HR149_2 hx147_0 hx147_1 hx147_2 hx148_0 hx148_1 hx148_2 hx149_0 hx149_1 hx149_2 hHeld ⊢
            refine pure_ (i := 0) (N := some 11) (v := ?_) (a' := ?_) #[true, false, false, false, false, false, false, false, false, false, false, false, false, false, false, false, false, false, false, false, false] rfl rfl (any_of HT_.out (by kernel_rfl)) (fun _ _ _ h => h) (Or.inl ⟨by rfl, ?_⟩) ?_ ?_
            rotate_left
            · intro w'
              go_simp
              with_reducible rfl
            rotate_left
            · simp only [Act.put, List.setIfInBounds_toArray, List.set_cons_zero, List.set_cons_succ, i64_w, i32_w]
              rfl
            refine pure_ (i := 1) (N := some 12) (v := ?_) (a' := ?_) #[true, true, false, false, false, false, false, false, false, false, false, false, false, false, false, false, false, false, false, false, false] rfl rfl (any_of HT_.out (by kernel_rfl)) (fun _ _ _ h => h) (Or.inl ⟨by rfl, ?_⟩) ?_ ?_
            rotate_left
            · intro w'
              go_simp
              with_reducible rfl
            rotate_left
            · simp only [Act.put, List.setIfInBounds_toArray, List.set_cons_zero, List.set_cons_succ, i64_w, i32_w]
              rfl
            refine pure_ (i := 2) (N := some 13) (v := ?_) (a' := ?_) #[true, true, true, false, false, false, false, false, false, false, false, false, false, false, false, false, false, false, false, false, false] rfl rfl (any_of HT_.out (by kernel_rfl)) (fun _ _ _ h => h) (Or.inl ⟨by rfl, ?_⟩) ?_ ?_
            rotate_left
            · intro w'
              go_simp
              with_reducible rfl
            rotate_left
            · simp only [Act.put, List.setIfInBounds_toArray, List.set_cons_zero, List.set_cons_succ, i64_w, i32_w]
              rfl
            refine pure_ (i := 3) (N := some 14) (v := ?_) (a' := ?_) #[true, true, true, true, false, false, false, false, false, false, false, false, false, false, false, false, false, false, false, false, false] rfl rfl (any_of HT_.out (by kernel_rfl)) (fun _ _ _ h => h) (Or.inl ⟨by rfl, ?_⟩) ?_ ?_
            rotate_left
            · intro w'
              go_simp
              with_reducible rfl
            rotate_left
            · simp only [Act.put, List.setIfInBounds_toArray, List.set_cons_zero, List.set_cons_succ, i64_w, i32_w]
              rfl
            refine pure_ (i := 4) (N := some 15) (v := ?_) (a' := ?_) #[true, true, true, true, true, false, false, false, false, false, false, false, false, false, false, false, false, false, false, false, false] rfl rfl (any_of HT_.out (by kernel_rfl)) (fun _ _ _ h => h) (Or.inl ⟨by rfl, ?_⟩) ?_ ?_
            rotate_left
            · intro w'
              go_simp
              with_reducible rfl
            rotate_left
            · simp only [Act.put, List.setIfInBounds_toArray, List.set_cons_zero, List.set_cons_succ, i64_w, i32_w]
              rfl
            refine pure_ (i := 6) (N := some 17) (v := ?_) (a' := ?_) #[true, true, true, true, true, false, true, false, false, false, false, false, false, false, false, false, false, false, false, false, false] rfl rfl (any_of HT_.out (by kernel_rfl)) (fun _ _ _ h => h) (Or.inl ⟨by rfl, ?_⟩) ?_ ?_
            rotate_left
            · intro w'
              go_simp
              with_reducible rfl
            rotate_left
            · simp only [Act.put, List.setIfInBounds_toArray, List.set_cons_zero, List.set_cons_succ, i64_w, i32_w]
              rfl
            refine pure_ (i := 7) (N := some 18) (v := ?_) (a' := ?_) #[true, true, true, true, true, false, true, true, false, false, false, false, false, false, false, false, false, false, false, false, false] rfl rfl (any_of HT_.out (by kernel_rfl)) (fun _ _ _ h => h) (Or.inl ⟨by rfl, ?_⟩) ?_ ?_
            rotate_left
            · intro w'
              go_simp
              with_reducible rfl
            rotate_left
            · simp only [Act.put, List.setIfInBounds_toArray, List.set_cons_zero, List.set_cons_succ, i64_w, i32_w]
              rfl
            refine pure_ (i := 8) (N := some 19) (v := ?_) (a' := ?_) #[true, true, true, true, true, false, true, true, true, false, false, false, false, false, false, false, false, false, false, false, false] rfl rfl (any_of HT_.out (by kernel_rfl)) (fun _ _ _ h => h) (Or.inl ⟨by rfl, ?_⟩) ?_ ?_
            rotate_left
            · intro w'
              go_simp
              with_reducible rfl
            rotate_left
            · simp only [Act.put, List.setIfInBounds_toArray, List.set_cons_zero, List.set_cons_succ, i64_w, i32_w]
              rfl
            refine pure_ (i := 9) (N := some 20) (v := ?_) (a' := ?_) #[true, true, true, true, true, false, true, true, true, true, false, false, false, false, false, false, false, false, false, false, false] rfl rfl (any_of HT_.out (by kernel_rfl)) (fun _ _ _ h => h) (Or.inl ⟨by rfl, ?_⟩) ?_ ?_
            rotate_left
            · intro w'
              go_simp
              with_reducible rfl
            rotate_left
            · simp only [Act.put, List.setIfInBounds_toArray, List.set_cons_zero, List.set_cons_succ, i64_w, i32_w]
              rfl
            refine pure_ (i := 11) (N := some 22) (v := ?_) (a' := ?_) #[true, true, true, true, true, false, true, true, true, true, false, true, false, false, false, false, false, false, false, false, false] rfl rfl (any_of HT_.out (by kernel_rfl)) (fun _ _ _ h => h) (Or.inl ⟨by rfl, ?_⟩) ?_ ?_
            rotate_left
            · intro w'
              go_simp
              with_reducible rfl
            rotate_left
            · simp only [Act.put, List.setIfInBounds_toArray, List.set_cons_zero, List.set_cons_succ, i64_w, i32_w]
              rfl
            refine pure_ (i := 12) (N := some 23) (v := ?_) (a' := ?_) #[true, true, true, true, true, false, true, true, true, true, false, true, true, false, false, false, false, false, false, false, false] rfl rfl (any_of HT_.out (by kernel_rfl)) (fun _ _ _ h => h) (Or.inl ⟨by rfl, ?_⟩) ?_ ?_
            rotate_left
            · intro w'
              go_simp
              with_reducible rfl
            rotate_left
            · simp only [Act.put, List.setIfInBounds_toArray, List.set_cons_zero, List.set_cons_succ, i64_w, i32_w]
              rfl
            refine pure_ (i := 13) (N := some 24) (v := ?_) (a' := ?_) #[true, true, true, true, true, false, true, true, true, true, false, true, true, true, false, false, false, false, false, false, false] rfl rfl (any_of HT_.out (by kernel_rfl)) (fun _ _ _ h => h) (Or.inl ⟨by rfl, ?_⟩) ?_ ?_
            rotate_left
            · intro w'
              go_simp
              with_reducible rfl
            rotate_left
            · simp only [Act.put, List.setIfInBounds_toArray, List.set_cons_zero, List.set_cons_succ, i64_w, i32_w]
              rfl
            refine pure_ (i := 14) (N := some 25) (v := ?_) (a' := ?_) #[true, true, true, true, true, false, true, true, true, true, false, true, true, true, true, false, false, false, false, false, false] rfl rfl (any_of HT_.out (by kernel_rfl)) (fun _ _ _ h => h) (Or.inl ⟨by rfl, ?_⟩) ?_ ?_
            rotate_left
            · intro w'
              go_simp
              with_reducible rfl
            rotate_left
            · simp only [Act.put, List.setIfInBounds_toArray, List.set_cons_zero, List.set_cons_succ, i64_w, i32_w]
              rfl
            refine take_ (i := 5) (N := some 16) (v := ?_) (a' := ?_) #[true, true, true, true, true, true, true, true, true, true, false, true, true, true, true, false, false, false, false, false, false] rfl rfl (take_ofW HT_.out HW_.out (by kernel_rfl)) (fun _ _ _ h => h) (Or.inl ⟨by rfl, ?_⟩) hHeld ?_ ?_
            rotate_left
            · rintro w' ⟨s0, s1, s2, s3, s4, s5, s6, s7, s8⟩
              go_simp
              with_reducible rfl
            rotate_left
            · simp only [Act.put, List.setIfInBounds_toArray, List.set_cons_zero, List.set_cons_succ, i64_w, i32_w]
              rfl
            refine take_ (i := 10) (N := some 21) (v := ?_) (a' := ?_) #[true, true, true, true, true, true, true, true, true, true, true, true, true, true, true, false, false, false, false, false, false] rfl rfl (take_ofW HT_.out HW_.out (by kernel_rfl)) (fun _ _ _ h => h) (Or.inl ⟨by rfl, ?_⟩) hHeld ?_ ?_
            rotate_left
            · rintro w' ⟨s0, s1, s2, s3, s4, s5, s6, s7, s8⟩
              go_simp
              with_reducible rfl
            rotate_left
            · simp only [Act.put, List.setIfInBounds_toArray, List.set_cons_zero, List.set_cons_succ, i64_w, i32_w]
              rfl
            refine take_ (i := 15) (N := some 26) (v := ?_) (a' := ?_) #[true, true, true, true, true, true, true, true, true, true, true, true, true, true, true, true, false, false, false, false, false] rfl rfl (take_ofW HT_.out HW_.out (by kernel_rfl)) (fun _ _ _ h => h) (Or.inl ⟨by rfl, ?_⟩) hHeld ?_ ?_
            rotate_left
            · rintro w' ⟨s0, s1, s2, s3, s4, s5, s6, s7, s8⟩
              go_simp
              with_reducible rfl
            rotate_left
            · simp only [Act.put, List.setIfInBounds_toArray, List.set_cons_zero, List.set_cons_succ, i64_w, i32_w]
              rfl
            refine one_ (i := 16) (N := some 27) #[true, true, true, true, true, true, true, true, true, true, true, true, true, true, true, true, true, false, false, false, false] rfl rfl (one_of HT_.out (by kernel_rfl)) (by decide) (fun K hK => ?_)
            refine goes_ Try.func24 (by kernel_rfl) rfl #[.slice A147_2 ((rd_T52 l0 x4_1).f2).length c147_2] (by rfl) rfl rfl (by (try simp only [List.map_toArray, List.map_cons, List.map_nil]); first | done | rfl | (simp only [List.length_drop, List.length_take]; rfl)) ?_
            with_reducible refine (undercroftref02_Copied.calls _ _ ((rd_T52 l0 x4_1).f2) t150 _ ?side1 ?side2 A4.out).mono ?_
            (case side1 => repeat (first | exact (Kd.C_below HR149_2.out HB.out) | (with_reducible refine Kd.C_alloc ?_ _) | (with_reducible refine Kd.C_drewN ?_ _) | (with_reducible refine Kd.C_drew ?_)))
            (case side2 => exact HC149_2.out)
            rintro e w7 ⟨v151, rfl, ho0, hb⟩
            refine ⟨_, rfl, ?_⟩
            have n0_ := Aside0.mk (Kd.S_elder' (by (with_reducible repeat (first | apply Kd.S_alloc | apply Kd.S_drewN | apply Kd.S_drew)); exact HO_3.out) (Kd.R_base ho0) hb)
            have n1_ := Aside0.mk (Kd.R_lower ho0 (below_size (by repeat (first | (with_reducible first | exact HB.out | apply below_alloc | apply pw_below_drewN | apply below_drew1) | exact HB.out))))
            have n2_ := Aside0.mk (below_step (by repeat (first | (with_reducible first | exact HB.out | apply below_alloc | apply pw_below_drewN | apply below_drew1) | exact HB.out)) hb)
            clear HO_3
            clear HB
            have HO_3 := n0_
            have HO152 := n1_
            have HB := n2_
            clear n0_ n1_ n2_
            (try clear hb)
            (try clear hb2)
            (try clear hk)
            (try clear hi)
            (try clear ho0)
            obtain ⟨Ao8, co8, eo8⟩ := Kd.R_slice HO152.out
            (first | subst eo8 | (injection eo8 with f1_ f2_ f3_; have f4_ := f1_.symm; have f5_ := f3_.symm; clear f1_ f2_ f3_; subst f4_; subst f5_))
            refine hK.out _ _ ⟨((HB.out.cell (World.block_lt_of_cell? w _ hw147_0)).trans hw147_0), ((HB.out.cell (World.block_lt_of_cell? w _ hw147_1)).trans hw147_1), ((HB.out.cell (World.block_lt_of_cell? w _ hw147_2)).trans hw147_2), ((HB.out.cell (World.block_lt_of_cell? w _ hw148_0)).trans hw148_0), ((HB.out.cell (World.block_lt_of_cell? w _ hw148_1)).trans hw148_1), ((HB.out.cell (World.block_lt_of_cell? w _ hw148_2)).trans hw148_2), ((HB.out.cell (World.block_lt_of_cell? w _ hw149_0)).trans hw149_0), ((HB.out.cell (World.block_lt_of_cell? w _ hw149_1)).trans hw149_1), ((HB.out.cell (World.block_lt_of_cell? w _ hw149_2)).trans hw149_2)⟩ (fun hHeld => ?_)
            clear hK K
            refine norm_ (a' := ?_) ?_ ?_
            rotate_left
            · show Act.put _ (some 27) _ = _
              simp only [Act.put, List.setIfInBounds_toArray, List.set_cons_zero, List.set_cons_succ, i64_w, i32_w]
              rfl
            refine pure_ (i := 17) (N := some 28) (v := ?_) (a' := ?_) #[true, true, true, true, true, true, true, true, true, true, true, true, true, true, true, true, true, true, false, false, false] rfl rfl (any_of HT_.out (by kernel_rfl)) (fun _ _ _ h => h) (Or.inl ⟨by rfl, ?_⟩) ?_ ?_
            rotate_left
            · intro w'
              go_simp
              with_reducible rfl
            rotate_left
            · simp only [Act.put, List.setIfInBounds_toArray, List.set_cons_zero, List.set_cons_succ, i64_w, i32_w]
              rfl
            refine one_ (i := 18) (N := some 29) #[true, true, true, true, true, true, true, true, true, true, true, true, true, true, true, true, true, true, true, false, false] rfl rfl (one_of HT_.out (by kernel_rfl)) (by decide) (fun K hK => ?_)
            refine value_ (w1 := ?_) (v := ?_) (by rfl) rfl ?_ ?_
            rotate_left 2
            · go_simp
              constructor
              · rfl
              · rfl
            refine hK.out _ _ ⟨(World.cell?_alloc_lt _ _ _ (World.block_lt_of_cell? _ _ (((HB.out.cell (World.block_lt_of_cell? w _ hw147_0)).trans hw147_0)))).trans (((HB.out.cell (World.block_lt_of_cell? w _ hw147_0)).trans hw147_0)), (World.cell?_alloc_lt _ _ _ (World.block_lt_of_cell? _ _ (((HB.out.cell (World.block_lt_of_cell? w _ hw147_1)).trans hw147_1)))).trans (((HB.out.cell (World.block_lt_of_cell? w _ hw147_1)).trans hw147_1)), (World.cell?_alloc_lt _ _ _ (World.block_lt_of_cell? _ _ (((HB.out.cell (World.block_lt_of_cell? w _ hw147_2)).trans hw147_2)))).trans (((HB.out.cell (World.block_lt_of_cell? w _ hw147_2)).trans hw147_2)), (World.cell?_alloc_lt _ _ _ (World.block_lt_of_cell? _ _ (((HB.out.cell (World.block_lt_of_cell? w _ hw148_0)).trans hw148_0)))).trans (((HB.out.cell (World.block_lt_of_cell? w _ hw148_0)).trans hw148_0)), (World.cell?_alloc_lt _ _ _ (World.block_lt_of_cell? _ _ (((HB.out.cell (World.block_lt_of_cell? w _ hw148_1)).trans hw148_1)))).trans (((HB.out.cell (World.block_lt_of_cell? w _ hw148_1)).trans hw148_1)), (World.cell?_alloc_lt _ _ _ (World.block_lt_of_cell? _ _ (((HB.out.cell (World.block_lt_of_cell? w _ hw148_2)).trans hw148_2)))).trans (((HB.out.cell (World.block_lt_of_cell? w _ hw148_2)).trans hw148_2)), (World.cell?_alloc_lt _ _ _ (World.block_lt_of_cell? _ _ (((HB.out.cell (World.block_lt_of_cell? w _ hw149_0)).trans hw149_0)))).trans (((HB.out.cell (World.block_lt_of_cell? w _ hw149_0)).trans hw149_0)), (World.cell?_alloc_lt _ _ _ (World.block_lt_of_cell? _ _ (((HB.out.cell (World.block_lt_of_cell? w _ hw149_1)).trans hw149_1)))).trans (((HB.out.cell (World.block_lt_of_cell? w _ hw149_1)).trans hw149_1)), (World.cell?_alloc_lt _ _ _ (World.block_lt_of_cell? _ _ (((HB.out.cell (World.block_lt_of_cell? w _ hw149_2)).trans hw149_2)))).trans (((HB.out.cell (World.block_lt_of_cell? w _ hw149_2)).trans hw149_2))⟩ (fun hHeld => ?_)
            clear hK K
            refine norm_ (a' := ?_) ?_ ?_
            rotate_left
            · show Act.put _ (some 29) _ = _
              simp only [Act.put, List.setIfInBounds_toArray, List.set_cons_zero, List.set_cons_succ, i64_w, i32_w]
              rfl
            refine one_ (i := 19) (N := some 30) #[true, true, true, true, true, true, true, true, true, true, true, true, true, true, true, true, true, true, true, true, false] rfl rfl (one_of HT_.out (by kernel_rfl)) (by decide) (fun K hK => ?_)
            refine Kd.S_append_step k52 (w0 := w) w.heap.size (by rfl) (.tmp 11) (.tmp 29) 22 52 (.agg #[(.int .i64 0), (.int .i64 0), (.slice none 0 0)]) 40 rfl Try.underlying22 info52 rfl (by decide) (by omega) u3 x3_1 (⟨(rd_T52 l0 x4_1).f0, (rd_T52 l0 x4_1).f1, t150⟩ : S52) [.int .i64 ((rd_T52 l0 x4_1).f0), .int .i64 ((rd_T52 l0 x4_1).f1), .slice Ao8 t150.length co8] (fun _ => True) (fun k_ => some k_ = (.slice Ao8 t150.length co8 : Value).ownBlock) rfl rfl ?aP (fun k_ hk_ => ((Kd.R_mono (ok' := fun k_ => ((fun _ => True)) k_ ∧ some k_ ≠ (u3 : Value).ownBlock) (Kd.R_apart' (HO152.out) (Kd.S_typed HO_3.out) (by decide)) (fun k_ hk => ⟨trivial, hk.2⟩))).1 k_ hk_.symm) ?aF ?aO ?aB ?aS ?aL ?_
            (case aP => exact k52_mkM _ _ _ (⟨(rd_T52 l0 x4_1).f0, (rd_T52 l0 x4_1).f1, t150⟩ : S52) (Kd.R_mono (Kd.R_tight rfl (Kd.R_mono (ok' := fun k_ => ((fun _ => True)) k_ ∧ some k_ ≠ (u3 : Value).ownBlock) (Kd.R_apart' (HO152.out) (Kd.S_typed HO_3.out) (by decide)) (fun k_ hk => ⟨trivial, hk.2⟩))) (fun _ h_ => h_)))
            (case aB => exact (by repeat (first | (with_reducible first | exact HB.out | apply below_alloc | apply pw_below_drewN | apply below_drew1) | exact HB.out)))
            (case aF => exact (fun _ _ => trivial))
            (case aO => exact (by (with_reducible repeat (first | apply Kd.S_alloc | apply Kd.S_drewN | apply Kd.S_drew)); exact Kd.S_mono HO_3.out (fun k_ hk => ⟨trivial, fun e_ => hk.2 e_⟩)))
            (case aS => exact (below_size (by repeat (first | (with_reducible first | exact HB.out | apply below_alloc | apply pw_below_drewN | apply below_drew1) | exact HB.out))))
            (case aL => have := LMc5.out; omega)
            intro v154 w9 ho hb hg hat
            rw [← Ny153.out] at ho
            have n0_ := Aside0.mk (hb)
            have n1_ := Aside0.mk (ho)
            clear HB
            clear HO_3
            clear HO152
            have HB := n0_
            have HO155 := n1_
            clear n0_ n1_
            clear ho hb hg hat
            refine hK.out _ _ ⟨((HB.out.cell (World.block_lt_of_cell? w _ hw147_0)).trans hw147_0), ((HB.out.cell (World.block_lt_of_cell? w _ hw147_1)).trans hw147_1), ((HB.out.cell (World.block_lt_of_cell? w _ hw147_2)).trans hw147_2), ((HB.out.cell (World.block_lt_of_cell? w _ hw148_0)).trans hw148_0), ((HB.out.cell (World.block_lt_of_cell? w _ hw148_1)).trans hw148_1), ((HB.out.cell (World.block_lt_of_cell? w _ hw148_2)).trans hw148_2), ((HB.out.cell (World.block_lt_of_cell? w _ hw149_0)).trans hw149_0), ((HB.out.cell (World.block_lt_of_cell? w _ hw149_1)).trans hw149_1), ((HB.out.cell (World.block_lt_of_cell? w _ hw149_2)).trans hw149_2)⟩ (fun hHeld => ?_)
            clear hK K
            refine norm_ (a' := ?_) ?_ ?_
            rotate_left
            · show Act.put _ (some 30) _ = _
              simp only [Act.put, List.setIfInBounds_toArray, List.set_cons_zero, List.set_cons_succ, i64_w, i32_w]
              rfl
            refine pure_ (i := 20) (N := some 3) (v := ?_) (a' := ?_) #[true, true, true, true, true, true, true, true, true, true, true, true, true, true, true, true, true, true, true, true, true] rfl rfl (any_of HT_.out (by kernel_rfl)) (fun _ _ _ h => h) (Or.inl ⟨by rfl, ?_⟩) ?_ ?_
            rotate_left
            · intro w'
              go_simp
              with_reducible rfl
            rotate_left
            · simp only [Act.put, List.setIfInBounds_toArray, List.set_cons_zero, List.set_cons_succ, i64_w, i32_w]
              rfl
            refine done_ (done_of HT_.out (by kernel_rfl)) ?_
            try go_wp2
            go_roundg k1
            case measure => have := HK1.out; omega
            case rel => exact ⟨(y153), (wrap64 (x4_1 + 1)), (by first | rfl | (simp; done) | (simp [*]; done)), H', ⟨by have := HK1.out; omega⟩, ⟨by (with_reducible repeat (first | apply Kd.S_alloc | apply Kd.S_drewN | apply Kd.S_drew)); exact HO155.out⟩, ⟨by repeat (first | (with_reducible first | exact HB.out | apply below_alloc | apply pw_below_drewN | apply below_drew1) | exact HB.out)⟩⟩
          · rw [if_neg c5] at H
            exact absurd H (by simp)
        · rw [if_neg c3] at H
          exact absurd H (by simp)
      · rw [if_neg c2] at H
        have c2b0 : decide (x4_1 < (l0.length : Int)) = false := decide_eq_false c2
        clear c2
        obtain rfl := Option.some.inj H
        go_wp2
        go_ret
        exact ⟨_, by first | rfl | (simp [errW_none, errW_some] <;> rfl) | (simp [*, errW_none, errW_some] <;> rfl) | (exfalso; simp only [beq_iff_eq, decide_eq_true_eq] at *; omega), by (with_reducible repeat (first | apply Kd.S_alloc | apply Kd.S_drewN | apply Kd.S_drew)); exact HO_3.out, by repeat (first | (with_reducible first | exact HB.out | apply below_alloc | apply pw_below_drewN | apply below_drew1) | exact HB.out)⟩

/-! ### undercroftref20_Done: function 12 -/
section
open Go.Shelf
/-- A new row in its place. -/
def insR (s : Int) (x : S52) : Bool → List S52 → List S52
  | laid, [] => if laid = true then [] else [x]
  | laid, y :: ys => (if laid = false ∧ s ≤ y.f0 then [x] else []) ++ (if y.f0 = s then [] else [y]) ++ insR s x (laid || decide (s ≤ y.f0)) ys
theorem insR_true (s : Int) (x y : S52) (ys : List S52) : insR s x true (y :: ys) = (if y.f0 = s then [] else [y]) ++ insR s x true ys := by
  conv => lhs; unfold insR
  simp
theorem insR_here {s : Int} (x : S52) {y : S52} (ys : List S52) (h : s ≤ y.f0) : insR s x false (y :: ys) = [x] ++ ((if y.f0 = s then [] else [y]) ++ insR s x true ys) := by
  conv => lhs; unfold insR
  simp [h]
theorem insR_later {s : Int} (x : S52) {y : S52} (ys : List S52) (h : ¬ s ≤ y.f0) : insR s x false (y :: ys) = [y] ++ insR s x false ys := by
  conv => lhs; unfold insR
  simp [h]
  rw [if_neg (by omega)]
  rfl
theorem frozen_read {α : Type} {d : Kd α} {w0 w : World} {A : Option Addr} {n : Nat} {xs : List α} (h : (frozen d w0).C w A n xs) (hb : Below w0.heap.size w0 w) : d.C w A n xs := ReadsRow.imp_ h (Below.refl _ _) (fun _ _ hp => d.K_below hb hp)
def undercroftref20_Done.f (k : Nat) (l0 : List S52) (a1 a2 : Int) (l3 : List Int) : Option (List S52 × Int) :=
  (undercroftref20_Ask.f k l0 a1 a2).bind fun q => if q.2.2 = 0 then (if l3.length ≤ 4096 then (if q.1 = 0 then (if l0.length ≤ 64 then (if 64 < (insR a1 ⟨a1, a2, l3⟩ false l0).length then some ([], 51) else (undercroftref20_Own.f k (insR a1 ⟨a1, a2, l3⟩ false l0)).bind fun r => some (r, 0)) else none) else some ([], 81)) else some ([], 5)) else some ([], q.2.2)
theorem undercroftref20_Done.mono : ∀ a0 a1 a2 a3 k, LeO (undercroftref20_Done.f k a0 a1 a2 a3) (undercroftref20_Done.f (k + 1) a0 a1 a2 a3) := by
  intro a0 a1 a2 a3 k
  unfold undercroftref20_Done.f
  refine LeO.bind (undercroftref20_Ask.mono a0 a1 a2 k) (fun _ => LeO.ite (LeO.ite (LeO.ite (LeO.ite (LeO.ite (LeO.refl _) (LeO.bind (undercroftref20_Own.mono _ k) (fun _ => LeO.refl _))) (LeO.refl _)) (LeO.refl _)) (LeO.refl _)) (LeO.refl _))
set_option maxHeartbeats 8000000 in
set_option maxRecDepth 100000 in
theorem rdone_main (k : Nat) (A0 : Option Addr) (c0 : Nat) (l0 : List S52) (a1 a2 : Int) (B3 : Option Addr) (c3 : Nat) (l3 : List Int) (r : List Int) (OUT : List S52) (RR : List S52) (CODE : Int) (w : World) (hr0 : Kd.C k52 w A0 l0.length l0) (hc0 : l0.length ≤ c0) (hr3 : Kd.C (Kd.int .u8) w B3 l3.length l3) (hc3 : l3.length ≤ c3)
    (h1 : undercroftref20_Ask.f k l0 a1 a2 = some (0, r, 0)) (h2 : l3.length ≤ 4096) (h5 : l0.length ≤ 64) (hOUT : insR a1 ⟨a1, a2, l3⟩ false l0 = OUT) (hfin : (64 < OUT.length ∧ RR = [] ∧ CODE = 51) ∨ (¬ 64 < OUT.length ∧ undercroftref20_Own.f k OUT = some RR ∧ CODE = 0)) :
    Calls Try.prog 12 #[.slice A0 l0.length c0, .int .i64 a1, .int .i64 a2, .slice B3 l3.length c3] w fun e w' => ∃ v0_ : Value, e = .returned (.tuple #[v0_, .int .i64 CODE]) ∧ Kd.S k52 52 w' w.heap.size (fun _ => True) v0_ RR ∧ Below w.heap.size w w' := by
  have HR0 := Aside0.mk hr0
  have HC0 := Aside0.mk hc0
  have HR3 := Aside0.mk hr3
  have HC3 := Aside0.mk hc3
  have A1 := Aside0.mk h1
  have A2 := Aside0.mk (show undercroftref02_Copied.f l3 = some l3 by unfold undercroftref02_Copied.f; rw [if_pos (by simp; omega)]; rfl)
  have A5 := Aside0.mk h5
  have HOUT := Aside0.mk hOUT
  have HFIN := Aside0.mk hfin
  have hd2 : decide (4096 < (l3.length : Int)) = false := by simp; omega
  clear hr0 hc0 hr3 hc3 h1 h2 h5 hOUT hfin
  go_enter Try.func12, Try.ntmps12
  go_wp2_with (first
    | (go_at_call 10; refine (undercroftref20_Ask.calls k A0 c0 l0 a1 a2 _ _ _ _ (Kd.C_below HR0.out (Below.refl _ _)) HC0.out A1.out).mono ?_; rintro e w1 ⟨v1, rfl, _, hb1⟩; have HB1 := Aside0.mk hb1; clear hb1)
    | (go_at_call 24; refine (undercroftref02_Copied.calls B3 c3 l3 l3 _ (Kd.C_below HR3.out HB1.out) HC3.out A2.out).mono ?_; rintro e w2 ⟨v2, rfl, ho2, hb2⟩; obtain ⟨D2, d2, rfl, hl2, hC2⟩ := Kd.R_reads ho2; have HD2 := Aside0.mk hl2; have HC2 := Aside0.mk hC2; have HB2 := Aside0.mk (below_step HB1.out hb2); clear ho2 hb2 hl2 hC2))
  obtain ⟨W2, hW2⟩ : ∃ W2, W2 = w2.alloc (.cells #[.int .i64 a1, .int .i64 a2, .slice D2 l3.length d2] 52) := ⟨_, rfl⟩
  have HBX := Aside0.mk (below_alloc HB2.out (.cells #[.int .i64 a1, .int .i64 a2, .slice D2 l3.length d2] 52))
  have HX := Aside0.mk (k52_mk (w2.alloc (.cells #[.int .i64 a1, .int .i64 a2, .slice D2 l3.length d2] 52)) (⟨a1, a2, l3⟩ : S52) HD2.out (Kd.C_below HC2.out ((Below.refl _ _).alloc (Nat.le_refl _) _)))
  have HXH := Aside0.mk (heap_alloc_new w2 (.cells #[.int .i64 a1, .int .i64 a2, .slice D2 l3.length d2] 52))
  have hlt2 : w2.heap.size < W2.heap.size := by rw [hW2]; simp
  rw [← hW2] at HBX HX HXH ⊢
  have HR2 := Aside0.mk (Kd.C_below HR0.out HBX.out)
  generalize w2.heap.size = G at *
  clear HC2 HB2 hW2
  have HXC := Aside0.mk (fun (W' : World) (hb' : Below W2.heap.size W2 W') => (show W'.cell? ⟨G, 0, none⟩ = some (.int .i64 a1) ∧ W'.cell? ⟨G, 1, none⟩ = some (.int .i64 a2) ∧ W'.cell? ⟨G, 2, none⟩ = some (.slice D2 l3.length d2) from by
    have hb := (hb'.block G hlt2).trans HXH.out
    exact ⟨cell_of_row _ _ _ _ _ _ hb, cell_of_row _ _ _ _ _ _ hb, cell_of_row _ _ _ _ _ _ hb⟩))
  go_loopw [14, 15, 16] (fun v14 v15 v16 W => ∃ (m : Nat) (laid : Bool) (acc : List S52), m ≤ l0.length ∧ v16 = .int .i64 (m : Int) ∧ v15 = .bool laid ∧ Aside0 ((frozen k52 W2).R 52 W W2.heap.size (fun _ => True) v14 acc) ∧ Aside0 (acc ++ insR a1 ⟨a1, a2, l3⟩ laid (l0.drop m) = OUT) ∧ Aside0 (acc.length ≤ 2 * m) ∧ Aside0 (Below W2.heap.size W2 W)) (fun _ _ v16 _ => l0.length - (intOf v16).toNat)
  case atStart => exact ⟨0, false, [], Nat.zero_le _, rfl, rfl, ⟨Kd.R_nil _ _ _ _ _⟩, HOUT, ⟨Nat.le_refl _⟩, ⟨Below.refl _ _⟩⟩
  case round =>
    obtain ⟨m, laid, acc, hm, rfl, rfl, HO, HI, HL, HB⟩ := hrel
    by_cases hlt : m < l0.length
    · have hd : decide ((m : Int) < (l0.length : Int)) = true := by simp; omega
      obtain ⟨ad, A2_, c2_, rfl, hy0, hy1, hy2, hyl, hyC⟩ := at_T52 HR2.out (m : Int) (by omega) (by omega)
      simp only [Int.toNat_natCast] at hy0 hy1 hy2
      have HYC := Aside0.mk (fun (W' : World) (hb' : Below W2.heap.size W2 W') => And.intro (pw_cell_below hb' hy0) (And.intro (pw_cell_below hb' hy1) (pw_cell_below hb' hy2)))
      have HY := Aside0.mk (k52_mk W2 (rd_T52 l0 (m : Int)) hyl hyC)
      have hI := HI.out
      rw [List.drop_eq_getElem_cons hlt] at hI
      have hyx : l0[m] = rd_T52 l0 (m : Int) := by unfold rd_T52; rw [Int.toNat_natCast, List.getD_eq_getElem?_getD, List.getElem?_eq_getElem hlt]; rfl
      rw [hyx] at hI
      clear hy0 hy1 hy2 hyl hyC hyx HI
      generalize rd_T52 l0 (m : Int) = y at *
      obtain ⟨hx0, hx1, hx2⟩ := HXC.out wr HB.out
      obtain ⟨hy0, hy1, hy2⟩ := HYC.out wr HB.out
      have hw : wrap64 ((m : Int) + 1) = ((m + 1 : Nat) : Int) := by have e5 := A5.out; unfold wrap64; omega
      have hq1 : ∀ (c : Prop) [Decidable c], c → decide c = true := fun c _ h => decide_eq_true h
      cases laid with
      | true =>
        rw [insR_true] at hI
        by_cases heq : y.f0 = a1
        · rw [if_pos heq, List.nil_append] at hI
          have HI := Aside0.mk hI
          have q1 : (y.f0 == a1) = true := by simpa using heq
          have q2 : (y.f0 != a1) = false := by simpa using heq
          clear hI hq1
          rw [heq] at hy0
          go_wp2
          refine ⟨⟨m + 1, true, acc, hlt, by rw [hw], rfl, HO, ⟨by first | exact HI.out | (have h_ := HI.out; simp only [List.append_assoc, List.nil_append, List.cons_append] at h_ ⊢; exact h_)⟩, ⟨by have e1 := HL.out; (try simp only [List.length_append, List.length_singleton]); omega⟩, HB⟩, by rw [hw]; simp only [intOf, Int.toNat_natCast]; omega⟩
        · rw [if_neg heq] at hI
          have HI := Aside0.mk hI
          have q1 : (y.f0 == a1) = false := by simpa using heq
          have q2 : (y.f0 != a1) = true := by simpa using heq
          clear hI hq1
          go_wp2_with (first
            | ((with_reducible refine gate_builtin (b := .append) (xs := #[.tmp 69, .tmp 74]) rfl ?_); at_builtin; refine Kd.R_append (frozen k52 W2) (w0 := W2) W2.heap.size rfl (.tmp 69) (.tmp 74) 22 52 (.agg #[(.int .i64 0), (.int .i64 0), (.slice none 0 0)]) 40 rfl Try.underlying22 info52 rfl (show 0 < 3 by decide) (by omega) _ acc y [.int .i64 y.f0, .int .i64 y.f1, .slice A2_ y.f2.length c2_] (fun _ => True) (fun _ => False) rfl rfl HY.out (fun _ h => h.elim) (fun _ _ => trivial) HO.out HB.out HB.out.size (by have e1 := HL.out; have e5 := A5.out; omega) ?_; intro v9 w9 ho9 hb9 _ _; have HO9 := Aside0.mk ho9; have HB9 := Aside0.mk hb9; clear ho9 hb9))
          refine ⟨⟨m + 1, true, (acc ++ [y]), hlt, by rw [hw], rfl, HO9, ⟨by first | exact HI.out | (have h_ := HI.out; simp only [List.append_assoc, List.nil_append, List.cons_append] at h_ ⊢; exact h_)⟩, ⟨by have e1 := HL.out; (try simp only [List.length_append, List.length_singleton]); omega⟩, HB9⟩, by rw [hw]; simp only [intOf, Int.toNat_natCast]; omega⟩
      | false =>
        by_cases hge : a1 ≤ y.f0
        · rw [insR_here _ _ hge] at hI
          have q3 : decide (a1 ≤ y.f0) = true := decide_eq_true hge
          by_cases heq : y.f0 = a1
          · rw [if_pos heq, List.nil_append] at hI
            have HI := Aside0.mk hI
            have q1 : (y.f0 == a1) = true := by simpa using heq
            have q2 : (y.f0 != a1) = false := by simpa using heq
            clear hI hq1
            go_wp2_with (first
              | ((with_reducible refine gate_builtin (b := .append) (xs := #[.tmp 58, .tmp 60]) rfl ?_); at_builtin; refine Kd.R_append (frozen k52 W2) (w0 := W2) W2.heap.size rfl (.tmp 58) (.tmp 60) 22 52 (.agg #[(.int .i64 0), (.int .i64 0), (.slice none 0 0)]) 40 rfl Try.underlying22 info52 rfl (show 0 < 3 by decide) (by omega) _ acc (⟨a1, a2, l3⟩ : S52) [.int .i64 a1, .int .i64 a2, .slice D2 l3.length d2] (fun _ => True) (fun _ => False) rfl rfl HX.out (fun _ h => h.elim) (fun _ _ => trivial) HO.out HB.out HB.out.size (by have e1 := HL.out; have e5 := A5.out; omega) ?_; intro v8 w8 ho8 hb8 _ _; have HO8 := Aside0.mk ho8; have HB8 := Aside0.mk hb8; obtain ⟨hx0_, hx1_, hx2_⟩ := HXC.out w8 hb8; obtain ⟨hy0_, hy1_, hy2_⟩ := HYC.out w8 hb8; clear ho8 hb8))
            refine ⟨⟨m + 1, true, (acc ++ [(⟨a1, a2, l3⟩ : S52)]), hlt, by rw [hw], rfl, HO8, ⟨by first | exact HI.out | (have h_ := HI.out; simp only [List.append_assoc, List.nil_append, List.cons_append] at h_ ⊢; exact h_)⟩, ⟨by have e1 := HL.out; (try simp only [List.length_append, List.length_singleton]); omega⟩, HB8⟩, by rw [hw]; simp only [intOf, Int.toNat_natCast]; omega⟩
          · rw [if_neg heq] at hI
            have HI := Aside0.mk hI
            have q1 : (y.f0 == a1) = false := by simpa using heq
            have q2 : (y.f0 != a1) = true := by simpa using heq
            clear hI hq1
            go_wp2_with (first
              | ((with_reducible refine gate_builtin (b := .append) (xs := #[.tmp 58, .tmp 60]) rfl ?_); at_builtin; refine Kd.R_append (frozen k52 W2) (w0 := W2) W2.heap.size rfl (.tmp 58) (.tmp 60) 22 52 (.agg #[(.int .i64 0), (.int .i64 0), (.slice none 0 0)]) 40 rfl Try.underlying22 info52 rfl (show 0 < 3 by decide) (by omega) _ acc (⟨a1, a2, l3⟩ : S52) [.int .i64 a1, .int .i64 a2, .slice D2 l3.length d2] (fun _ => True) (fun _ => False) rfl rfl HX.out (fun _ h => h.elim) (fun _ _ => trivial) HO.out HB.out HB.out.size (by have e1 := HL.out; have e5 := A5.out; omega) ?_; intro v8 w8 ho8 hb8 _ _; have HO8 := Aside0.mk ho8; have HB8 := Aside0.mk hb8; obtain ⟨hx0_, hx1_, hx2_⟩ := HXC.out w8 hb8; obtain ⟨hy0_, hy1_, hy2_⟩ := HYC.out w8 hb8; clear ho8 hb8)
              | ((with_reducible refine gate_builtin (b := .append) (xs := #[.tmp 69, .tmp 74]) rfl ?_); at_builtin; go_loud (refine Kd.R_append (frozen k52 W2) (w0 := W2) W2.heap.size rfl (.tmp 69) (.tmp 74) 22 52 (.agg #[(.int .i64 0), (.int .i64 0), (.slice none 0 0)]) 40 rfl Try.underlying22 info52 rfl (show 0 < 3 by decide) (by omega) _ (acc ++ [(⟨a1, a2, l3⟩ : S52)]) y [.int .i64 y.f0, .int .i64 y.f1, .slice A2_ y.f2.length c2_] (fun _ => True) (fun _ => False) rfl rfl HY.out (fun _ h => h.elim) (fun _ _ => trivial) HO8.out HB8.out HB8.out.size (by have e1 := HL.out; simp only [List.length_append, List.length_singleton]; have e5 := A5.out; omega) ?_); intro v9 w9 ho9 hb9 _ _; have HO9 := Aside0.mk ho9; have HB9 := Aside0.mk hb9; clear ho9 hb9))
            refine ⟨⟨m + 1, true, (acc ++ [⟨a1, a2, l3⟩] ++ [y]), hlt, by rw [hw], rfl, HO9, ⟨by first | exact HI.out | (have h_ := HI.out; simp only [List.append_assoc, List.nil_append, List.cons_append] at h_ ⊢; exact h_)⟩, ⟨by have e1 := HL.out; (try simp only [List.length_append, List.length_singleton]); omega⟩, HB9⟩, by rw [hw]; simp only [intOf, Int.toNat_natCast]; omega⟩
        · rw [insR_later _ _ hge] at hI
          have heq : ¬ y.f0 = a1 := by omega
          have q3 : decide (a1 ≤ y.f0) = false := decide_eq_false hge
          have HI := Aside0.mk hI
          have q1 : (y.f0 == a1) = false := by simpa using heq
          have q2 : (y.f0 != a1) = true := by simpa using heq
          clear hI hq1
          go_wp2_with (first
            | ((with_reducible refine gate_builtin (b := .append) (xs := #[.tmp 69, .tmp 74]) rfl ?_); at_builtin; refine Kd.R_append (frozen k52 W2) (w0 := W2) W2.heap.size rfl (.tmp 69) (.tmp 74) 22 52 (.agg #[(.int .i64 0), (.int .i64 0), (.slice none 0 0)]) 40 rfl Try.underlying22 info52 rfl (show 0 < 3 by decide) (by omega) _ acc y [.int .i64 y.f0, .int .i64 y.f1, .slice A2_ y.f2.length c2_] (fun _ => True) (fun _ => False) rfl rfl HY.out (fun _ h => h.elim) (fun _ _ => trivial) HO.out HB.out HB.out.size (by have e1 := HL.out; have e5 := A5.out; omega) ?_; intro v9 w9 ho9 hb9 _ _; have HO9 := Aside0.mk ho9; have HB9 := Aside0.mk hb9; clear ho9 hb9))
          refine ⟨⟨m + 1, false, (acc ++ [y]), hlt, by rw [hw], rfl, HO9, ⟨by first | exact HI.out | (have h_ := HI.out; simp only [List.append_assoc, List.nil_append, List.cons_append] at h_ ⊢; exact h_)⟩, ⟨by have e1 := HL.out; (try simp only [List.length_append, List.length_singleton]); omega⟩, HB9⟩, by rw [hw]; simp only [intOf, Int.toNat_natCast]; omega⟩
    · have hd : decide ((m : Int) < (l0.length : Int)) = false := by simp; omega
      have hI := HI.out
      rw [List.drop_eq_nil_of_le (by omega)] at hI
      clear HI
      obtain ⟨hx0, hx1, hx2⟩ := HXC.out wr HB.out
      have tail : True := trivial
      cases laid with
      | true =>
        rw [show insR a1 ⟨a1, a2, l3⟩ true [] = [] from rfl, List.append_nil] at hI
        subst hI
        obtain ⟨D8, d8, rfl, hl8, hC8⟩ := Kd.R_reads HO.out
        have HC8 := Aside0.mk hC8
        have HL8 := Aside0.mk hl8
        have HB8 := HB
        clear hl8 hC8
        rcases HFIN.out with ⟨hf, rfl, rfl⟩ | ⟨hf, hOW, rfl⟩
        · have hdf : decide (64 < (acc.length : Int)) = true := by simp; omega
          clear hf
          go_wp2
          go_ret2
          exact ⟨_, rfl, Kd.S_nil _ _ _ _ _, below_then HBX.out HBX.out.size HB8.out⟩
        · have hdf : decide (64 < (acc.length : Int)) = false := by simp; omega
          have HOW := Aside0.mk hOW
          clear hf hOW
          go_wp2_with (first
            | (go_at_call 27; refine (undercroftref20_Own.calls k D8 d8 acc RR _ (frozen_read HC8.out HB8.out) HL8.out HOW.out).mono ?_; rintro e w9 ⟨v9, rfl, ho9, hb9⟩; have HO9 := Aside0.mk ho9; have HB9 := Aside0.mk hb9; clear ho9 hb9))
          go_ret2
          exact ⟨_, rfl, Kd.S_lower HO9.out (Nat.le_trans HBX.out.size HB8.out.size), below_then (below_then HBX.out HBX.out.size HB8.out) (Nat.le_trans HBX.out.size HB8.out.size) HB9.out⟩
      | false =>
        rw [show insR a1 ⟨a1, a2, l3⟩ false [] = [⟨a1, a2, l3⟩] from rfl] at hI
        have HI := Aside0.mk hI
        clear hI
        rcases HFIN.out with ⟨hf, rfl, rfl⟩ | ⟨hf, hOW, rfl⟩
        · have hdf : decide (64 < (OUT.length : Int)) = true := by simp; omega
          clear hf
          go_wp2_with (first
            | ((with_reducible refine gate_builtin (b := .append) (xs := #[.tmp 78, .tmp 80]) rfl ?_); at_builtin; refine Kd.R_append (frozen k52 W2) (w0 := W2) W2.heap.size rfl (.tmp 78) (.tmp 80) 22 52 (.agg #[(.int .i64 0), (.int .i64 0), (.slice none 0 0)]) 40 rfl Try.underlying22 info52 rfl (show 0 < 3 by decide) (by omega) _ acc (⟨a1, a2, l3⟩ : S52) [.int .i64 a1, .int .i64 a2, .slice D2 l3.length d2] (fun _ => True) (fun _ => False) rfl rfl HX.out (fun _ h => h.elim) (fun _ _ => trivial) HO.out HB.out HB.out.size (by have e1 := HL.out; have e5 := A5.out; omega) ?_; intro v8 w8 ho8 hb8 _ _; rw [HI.out] at ho8; obtain ⟨D8, d8, rfl, hl8, hC8⟩ := Kd.R_reads ho8; have HC8 := Aside0.mk hC8; have HL8 := Aside0.mk hl8; have HB8 := Aside0.mk hb8; clear ho8 hb8 hl8 hC8))
          go_ret2
          exact ⟨_, rfl, Kd.S_nil _ _ _ _ _, below_then HBX.out HBX.out.size HB8.out⟩
        · have hdf : decide (64 < (OUT.length : Int)) = false := by simp; omega
          have HOW := Aside0.mk hOW
          clear hf hOW
          go_wp2_with (first
            | ((with_reducible refine gate_builtin (b := .append) (xs := #[.tmp 78, .tmp 80]) rfl ?_); at_builtin; refine Kd.R_append (frozen k52 W2) (w0 := W2) W2.heap.size rfl (.tmp 78) (.tmp 80) 22 52 (.agg #[(.int .i64 0), (.int .i64 0), (.slice none 0 0)]) 40 rfl Try.underlying22 info52 rfl (show 0 < 3 by decide) (by omega) _ acc (⟨a1, a2, l3⟩ : S52) [.int .i64 a1, .int .i64 a2, .slice D2 l3.length d2] (fun _ => True) (fun _ => False) rfl rfl HX.out (fun _ h => h.elim) (fun _ _ => trivial) HO.out HB.out HB.out.size (by have e1 := HL.out; have e5 := A5.out; omega) ?_; intro v8 w8 ho8 hb8 _ _; rw [HI.out] at ho8; obtain ⟨D8, d8, rfl, hl8, hC8⟩ := Kd.R_reads ho8; have HC8 := Aside0.mk hC8; have HL8 := Aside0.mk hl8; have HB8 := Aside0.mk hb8; clear ho8 hb8 hl8 hC8)
            | (go_at_call 27; refine (undercroftref20_Own.calls k D8 d8 OUT RR _ (frozen_read HC8.out HB8.out) HL8.out HOW.out).mono ?_; rintro e w9 ⟨v9, rfl, ho9, hb9⟩; have HO9 := Aside0.mk ho9; have HB9 := Aside0.mk hb9; clear ho9 hb9))
          go_ret2
          exact ⟨_, rfl, Kd.S_lower HO9.out (Nat.le_trans HBX.out.size HB8.out.size), below_then (below_then HBX.out HBX.out.size HB8.out) (Nat.le_trans HBX.out.size HB8.out.size) HB9.out⟩
set_option maxHeartbeats 8000000 in
set_option maxRecDepth 100000 in
theorem rdone_e1 (k : Nat) (A0 : Option Addr) (c0 : Nat) (l0 : List S52) (a1 a2 : Int) (B3 : Option Addr) (c3 : Nat) (l3 : List Int) (n : Int) (r : List Int) (t : Int) (w : World) (hr0 : Kd.C k52 w A0 l0.length l0) (hc0 : l0.length ≤ c0)
    (h1 : undercroftref20_Ask.f k l0 a1 a2 = some (n, r, t)) (h2 : ¬ t = 0) :
    Calls Try.prog 12 #[.slice A0 l0.length c0, .int .i64 a1, .int .i64 a2, .slice B3 l3.length c3] w fun e w' => ∃ v0_ : Value, e = .returned (.tuple #[v0_, .int .i64 t]) ∧ Kd.S k52 52 w' w.heap.size (fun _ => True) v0_ [] ∧ Below w.heap.size w w' := by
  have HR0 := Aside0.mk hr0
  have HC0 := Aside0.mk hc0
  have A1 := Aside0.mk h1
  have hq1 : (t == 0) = false := by simpa using h2
  have hq2 : (t != 0) = true := by simpa using h2
  clear hr0 hc0 h1 h2
  go_enter Try.func12, Try.ntmps12
  go_wp2_with (first
    | (go_at_call 10; refine (undercroftref20_Ask.calls k A0 c0 l0 a1 a2 _ _ _ _ (Kd.C_below HR0.out (Below.refl _ _)) HC0.out A1.out).mono ?_; rintro e w1 ⟨v1, rfl, _, hb1⟩; have HB1 := Aside0.mk hb1; clear hb1))
  go_ret2
  exact ⟨_, rfl, Kd.S_nil _ _ _ _ _, HB1.out⟩
set_option maxHeartbeats 8000000 in
set_option maxRecDepth 100000 in
theorem rdone_e2 (k : Nat) (A0 : Option Addr) (c0 : Nat) (l0 : List S52) (a1 a2 : Int) (B3 : Option Addr) (c3 : Nat) (l3 : List Int) (n : Int) (r : List Int) (w : World) (hr0 : Kd.C k52 w A0 l0.length l0) (hc0 : l0.length ≤ c0)
    (h1 : undercroftref20_Ask.f k l0 a1 a2 = some (n, r, 0)) (h2 : ¬ l3.length ≤ 4096) :
    Calls Try.prog 12 #[.slice A0 l0.length c0, .int .i64 a1, .int .i64 a2, .slice B3 l3.length c3] w fun e w' => ∃ v0_ : Value, e = .returned (.tuple #[v0_, .int .i64 5]) ∧ Kd.S k52 52 w' w.heap.size (fun _ => True) v0_ [] ∧ Below w.heap.size w w' := by
  have HR0 := Aside0.mk hr0
  have HC0 := Aside0.mk hc0
  have A1 := Aside0.mk h1
  have hd2 : decide (4096 < (l3.length : Int)) = true := by simp; omega
  clear hr0 hc0 h1 h2
  go_enter Try.func12, Try.ntmps12
  go_wp2_with (first
    | (go_at_call 10; refine (undercroftref20_Ask.calls k A0 c0 l0 a1 a2 _ _ _ _ (Kd.C_below HR0.out (Below.refl _ _)) HC0.out A1.out).mono ?_; rintro e w1 ⟨v1, rfl, _, hb1⟩; have HB1 := Aside0.mk hb1; clear hb1))
  go_ret2
  exact ⟨_, rfl, Kd.S_nil _ _ _ _ _, HB1.out⟩
set_option maxHeartbeats 8000000 in
set_option maxRecDepth 100000 in
theorem rdone_e3 (k : Nat) (A0 : Option Addr) (c0 : Nat) (l0 : List S52) (a1 a2 : Int) (B3 : Option Addr) (c3 : Nat) (l3 : List Int) (n : Int) (r : List Int) (w : World) (hr0 : Kd.C k52 w A0 l0.length l0) (hc0 : l0.length ≤ c0)
    (h1 : undercroftref20_Ask.f k l0 a1 a2 = some (n, r, 0)) (h2 : l3.length ≤ 4096) (h3 : ¬ n = 0) :
    Calls Try.prog 12 #[.slice A0 l0.length c0, .int .i64 a1, .int .i64 a2, .slice B3 l3.length c3] w fun e w' => ∃ v0_ : Value, e = .returned (.tuple #[v0_, .int .i64 81]) ∧ Kd.S k52 52 w' w.heap.size (fun _ => True) v0_ [] ∧ Below w.heap.size w w' := by
  have HR0 := Aside0.mk hr0
  have HC0 := Aside0.mk hc0
  have A1 := Aside0.mk h1
  have hd2 : decide (4096 < (l3.length : Int)) = false := by simp; omega
  have hq1 : (n == 0) = false := by simpa using h3
  have hq2 : (n != 0) = true := by simpa using h3
  clear hr0 hc0 h1 h2 h3
  go_enter Try.func12, Try.ntmps12
  go_wp2_with (first
    | (go_at_call 10; refine (undercroftref20_Ask.calls k A0 c0 l0 a1 a2 _ _ _ _ (Kd.C_below HR0.out (Below.refl _ _)) HC0.out A1.out).mono ?_; rintro e w1 ⟨v1, rfl, _, hb1⟩; have HB1 := Aside0.mk hb1; clear hb1))
  go_ret2
  exact ⟨_, rfl, Kd.S_nil _ _ _ _ _, HB1.out⟩
theorem undercroftref20_Done.calls (k : Nat) (A0 : Option Addr) (c0 : Nat) (l0 : List S52) (a1 a2 : Int) (A3 : Option Addr) (c3 : Nat) (l3 : List Int) (r1 : List S52) (r2 : Int) (w : World) (hr0 : Kd.C k52 w A0 l0.length l0) (hc0 : l0.length ≤ c0) (hr3 : Kd.C (Kd.int .u8) w A3 l3.length l3) (hc3 : l3.length ≤ c3) (h : undercroftref20_Done.f k l0 a1 a2 l3 = some (r1, r2)) :
    Calls Try.prog 12 #[.slice A0 l0.length c0, .int .i64 a1, .int .i64 a2, .slice A3 l3.length c3] w fun e w' => ∃ v0_ : Value, e = .returned (.tuple #[v0_, .int .i64 r2]) ∧ Kd.S k52 52 w' w.heap.size (fun _ => True) v0_ r1 ∧ Below w.heap.size w w' := by
  unfold undercroftref20_Done.f at h
  obtain ⟨⟨n, r, t⟩, h1, h⟩ := Option.bind_eq_some_iff.1 h
  simp only at h
  by_cases ht : t = 0
  case neg =>
    rw [if_neg ht] at h
    obtain ⟨rfl, rfl⟩ := Prod.mk.inj (Option.some.inj h)
    exact rdone_e1 k A0 c0 l0 a1 a2 A3 c3 l3 n r t w hr0 hc0 h1 ht
  subst ht
  rw [if_pos rfl] at h
  by_cases h2 : l3.length ≤ 4096
  case neg =>
    rw [if_neg h2] at h
    obtain ⟨rfl, rfl⟩ := Prod.mk.inj (Option.some.inj h)
    exact rdone_e2 k A0 c0 l0 a1 a2 A3 c3 l3 n r w hr0 hc0 h1 h2
  rw [if_pos h2] at h
  by_cases hn : n = 0
  case neg =>
    rw [if_neg hn] at h
    obtain ⟨rfl, rfl⟩ := Prod.mk.inj (Option.some.inj h)
    exact rdone_e3 k A0 c0 l0 a1 a2 A3 c3 l3 n r w hr0 hc0 h1 h2 hn
  subst hn
  rw [if_pos rfl] at h
  by_cases h5 : l0.length ≤ 64
  case neg => rw [if_neg h5] at h; cases h
  rw [if_pos h5] at h
  by_cases h6 : 64 < (insR a1 ⟨a1, a2, l3⟩ false l0).length
  · rw [if_pos h6] at h
    obtain ⟨rfl, rfl⟩ := Prod.mk.inj (Option.some.inj h)
    exact rdone_main k A0 c0 l0 a1 a2 A3 c3 l3 r _ _ _ w hr0 hc0 hr3 hc3 h1 h2 h5 rfl (.inl ⟨h6, rfl, rfl⟩)
  · rw [if_neg h6] at h
    obtain ⟨r', h7, h⟩ := Option.bind_eq_some_iff.1 h
    obtain ⟨rfl, rfl⟩ := Prod.mk.inj (Option.some.inj h)
    exact rdone_main k A0 c0 l0 a1 a2 A3 c3 l3 r _ _ _ w hr0 hc0 hr3 hc3 h1 h2 h5 rfl (.inr ⟨h6, h7, rfl⟩)
end

/-! ### undercroftplain_SameBytes: function 13 -/
def undercroftplain_SameBytes.l0 : Nat → List Int → List Int → Int → Option (Bool)
  | 0, _, _, _ => none
  | k + 1, x0, x1, x5 => if x5 < (x0.length : Int) then (if 0 ≤ x5 then (if x5 < (x1.length : Int) then (if (rd x0 x5) = (rd x1 x5) then (undercroftplain_SameBytes.l0 k x0 x1 (wrap64 (x5 + 1))) else (some false)) else (none)) else (none)) else (some true)
def undercroftplain_SameBytes.f (k : Nat) (l0 : List Int) (l1 : List Int) : Option (Bool) := if (l0.length : Int) = (l1.length : Int) then (undercroftplain_SameBytes.l0 k l0 l1 0) else (some false)
theorem undercroftplain_SameBytes.mono_l : ∀ k, (∀ y0 y1 y2, LeO (undercroftplain_SameBytes.l0 k y0 y1 y2) (undercroftplain_SameBytes.l0 (k + 1) y0 y1 y2))
  | 0 => fun _ _ _ r h => by simp [undercroftplain_SameBytes.l0] at h
  | k + 1 => by
    have ih0 := undercroftplain_SameBytes.mono_l k
    · intro y0 y1 y2
      unfold undercroftplain_SameBytes.l0
      repeat' first
      | (with_reducible exact ih0 _ _ _)
      | (with_reducible exact LeO.refl _)
      | (with_reducible exact LeO.none _)
      | (with_reducible refine LeO.ite ?_ ?_)
      | (with_reducible refine LeO.bind ?_ (fun _ => ?_))
      | exact ih0 _ _ _
      | exact LeO.none _
      | refine LeO.ite ?_ ?_
      | refine LeO.bind ?_ (fun _ => ?_)
theorem undercroftplain_SameBytes.mono : ∀ a0 a1 k, LeO (undercroftplain_SameBytes.f k a0 a1) (undercroftplain_SameBytes.f (k + 1) a0 a1) := by
  intro a0 a1 k
  have ih0 := undercroftplain_SameBytes.mono_l k
  unfold undercroftplain_SameBytes.f
  repeat' first
      | (with_reducible exact ih0 _ _ _)
      | (with_reducible exact LeO.refl _)
      | (with_reducible exact LeO.none _)
      | (with_reducible refine LeO.ite ?_ ?_)
      | (with_reducible refine LeO.bind ?_ (fun _ => ?_))
      | exact ih0 _ _ _
      | exact LeO.none _
      | refine LeO.ite ?_ ?_
      | refine LeO.bind ?_ (fun _ => ?_)
set_option maxHeartbeats 8000000 in
set_option maxRecDepth 100000 in
theorem undercroftplain_SameBytes.calls (k : Nat) (A0 : Option Addr) (c0 : Nat) (l0 : List Int) (A1 : Option Addr) (c1 : Nat) (l1 : List Int) (r : Bool) (w : World) (hr0 : Kd.C (Kd.int .u8) w A0 l0.length l0) (hc0 : l0.length ≤ c0) (hr1 : Kd.C (Kd.int .u8) w A1 l1.length l1) (hc1 : l1.length ≤ c1) (h : undercroftplain_SameBytes.f k l0 l1 = some r) :
    Calls Try.prog 13 #[.slice A0 l0.length c0, .slice A1 l1.length c1] w fun e w' => e = .returned (.bool r) ∧ Drawn0 w w' := by
  have HR0 := Aside0.mk hr0
  have HC0 := Aside0.mk hc0
  clear hr0 hc0
  have HR1 := Aside0.mk hr1
  have HC1 := Aside0.mk hc1
  clear hr1 hc1
  have H : (if (l0.length : Int) = (l1.length : Int) then (undercroftplain_SameBytes.l0 k l0 l1 0) else (some false)) = some r := h
  clear h
  by_cases c3 : (l0.length : Int) = (l1.length : Int)
  · rw [if_pos c3] at H
    have c3b0 : ((l0.length : Int) == (l1.length : Int)) = true := beq_iff_eq.mpr c3
    have c3b1 : ((l0.length : Int) != (l1.length : Int)) = false := bne_eq_false_iff_eq.mpr c3
    have c3b2 : (l0.length == l1.length) = true := by first | simpa using c3 | (simp at c3 ⊢; omega)
    clear c3
    have H' := Aside0.mk H
    clear H
    go_enter Try.func13, Try.ntmps13
    go_wp2
    repeat (go_quiet (fail); try go_wp2)
    go_loopg [5] k (fun kq v5 w' => ∃ (x5_1 : Int), v5 = .int .i64 x5_1 ∧ Aside0 (undercroftplain_SameBytes.l0 kq l0 l1 x5_1 = some r) ∧ Aside0 (kq ≤ k) ∧ Drawn0 w w')
    case atStart => exact ⟨(0), (by first | rfl | (simp; done) | (simp [*]; done)), H', ⟨Nat.le_refl _⟩, by repeat (first | exact Drawn0.refl _ | apply Drawn0.step)⟩
    case round =>
      clear H'
      try clear c1
      try clear p2
      try clear c3
      try clear c3b0
      try clear c3b1
      try clear c3b2
      obtain ⟨x5_1, rfl, HA, HK1, ⟨m1, rfl⟩⟩ := hrel
      cases gk with
      | zero => exact absurd HA.out (by simp [undercroftplain_SameBytes.l0])
      | succ k1 =>
        have H := HA.out
        clear HA
        simp only [undercroftplain_SameBytes.l0] at H
        by_cases c4 : x5_1 < (l0.length : Int)
        · rw [if_pos c4] at H
          have c4b0 : decide (x5_1 < (l0.length : Int)) = true := decide_eq_true c4
          clear c4
          by_cases c5 : 0 ≤ x5_1
          · rw [if_pos c5] at H
            have c5b0 : decide (0 ≤ x5_1) = true := decide_eq_true c5
            clear c5
            by_cases c6 : x5_1 < (l1.length : Int)
            · rw [if_pos c6] at H
              have c6b0 : decide (x5_1 < (l1.length : Int)) = true := decide_eq_true c6
              clear c6
              by_cases c7 : (rd l0 x5_1) = (rd l1 x5_1)
              · rw [if_pos c7] at H
                have c7b0 : ((rd l0 x5_1) == (rd l1 x5_1)) = true := beq_iff_eq.mpr c7
                have c7b1 : ((rd l0 x5_1) != (rd l1 x5_1)) = false := bne_eq_false_iff_eq.mpr c7
                clear c7
                have H' := Aside0.mk H
                clear H
                have p156 : 0 ≤ (x5_1 : Int) := of_decide_eq_true (by first | (with_reducible assumption) | assumption)
                have q156 : x5_1 < (l0.length : Int) := of_decide_eq_true (by first | (with_reducible assumption) | assumption)
                obtain ⟨ad156, e156, hx156_0⟩ := Kd.at_int HR0.out x5_1 p156 q156
                cases e156
                replace p156 := eq_true p156
                replace q156 := eq_true q156
                have p157 : 0 ≤ (x5_1 : Int) := of_decide_eq_true (by first | (with_reducible assumption) | assumption)
                have q157 : x5_1 < (l1.length : Int) := of_decide_eq_true (by first | (with_reducible assumption) | assumption)
                obtain ⟨ad157, e157, hx157_0⟩ := Kd.at_int HR1.out x5_1 p157 q157
                cases e157
                replace p157 := eq_true p157
                replace q157 := eq_true q157
                go_wp2
                repeat (go_quiet (fail); try go_wp2)
                go_roundg k1
                case measure => have := HK1.out; omega
                case rel => exact ⟨(wrap64 (x5_1 + 1)), (by first | rfl | (simp; done) | (simp [*]; done)), H', ⟨by have := HK1.out; omega⟩, by repeat (first | exact Drawn0.refl _ | apply Drawn0.step)⟩
              · rw [if_neg c7] at H
                have c7b0 : ((rd l0 x5_1) == (rd l1 x5_1)) = false := beq_eq_false_iff_ne.mpr c7
                have c7b1 : ((rd l0 x5_1) != (rd l1 x5_1)) = true := bne_iff_ne.mpr c7
                obtain rfl := Option.some.inj H
                have p156 : 0 ≤ (x5_1 : Int) := of_decide_eq_true (by first | (with_reducible assumption) | assumption)
                have q156 : x5_1 < (l0.length : Int) := of_decide_eq_true (by first | (with_reducible assumption) | assumption)
                obtain ⟨ad156, e156, hx156_0⟩ := Kd.at_int HR0.out x5_1 p156 q156
                cases e156
                replace p156 := eq_true p156
                replace q156 := eq_true q156
                have p157 : 0 ≤ (x5_1 : Int) := of_decide_eq_true (by first | (with_reducible assumption) | assumption)
                have q157 : x5_1 < (l1.length : Int) := of_decide_eq_true (by first | (with_reducible assumption) | assumption)
                obtain ⟨ad157, e157, hx157_0⟩ := Kd.at_int HR1.out x5_1 p157 q157
                cases e157
                replace p157 := eq_true p157
                replace q157 := eq_true q157
                go_wp2
                repeat (go_quiet (fail); try go_wp2)
                go_ret
                exact ⟨by first | rfl | (simp; done) | (simp [*]; done) | (exfalso; simp only [beq_iff_eq, decide_eq_true_eq] at *; omega), by repeat (first | exact Drawn0.refl _ | apply Drawn0.step)⟩
            · rw [if_neg c6] at H
              exact absurd H (by simp)
          · rw [if_neg c5] at H
            exact absurd H (by simp)
        · rw [if_neg c4] at H
          have c4b0 : decide (x5_1 < (l0.length : Int)) = false := decide_eq_false c4
          clear c4
          obtain rfl := Option.some.inj H
          go_wp2
          repeat (go_quiet (fail); try go_wp2)
          go_ret
          exact ⟨by first | rfl | (simp; done) | (simp [*]; done) | (exfalso; simp only [beq_iff_eq, decide_eq_true_eq] at *; omega), by repeat (first | exact Drawn0.refl _ | apply Drawn0.step)⟩
  · rw [if_neg c3] at H
    have c3b0 : ((l0.length : Int) == (l1.length : Int)) = false := beq_eq_false_iff_ne.mpr c3
    have c3b1 : ((l0.length : Int) != (l1.length : Int)) = true := bne_iff_ne.mpr c3
    have c3b2 : (l0.length == l1.length) = false := by first | simpa using c3 | (simp at c3 ⊢; omega)
    obtain rfl := Option.some.inj H
    go_enter Try.func13, Try.ntmps13
    go_wp2
    repeat (go_quiet (fail); try go_wp2)
    go_ret
    exact ⟨by first | rfl | (simp; done) | (simp [*]; done) | (exfalso; simp only [beq_iff_eq, decide_eq_true_eq] at *; omega), by repeat (first | exact Drawn0.refl _ | apply Drawn0.step)⟩

/-! ### undercroftlaw20_num: function 14 -/
def undercroftlaw20_num.f (a0 : Int) : Option (Int) := some a0
set_option maxHeartbeats 8000000 in
set_option maxRecDepth 100000 in
theorem undercroftlaw20_num.calls (a0 : Int) (r : Int) (w : World) (h : undercroftlaw20_num.f a0 = some r) :
    Calls Try.prog 14 #[.int .i64 a0] w fun e w' => e = .returned (.int .i64 r) ∧ Drawn0 w w' := by
  have H : (some a0) = some r := h
  clear h
  obtain rfl := Option.some.inj H
  go_enter Try.func14, Try.ntmps14
  go_wp2
  go_ret
  exact ⟨by first | rfl | (simp; done) | (simp [*]; done) | (exfalso; simp only [beq_iff_eq, decide_eq_true_eq] at *; omega), by repeat (first | exact Drawn0.refl _ | apply Drawn0.step)⟩

end Go.Proofs.Ytofflfacfjkikaa.PCli
