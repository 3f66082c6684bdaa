-- Written by a program of this session (gen.py).
import Derived.Test.YtofflfacfjkikaaDoorPCtex0
import Derived.Test.YtofflfacfjkikaaDoorPCtex1
import Derived.Test.YtofflfacfjkikaaDoorPCtex2
import Derived.Test.YtofflfacfjkikaaDoorPCtex4
import Derived.Test.YtofflfacfjkikaaDoorPCtex5
import Derived.Test.YtofflfacfjkikaaDoorPCtex6
import Derived.Test.YtofflfacfjkikaaDoorPCtex9
import Derived.Test.YtofflfacfjkikaaDoorPCtex10
import Derived.Test.YtofflfacfjkikaaDoorPCtex13
namespace Go.Proofs.YtofflfacfjkikaaDoor.PCte
open Go.RowKit Go.Proofs.YtofflfacfjkikaaDoorW.PrintWords Go.Proofs.YtofflfacfjkikaaDoorW.PrintLast Go.Proofs.YtofflfacfjkikaaDoorW.PrintMore
open Go.Proofs.YtofflfacfjkikaaDoor.Own
attribute [local go_sem high] unary_not_u32 unary_not_u64 unary_not_u8 string_leq_ string_gtr_
attribute [local go_sem] max2_int min2_int max_two min_two max_three min_three max_four min_four   -- for this text's walks alone
set_option linter.unusedVariables false
set_option linter.unusedSimpArgs false

/-! ### undercroftlaw20_ClientTells: function 3 -/
def ct_T1 : Bool × List (List Nat × List Nat) := (true, [([], []), ([0], [0]), ([], []), ([2], [2]), ([], []), ([4], [4]), ([5], [5]), ([1, 3, 6], [1, 3, 6]), ([], []), ([8, 7, 6, 0, 1, 2, 3, 4, 5, 6, 7, 8], [7, 8])])
def ct_B1 : List Nat := [0, 1, 0, 4, 0, 16, 48, 127, 0, 511]
theorem ct_tab1 : rtab .any (opsOf Tryd.f3 1) = ct_T1 := by kernel_rfl
theorem ct_bits1 : waitsOk ct_T1.2 ct_B1 = true := by kernel_rfl
def undercroftlaw20_ClientTells.f (k : Nat) (s n : Int) (op l1 : List Int) : Option Bool := (undercroftplain_CopyBytes.f op).bind fun o => (undercroftplain_CopyBytes.f l1).bind fun b => (client_Encode.f k s n o).bind fun p => (undercroftref20_Encode.f k s n op).bind fun q => (client_Decode.f k b).bind fun u => (undercroftref20_Decode.f k l1).bind fun v => if p.2 = q.2 ∧ u.1 = v.1 ∧ u.2.1 = v.2.1 ∧ u.2.2.2 = v.2.2.2 then ((undercroftplain_SameBytes.f k p.1 q.1).bind fun t1 => (undercroftplain_SameBytes.f k u.2.2.1 v.2.2.1).bind fun t2 => (undercroftplain_SameBytes.f k o op).bind fun t3 => (undercroftplain_SameBytes.f k b l1).bind fun t4 => (undercroftlaw20_alive.f k).bind fun t5 => if t1 = true ∧ t2 = true ∧ t3 = true ∧ t4 = true ∧ t5 = true then some true else none) else none
theorem undercroftlaw20_ClientTells.mono : ∀ a0 a1 a2 a3 k, LeO (undercroftlaw20_ClientTells.f k a0 a1 a2 a3) (undercroftlaw20_ClientTells.f (k + 1) a0 a1 a2 a3) := by
  intro a0 a1 a2 a3 k
  unfold undercroftlaw20_ClientTells.f
  exact LeO.bind (LeO.refl _) (fun _ => LeO.bind (LeO.refl _) (fun _ => LeO.bind (client_Encode.mono _ _ _ k) (fun _ => LeO.bind (undercroftref20_Encode.mono _ _ _ k) (fun _ => LeO.bind (client_Decode.mono _ k) (fun _ => LeO.bind (undercroftref20_Decode.mono _ k) (fun _ => LeO.ite (LeO.bind (undercroftplain_SameBytes.mono _ _ k) (fun _ => LeO.bind (undercroftplain_SameBytes.mono _ _ k) (fun _ => LeO.bind (undercroftplain_SameBytes.mono _ _ k) (fun _ => LeO.bind (undercroftplain_SameBytes.mono _ _ k) (fun _ => LeO.bind (undercroftlaw20_alive.mono k) (fun _ => LeO.refl _)))))) (LeO.refl _)))))))
set_option maxHeartbeats 8000000 in
set_option maxRecDepth 100000 in
theorem undercroftlaw20_ClientTells.calls (k : Nat) (a0_0 : Int) (a0_1 : Int) (A0_2 : Option Addr) (c0_2 : Nat) (l0_2 : List Int) (A1 : Option Addr) (c1 : Nat) (l1 : List Int) (r : Bool) (w : World) (hgl_ : ErrLaid w) (hr0_2 : Kd.C (Kd.int .u8) w A0_2 l0_2.length l0_2) (hc0_2 : l0_2.length ≤ c0_2) (hr1 : Kd.C (Kd.int .u8) w A1 l1.length l1) (hc1 : l1.length ≤ c1) (h : undercroftlaw20_ClientTells.f k a0_0 a0_1 l0_2 l1 = some r) :
    Calls Tryd.prog 3 #[.agg #[.int .i64 a0_0, .int .i64 a0_1, .slice A0_2 l0_2.length c0_2], .slice A1 l1.length c1] w fun e w' => e = .returned (.bool r) ∧ Below w.heap.size w w' := by
  have HGL := Aside0.mk hgl_
  have HR0 := Aside0.mk hr0_2
  have HC0 := Aside0.mk hc0_2
  have HR1 := Aside0.mk hr1
  have HC1 := Aside0.mk hc1
  unfold undercroftlaw20_ClientTells.f at h
  obtain ⟨o, h1, g1⟩ := Option.bind_eq_some_iff.1 h
  obtain ⟨b, h2, g2⟩ := Option.bind_eq_some_iff.1 g1
  obtain ⟨⟨p1, p2⟩, h3, g3⟩ := Option.bind_eq_some_iff.1 g2
  obtain ⟨⟨q1, q2⟩, h4, g4⟩ := Option.bind_eq_some_iff.1 g3
  obtain ⟨⟨u1, u2, u3, u4⟩, h5, g5⟩ := Option.bind_eq_some_iff.1 g4
  obtain ⟨⟨v1, v2, v3, v4⟩, h6, g6⟩ := Option.bind_eq_some_iff.1 g5
  simp only at g6
  by_cases hc : p2 = q2 ∧ u1 = v1 ∧ u2 = v2 ∧ u4 = v4
  case neg => rw [if_neg hc] at g6; cases g6
  rw [if_pos hc] at g6
  obtain ⟨t1, h7, g7⟩ := Option.bind_eq_some_iff.1 g6
  obtain ⟨t2, h8, g8⟩ := Option.bind_eq_some_iff.1 g7
  obtain ⟨t3, h9, g9⟩ := Option.bind_eq_some_iff.1 g8
  obtain ⟨t4, h10, g10⟩ := Option.bind_eq_some_iff.1 g9
  obtain ⟨t5, h11, g11⟩ := Option.bind_eq_some_iff.1 g10
  by_cases hd : t1 = true ∧ t2 = true ∧ t3 = true ∧ t4 = true ∧ t5 = true
  case neg => rw [if_neg hd] at g11; cases g11
  rw [if_pos hd] at g11
  clear h g1 g2 g3 g4 g5 g6 g7 g8 g9 g10
  obtain ⟨e1, e2, e3, e4⟩ := hc
  obtain ⟨e5, e6, e7, e8, e9⟩ := hd
  subst e1 e2 e3 e4 e5 e6 e7 e8 e9
  obtain rfl := Option.some.inj g11
  have A1_ := Aside0.mk h1
  have A2_ := Aside0.mk h2
  have A3_ := Aside0.mk h3
  have A4_ := Aside0.mk h4
  have A5_ := Aside0.mk h5
  have A6_ := Aside0.mk h6
  have A7_ := Aside0.mk h7
  have A8_ := Aside0.mk h8
  have A9_ := Aside0.mk h9
  have A10_ := Aside0.mk h10
  have A11_ := Aside0.mk h11
  clear g11 h1 h2 h3 h4 h5 h6 h7 h8 h9 h10 h11 hgl_ hr0_2 hc0_2 hr1 hc1
  have w1_ : (p2 == p2) = true := by simp
  have w2_ : (u1 == u1) = true := by simp
  have w3_ : (u2 == u2) = true := by simp
  have w4_ : (u4 == u4) = true := by simp
  go_enter Tryd.func3, Tryd.ntmps3
  go_wp2_with (first
    | ((with_reducible refine gate_dst (N := 2) rfl ?_); (try (refine gate_guard (by rfl) ?_; dsimp only)); refine box_event ?hg (N := 2) ?hd (cs := #[.int .i64 a0_0, .int .i64 a0_1, .slice A0_2 l0_2.length c0_2]) (t := 24) ?hr ?_; (case hd => rfl); (case hg => rfl); (case hr => first | (go_simp; done) | (go_simp; rfl)); intro gb hg w1 hbox hb; go_loud (have HXR := Aside0.mk hbox; have HB := Aside0.mk hb; clear hb hg hbox)))
  refine start_ (n := 10) (S := fun w' => w'.cell? ⟨gb, 0, none⟩ = some (.int .i64 a0_0) ∧ w'.cell? ⟨gb, 1, none⟩ = some (.int .i64 a0_1) ∧ w'.cell? ⟨gb, 2, none⟩ = some (.slice A0_2 l0_2.length c0_2)) (ds := [9]) #[false, false, false, false, false, false, false, false, false, false] (by kernel_rfl) rfl rfl ⟨(blk_cell HXR.out 0).trans rfl, (blk_cell HXR.out 1).trans rfl, (blk_cell HXR.out 2).trans rfl⟩ (fun hHeld => ?_); refine with_tabW ct_tab1 ct_bits1 (fun HT_ HW_ => ?_)
  refine pure_ (i := 0) (N := some 15) (v := ?_) (a' := ?_) #[true, false, false, false, false, false, false, false, false, false] rfl rfl (any_of HT_.out (by kernel_rfl)) (fun _ _ _ h => h) (Or.inl ⟨by rfl, ?_⟩) ?_ ?_
  rotate_left
  · intro w'
    go_simp
    with_reducible rfl
  rotate_left
  · simp only [Act.put, List.setIfInBounds_toArray, List.set_cons_zero, List.set_cons_succ, i64_w, i32_w]
    rfl
  refine pure_ (i := 2) (N := some 17) (v := ?_) (a' := ?_) #[true, false, true, false, false, false, false, false, false, false] rfl rfl (any_of HT_.out (by kernel_rfl)) (fun _ _ _ h => h) (Or.inl ⟨by rfl, ?_⟩) ?_ ?_
  rotate_left
  · intro w'
    go_simp
    with_reducible rfl
  rotate_left
  · simp only [Act.put, List.setIfInBounds_toArray, List.set_cons_zero, List.set_cons_succ, i64_w, i32_w]
    rfl
  refine pure_ (i := 4) (N := some 19) (v := ?_) (a' := ?_) #[true, false, true, false, true, false, false, false, false, false] rfl rfl (any_of HT_.out (by kernel_rfl)) (fun _ _ _ h => h) (Or.inl ⟨by rfl, ?_⟩) ?_ ?_
  rotate_left
  · intro w'
    go_simp
    with_reducible rfl
  rotate_left
  · simp only [Act.put, List.setIfInBounds_toArray, List.set_cons_zero, List.set_cons_succ, i64_w, i32_w]
    rfl
  refine take_ (i := 1) (N := some 16) (v := ?_) (a' := ?_) #[true, true, true, false, true, false, false, false, false, false] rfl rfl (take_ofW HT_.out HW_.out (by kernel_rfl)) (fun _ _ _ h => h) (Or.inl ⟨by rfl, ?_⟩) hHeld ?_ ?_
  rotate_left
  · rintro w' ⟨s0, s1, s2⟩
    go_simp
    with_reducible rfl
  rotate_left
  · simp only [Act.put, List.setIfInBounds_toArray, List.set_cons_zero, List.set_cons_succ, i64_w, i32_w]
    rfl
  refine take_ (i := 3) (N := some 18) (v := ?_) (a' := ?_) #[true, true, true, true, true, false, false, false, false, false] rfl rfl (take_ofW HT_.out HW_.out (by kernel_rfl)) (fun _ _ _ h => h) (Or.inl ⟨by rfl, ?_⟩) hHeld ?_ ?_
  rotate_left
  · rintro w' ⟨s0, s1, s2⟩
    go_simp
    with_reducible rfl
  rotate_left
  · simp only [Act.put, List.setIfInBounds_toArray, List.set_cons_zero, List.set_cons_succ, i64_w, i32_w]
    rfl
  refine take_ (i := 5) (N := some 20) (v := ?_) (a' := ?_) #[true, true, true, true, true, true, false, false, false, false] rfl rfl (take_ofW HT_.out HW_.out (by kernel_rfl)) (fun _ _ _ h => h) (Or.inl ⟨by rfl, ?_⟩) hHeld ?_ ?_
  rotate_left
  · rintro w' ⟨s0, s1, s2⟩
    go_simp
    with_reducible rfl
  rotate_left
  · simp only [Act.put, List.setIfInBounds_toArray, List.set_cons_zero, List.set_cons_succ, i64_w, i32_w]
    rfl
  refine two_ (i := 6) (j := 8) (Ni := some 21) (Nj := some 5) #[true, true, true, true, true, true, true, false, false, false] #[true, true, true, true, true, true, false, false, true, false] rfl rfl rfl rfl (two_of HT_.out (by kernel_rfl)) (by decide) (by decide) (fun K hK => ?gA) (fun K hK => ?gB)
  case' gA =>
    refine goes_ Tryd.func5 (by kernel_rfl) rfl #[.slice A0_2 l0_2.length c0_2] (by rfl) rfl rfl (by (try simp only [List.map_toArray, List.map_cons, List.map_nil]); first | done | rfl) ?_
    refine (undercroftplain_CopyBytes.calls A0_2 c0_2 l0_2 o _ (Kd.C_below HR0.out (below_drew1 HB.out)) HC0.out A1_.out).mono ?_
    rintro e_ w2 ⟨v2, rfl, ho2, hb⟩
    refine ⟨_, rfl, ?_⟩
    obtain ⟨D2, c2, rfl, hl2, hC2⟩ := Kd.R_reads ho2
    have HL2 := Aside0.mk hl2
    have HO2 := Aside0.mk hC2
    have hb2 := (below_drew1 (Below.refl w1.heap.size w1)).trans hb
    have n0_ := Aside0.mk (below_step HB.out hb2)
    have n1_ := Aside0.mk ((hb2.block _ (blk_lt HXR.out)).trans HXR.out)
    clear HB HXR hl2 hC2 ho2 hb hb2
    have HB := n0_
    have HXR := n1_
    clear n0_ n1_
    refine hK.out _ _ ⟨(blk_cell HXR.out 0).trans rfl, (blk_cell HXR.out 1).trans rfl, (blk_cell HXR.out 2).trans rfl⟩ (fun hHeld => ?_)
    clear hK K
    refine norm_ (a' := ?_) ?_ ?_
    rotate_left
    · show Act.put _ (some 21) _ = _
      simp only [Act.put, List.setIfInBounds_toArray, List.set_cons_zero, List.set_cons_succ, i64_w, i32_w]
      rfl
    refine pure_ (i := 7) (N := some 22) (v := ?_) (a' := ?_) #[true, true, true, true, true, true, true, true, false, false] rfl rfl (any_of HT_.out (by kernel_rfl)) (fun _ _ _ h => h) (Or.inl ⟨by rfl, ?_⟩) ?_ ?_
    rotate_left
    · intro w'
      go_simp
      with_reducible rfl
    rotate_left
    · simp only [Act.put, List.setIfInBounds_toArray, List.set_cons_zero, List.set_cons_succ, i64_w, i32_w]
      rfl
    refine one_ (i := 8) (N := some 5) #[true, true, true, true, true, true, true, true, true, false] rfl rfl (one_of HT_.out (by kernel_rfl)) (by decide) (fun K hK => ?_)
    refine box_step ?hg (N := 5) ?hd (cs := #[.int .i64 0, .int .i64 0, .slice none 0 0]) (t := 26) ?hr ?_; (case hd => rfl); (case hg => rfl); (case hr => first | (go_simp; done) | (go_simp; rfl))
    intro gx hg w3 hbox hb
    have HXR3 := Aside0.mk ((hb.block _ (blk_lt HXR.out)).trans HXR.out)
    have HBX := Aside0.mk hb
    have HXX := Aside0.mk hbox
    have HGX := Aside0.mk hg
    clear hb hbox hg
    refine hK.out _ _ ⟨(blk_cell HXR3.out 0).trans rfl, (blk_cell HXR3.out 1).trans rfl, (blk_cell HXR3.out 2).trans rfl⟩ (fun hHeld => ?_)
    clear hK K
    refine norm_ (a' := ?_) ?_ ?_
    rotate_left
    · show Act.put _ (some 5) _ = _
      simp only [Act.put, List.setIfInBounds_toArray, List.set_cons_zero, List.set_cons_succ, i64_w, i32_w]
      rfl
    have hx0 : w3.cell? ⟨gx, 0, none⟩ = some (.int .i64 0) := (blk_cell HXX.out 0).trans rfl
    have hx1 : w3.cell? ⟨gx, 1, none⟩ = some (.int .i64 0) := (blk_cell HXX.out 1).trans rfl
    have hx2 : w3.cell? ⟨gx, 2, none⟩ = some (.slice none 0 0) := (blk_cell HXX.out 2).trans rfl
    have hf0 := blk_frozen HXX.out 0
    have hf1 := blk_frozen HXX.out 1
    have hf2 := blk_frozen HXX.out 2
    refine last_ (i := 9) (N := none) #[true, true, true, true, true, true, true, true, true, true] rfl rfl (one_of HT_.out (by kernel_rfl)) (by decide) (fun K hK => ?_)
    refine skip_ (w1 := ((w3.setCell ⟨gx, 0, none⟩ (.int .i64 a0_0)).setCell ⟨gx, 1, none⟩ (.int .i64 a0_1)).setCell ⟨gx, 2, none⟩ (.slice D2 o.length c2)) (by rfl) rfl ?_ ?_
    · go_simp
    obtain ⟨w4, hw4⟩ : ∃ w4, w4 = ((w3.setCell ⟨gx, 0, none⟩ (.int .i64 a0_0)).setCell ⟨gx, 1, none⟩ (.int .i64 a0_1)).setCell ⟨gx, 2, none⟩ (.slice D2 o.length c2) := ⟨_, rfl⟩
    rw [← hw4]
    have hb4 : Below w2.heap.size w2 w4 := by rw [hw4]; exact ((HBX.out.setCell (p := ⟨gx, 0, none⟩) (Nat.le_of_eq HGX.out.symm) _).setCell (p := ⟨gx, 1, none⟩) (Nat.le_of_eq HGX.out.symm) _).setCell (p := ⟨gx, 2, none⟩) (Nat.le_of_eq HGX.out.symm) _
    refine hK.out _ _ ?_
    clear hK K
    refine done_ (done_of HT_.out (by kernel_rfl)) ?_
    have HB4 := Aside0.mk (below_step HB.out hb4)
    have HXR4 := Aside0.mk ((hb4.block _ (blk_lt HXR.out)).trans HXR.out)
    have HO4 := Aside0.mk (Kd.C_below HO2.out hb4)
    have HXX4 : Aside0 (w4.heap[gx]? = some (.cells #[.int .i64 a0_0, .int .i64 a0_1, .slice D2 o.length c2] 26 (0, 0))) := ⟨by rw [hw4]; exact blk_put (blk_put (blk_put HXX.out 0 _ rfl) 1 _ rfl) 2 _ rfl⟩
    clear hb4 hw4 HBX HXX HGX HXR3 HB HXR HO2 hx0 hx1 hx2 hf0 hf1 hf2 hHeld HT_ HW_
  case' gB =>
    refine box_step ?hg (N := 5) ?hd (cs := #[.int .i64 0, .int .i64 0, .slice none 0 0]) (t := 26) ?hr ?_; (case hd => rfl); (case hg => rfl); (case hr => first | (go_simp; done) | (go_simp; rfl))
    intro gx hg w2 hbox hb
    have hb1 := (below_drew1 (Below.refl w1.heap.size w1)).trans hb
    have n0_ := Aside0.mk (below_step HB.out hb1)
    have n1_ := Aside0.mk ((hb1.block _ (blk_lt HXR.out)).trans HXR.out)
    have HGX := Aside0.mk (show w1.heap.size ≤ gx by rw [hg]; exact Nat.le_refl _)
    have HXX2 := Aside0.mk hbox
    have HB12 := Aside0.mk hb1
    clear hb hbox hg hb1
    have HXR2 := n1_
    have HB2 := n0_
    clear n0_ n1_
    refine hK.out _ _ ⟨(blk_cell HXR2.out 0).trans rfl, (blk_cell HXR2.out 1).trans rfl, (blk_cell HXR2.out 2).trans rfl⟩ (fun hHeld => ?_)
    clear hK K
    refine norm_ (a' := ?_) ?_ ?_
    rotate_left
    · show Act.put _ (some 5) _ = _
      simp only [Act.put, List.setIfInBounds_toArray, List.set_cons_zero, List.set_cons_succ, i64_w, i32_w]
      rfl
    refine one_ (i := 6) (N := some 21) #[true, true, true, true, true, true, true, false, true, false] rfl rfl (one_of HT_.out (by kernel_rfl)) (by decide) (fun K hK => ?_)
    refine goes_ Tryd.func5 (by kernel_rfl) rfl #[.slice A0_2 l0_2.length c0_2] (by rfl) rfl rfl (by (try simp only [List.map_toArray, List.map_cons, List.map_nil]); first | done | rfl) ?_
    refine (undercroftplain_CopyBytes.calls A0_2 c0_2 l0_2 o _ (Kd.C_below HR0.out HB2.out) HC0.out A1_.out).mono ?_
    rintro e_ w3 ⟨v2, rfl, ho2, hb⟩
    refine ⟨_, rfl, ?_⟩
    obtain ⟨D2, c2, rfl⟩ := Kd.R_slice ho2
    have HL2 := Aside0.mk (Kd.R_reads' ho2).2.1
    have HR3 := Aside0.mk ho2
    have HZ2 := Aside0.mk (blk_lt HXX2.out)
    have HXX := Aside0.mk ((hb.block _ (blk_lt HXX2.out)).trans HXX2.out)
    have HB3 := Aside0.mk (below_step HB12.out hb)
    have HXR3 := Aside0.mk ((hb.block _ (blk_lt HXR2.out)).trans HXR2.out)
    clear ho2 hb
    refine hK.out _ _ ⟨(blk_cell HXR3.out 0).trans rfl, (blk_cell HXR3.out 1).trans rfl, (blk_cell HXR3.out 2).trans rfl⟩ (fun hHeld => ?_)
    clear hK K
    refine norm_ (a' := ?_) ?_ ?_
    rotate_left
    · show Act.put _ (some 21) _ = _
      simp only [Act.put, List.setIfInBounds_toArray, List.set_cons_zero, List.set_cons_succ, i64_w, i32_w]
      rfl
    refine pure_ (i := 7) (N := some 22) (v := ?_) (a' := ?_) #[true, true, true, true, true, true, true, true, true, false] rfl rfl (any_of HT_.out (by kernel_rfl)) (fun _ _ _ h => h) (Or.inl ⟨by rfl, ?_⟩) ?_ ?_
    rotate_left
    · intro w'
      go_simp
      with_reducible rfl
    rotate_left
    · simp only [Act.put, List.setIfInBounds_toArray, List.set_cons_zero, List.set_cons_succ, i64_w, i32_w]
      rfl
    have hx0 : w3.cell? ⟨gx, 0, none⟩ = some (.int .i64 0) := (blk_cell HXX.out 0).trans rfl
    have hx1 : w3.cell? ⟨gx, 1, none⟩ = some (.int .i64 0) := (blk_cell HXX.out 1).trans rfl
    have hx2 : w3.cell? ⟨gx, 2, none⟩ = some (.slice none 0 0) := (blk_cell HXX.out 2).trans rfl
    have hf0 := blk_frozen HXX.out 0
    have hf1 := blk_frozen HXX.out 1
    have hf2 := blk_frozen HXX.out 2
    refine last_ (i := 9) (N := none) #[true, true, true, true, true, true, true, true, true, true] rfl rfl (one_of HT_.out (by kernel_rfl)) (by decide) (fun K hK => ?_)
    refine skip_ (w1 := ((w3.setCell ⟨gx, 0, none⟩ (.int .i64 a0_0)).setCell ⟨gx, 1, none⟩ (.int .i64 a0_1)).setCell ⟨gx, 2, none⟩ (.slice D2 o.length c2)) (by rfl) rfl ?_ ?_
    · go_simp
    obtain ⟨w4, hw4⟩ : ∃ w4, w4 = ((w3.setCell ⟨gx, 0, none⟩ (.int .i64 a0_0)).setCell ⟨gx, 1, none⟩ (.int .i64 a0_1)).setCell ⟨gx, 2, none⟩ (.slice D2 o.length c2) := ⟨_, rfl⟩
    rw [← hw4]
    have hb4 : Below w1.heap.size w1 w4 := by rw [hw4]; exact ((HB3.out.setCell (p := ⟨gx, 0, none⟩) HGX.out _).setCell (p := ⟨gx, 1, none⟩) HGX.out _).setCell (p := ⟨gx, 2, none⟩) HGX.out _
    refine hK.out _ _ ?_
    clear hK K
    refine done_ (done_of HT_.out (by kernel_rfl)) ?_
    have HB4 := Aside0.mk (below_step HB.out hb4)
    have HXR4 := Aside0.mk ((hb4.block _ (blk_lt HXR.out)).trans HXR.out)
    have HO4 := Aside0.mk (show Kd.C (Kd.int .u8) w4 D2 o.length o by rw [hw4]; exact (Kd.R_reads' (R_set (R_set (R_set HR3.out HZ2.out) HZ2.out) HZ2.out)).2.2)
    have HXX4 : Aside0 (w4.heap[gx]? = some (.cells #[.int .i64 a0_0, .int .i64 a0_1, .slice D2 o.length c2] 26 (0, 0))) := ⟨by rw [hw4]; exact blk_put (blk_put (blk_put HXX.out 0 _ rfl) 1 _ rfl) 2 _ rfl⟩
    clear hb4 hw4 HXX2 HXX HGX HXR2 HXR3 HB HB2 HB3 HB12 HXR HR3 HZ2 hx0 hx1 hx2 hf0 hf1 hf2 hHeld HT_ HW_
  all_goals
    go_wp2_with (first
      | (go_at_call 5; go_loud (refine (undercroftplain_CopyBytes.calls A1 c1 l1 b _ (Kd.C_below HR1.out HB4.out) HC1.out A2_.out).mono ?_; rintro e w5 ⟨v5, rfl, ho, hb⟩; obtain ⟨D5, c5, rfl, hl5, hC5⟩ := Kd.R_reads ho; have HL5 := Aside0.mk hl5; have HI5 := Aside0.mk hC5; have HB5 := Aside0.mk (below_step HB4.out hb); have HXR5 := Aside0.mk ((hb.block _ (blk_lt HXR4.out)).trans HXR4.out); have HXX5 := Aside0.mk ((hb.block _ (blk_lt HXX4.out)).trans HXX4.out); have HO5 := Aside0.mk (Kd.C_below HO4.out hb); clear hl5 hC5 ho hb; have hx0 := (blk_cell HXX5.out 0).trans rfl; have hx1 := (blk_cell HXX5.out 1).trans rfl; have hx2 := (blk_cell HXX5.out 2).trans rfl))
      | (go_at_call 6; go_loud (refine (client_Encode.calls k a0_0 a0_1 _ _ _ o p1 p2 _ (Kd.V_mk HL2.out (Kd.C_F (Kd.heap_int .u8) HO5.out)) A3_.out).mono ?_; rintro e w6 ⟨v6, rfl, ho, hb⟩; obtain ⟨D6, c6, rfl, hl6, hC6⟩ := Kd.R_reads ho; have HL6 := Aside0.mk hl6; have HP6 := Aside0.mk hC6; have HB6 := Aside0.mk (below_step HB5.out hb); have HXR6 := Aside0.mk ((hb.block _ (blk_lt HXR5.out)).trans HXR5.out); have HXX6 := Aside0.mk ((hb.block _ (blk_lt HXX5.out)).trans HXX5.out); have HO6 := Aside0.mk (Kd.C_below HO5.out hb); have HI6 := Aside0.mk (Kd.C_below HI5.out hb); clear hl6 hC6 ho hb hx0 hx1 hx2; have hx0 := (blk_cell HXR6.out 0).trans rfl; have hx1 := (blk_cell HXR6.out 1).trans rfl; have hx2 := (blk_cell HXR6.out 2).trans rfl))
      | (go_at_call 7; go_loud (refine (undercroftref20_Encode.calls k a0_0 a0_1 _ _ _ l0_2 q1 p2 _ (Kd.V_mk HC0.out (Kd.C_F (Kd.heap_int .u8) (Kd.C_below HR0.out HB6.out))) A4_.out).mono ?_; rintro e w7 ⟨v7, rfl, ho, hb⟩; obtain ⟨D7, c7, rfl, hl7, hC7⟩ := Kd.R_reads ho; have HL7 := Aside0.mk hl7; have HQ7 := Aside0.mk hC7; have HB7 := Aside0.mk (below_step HB6.out hb); have HXR7 := Aside0.mk ((hb.block _ (blk_lt HXR6.out)).trans HXR6.out); have HXX7 := Aside0.mk ((hb.block _ (blk_lt HXX6.out)).trans HXX6.out); have HO7 := Aside0.mk (Kd.C_below HO6.out hb); have HI7 := Aside0.mk (Kd.C_below HI6.out hb); have HP7 := Aside0.mk (Kd.C_below HP6.out hb); clear hl7 hC7 ho hb hx0 hx1 hx2))
      | (go_at_call 8; go_loud (refine (client_Decode.callsG HGL.out k D5 c5 b u1 u2 u3 u4 _ HB7.out HI7.out HL5.out A5_.out).mono ?_; rintro e w8 ⟨v8, rfl, ho, hb⟩; obtain ⟨D8, c8, rfl, hl8, hC8⟩ := Kd.R_reads ho; have HL8 := Aside0.mk hl8; have HU8 := Aside0.mk hC8; have HB8 := Aside0.mk (below_step HB7.out hb); have HXR8 := Aside0.mk ((hb.block _ (blk_lt HXR7.out)).trans HXR7.out); have HXX8 := Aside0.mk ((hb.block _ (blk_lt HXX7.out)).trans HXX7.out); have HO8 := Aside0.mk (Kd.C_below HO7.out hb); have HI8 := Aside0.mk (Kd.C_below HI7.out hb); have HP8 := Aside0.mk (Kd.C_below HP7.out hb); have HQ8 := Aside0.mk (Kd.C_below HQ7.out hb); clear hl8 hC8 ho hb))
      | ((with_reducible refine gate_dst (N := 11) rfl ?_); (try (refine gate_guard (by rfl) ?_; dsimp only)); refine box_event ?hg (N := 11) ?hd (cs := #[.int .i64 0, .int .i64 0, .slice none 0 0]) (t := 26) ?hr ?_; (case hd => rfl); (case hg => rfl); (case hr => first | (go_simp; done) | (go_simp; rfl)); intro gu hg w9 hbox hb; go_loud (have HGN := Aside0.mk hg; have HBN := Aside0.mk hb; have HXN := Aside0.mk hbox; clear hb hg hbox; have hz0 : w9.cell? ⟨gu, 0, none⟩ = some (.int .i64 0) := (blk_cell HXN.out 0).trans rfl; have hz1 : w9.cell? ⟨gu, 1, none⟩ = some (.int .i64 0) := (blk_cell HXN.out 1).trans rfl; have hz2 : w9.cell? ⟨gu, 2, none⟩ = some (.slice none 0 0) := (blk_cell HXN.out 2).trans rfl; have hzf0 := blk_frozen HXN.out 0; have hzf1 := blk_frozen HXN.out 1; have hzf2 := blk_frozen HXN.out 2))
      | ((with_reducible refine gate_store (t := 26) (p := 11) rfl ?_); refine store_event (t := 26) (p := 11) (v := ?vo_w10) (w1 := (((w9.setCell ⟨gu, 0, none⟩ (.int .i64 u1)).setCell ⟨gu, 1, none⟩ (.int .i64 u2)).setCell ⟨gu, 2, none⟩ (.slice D8 u3.length c8))) ?hg ?ho ?hn ?hr ?_; (case ho => rfl); (case hg => rfl); (case hn => rfl); (case hr => first | (go_simp; done) | (go_simp; rfl)); intro w10 hw; go_loud (have hb := (show Below _ _ w10 from (by rw [hw]; exact ((HBN.out.setCell (p := ⟨gu, 0, none⟩) (Nat.le_of_eq HGN.out.symm) _).setCell (p := ⟨gu, 1, none⟩) (Nat.le_of_eq HGN.out.symm) _).setCell (p := ⟨gu, 2, none⟩) (Nat.le_of_eq HGN.out.symm) _)); have HXU9 : Aside0 (w10.heap[gu]? = some (.cells #[.int .i64 u1, .int .i64 u2, .slice D8 u3.length c8] 26 (0, 0))) := ⟨by rw [hw]; exact blk_put (blk_put (blk_put HXN.out 0 _ rfl) 1 _ rfl) 2 _ rfl⟩; have HB9 := Aside0.mk (below_step HB8.out hb); have HXR9 := Aside0.mk ((hb.block _ (blk_lt HXR8.out)).trans HXR8.out); have HXX9 := Aside0.mk ((hb.block _ (blk_lt HXX8.out)).trans HXX8.out); have HO9 := Aside0.mk (Kd.C_below HO8.out hb); have HI9 := Aside0.mk (Kd.C_below HI8.out hb); have HP9 := Aside0.mk (Kd.C_below HP8.out hb); have HQ9 := Aside0.mk (Kd.C_below HQ8.out hb); have HU9 := Aside0.mk (Kd.C_below HU8.out hb); clear hb hw hz0 hz1 hz2 hzf0 hzf1 hzf2 HGN HBN HXN))
      | (go_at_call 9; go_loud (refine (undercroftref20_Decode.calls k A1 c1 l1 u1 u2 v3 u4 _ (Kd.C_below HR1.out HB9.out) HC1.out A6_.out).mono ?_; rintro e w11 ⟨v11, rfl, ho, hb⟩; obtain ⟨D11, c11, rfl, hl11, hC11⟩ := Kd.R_reads ho; have HL11 := Aside0.mk hl11; have HV10 := Aside0.mk hC11; have HB10 := Aside0.mk (below_step HB9.out hb); have HXR10 := Aside0.mk ((hb.block _ (blk_lt HXR9.out)).trans HXR9.out); have HXX10 := Aside0.mk ((hb.block _ (blk_lt HXX9.out)).trans HXX9.out); have HO10 := Aside0.mk (Kd.C_below HO9.out hb); have HI10 := Aside0.mk (Kd.C_below HI9.out hb); have HP10 := Aside0.mk (Kd.C_below HP9.out hb); have HQ10 := Aside0.mk (Kd.C_below HQ9.out hb); have HU10 := Aside0.mk (Kd.C_below HU9.out hb); have HXU10 := Aside0.mk ((hb.block _ (blk_lt HXU9.out)).trans HXU9.out); clear hl11 hC11 ho hb))
      | ((with_reducible refine gate_dst (N := 13) rfl ?_); (try (refine gate_guard (by rfl) ?_; dsimp only)); refine box_event ?hg (N := 13) ?hd (cs := #[.int .i64 0, .int .i64 0, .slice none 0 0]) (t := 24) ?hr ?_; (case hd => rfl); (case hg => rfl); (case hr => first | (go_simp; done) | (go_simp; rfl)); intro gv hg w12 hbox hb; go_loud (have HGN := Aside0.mk hg; have HBN := Aside0.mk hb; have HXN := Aside0.mk hbox; clear hb hg hbox; have hz0 : w12.cell? ⟨gv, 0, none⟩ = some (.int .i64 0) := (blk_cell HXN.out 0).trans rfl; have hz1 : w12.cell? ⟨gv, 1, none⟩ = some (.int .i64 0) := (blk_cell HXN.out 1).trans rfl; have hz2 : w12.cell? ⟨gv, 2, none⟩ = some (.slice none 0 0) := (blk_cell HXN.out 2).trans rfl; have hzf0 := blk_frozen HXN.out 0; have hzf1 := blk_frozen HXN.out 1; have hzf2 := blk_frozen HXN.out 2))
      | ((with_reducible refine gate_store (t := 24) (p := 13) rfl ?_); refine store_event (t := 24) (p := 13) (v := ?vo_w13) (w1 := (((w12.setCell ⟨gv, 0, none⟩ (.int .i64 u1)).setCell ⟨gv, 1, none⟩ (.int .i64 u2)).setCell ⟨gv, 2, none⟩ (.slice D11 v3.length c11))) ?hg ?ho ?hn ?hr ?_; (case ho => rfl); (case hg => rfl); (case hn => rfl); (case hr => first | (go_simp; done) | (go_simp; rfl)); intro w13 hw; go_loud (have hb := (show Below _ _ w13 from (by rw [hw]; exact ((HBN.out.setCell (p := ⟨gv, 0, none⟩) (Nat.le_of_eq HGN.out.symm) _).setCell (p := ⟨gv, 1, none⟩) (Nat.le_of_eq HGN.out.symm) _).setCell (p := ⟨gv, 2, none⟩) (Nat.le_of_eq HGN.out.symm) _)); have HXV11 : Aside0 (w13.heap[gv]? = some (.cells #[.int .i64 u1, .int .i64 u2, .slice D11 v3.length c11] 24 (0, 0))) := ⟨by rw [hw]; exact blk_put (blk_put (blk_put HXN.out 0 _ rfl) 1 _ rfl) 2 _ rfl⟩; have HB11 := Aside0.mk (below_step HB10.out hb); have HXR11 := Aside0.mk ((hb.block _ (blk_lt HXR10.out)).trans HXR10.out); have HXX11 := Aside0.mk ((hb.block _ (blk_lt HXX10.out)).trans HXX10.out); have HO11 := Aside0.mk (Kd.C_below HO10.out hb); have HI11 := Aside0.mk (Kd.C_below HI10.out hb); have HP11 := Aside0.mk (Kd.C_below HP10.out hb); have HQ11 := Aside0.mk (Kd.C_below HQ10.out hb); have HU11 := Aside0.mk (Kd.C_below HU10.out hb); have HXU11 := Aside0.mk ((hb.block _ (blk_lt HXU10.out)).trans HXU10.out); have HV11 := Aside0.mk (Kd.C_below HV10.out hb); clear hb hw hz0 hz1 hz2 hzf0 hzf1 hzf2 HGN HBN HXN; have hu0 := (blk_cell HXU11.out 0).trans rfl; have hu1 := (blk_cell HXU11.out 1).trans rfl; have hu2 := (blk_cell HXU11.out 2).trans rfl; have hv0 := (blk_cell HXV11.out 0).trans rfl; have hv1 := (blk_cell HXV11.out 1).trans rfl; have hv2 := (blk_cell HXV11.out 2).trans rfl; have hx2 := (blk_cell HXX11.out 2).trans rfl; have hr2 := (blk_cell HXR11.out 2).trans rfl; have HRA := Aside0.mk (Kd.C_below HR0.out HB11.out); have HRB := Aside0.mk (Kd.C_below HR1.out HB11.out)))
      | (go_at_call 10; refine (undercroftplain_SameBytes.calls k D6 c6 p1 D7 c7 q1 true _ (by repeat (first | (with_reducible exact HP11.out) | (with_reducible refine Kd.C_drewN ?_ _))) HL6.out (by repeat (first | (with_reducible exact HQ11.out) | (with_reducible refine Kd.C_drewN ?_ _))) HL7.out A7_.out).mono ?_; rintro e wz1 ⟨rfl, hd1⟩; obtain ⟨n1, rfl⟩ := hd1.out; clear A7_)
      | (go_at_call 10; refine (undercroftplain_SameBytes.calls k D8 c8 u3 D11 c11 v3 true _ (by repeat (first | (with_reducible exact HU11.out) | (with_reducible refine Kd.C_drewN ?_ _))) HL8.out (by repeat (first | (with_reducible exact HV11.out) | (with_reducible refine Kd.C_drewN ?_ _))) HL11.out A8_.out).mono ?_; rintro e wz2 ⟨rfl, hd2⟩; obtain ⟨n2, rfl⟩ := hd2.out; clear A8_)
      | (go_at_call 10; refine (undercroftplain_SameBytes.calls k D2 c2 o A0_2 c0_2 l0_2 true _ (by repeat (first | (with_reducible exact HO11.out) | (with_reducible refine Kd.C_drewN ?_ _))) HL2.out (by repeat (first | (with_reducible exact HRA.out) | (with_reducible refine Kd.C_drewN ?_ _))) HC0.out A9_.out).mono ?_; rintro e wz3 ⟨rfl, hd3⟩; obtain ⟨n3, rfl⟩ := hd3.out; clear A9_)
      | (go_at_call 10; refine (undercroftplain_SameBytes.calls k D5 c5 b A1 c1 l1 true _ (by repeat (first | (with_reducible exact HI11.out) | (with_reducible refine Kd.C_drewN ?_ _))) HL5.out (by repeat (first | (with_reducible exact HRB.out) | (with_reducible refine Kd.C_drewN ?_ _))) HC1.out A10_.out).mono ?_; rintro e wz4 ⟨rfl, hd4⟩; obtain ⟨n4, rfl⟩ := hd4.out; clear A10_)
      | (go_at_call_of 11 (Value.int .i64 p2); go_loud (refine (undercroftlaw20_num.calls p2 p2 _ rfl).mono ?_; rintro e wn1 ⟨rfl, hd9⟩; obtain ⟨m1, rfl⟩ := hd9.out))
      | (go_at_call_of 11 (Value.int .i64 u4); go_loud (refine (undercroftlaw20_num.calls u4 u4 _ rfl).mono ?_; rintro e wn2 ⟨rfl, hd9⟩; obtain ⟨m2, rfl⟩ := hd9.out))
      | (go_at_call 12; go_loud (refine (undercroftlaw20_alive.calls k true _ A11_.out).mono ?_; rintro e w14 ⟨rfl, hb14⟩; have HB14 := Aside0.mk (below_step (pw_below_drewN HB11.out _) hb14))))
    go_ret
    exact ⟨rfl, HB14.out⟩

end Go.Proofs.YtofflfacfjkikaaDoor.PCte
