-- Written by a program of this session (gen.py).
import Derived.Test.YtokjiinlhghggaaDoorPTelx0
namespace Go.Proofs.YtokjiinlhghggaaDoor.PTel
open Go.RowKit Go.Proofs.YtokjiinlhghggaaDoorW.PrintWords Go.Proofs.YtokjiinlhghggaaDoorW.PrintLast Go.Proofs.YtokjiinlhghggaaDoorW.PrintMore
open Go.Proofs.YtokjiinlhghggaaDoor.Own
attribute [local go_sem high] unary_not_u32 unary_not_u64 unary_not_u8 string_leq_ string_gtr_
attribute [local go_sem] max2_int min2_int max_two min_two max_three min_three max_four min_four   -- for this text's walks alone
set_option linter.unusedVariables false
set_option linter.unusedSimpArgs false

/-! ### segment_Check: function 23 -/
def segment_May.f (a0_0 : Int) (a0_1 : Int) (l0_2 : List Int) : Option (Bool) := if a0_0 ≥ 1 then (if a0_0 ≤ 2147483647 then (if a0_1 ≥ 0 then (if a0_1 ≤ 255 then (some (decide ((l0_2.length : Int) ≤ 32))) else (some false)) else (some false)) else (some false)) else (some false)
set_option maxHeartbeats 8000000 in
set_option maxRecDepth 100000 in
theorem segment_May.calls (a0_0 : Int) (a0_1 : Int) (A0_2 : Option Addr) (c0_2 : Nat) (l0_2 : List Int) (r : Bool) (w : World) (hr0_2 : Kd.C (Kd.int .u8) w A0_2 l0_2.length l0_2) (hc0_2 : l0_2.length ≤ c0_2) (h : segment_May.f a0_0 a0_1 l0_2 = some r) :
    Calls Tryd.prog 43 #[.agg #[.int .i64 a0_0, .int .i64 a0_1, .slice A0_2 l0_2.length c0_2]] w fun e w' => e = .returned (.bool r) ∧ Below w.heap.size w w' := by
  have hu43 := Tryd.underlying43
  have HR0_2 := Aside0.mk hr0_2
  have HC0_2 := Aside0.mk hc0_2
  clear hr0_2 hc0_2
  have HB := Aside0.mk (Below.refl w.heap.size w)
  have H : (if a0_0 ≥ 1 then (if a0_0 ≤ 2147483647 then (if a0_1 ≥ 0 then (if a0_1 ≤ 255 then (some (decide ((l0_2.length : Int) ≤ 32))) else (some false)) else (some false)) else (some false)) else (some false)) = some r := h
  clear h
  by_cases c2 : a0_0 ≥ 1
  · rw [if_pos c2] at H
    have c2b0 : decide (1 ≤ a0_0) = true := decide_eq_true c2
    clear c2
    by_cases c3 : a0_0 ≤ 2147483647
    · rw [if_pos c3] at H
      have c3b0 : decide (a0_0 ≤ 2147483647) = true := decide_eq_true c3
      clear c3
      by_cases c4 : a0_1 ≥ 0
      · rw [if_pos c4] at H
        have c4b0 : decide (0 ≤ a0_1) = true := decide_eq_true c4
        clear c4
        by_cases c5 : a0_1 ≤ 255
        · rw [if_pos c5] at H
          have c5b0 : decide (a0_1 ≤ 255) = true := decide_eq_true c5
          clear c5
          obtain rfl := Option.some.inj H
          go_enter Tryd.func43, Tryd.ntmps43
          go_wp2_with (first | ((with_reducible refine gate_dst (N := 1) rfl ?_); (try (refine gate_guard (by rfl) ?_; dsimp only)); refine box_event ?hg (N := 1) ?hd (cs := #[.int .i64 a0_0, .int .i64 a0_1, .slice A0_2 l0_2.length c0_2]) (t := 43) ?hr ?_; (case hd => rfl); (case hg => rfl); (case hr => first | (go_simp; done) | (go_simp; rfl)); intro gb152 hg w6 hbox hb; have n0_ := Aside0.mk (below_step (by repeat (first | (with_reducible first | exact HB.out | apply below_alloc | apply pw_below_drewN | apply below_drew1) | exact HB.out)) hb); have n1_ := Aside0.mk (hbox); have n2_ := Aside0.mk ((by rw [hg]; exact (below_size (by repeat (first | (with_reducible first | exact HB.out | apply below_alloc | apply pw_below_drewN | apply below_drew1) | exact HB.out))) : w.heap.size ≤ gb152)); have n3_ := Aside0.mk ((by rw [hg]; exact (below_size (by repeat (first | (with_reducible first | exact HB.out | apply below_alloc | apply pw_below_drewN | apply below_drew1) | exact HB.out))) : w.heap.size ≤ gb152)); clear HB; have HB := n0_; have BK152 := n1_; have GW152 := n2_; have GE152 := n3_; clear n0_ n1_ n2_ n3_; clear hb hbox hg; have hcz7_0 : w6.cell? ⟨gb152, 0, none⟩ = some (.int .i64 a0_0) := (blk_cell BK152.out 0).trans rfl; have hcz7_1 : w6.cell? ⟨gb152, 1, none⟩ = some (.int .i64 a0_1) := (blk_cell BK152.out 1).trans rfl; have hcz7_2 : w6.cell? ⟨gb152, 2, none⟩ = some (.slice A0_2 l0_2.length c0_2) := (blk_cell BK152.out 2).trans rfl; have hfz7_0 := blk_frozen BK152.out 0; have hfz7_1 := blk_frozen BK152.out 1; have hfz7_2 := blk_frozen BK152.out 2))
          go_ret
          exact ⟨by first | rfl | (simp [errW_none, errW_some] <;> rfl) | (simp [*, errW_none, errW_some] <;> rfl) | (exfalso; simp only [beq_iff_eq, decide_eq_true_eq] at *; omega), by repeat (first | (with_reducible first | exact HB.out | apply below_alloc | apply pw_below_drewN | apply below_drew1 | refine below_set ?_ GE152.out) | exact HB.out)⟩
        · rw [if_neg c5] at H
          have c5b0 : decide (a0_1 ≤ 255) = false := decide_eq_false c5
          clear c5
          obtain rfl := Option.some.inj H
          go_enter Tryd.func43, Tryd.ntmps43
          go_wp2_with (first | ((with_reducible refine gate_dst (N := 1) rfl ?_); (try (refine gate_guard (by rfl) ?_; dsimp only)); refine box_event ?hg (N := 1) ?hd (cs := #[.int .i64 a0_0, .int .i64 a0_1, .slice A0_2 l0_2.length c0_2]) (t := 43) ?hr ?_; (case hd => rfl); (case hg => rfl); (case hr => first | (go_simp; done) | (go_simp; rfl)); intro gb152 hg w8 hbox hb; have n0_ := Aside0.mk (below_step (by repeat (first | (with_reducible first | exact HB.out | apply below_alloc | apply pw_below_drewN | apply below_drew1) | exact HB.out)) hb); have n1_ := Aside0.mk (hbox); have n2_ := Aside0.mk ((by rw [hg]; exact (below_size (by repeat (first | (with_reducible first | exact HB.out | apply below_alloc | apply pw_below_drewN | apply below_drew1) | exact HB.out))) : w.heap.size ≤ gb152)); have n3_ := Aside0.mk ((by rw [hg]; exact (below_size (by repeat (first | (with_reducible first | exact HB.out | apply below_alloc | apply pw_below_drewN | apply below_drew1) | exact HB.out))) : w.heap.size ≤ gb152)); clear HB; have HB := n0_; have BK152 := n1_; have GW152 := n2_; have GE152 := n3_; clear n0_ n1_ n2_ n3_; clear hb hbox hg; have hcz9_0 : w8.cell? ⟨gb152, 0, none⟩ = some (.int .i64 a0_0) := (blk_cell BK152.out 0).trans rfl; have hcz9_1 : w8.cell? ⟨gb152, 1, none⟩ = some (.int .i64 a0_1) := (blk_cell BK152.out 1).trans rfl; have hcz9_2 : w8.cell? ⟨gb152, 2, none⟩ = some (.slice A0_2 l0_2.length c0_2) := (blk_cell BK152.out 2).trans rfl; have hfz9_0 := blk_frozen BK152.out 0; have hfz9_1 := blk_frozen BK152.out 1; have hfz9_2 := blk_frozen BK152.out 2))
          go_ret
          exact ⟨by first | rfl | (simp [errW_none, errW_some] <;> rfl) | (simp [*, errW_none, errW_some] <;> rfl) | (exfalso; simp only [beq_iff_eq, decide_eq_true_eq] at *; omega), by repeat (first | (with_reducible first | exact HB.out | apply below_alloc | apply pw_below_drewN | apply below_drew1 | refine below_set ?_ GE152.out) | exact HB.out)⟩
      · rw [if_neg c4] at H
        have c4b0 : decide (0 ≤ a0_1) = false := decide_eq_false c4
        clear c4
        obtain rfl := Option.some.inj H
        go_enter Tryd.func43, Tryd.ntmps43
        go_wp2_with (first | ((with_reducible refine gate_dst (N := 1) rfl ?_); (try (refine gate_guard (by rfl) ?_; dsimp only)); refine box_event ?hg (N := 1) ?hd (cs := #[.int .i64 a0_0, .int .i64 a0_1, .slice A0_2 l0_2.length c0_2]) (t := 43) ?hr ?_; (case hd => rfl); (case hg => rfl); (case hr => first | (go_simp; done) | (go_simp; rfl)); intro gb152 hg w10 hbox hb; have n0_ := Aside0.mk (below_step (by repeat (first | (with_reducible first | exact HB.out | apply below_alloc | apply pw_below_drewN | apply below_drew1) | exact HB.out)) hb); have n1_ := Aside0.mk (hbox); have n2_ := Aside0.mk ((by rw [hg]; exact (below_size (by repeat (first | (with_reducible first | exact HB.out | apply below_alloc | apply pw_below_drewN | apply below_drew1) | exact HB.out))) : w.heap.size ≤ gb152)); have n3_ := Aside0.mk ((by rw [hg]; exact (below_size (by repeat (first | (with_reducible first | exact HB.out | apply below_alloc | apply pw_below_drewN | apply below_drew1) | exact HB.out))) : w.heap.size ≤ gb152)); clear HB; have HB := n0_; have BK152 := n1_; have GW152 := n2_; have GE152 := n3_; clear n0_ n1_ n2_ n3_; clear hb hbox hg; have hcz11_0 : w10.cell? ⟨gb152, 0, none⟩ = some (.int .i64 a0_0) := (blk_cell BK152.out 0).trans rfl; have hcz11_1 : w10.cell? ⟨gb152, 1, none⟩ = some (.int .i64 a0_1) := (blk_cell BK152.out 1).trans rfl; have hcz11_2 : w10.cell? ⟨gb152, 2, none⟩ = some (.slice A0_2 l0_2.length c0_2) := (blk_cell BK152.out 2).trans rfl; have hfz11_0 := blk_frozen BK152.out 0; have hfz11_1 := blk_frozen BK152.out 1; have hfz11_2 := blk_frozen BK152.out 2))
        go_ret
        exact ⟨by first | rfl | (simp [errW_none, errW_some] <;> rfl) | (simp [*, errW_none, errW_some] <;> rfl) | (exfalso; simp only [beq_iff_eq, decide_eq_true_eq] at *; omega), by repeat (first | (with_reducible first | exact HB.out | apply below_alloc | apply pw_below_drewN | apply below_drew1 | refine below_set ?_ GE152.out) | exact HB.out)⟩
    · rw [if_neg c3] at H
      have c3b0 : decide (a0_0 ≤ 2147483647) = false := decide_eq_false c3
      clear c3
      obtain rfl := Option.some.inj H
      go_enter Tryd.func43, Tryd.ntmps43
      go_wp2_with (first | ((with_reducible refine gate_dst (N := 1) rfl ?_); (try (refine gate_guard (by rfl) ?_; dsimp only)); refine box_event ?hg (N := 1) ?hd (cs := #[.int .i64 a0_0, .int .i64 a0_1, .slice A0_2 l0_2.length c0_2]) (t := 43) ?hr ?_; (case hd => rfl); (case hg => rfl); (case hr => first | (go_simp; done) | (go_simp; rfl)); intro gb152 hg w12 hbox hb; have n0_ := Aside0.mk (below_step (by repeat (first | (with_reducible first | exact HB.out | apply below_alloc | apply pw_below_drewN | apply below_drew1) | exact HB.out)) hb); have n1_ := Aside0.mk (hbox); have n2_ := Aside0.mk ((by rw [hg]; exact (below_size (by repeat (first | (with_reducible first | exact HB.out | apply below_alloc | apply pw_below_drewN | apply below_drew1) | exact HB.out))) : w.heap.size ≤ gb152)); have n3_ := Aside0.mk ((by rw [hg]; exact (below_size (by repeat (first | (with_reducible first | exact HB.out | apply below_alloc | apply pw_below_drewN | apply below_drew1) | exact HB.out))) : w.heap.size ≤ gb152)); clear HB; have HB := n0_; have BK152 := n1_; have GW152 := n2_; have GE152 := n3_; clear n0_ n1_ n2_ n3_; clear hb hbox hg; have hcz13_0 : w12.cell? ⟨gb152, 0, none⟩ = some (.int .i64 a0_0) := (blk_cell BK152.out 0).trans rfl; have hcz13_1 : w12.cell? ⟨gb152, 1, none⟩ = some (.int .i64 a0_1) := (blk_cell BK152.out 1).trans rfl; have hcz13_2 : w12.cell? ⟨gb152, 2, none⟩ = some (.slice A0_2 l0_2.length c0_2) := (blk_cell BK152.out 2).trans rfl; have hfz13_0 := blk_frozen BK152.out 0; have hfz13_1 := blk_frozen BK152.out 1; have hfz13_2 := blk_frozen BK152.out 2))
      go_ret
      exact ⟨by first | rfl | (simp [errW_none, errW_some] <;> rfl) | (simp [*, errW_none, errW_some] <;> rfl) | (exfalso; simp only [beq_iff_eq, decide_eq_true_eq] at *; omega), by repeat (first | (with_reducible first | exact HB.out | apply below_alloc | apply pw_below_drewN | apply below_drew1 | refine below_set ?_ GE152.out) | exact HB.out)⟩
  · rw [if_neg c2] at H
    have c2b0 : decide (1 ≤ a0_0) = false := decide_eq_false c2
    clear c2
    obtain rfl := Option.some.inj H
    go_enter Tryd.func43, Tryd.ntmps43
    go_wp2_with (first | ((with_reducible refine gate_dst (N := 1) rfl ?_); (try (refine gate_guard (by rfl) ?_; dsimp only)); refine box_event ?hg (N := 1) ?hd (cs := #[.int .i64 a0_0, .int .i64 a0_1, .slice A0_2 l0_2.length c0_2]) (t := 43) ?hr ?_; (case hd => rfl); (case hg => rfl); (case hr => first | (go_simp; done) | (go_simp; rfl)); intro gb152 hg w14 hbox hb; have n0_ := Aside0.mk (below_step (by repeat (first | (with_reducible first | exact HB.out | apply below_alloc | apply pw_below_drewN | apply below_drew1) | exact HB.out)) hb); have n1_ := Aside0.mk (hbox); have n2_ := Aside0.mk ((by rw [hg]; exact (below_size (by repeat (first | (with_reducible first | exact HB.out | apply below_alloc | apply pw_below_drewN | apply below_drew1) | exact HB.out))) : w.heap.size ≤ gb152)); have n3_ := Aside0.mk ((by rw [hg]; exact (below_size (by repeat (first | (with_reducible first | exact HB.out | apply below_alloc | apply pw_below_drewN | apply below_drew1) | exact HB.out))) : w.heap.size ≤ gb152)); clear HB; have HB := n0_; have BK152 := n1_; have GW152 := n2_; have GE152 := n3_; clear n0_ n1_ n2_ n3_; clear hb hbox hg; have hcz15_0 : w14.cell? ⟨gb152, 0, none⟩ = some (.int .i64 a0_0) := (blk_cell BK152.out 0).trans rfl; have hcz15_1 : w14.cell? ⟨gb152, 1, none⟩ = some (.int .i64 a0_1) := (blk_cell BK152.out 1).trans rfl; have hcz15_2 : w14.cell? ⟨gb152, 2, none⟩ = some (.slice A0_2 l0_2.length c0_2) := (blk_cell BK152.out 2).trans rfl; have hfz15_0 := blk_frozen BK152.out 0; have hfz15_1 := blk_frozen BK152.out 1; have hfz15_2 := blk_frozen BK152.out 2))
    go_ret
    exact ⟨by first | rfl | (simp [errW_none, errW_some] <;> rfl) | (simp [*, errW_none, errW_some] <;> rfl) | (exfalso; simp only [beq_iff_eq, decide_eq_true_eq] at *; omega), by repeat (first | (with_reducible first | exact HB.out | apply below_alloc | apply pw_below_drewN | apply below_drew1 | refine below_set ?_ GE152.out) | exact HB.out)⟩


def S43.bad (b : S43) : Bool := !(decide (1 ≤ b.f0) && decide (b.f0 ≤ 2147483647) && decide (0 ≤ b.f1) && decide (b.f1 ≤ 255) && decide (b.f2.length ≤ 32))
theorem may_is (b : S43) : segment_May.f b.f0 b.f1 b.f2 = some (!b.bad) := by
  unfold segment_May.f S43.bad
  by_cases h1 : b.f0 ≥ 1 <;> by_cases h2 : b.f0 ≤ 2147483647 <;> by_cases h3 : b.f1 ≥ 0 <;> by_cases h4 : b.f1 ≤ 255 <;> simp [h1, h2, h3, h4] <;> omega
set_option maxHeartbeats 4000000 in
set_option maxRecDepth 100000 in
theorem nomay (b : S43) (A : Option Addr) (c : Nat) (w : World) (hr : Kd.C (Kd.int .u8) w A b.f2.length b.f2) (hc : b.f2.length ≤ c) : Calls Tryd.prog 42 #[.agg #[.int .i64 b.f0, .int .i64 b.f1, .slice A b.f2.length c]] w fun e w' => e = .returned (.bool b.bad) ∧ Below w.heap.size w w' := by
  have HM := Aside0.mk (may_is b)
  have HR := Aside0.mk hr
  have HC := Aside0.mk hc
  clear hr hc
  go_enter Tryd.func42, Tryd.ntmps42
  go_wp2_with (go_at_call 43; refine (segment_May.calls _ _ A c b.f2 _ _ (Kd.C_alloc HR.out _) HC.out HM.out).mono ?_; rintro e w' ⟨rfl, hb⟩)
  go_ret
  exact ⟨by simp, below_step ((Below.refl _ _).alloc (Nat.le_refl _) _) hb⟩
set_option maxHeartbeats 8000000 in
set_option maxRecDepth 100000 in
theorem bad_at (A0 : Option Addr) (c0 : Nat) (l0 : List S43) (w : World) (hr0 : Kd.C k43 w A0 l0.length l0) (hsz : l0.length ≤ 4611686018427387904) :
    Calls Tryd.prog 53 #[.slice A0 l0.length c0, .func (.func 42) #[] #[]] w fun e w' => (∃ r : Int, e = .returned (.int .i64 r) ∧ decide (0 ≤ r) = l0.any S43.bad) ∧ Below w.heap.size w w' := by
  have HR0 := Aside0.mk hr0
  clear hr0
  generalize hN : l0.length = N at *
  have HN := Aside0.mk hN
  clear hN
  obtain ⟨Q, hQ⟩ : ∃ Q : Int → Prop, Q = fun r => decide (0 ≤ r) = l0.any S43.bad := ⟨_, rfl⟩
  have HQ : ∀ r, Q r ↔ decide (0 ≤ r) = l0.any S43.bad := fun r => by rw [hQ]
  have HQ := Aside0.mk HQ
  clear hQ
  suffices hs : Calls Tryd.prog 53 #[.slice A0 N c0, .func (.func 42) #[] #[]] w fun e w' => (∃ r : Int, e = .returned (.int .i64 r) ∧ Q r) ∧ Below w.heap.size w w' by
    refine hs.mono ?_
    rintro e w' ⟨⟨r, hr, hq⟩, hb⟩
    exact ⟨⟨r, hr, (HQ.out r).1 hq⟩, hb⟩
  go_enter Tryd.func53, Tryd.ntmps53
  go_wp2
  go_loopw [8] (fun i W => ∃ j : Nat, j ≤ N ∧ i = .int .i64 (j : Int) ∧ Aside0 ((l0.take j).any S43.bad = false) ∧ Aside0 (Below w.heap.size w W)) (fun i _ => N - (intOf i).toNat)
  case atStart => exact ⟨0, Nat.zero_le _, rfl, ⟨by simp⟩, ⟨Below.refl _ _⟩⟩
  case round =>
    obtain ⟨j, hj, rfl, HF, HB⟩ := hrel
    by_cases hlt : j < N
    · have hd : decide ((j : Int) < (N : Int)) = true := by simp; omega
      obtain ⟨ad, A2, c2, rfl, hc1, hc2, hc3, hc4, hc5⟩ := at_T43 (Kd.C_below HR0.out HB.out) (j : Int) (Int.natCast_nonneg j) (Int.ofNat_lt.2 hlt)
      simp only [Int.toNat_natCast] at hc1 hc2 hc3
      have HC4 := Aside0.mk hc4
      have HC5 := Aside0.mk hc5
      clear hc4 hc5
      have hw1 : wrap64 ((j : Int) + 1) = ((j + 1 : Nat) : Int) := by unfold wrap64; omega
      have HT := Aside0.mk (show l0.take (j + 1) = l0.take j ++ [rd_T43 l0 (j : Int)] by
        have hjl : j < l0.length := by rw [HN.out]; exact hlt
        rw [List.take_add_one, List.getElem?_eq_getElem hjl]
        simp [rd_T43, List.getD_eq_getElem?_getD, hjl])
      cases hb : (rd_T43 l0 (j : Int)).bad with
      | true =>
        have hq : Q (j : Int) := (HQ.out _).2 (by
          have h1 : (l0.take (j + 1)).any S43.bad = true := by rw [HT.out, List.any_append, List.any_cons, hb]; simp
          have h2 : l0.any S43.bad = true := by
            rw [List.any_eq_true] at h1 ⊢
            obtain ⟨x, hx, hx2⟩ := h1
            exact ⟨x, List.mem_of_mem_take hx, hx2⟩
          rw [h2]; simp)
        have HQJ := Aside0.mk hq
        clear hq
        go_wp2_with (go_at_call 42; refine (nomay _ _ _ _ HC5.out HC4.out).mono ?_; rw [hb]; rintro e w' ⟨rfl, hb2⟩)
        go_ret
        exact ⟨⟨_, rfl, HQJ.out⟩, below_step HB.out hb2⟩
      | false =>
        have HF2 := Aside0.mk (show (l0.take (j + 1)).any S43.bad = false by rw [HT.out, List.any_append, HF.out, List.any_cons, hb]; rfl)
        go_wp2_with (go_at_call 42; refine (nomay _ _ _ _ HC5.out HC4.out).mono ?_; rw [hb]; rintro e w' ⟨rfl, hb2⟩)
        refine ⟨⟨j + 1, by omega, rfl, HF2, ⟨below_step HB.out hb2⟩⟩, ?_⟩
        simp [intOf]; omega
    · obtain rfl : j = N := by omega
      have hd : decide ((j : Int) < (j : Int)) = false := by simp
      have hq : Q (-1) := (HQ.out _).2 (by
        have := HF.out
        rw [← HN.out, List.take_length] at this
        rw [this]; rfl)
      have HQJ := Aside0.mk hq
      clear hq
      go_wp2
      go_ret
      exact ⟨⟨_, rfl, HQJ.out⟩, HB.out⟩
set_option maxHeartbeats 4000000 in
set_option maxRecDepth 100000 in
theorem bad_in (A0 : Option Addr) (c0 : Nat) (l0 : List S43) (w : World) (hr0 : Kd.C k43 w A0 l0.length l0) (hsz : l0.length ≤ 4611686018427387904) :
    Calls Tryd.prog 41 #[.slice A0 l0.length c0, .func (.func 42) #[] #[]] w fun e w' => e = .returned (.bool (l0.any S43.bad)) ∧ Below w.heap.size w w' := by
  have HR0 := Aside0.mk hr0
  have HZ := Aside0.mk hsz
  clear hr0 hsz
  go_enter Tryd.func41, Tryd.ntmps41
  go_wp2_with (go_at_call 53; refine (bad_at A0 c0 l0 _ HR0.out HZ.out).mono ?_; rintro e w' ⟨⟨r, rfl, hq⟩, hb⟩; have HQ := Aside0.mk hq; clear hq)
  go_ret
  exact ⟨by show Ending.returned (.bool (decide (0 ≤ r))) = _; rw [HQ.out], hb⟩
/-- What the check of a segment answers. -/
def checkI (n : Int) (l : List S43) : Int := if 1 ≤ n ∧ n ≤ 1099511627776 ∧ 1 ≤ l.length ∧ l.length ≤ 8 ∧ l.any S43.bad = false then 0 else 9
def segment_Check.f (a0_0 : Int) (l0_1 : List S43) : Option Int := some (checkI a0_0 l0_1)
set_option maxHeartbeats 8000000 in
set_option maxRecDepth 100000 in
theorem segment_Check.calls (a0_0 : Int) (A0_1 : Option Addr) (c0_1 : Nat) (l0_1 : List S43) (r : Int) (w : World) (hr0_1 : Kd.C k43 w A0_1 l0_1.length l0_1) (hc0_1 : l0_1.length ≤ c0_1) (h : segment_Check.f a0_0 l0_1 = some r) :
    Calls Tryd.prog 23 #[.agg #[.int .i64 a0_0, .slice A0_1 l0_1.length c0_1]] w fun e w' => e = .returned (.int .i64 r) ∧ Below w.heap.size w w' := by
  have hu := Tryd.underlying32
  have HR0 := Aside0.mk hr0_1
  clear hr0_1 hc0_1
  have HB := Aside0.mk (Below.refl w.heap.size w)
  obtain rfl := Option.some.inj h
  clear h
  obtain ⟨r, hr⟩ : ∃ r, r = checkI a0_0 l0_1 := ⟨_, rfl⟩
  rw [← hr]
  have HX := Aside0.mk hr
  clear hr
  by_cases h1 : a0_0 < 1
  · obtain rfl : r = 9 := by rw [HX.out, checkI, if_neg (by omega)]
    have d1 : decide (a0_0 < 1) = true := decide_eq_true h1
    clear HX h1
    go_enter Tryd.func23, Tryd.ntmps23
    go_wp2
    go_ret
    exact ⟨rfl, (Below.refl _ _).alloc (Nat.le_refl _) _⟩
  have d1 : decide (a0_0 < 1) = false := decide_eq_false h1
  by_cases h2 : a0_0 > 1099511627776
  · obtain rfl : r = 9 := by rw [HX.out, checkI, if_neg (by omega)]
    have d2 : decide (1099511627776 < a0_0) = true := decide_eq_true h2
    clear HX h1 h2
    go_enter Tryd.func23, Tryd.ntmps23
    go_wp2
    go_ret
    exact ⟨rfl, (Below.refl _ _).alloc (Nat.le_refl _) _⟩
  have d2 : decide (1099511627776 < a0_0) = false := decide_eq_false h2
  obtain ⟨N, hN⟩ : ∃ N, l0_1.length = N := ⟨_, rfl⟩
  have HN := Aside0.mk hN
  rw [hN] at HR0 ⊢
  clear hN
  by_cases h3 : N < 1
  · obtain rfl : r = 9 := by rw [HX.out, checkI, HN.out, if_neg (by omega)]
    have d3 : decide ((N : Int) < 1) = true := decide_eq_true (by omega)
    clear HX h1 h2 h3
    go_enter Tryd.func23, Tryd.ntmps23
    go_wp2
    go_ret
    exact ⟨rfl, (Below.refl _ _).alloc (Nat.le_refl _) _⟩
  have d3 : decide ((N : Int) < 1) = false := decide_eq_false (by omega)
  by_cases h4 : N > 8
  · obtain rfl : r = 9 := by rw [HX.out, checkI, HN.out, if_neg (by omega)]
    have d4 : decide (8 < (N : Int)) = true := decide_eq_true (by omega)
    clear HX h1 h2 h3 h4
    go_enter Tryd.func23, Tryd.ntmps23
    go_wp2
    go_ret
    exact ⟨rfl, (Below.refl _ _).alloc (Nat.le_refl _) _⟩
  have d4 : decide (8 < (N : Int)) = false := decide_eq_false (by omega)
  have HC := fun W (hw : Kd.C k43 W A0_1 N l0_1) => bad_in A0_1 c0_1 l0_1 W (by rw [HN.out]; exact hw) (by rw [HN.out]; omega)
  rw [HN.out] at HC
  cases hb : l0_1.any S43.bad with
  | true =>
    obtain rfl : r = 9 := by rw [HX.out, checkI, hb, if_neg (by simp)]
    have HCC := Aside0.mk HC
    have HBB := Aside0.mk hb
    clear HX h1 h2 h3 h4 HC hb
    go_enter Tryd.func23, Tryd.ntmps23
    go_wp2_with (go_at_call 41; refine (HCC.out _ (Kd.C_alloc HR0.out _)).mono ?_; rw [HBB.out]; rintro e w' ⟨rfl, hb⟩)
    go_ret
    exact ⟨rfl, below_step ((Below.refl _ _).alloc (Nat.le_refl _) _) hb⟩
  | false =>
    obtain rfl : r = 0 := by rw [HX.out, checkI, hb, HN.out, if_pos ⟨by omega, by omega, by omega, by omega, rfl⟩]
    have HCC := Aside0.mk HC
    have HBB := Aside0.mk hb
    clear HX h1 h2 h3 h4 HC hb
    go_enter Tryd.func23, Tryd.ntmps23
    go_wp2_with (go_at_call 41; refine (HCC.out _ (Kd.C_alloc HR0.out _)).mono ?_; rw [HBB.out]; rintro e w' ⟨rfl, hb⟩)
    go_ret
    exact ⟨rfl, below_step ((Below.refl _ _).alloc (Nat.le_refl _) _) hb⟩

/-! ### bits_Len64: function 68 -/
def bits_Len64.j0 : Nat → Int → Int → Option (Int)
  | 0, _, _ => none
  | k + 1, x0, x2 => if x0 ≥ 65536 then (if (x0 / 65536) ≥ 256 then (if 0 ≤ (((x0 / 65536) / 256) % 256) then (if (((x0 / 65536) / 256) % 256) < 256 then (some (wrap64 ((wrap64 ((wrap64 (x2 + 16)) + 8)) + (wrap64 (bt (⟨#[0, 1, 2, 2, 3, 3, 3, 3, 4, 4, 4, 4, 4, 4, 4, 4, 5, 5, 5, 5, 5, 5, 5, 5, 5, 5, 5, 5, 5, 5, 5, 5, 6, 6, 6, 6, 6, 6, 6, 6, 6, 6, 6, 6, 6, 6, 6, 6, 6, 6, 6, 6, 6, 6, 6, 6, 6, 6, 6, 6, 6, 6, 6, 6, 7, 7, 7, 7, 7, 7, 7, 7, 7, 7, 7, 7, 7, 7, 7, 7, 7, 7, 7, 7, 7, 7, 7, 7, 7, 7, 7, 7, 7, 7, 7, 7, 7, 7, 7, 7, 7, 7, 7, 7, 7, 7, 7, 7, 7, 7, 7, 7, 7, 7, 7, 7, 7, 7, 7, 7, 7, 7, 7, 7, 7, 7, 7, 7, 8, 8, 8, 8, 8, 8, 8, 8, 8, 8, 8, 8, 8, 8, 8, 8, 8, 8, 8, 8, 8, 8, 8, 8, 8, 8, 8, 8, 8, 8, 8, 8, 8, 8, 8, 8, 8, 8, 8, 8, 8, 8, 8, 8, 8, 8, 8, 8, 8, 8, 8, 8, 8, 8, 8, 8, 8, 8, 8, 8, 8, 8, 8, 8, 8, 8, 8, 8, 8, 8, 8, 8, 8, 8, 8, 8, 8, 8, 8, 8, 8, 8, 8, 8, 8, 8, 8, 8, 8, 8, 8, 8, 8, 8, 8, 8, 8, 8, 8, 8, 8, 8, 8, 8, 8, 8, 8, 8, 8, 8, 8, 8, 8, 8, 8, 8, 8, 8, 8, 8, 8, 8, 8, 8, 8, 8, 8, 8]⟩ : ByteArray) (((x0 / 65536) / 256) % 256)))))) else (none)) else (none)) else (if 0 ≤ ((x0 / 65536) % 256) then (if ((x0 / 65536) % 256) < 256 then (some (wrap64 ((wrap64 (x2 + 16)) + (wrap64 (bt (⟨#[0, 1, 2, 2, 3, 3, 3, 3, 4, 4, 4, 4, 4, 4, 4, 4, 5, 5, 5, 5, 5, 5, 5, 5, 5, 5, 5, 5, 5, 5, 5, 5, 6, 6, 6, 6, 6, 6, 6, 6, 6, 6, 6, 6, 6, 6, 6, 6, 6, 6, 6, 6, 6, 6, 6, 6, 6, 6, 6, 6, 6, 6, 6, 6, 7, 7, 7, 7, 7, 7, 7, 7, 7, 7, 7, 7, 7, 7, 7, 7, 7, 7, 7, 7, 7, 7, 7, 7, 7, 7, 7, 7, 7, 7, 7, 7, 7, 7, 7, 7, 7, 7, 7, 7, 7, 7, 7, 7, 7, 7, 7, 7, 7, 7, 7, 7, 7, 7, 7, 7, 7, 7, 7, 7, 7, 7, 7, 7, 8, 8, 8, 8, 8, 8, 8, 8, 8, 8, 8, 8, 8, 8, 8, 8, 8, 8, 8, 8, 8, 8, 8, 8, 8, 8, 8, 8, 8, 8, 8, 8, 8, 8, 8, 8, 8, 8, 8, 8, 8, 8, 8, 8, 8, 8, 8, 8, 8, 8, 8, 8, 8, 8, 8, 8, 8, 8, 8, 8, 8, 8, 8, 8, 8, 8, 8, 8, 8, 8, 8, 8, 8, 8, 8, 8, 8, 8, 8, 8, 8, 8, 8, 8, 8, 8, 8, 8, 8, 8, 8, 8, 8, 8, 8, 8, 8, 8, 8, 8, 8, 8, 8, 8, 8, 8, 8, 8, 8, 8, 8, 8, 8, 8, 8, 8, 8, 8, 8, 8, 8, 8, 8, 8, 8, 8, 8, 8]⟩ : ByteArray) ((x0 / 65536) % 256)))))) else (none)) else (none))) else (if x0 ≥ 256 then (if 0 ≤ ((x0 / 256) % 256) then (if ((x0 / 256) % 256) < 256 then (some (wrap64 ((wrap64 (x2 + 8)) + (wrap64 (bt (⟨#[0, 1, 2, 2, 3, 3, 3, 3, 4, 4, 4, 4, 4, 4, 4, 4, 5, 5, 5, 5, 5, 5, 5, 5, 5, 5, 5, 5, 5, 5, 5, 5, 6, 6, 6, 6, 6, 6, 6, 6, 6, 6, 6, 6, 6, 6, 6, 6, 6, 6, 6, 6, 6, 6, 6, 6, 6, 6, 6, 6, 6, 6, 6, 6, 7, 7, 7, 7, 7, 7, 7, 7, 7, 7, 7, 7, 7, 7, 7, 7, 7, 7, 7, 7, 7, 7, 7, 7, 7, 7, 7, 7, 7, 7, 7, 7, 7, 7, 7, 7, 7, 7, 7, 7, 7, 7, 7, 7, 7, 7, 7, 7, 7, 7, 7, 7, 7, 7, 7, 7, 7, 7, 7, 7, 7, 7, 7, 7, 8, 8, 8, 8, 8, 8, 8, 8, 8, 8, 8, 8, 8, 8, 8, 8, 8, 8, 8, 8, 8, 8, 8, 8, 8, 8, 8, 8, 8, 8, 8, 8, 8, 8, 8, 8, 8, 8, 8, 8, 8, 8, 8, 8, 8, 8, 8, 8, 8, 8, 8, 8, 8, 8, 8, 8, 8, 8, 8, 8, 8, 8, 8, 8, 8, 8, 8, 8, 8, 8, 8, 8, 8, 8, 8, 8, 8, 8, 8, 8, 8, 8, 8, 8, 8, 8, 8, 8, 8, 8, 8, 8, 8, 8, 8, 8, 8, 8, 8, 8, 8, 8, 8, 8, 8, 8, 8, 8, 8, 8, 8, 8, 8, 8, 8, 8, 8, 8, 8, 8, 8, 8, 8, 8, 8, 8, 8, 8]⟩ : ByteArray) ((x0 / 256) % 256)))))) else (none)) else (none)) else (if 0 ≤ ((x0) % 256) then (if ((x0) % 256) < 256 then (some (wrap64 (x2 + (wrap64 (bt (⟨#[0, 1, 2, 2, 3, 3, 3, 3, 4, 4, 4, 4, 4, 4, 4, 4, 5, 5, 5, 5, 5, 5, 5, 5, 5, 5, 5, 5, 5, 5, 5, 5, 6, 6, 6, 6, 6, 6, 6, 6, 6, 6, 6, 6, 6, 6, 6, 6, 6, 6, 6, 6, 6, 6, 6, 6, 6, 6, 6, 6, 6, 6, 6, 6, 7, 7, 7, 7, 7, 7, 7, 7, 7, 7, 7, 7, 7, 7, 7, 7, 7, 7, 7, 7, 7, 7, 7, 7, 7, 7, 7, 7, 7, 7, 7, 7, 7, 7, 7, 7, 7, 7, 7, 7, 7, 7, 7, 7, 7, 7, 7, 7, 7, 7, 7, 7, 7, 7, 7, 7, 7, 7, 7, 7, 7, 7, 7, 7, 8, 8, 8, 8, 8, 8, 8, 8, 8, 8, 8, 8, 8, 8, 8, 8, 8, 8, 8, 8, 8, 8, 8, 8, 8, 8, 8, 8, 8, 8, 8, 8, 8, 8, 8, 8, 8, 8, 8, 8, 8, 8, 8, 8, 8, 8, 8, 8, 8, 8, 8, 8, 8, 8, 8, 8, 8, 8, 8, 8, 8, 8, 8, 8, 8, 8, 8, 8, 8, 8, 8, 8, 8, 8, 8, 8, 8, 8, 8, 8, 8, 8, 8, 8, 8, 8, 8, 8, 8, 8, 8, 8, 8, 8, 8, 8, 8, 8, 8, 8, 8, 8, 8, 8, 8, 8, 8, 8, 8, 8, 8, 8, 8, 8, 8, 8, 8, 8, 8, 8, 8, 8, 8, 8, 8, 8, 8, 8]⟩ : ByteArray) ((x0) % 256)))))) else (none)) else (none)))
def bits_Len64.f (k : Nat) (a0 : Int) : Option (Int) := if a0 ≥ 4294967296 then (bits_Len64.j0 k (a0 / 4294967296) 32) else (bits_Len64.j0 k a0 0)
theorem bits_Len64.mono_l : ∀ k, (∀ y0 y1, LeO (bits_Len64.j0 k y0 y1) (bits_Len64.j0 (k + 1) y0 y1))
  | 0 => fun _ _ r h => by simp [bits_Len64.j0] at h
  | k + 1 => by
    have ih0 := bits_Len64.mono_l k
    · intro y0 y1
      unfold bits_Len64.j0
      repeat' first
      | (with_reducible exact ih0 _ _)
      | (with_reducible exact LeO.refl _)
      | (with_reducible exact LeO.none _)
      | (with_reducible refine LeO.ite ?_ ?_)
      | (with_reducible refine LeO.bind ?_ (fun _ => ?_))
      | exact ih0 _ _
      | exact LeO.none _
      | refine LeO.ite ?_ ?_
      | refine LeO.bind ?_ (fun _ => ?_)
theorem bits_Len64.mono : ∀ a0 k, LeO (bits_Len64.f k a0) (bits_Len64.f (k + 1) a0) := by
  intro a0 k
  have ih0 := bits_Len64.mono_l k
  unfold bits_Len64.f
  repeat' first
      | (with_reducible exact ih0 _ _)
      | (with_reducible exact LeO.refl _)
      | (with_reducible exact LeO.none _)
      | (with_reducible refine LeO.ite ?_ ?_)
      | (with_reducible refine LeO.bind ?_ (fun _ => ?_))
      | exact ih0 _ _
      | exact LeO.none _
      | refine LeO.ite ?_ ?_
      | refine LeO.bind ?_ (fun _ => ?_)
set_option maxHeartbeats 8000000 in
set_option maxRecDepth 100000 in
theorem bits_Len64.calls (k : Nat) (a0 : Int) (r : Int) (w : World) (h : bits_Len64.f k a0 = some r) :
    Calls Tryd.prog 68 #[.int .u64 a0] w fun e w' => e = .returned (.int .i64 r) ∧ Drawn0 w w' := by
  have H : (if a0 ≥ 4294967296 then (bits_Len64.j0 k (a0 / 4294967296) 32) else (bits_Len64.j0 k a0 0)) = some r := h
  clear h
  have HC2 := Aside0.mk H
  clear H
  go_enter Tryd.func68, Tryd.ntmps68
  go_upto_if 4 with (fail)
  go_cut [0, 2] (fun v0 v2 wc => ∃ (kq : Nat) (x0_1 : Int) (x2_1 : Int), v0 = .int .u64 x0_1 ∧ v2 = .int .i64 x2_1 ∧ Aside0 (bits_Len64.j0 kq x0_1 x2_1 = some r) ∧ Aside0 (kq ≤ k) ∧ Drawn0 w wc)
  case first =>
    have H := HC2.out
    clear HC2
    by_cases c3 : a0 ≥ 4294967296
    · rw [if_pos c3] at H
      have c3b0 : decide (4294967296 ≤ a0) = true := decide_eq_true c3
      clear c3
      (first | rw [c3b0] | (simp only [i64_w, i32_w]; rw [c3b0]) | skip)
      have H' := Aside0.mk H
      clear H
      go_wp2
      go_meet
      case rel => exact ⟨_, (a0 / 4294967296), (32), (by first | rfl | (simp; done) | (simp [*]; done)), (by first | rfl | (simp; done) | (simp [*]; done)), H', ⟨by first | omega | exact Nat.le_refl _⟩, by repeat (first | exact Drawn0.refl _ | apply Drawn0.step)⟩
    · rw [if_neg c3] at H
      have c3b0 : decide (4294967296 ≤ a0) = false := decide_eq_false c3
      clear c3
      (first | rw [c3b0] | (simp only [i64_w, i32_w]; rw [c3b0]) | skip)
      have H' := Aside0.mk H
      clear H
      go_wp2
      go_meet
      case rel => exact ⟨_, (a0), (0), (by first | rfl | (simp; done) | (simp [*]; done)), (by first | rfl | (simp; done) | (simp [*]; done)), H', ⟨by first | omega | exact Nat.le_refl _⟩, by repeat (first | exact Drawn0.refl _ | apply Drawn0.step)⟩
  case rest =>
    clear HC2
    try clear p2
    try clear c3
    try clear c3b0
    obtain ⟨kq, x0_1, x2_1, rfl, rfl, HA, HJ1, ⟨mc1, rfl⟩⟩ := hcut
    cases kq with
    | zero => exact absurd HA.out (by simp [bits_Len64.j0])
    | succ kj1 =>
      have H := HA.out
      clear HA
      simp only [bits_Len64.j0] at H
      by_cases c4 : x0_1 ≥ 65536
      · rw [if_pos c4] at H
        have c4b0 : decide (65536 ≤ x0_1) = true := decide_eq_true c4
        clear c4
        by_cases c5 : (x0_1 / 65536) ≥ 256
        · rw [if_pos c5] at H
          have c5b0 : decide (256 ≤ (x0_1 / 65536)) = true := decide_eq_true c5
          clear c5
          obtain ⟨ji6, hji6⟩ : ∃ j_ : Int, (((x0_1 / 65536) / 256) % 256) = j_ := ⟨_, rfl⟩
          replace H : (if 0 ≤ (ji6) then (if (ji6) < 256 then (some (wrap64 ((wrap64 ((wrap64 (x2_1 + 16)) + 8)) + (wrap64 (bt (⟨#[0, 1, 2, 2, 3, 3, 3, 3, 4, 4, 4, 4, 4, 4, 4, 4, 5, 5, 5, 5, 5, 5, 5, 5, 5, 5, 5, 5, 5, 5, 5, 5, 6, 6, 6, 6, 6, 6, 6, 6, 6, 6, 6, 6, 6, 6, 6, 6, 6, 6, 6, 6, 6, 6, 6, 6, 6, 6, 6, 6, 6, 6, 6, 6, 7, 7, 7, 7, 7, 7, 7, 7, 7, 7, 7, 7, 7, 7, 7, 7, 7, 7, 7, 7, 7, 7, 7, 7, 7, 7, 7, 7, 7, 7, 7, 7, 7, 7, 7, 7, 7, 7, 7, 7, 7, 7, 7, 7, 7, 7, 7, 7, 7, 7, 7, 7, 7, 7, 7, 7, 7, 7, 7, 7, 7, 7, 7, 7, 8, 8, 8, 8, 8, 8, 8, 8, 8, 8, 8, 8, 8, 8, 8, 8, 8, 8, 8, 8, 8, 8, 8, 8, 8, 8, 8, 8, 8, 8, 8, 8, 8, 8, 8, 8, 8, 8, 8, 8, 8, 8, 8, 8, 8, 8, 8, 8, 8, 8, 8, 8, 8, 8, 8, 8, 8, 8, 8, 8, 8, 8, 8, 8, 8, 8, 8, 8, 8, 8, 8, 8, 8, 8, 8, 8, 8, 8, 8, 8, 8, 8, 8, 8, 8, 8, 8, 8, 8, 8, 8, 8, 8, 8, 8, 8, 8, 8, 8, 8, 8, 8, 8, 8, 8, 8, 8, 8, 8, 8, 8, 8, 8, 8, 8, 8, 8, 8, 8, 8, 8, 8, 8, 8, 8, 8, 8, 8]⟩ : ByteArray) (ji6)))))) else (none)) else (none)) = some r := by first | (rw [hji6] at H; exact H) | (simp only [hji6] at H ⊢; exact H)
          by_cases c7 : 0 ≤ (ji6)
          · rw [if_pos c7] at H
            have c7b0 : decide (0 ≤ (ji6)) = true := decide_eq_true c7
            clear c7
            by_cases c8 : (ji6) < 256
            · rw [if_pos c8] at H
              have c8b0 : decide ((ji6) < 256) = true := decide_eq_true c8
              clear c8
              obtain rfl := Option.some.inj H
              have p9 : 0 ≤ ((ji6) : Int) := of_decide_eq_true (by first | (with_reducible assumption) | assumption)
              have q9 : (ji6) < (256 : Int) := of_decide_eq_true (by first | (with_reducible assumption) | assumption)
              have hx9 := bt_at (⟨#[0, 1, 2, 2, 3, 3, 3, 3, 4, 4, 4, 4, 4, 4, 4, 4, 5, 5, 5, 5, 5, 5, 5, 5, 5, 5, 5, 5, 5, 5, 5, 5, 6, 6, 6, 6, 6, 6, 6, 6, 6, 6, 6, 6, 6, 6, 6, 6, 6, 6, 6, 6, 6, 6, 6, 6, 6, 6, 6, 6, 6, 6, 6, 6, 7, 7, 7, 7, 7, 7, 7, 7, 7, 7, 7, 7, 7, 7, 7, 7, 7, 7, 7, 7, 7, 7, 7, 7, 7, 7, 7, 7, 7, 7, 7, 7, 7, 7, 7, 7, 7, 7, 7, 7, 7, 7, 7, 7, 7, 7, 7, 7, 7, 7, 7, 7, 7, 7, 7, 7, 7, 7, 7, 7, 7, 7, 7, 7, 8, 8, 8, 8, 8, 8, 8, 8, 8, 8, 8, 8, 8, 8, 8, 8, 8, 8, 8, 8, 8, 8, 8, 8, 8, 8, 8, 8, 8, 8, 8, 8, 8, 8, 8, 8, 8, 8, 8, 8, 8, 8, 8, 8, 8, 8, 8, 8, 8, 8, 8, 8, 8, 8, 8, 8, 8, 8, 8, 8, 8, 8, 8, 8, 8, 8, 8, 8, 8, 8, 8, 8, 8, 8, 8, 8, 8, 8, 8, 8, 8, 8, 8, 8, 8, 8, 8, 8, 8, 8, 8, 8, 8, 8, 8, 8, 8, 8, 8, 8, 8, 8, 8, 8, 8, 8, 8, 8, 8, 8, 8, 8, 8, 8, 8, 8, 8, 8, 8, 8, 8, 8, 8, 8, 8, 8, 8, 8]⟩ : ByteArray) (ji6)
              replace p9 := eq_true p9
              replace q9 := eq_true q9
              go_wp2
              go_ret
              exact ⟨by first | rfl | (simp; done) | (simp only [← hji6] <;> (first | rfl | simp)) | (simp [*]; done), by repeat (first | exact Drawn0.refl _ | apply Drawn0.step)⟩
            · rw [if_neg c8] at H
              exact absurd H (by simp)
          · rw [if_neg c7] at H
            exact absurd H (by simp)
        · rw [if_neg c5] at H
          have c5b0 : decide (256 ≤ (x0_1 / 65536)) = false := decide_eq_false c5
          clear c5
          obtain ⟨ji10, hji10⟩ : ∃ j_ : Int, ((x0_1 / 65536) % 256) = j_ := ⟨_, rfl⟩
          replace H : (if 0 ≤ (ji10) then (if (ji10) < 256 then (some (wrap64 ((wrap64 (x2_1 + 16)) + (wrap64 (bt (⟨#[0, 1, 2, 2, 3, 3, 3, 3, 4, 4, 4, 4, 4, 4, 4, 4, 5, 5, 5, 5, 5, 5, 5, 5, 5, 5, 5, 5, 5, 5, 5, 5, 6, 6, 6, 6, 6, 6, 6, 6, 6, 6, 6, 6, 6, 6, 6, 6, 6, 6, 6, 6, 6, 6, 6, 6, 6, 6, 6, 6, 6, 6, 6, 6, 7, 7, 7, 7, 7, 7, 7, 7, 7, 7, 7, 7, 7, 7, 7, 7, 7, 7, 7, 7, 7, 7, 7, 7, 7, 7, 7, 7, 7, 7, 7, 7, 7, 7, 7, 7, 7, 7, 7, 7, 7, 7, 7, 7, 7, 7, 7, 7, 7, 7, 7, 7, 7, 7, 7, 7, 7, 7, 7, 7, 7, 7, 7, 7, 8, 8, 8, 8, 8, 8, 8, 8, 8, 8, 8, 8, 8, 8, 8, 8, 8, 8, 8, 8, 8, 8, 8, 8, 8, 8, 8, 8, 8, 8, 8, 8, 8, 8, 8, 8, 8, 8, 8, 8, 8, 8, 8, 8, 8, 8, 8, 8, 8, 8, 8, 8, 8, 8, 8, 8, 8, 8, 8, 8, 8, 8, 8, 8, 8, 8, 8, 8, 8, 8, 8, 8, 8, 8, 8, 8, 8, 8, 8, 8, 8, 8, 8, 8, 8, 8, 8, 8, 8, 8, 8, 8, 8, 8, 8, 8, 8, 8, 8, 8, 8, 8, 8, 8, 8, 8, 8, 8, 8, 8, 8, 8, 8, 8, 8, 8, 8, 8, 8, 8, 8, 8, 8, 8, 8, 8, 8, 8]⟩ : ByteArray) (ji10)))))) else (none)) else (none)) = some r := by first | (rw [hji10] at H; exact H) | (simp only [hji10] at H ⊢; exact H)
          by_cases c11 : 0 ≤ (ji10)
          · rw [if_pos c11] at H
            have c11b0 : decide (0 ≤ (ji10)) = true := decide_eq_true c11
            clear c11
            by_cases c12 : (ji10) < 256
            · rw [if_pos c12] at H
              have c12b0 : decide ((ji10) < 256) = true := decide_eq_true c12
              clear c12
              obtain rfl := Option.some.inj H
              have p13 : 0 ≤ ((ji10) : Int) := of_decide_eq_true (by first | (with_reducible assumption) | assumption)
              have q13 : (ji10) < (256 : Int) := of_decide_eq_true (by first | (with_reducible assumption) | assumption)
              have hx13 := bt_at (⟨#[0, 1, 2, 2, 3, 3, 3, 3, 4, 4, 4, 4, 4, 4, 4, 4, 5, 5, 5, 5, 5, 5, 5, 5, 5, 5, 5, 5, 5, 5, 5, 5, 6, 6, 6, 6, 6, 6, 6, 6, 6, 6, 6, 6, 6, 6, 6, 6, 6, 6, 6, 6, 6, 6, 6, 6, 6, 6, 6, 6, 6, 6, 6, 6, 7, 7, 7, 7, 7, 7, 7, 7, 7, 7, 7, 7, 7, 7, 7, 7, 7, 7, 7, 7, 7, 7, 7, 7, 7, 7, 7, 7, 7, 7, 7, 7, 7, 7, 7, 7, 7, 7, 7, 7, 7, 7, 7, 7, 7, 7, 7, 7, 7, 7, 7, 7, 7, 7, 7, 7, 7, 7, 7, 7, 7, 7, 7, 7, 8, 8, 8, 8, 8, 8, 8, 8, 8, 8, 8, 8, 8, 8, 8, 8, 8, 8, 8, 8, 8, 8, 8, 8, 8, 8, 8, 8, 8, 8, 8, 8, 8, 8, 8, 8, 8, 8, 8, 8, 8, 8, 8, 8, 8, 8, 8, 8, 8, 8, 8, 8, 8, 8, 8, 8, 8, 8, 8, 8, 8, 8, 8, 8, 8, 8, 8, 8, 8, 8, 8, 8, 8, 8, 8, 8, 8, 8, 8, 8, 8, 8, 8, 8, 8, 8, 8, 8, 8, 8, 8, 8, 8, 8, 8, 8, 8, 8, 8, 8, 8, 8, 8, 8, 8, 8, 8, 8, 8, 8, 8, 8, 8, 8, 8, 8, 8, 8, 8, 8, 8, 8, 8, 8, 8, 8, 8, 8]⟩ : ByteArray) (ji10)
              replace p13 := eq_true p13
              replace q13 := eq_true q13
              go_wp2
              go_ret
              exact ⟨by first | rfl | (simp; done) | (simp only [← hji10] <;> (first | rfl | simp)) | (simp [*]; done), by repeat (first | exact Drawn0.refl _ | apply Drawn0.step)⟩
            · rw [if_neg c12] at H
              exact absurd H (by simp)
          · rw [if_neg c11] at H
            exact absurd H (by simp)
      · rw [if_neg c4] at H
        have c4b0 : decide (65536 ≤ x0_1) = false := decide_eq_false c4
        clear c4
        by_cases c14 : x0_1 ≥ 256
        · rw [if_pos c14] at H
          have c14b0 : decide (256 ≤ x0_1) = true := decide_eq_true c14
          clear c14
          obtain ⟨ji15, hji15⟩ : ∃ j_ : Int, ((x0_1 / 256) % 256) = j_ := ⟨_, rfl⟩
          replace H : (if 0 ≤ (ji15) then (if (ji15) < 256 then (some (wrap64 ((wrap64 (x2_1 + 8)) + (wrap64 (bt (⟨#[0, 1, 2, 2, 3, 3, 3, 3, 4, 4, 4, 4, 4, 4, 4, 4, 5, 5, 5, 5, 5, 5, 5, 5, 5, 5, 5, 5, 5, 5, 5, 5, 6, 6, 6, 6, 6, 6, 6, 6, 6, 6, 6, 6, 6, 6, 6, 6, 6, 6, 6, 6, 6, 6, 6, 6, 6, 6, 6, 6, 6, 6, 6, 6, 7, 7, 7, 7, 7, 7, 7, 7, 7, 7, 7, 7, 7, 7, 7, 7, 7, 7, 7, 7, 7, 7, 7, 7, 7, 7, 7, 7, 7, 7, 7, 7, 7, 7, 7, 7, 7, 7, 7, 7, 7, 7, 7, 7, 7, 7, 7, 7, 7, 7, 7, 7, 7, 7, 7, 7, 7, 7, 7, 7, 7, 7, 7, 7, 8, 8, 8, 8, 8, 8, 8, 8, 8, 8, 8, 8, 8, 8, 8, 8, 8, 8, 8, 8, 8, 8, 8, 8, 8, 8, 8, 8, 8, 8, 8, 8, 8, 8, 8, 8, 8, 8, 8, 8, 8, 8, 8, 8, 8, 8, 8, 8, 8, 8, 8, 8, 8, 8, 8, 8, 8, 8, 8, 8, 8, 8, 8, 8, 8, 8, 8, 8, 8, 8, 8, 8, 8, 8, 8, 8, 8, 8, 8, 8, 8, 8, 8, 8, 8, 8, 8, 8, 8, 8, 8, 8, 8, 8, 8, 8, 8, 8, 8, 8, 8, 8, 8, 8, 8, 8, 8, 8, 8, 8, 8, 8, 8, 8, 8, 8, 8, 8, 8, 8, 8, 8, 8, 8, 8, 8, 8, 8]⟩ : ByteArray) (ji15)))))) else (none)) else (none)) = some r := by first | (rw [hji15] at H; exact H) | (simp only [hji15] at H ⊢; exact H)
          by_cases c16 : 0 ≤ (ji15)
          · rw [if_pos c16] at H
            have c16b0 : decide (0 ≤ (ji15)) = true := decide_eq_true c16
            clear c16
            by_cases c17 : (ji15) < 256
            · rw [if_pos c17] at H
              have c17b0 : decide ((ji15) < 256) = true := decide_eq_true c17
              clear c17
              obtain rfl := Option.some.inj H
              have p18 : 0 ≤ ((ji15) : Int) := of_decide_eq_true (by first | (with_reducible assumption) | assumption)
              have q18 : (ji15) < (256 : Int) := of_decide_eq_true (by first | (with_reducible assumption) | assumption)
              have hx18 := bt_at (⟨#[0, 1, 2, 2, 3, 3, 3, 3, 4, 4, 4, 4, 4, 4, 4, 4, 5, 5, 5, 5, 5, 5, 5, 5, 5, 5, 5, 5, 5, 5, 5, 5, 6, 6, 6, 6, 6, 6, 6, 6, 6, 6, 6, 6, 6, 6, 6, 6, 6, 6, 6, 6, 6, 6, 6, 6, 6, 6, 6, 6, 6, 6, 6, 6, 7, 7, 7, 7, 7, 7, 7, 7, 7, 7, 7, 7, 7, 7, 7, 7, 7, 7, 7, 7, 7, 7, 7, 7, 7, 7, 7, 7, 7, 7, 7, 7, 7, 7, 7, 7, 7, 7, 7, 7, 7, 7, 7, 7, 7, 7, 7, 7, 7, 7, 7, 7, 7, 7, 7, 7, 7, 7, 7, 7, 7, 7, 7, 7, 8, 8, 8, 8, 8, 8, 8, 8, 8, 8, 8, 8, 8, 8, 8, 8, 8, 8, 8, 8, 8, 8, 8, 8, 8, 8, 8, 8, 8, 8, 8, 8, 8, 8, 8, 8, 8, 8, 8, 8, 8, 8, 8, 8, 8, 8, 8, 8, 8, 8, 8, 8, 8, 8, 8, 8, 8, 8, 8, 8, 8, 8, 8, 8, 8, 8, 8, 8, 8, 8, 8, 8, 8, 8, 8, 8, 8, 8, 8, 8, 8, 8, 8, 8, 8, 8, 8, 8, 8, 8, 8, 8, 8, 8, 8, 8, 8, 8, 8, 8, 8, 8, 8, 8, 8, 8, 8, 8, 8, 8, 8, 8, 8, 8, 8, 8, 8, 8, 8, 8, 8, 8, 8, 8, 8, 8, 8, 8]⟩ : ByteArray) (ji15)
              replace p18 := eq_true p18
              replace q18 := eq_true q18
              go_wp2
              go_ret
              exact ⟨by first | rfl | (simp; done) | (simp only [← hji15] <;> (first | rfl | simp)) | (simp [*]; done), by repeat (first | exact Drawn0.refl _ | apply Drawn0.step)⟩
            · rw [if_neg c17] at H
              exact absurd H (by simp)
          · rw [if_neg c16] at H
            exact absurd H (by simp)
        · rw [if_neg c14] at H
          have c14b0 : decide (256 ≤ x0_1) = false := decide_eq_false c14
          clear c14
          obtain ⟨ji19, hji19⟩ : ∃ j_ : Int, ((x0_1) % 256) = j_ := ⟨_, rfl⟩
          replace H : (if 0 ≤ (ji19) then (if (ji19) < 256 then (some (wrap64 (x2_1 + (wrap64 (bt (⟨#[0, 1, 2, 2, 3, 3, 3, 3, 4, 4, 4, 4, 4, 4, 4, 4, 5, 5, 5, 5, 5, 5, 5, 5, 5, 5, 5, 5, 5, 5, 5, 5, 6, 6, 6, 6, 6, 6, 6, 6, 6, 6, 6, 6, 6, 6, 6, 6, 6, 6, 6, 6, 6, 6, 6, 6, 6, 6, 6, 6, 6, 6, 6, 6, 7, 7, 7, 7, 7, 7, 7, 7, 7, 7, 7, 7, 7, 7, 7, 7, 7, 7, 7, 7, 7, 7, 7, 7, 7, 7, 7, 7, 7, 7, 7, 7, 7, 7, 7, 7, 7, 7, 7, 7, 7, 7, 7, 7, 7, 7, 7, 7, 7, 7, 7, 7, 7, 7, 7, 7, 7, 7, 7, 7, 7, 7, 7, 7, 8, 8, 8, 8, 8, 8, 8, 8, 8, 8, 8, 8, 8, 8, 8, 8, 8, 8, 8, 8, 8, 8, 8, 8, 8, 8, 8, 8, 8, 8, 8, 8, 8, 8, 8, 8, 8, 8, 8, 8, 8, 8, 8, 8, 8, 8, 8, 8, 8, 8, 8, 8, 8, 8, 8, 8, 8, 8, 8, 8, 8, 8, 8, 8, 8, 8, 8, 8, 8, 8, 8, 8, 8, 8, 8, 8, 8, 8, 8, 8, 8, 8, 8, 8, 8, 8, 8, 8, 8, 8, 8, 8, 8, 8, 8, 8, 8, 8, 8, 8, 8, 8, 8, 8, 8, 8, 8, 8, 8, 8, 8, 8, 8, 8, 8, 8, 8, 8, 8, 8, 8, 8, 8, 8, 8, 8, 8, 8]⟩ : ByteArray) (ji19)))))) else (none)) else (none)) = some r := by first | (rw [hji19] at H; exact H) | (simp only [hji19] at H ⊢; exact H)
          by_cases c20 : 0 ≤ (ji19)
          · rw [if_pos c20] at H
            have c20b0 : decide (0 ≤ (ji19)) = true := decide_eq_true c20
            clear c20
            by_cases c21 : (ji19) < 256
            · rw [if_pos c21] at H
              have c21b0 : decide ((ji19) < 256) = true := decide_eq_true c21
              clear c21
              obtain rfl := Option.some.inj H
              have p22 : 0 ≤ ((ji19) : Int) := of_decide_eq_true (by first | (with_reducible assumption) | assumption)
              have q22 : (ji19) < (256 : Int) := of_decide_eq_true (by first | (with_reducible assumption) | assumption)
              have hx22 := bt_at (⟨#[0, 1, 2, 2, 3, 3, 3, 3, 4, 4, 4, 4, 4, 4, 4, 4, 5, 5, 5, 5, 5, 5, 5, 5, 5, 5, 5, 5, 5, 5, 5, 5, 6, 6, 6, 6, 6, 6, 6, 6, 6, 6, 6, 6, 6, 6, 6, 6, 6, 6, 6, 6, 6, 6, 6, 6, 6, 6, 6, 6, 6, 6, 6, 6, 7, 7, 7, 7, 7, 7, 7, 7, 7, 7, 7, 7, 7, 7, 7, 7, 7, 7, 7, 7, 7, 7, 7, 7, 7, 7, 7, 7, 7, 7, 7, 7, 7, 7, 7, 7, 7, 7, 7, 7, 7, 7, 7, 7, 7, 7, 7, 7, 7, 7, 7, 7, 7, 7, 7, 7, 7, 7, 7, 7, 7, 7, 7, 7, 8, 8, 8, 8, 8, 8, 8, 8, 8, 8, 8, 8, 8, 8, 8, 8, 8, 8, 8, 8, 8, 8, 8, 8, 8, 8, 8, 8, 8, 8, 8, 8, 8, 8, 8, 8, 8, 8, 8, 8, 8, 8, 8, 8, 8, 8, 8, 8, 8, 8, 8, 8, 8, 8, 8, 8, 8, 8, 8, 8, 8, 8, 8, 8, 8, 8, 8, 8, 8, 8, 8, 8, 8, 8, 8, 8, 8, 8, 8, 8, 8, 8, 8, 8, 8, 8, 8, 8, 8, 8, 8, 8, 8, 8, 8, 8, 8, 8, 8, 8, 8, 8, 8, 8, 8, 8, 8, 8, 8, 8, 8, 8, 8, 8, 8, 8, 8, 8, 8, 8, 8, 8, 8, 8, 8, 8, 8, 8]⟩ : ByteArray) (ji19)
              replace p22 := eq_true p22
              replace q22 := eq_true q22
              go_wp2
              go_ret
              exact ⟨by first | rfl | (simp; done) | (simp only [← hji19] <;> (first | rfl | simp)) | (simp [*]; done), by repeat (first | exact Drawn0.refl _ | apply Drawn0.step)⟩
            · rw [if_neg c21] at H
              exact absurd H (by simp)
          · rw [if_neg c20] at H
            exact absurd H (by simp)

/-! ### octets_Need: function 54 -/
def octets_Need.f (k : Nat) (a0 : Int) : Option (Int) := (bits_Len64.f k a0).bind fun t101 => (some (wrap64 (Int.tdiv (wrap64 (t101 + 7)) 8)))
theorem octets_Need.mono : ∀ a0 k, LeO (octets_Need.f k a0) (octets_Need.f (k + 1) a0) := by
  intro a0 k
  unfold octets_Need.f
  repeat' first
      | (with_reducible exact bits_Len64.mono _ _)
      | (with_reducible exact LeO.refl _)
      | (with_reducible exact LeO.none _)
      | (with_reducible refine LeO.ite ?_ ?_)
      | (with_reducible refine LeO.bind ?_ (fun _ => ?_))
      | exact bits_Len64.mono _ _
      | exact LeO.none _
      | refine LeO.ite ?_ ?_
      | refine LeO.bind ?_ (fun _ => ?_)
set_option maxHeartbeats 8000000 in
set_option maxRecDepth 100000 in
theorem octets_Need.calls (k : Nat) (a0 : Int) (r : Int) (w : World) (h : octets_Need.f k a0 = some r) :
    Calls Tryd.prog 54 #[.int .u64 a0] w fun e w' => e = .returned (.int .i64 r) ∧ Drawn0 w w' := by
  have H : ((bits_Len64.f k a0).bind fun t101 => (some (wrap64 (Int.tdiv (wrap64 (t101 + 7)) 8)))) = some r := h
  clear h
  replace H := Option.bind_eq_some_iff.mp H
  obtain ⟨t101, A20, H⟩ := H
  replace H : (some (wrap64 (Int.tdiv (wrap64 (t101 + 7)) 8))) = some r := H
  have A2 := Aside0.mk A20
  clear A20
  obtain rfl := Option.some.inj H
  go_enter Tryd.func54, Tryd.ntmps54
  go_wp2_with (first | ((with_reducible refine gate_callee (f := 68) rfl ?_); refine goesL_ (some 4) rfl rfl Tryd.func68 (by kernel_rfl) rfl #[.int .u64 a0] rfl (by (try simp only [List.map_toArray, List.map_cons, List.map_nil]); first | done | rfl | (simp only [List.length_drop, List.length_take]; rfl)) ?_; (with_reducible refine (bits_Len64.calls k a0 t101 _ A2.out).mono ?_); rintro e w' ⟨rfl, ⟨nd, rfl⟩⟩; refine ⟨_, rfl, ?_⟩))
  go_ret
  exact ⟨by first | rfl | (simp; done) | (simp [*]; done) | (exfalso; simp only [beq_iff_eq, decide_eq_true_eq] at *; omega), by repeat (first | exact Drawn0.refl _ | apply Drawn0.step)⟩

/-! ### octets_Put: function 45 -/
open Go.Shelf
attribute [local go_sem] Oper.semAt_some
theorem backward_in (F : Fence) (n : Nat) (h5 : F.fn 55) (hro : F.round = none) (a : Option Addr) (len cap : Nat) (w : World) :
    CallsIn F n Tryd.prog 55 #[.slice a len cap] w fun e w' => e = .returned (.func (.func 69) #[] #[.pointer (some ⟨w.heap.size, 0, none⟩)]) ∧ w' = w.alloc (.cells #[.slice a len cap] 25) := by
  refine callsIn_of_wp Tryd.func55 rfl h5 ?_ hro
  simp only [Tryd.ntmps55, List.size_toArray, List.length_cons, List.length_nil, Nat.reduceAdd, Nat.reduceSub, Array.replicate_succ, Array.replicate_zero, List.push_toArray, List.append_toArray, List.nil_append, List.cons_append]
  gi_wp2
  go_ret
  exact ⟨rfl, rfl⟩
/-- What a round keeps: the box, and that the row's cells are octets. -/
def BackK (g Bs len : Nat) (W W' : World) : Prop := W'.cell? ⟨Bs, 0, none⟩ = W.cell? ⟨Bs, 0, none⟩ ∧ ∀ j, j < len → (∃ v, W.cell? ⟨g, j, none⟩ = some (.int .u8 v)) → ∃ v, W'.cell? ⟨g, j, none⟩ = some (.int .u8 v)
theorem BackK.refl (g Bs len : Nat) (W : World) : BackK g Bs len W W := ⟨rfl, fun _ _ h => h⟩
theorem BackK.trans {g Bs len : Nat} {A B C : World} (h : BackK g Bs len A B) (k : BackK g Bs len B C) : BackK g Bs len A C := ⟨k.1.trans h.1, fun j hj hv => k.2 j hj (h.2 j hj hv)⟩
abbrev BackA (len : Nat) := { p : Nat × Int // p.1 < len }
def ideal (len k : Nat) : List Nat := (List.range k).map fun j => len - 1 - j
theorem ideal_succ (len k : Nat) : ideal len (k + 1) = ideal len k ++ [len - 1 - k] := by simp [ideal, List.range_succ]
theorem ideal_length (len k : Nat) : (ideal len k).length = k := by simp [ideal]
set_option maxRecDepth 100000 in
set_option maxHeartbeats 4000000 in
theorem backward1_in (F : Fence) (n : Nat) (h7 : F.fn 69) (hro : F.round = none) (hn : 1 ≤ n) (l Bs g len cap : Nat) (hlen : len ≤ 9223372036854775807) (J Jx : List (BackA len) → World → Prop)
    (hY : ∀ pre x W, J pre W → pre.length < len → YieldAt F (n - 1) Tryd.prog l #[.int .i64 (x.1.1 : Int), .int .u8 x.1.2] W fun e W' =>
      (e = .returned (.bool true) ∧ J (pre ++ [x]) W' ∧ BackK g Bs len W W') ∨ (e = .returned (.bool false) ∧ Jx (pre ++ [x]) W'))
    (W : World) (hBs : W.cell? ⟨Bs, 0, none⟩ = some (.slice (some ⟨g, 0, none⟩) len cap)) (hc : ∀ j, j < len → ∃ v, W.cell? ⟨g, j, none⟩ = some (.int .u8 v)) (h0 : J [] W) :
    CallsIn F n Tryd.prog 69 #[.func (.yield l) #[] #[], .pointer (some ⟨Bs, 0, none⟩)] W fun e W' => (∃ v, e = .returned v) ∧
      ((∃ ys, ys.map (·.1.1) = ideal len len ∧ J ys W') ∨ (∃ pre, True ∧ Jx pre W')) := by
  refine callsIn_of_wp Tryd.func69 rfl h7 ?_ hro
  simp only [Tryd.ntmps69, List.size_toArray, List.length_cons, List.length_nil, Nat.reduceAdd, Nat.reduceSub, Array.replicate_succ, Array.replicate_zero, List.push_toArray, List.append_toArray, List.nil_append, List.cons_append]
  gi_wp2
  gi_loopw [3] (fun i wr => ∃ (k : Nat) (pre : List (BackA len)), k ≤ len ∧ i = .int .i64 ((len : Int) - 1 - (k : Int)) ∧ Aside0 (pre.map (·.1.1) = ideal len k) ∧ J pre wr ∧ Aside0 (BackK g Bs len W wr))
    (fun i _ => (intOf i + 1).toNat)
  case atStart => exact ⟨0, [], by omega, by simp, ⟨rfl⟩, h0, ⟨BackK.refl _ _ _ _⟩⟩
  case round =>
    obtain ⟨k, pre, hk, rfl, hpre, hJs, hK⟩ := hrel
    have hB2 : wr.cell? ⟨Bs, 0, none⟩ = some (.slice (some ⟨g, 0, none⟩) len cap) := hK.out.1.trans hBs
    by_cases hlt : k < len
    · obtain ⟨i, hi⟩ : ∃ i, i = len - 1 - k := ⟨_, rfl⟩
      have hlt2 : i < len := by omega
      obtain ⟨v, hv⟩ := hK.out.2 i hlt2 (hc _ hlt2)
      obtain ⟨x, hx1, hx2⟩ : ∃ x : BackA len, x.1.1 = i ∧ x.1.2 = v := ⟨⟨(i, v), hlt2⟩, rfl, rfl⟩
      obtain ⟨fn, tmps, assign, body, hy, hR⟩ := hY pre x wr hJs (by have := congrArg List.length hpre.out; rw [List.length_map, ideal_length] at this; omega)
      rw [hx1, hx2] at hy
      have HP := Aside0.mk (show (pre ++ [x]).map (·.1.1) = ideal len (k + 1) by rw [List.map_append, hpre.out, ideal_succ]; simp [hx1, hi])
      have hi2 : ((len : Int) - 1 - (k : Int)) = (i : Int) := by omega
      have HK1 := Aside0.mk (show i + 1 + k = len by omega)
      rw [hi2]
      have hd : decide (0 ≤ (i : Int)) = true := by simp
      clear hi hi2 hx1 hx2
      gi_wp2
      refine hR.mono ?_
      rintro e W3 (⟨rfl, hJ3, hk3⟩ | ⟨rfl, hJx3⟩)
      · gi_wp2
        go_roundw
        case rel => exact ⟨k + 1, pre ++ [x], by omega, by have := HK1.out; go_num, HP, hJ3, ⟨hK.out.trans hk3⟩⟩
        case measure => simp [intOf]
      · gi_wp2
        refine bodyPost_ret (results_none rfl _ _ _) rfl ?_
        exact ⟨⟨_, rfl⟩, .inr ⟨_, trivial, hJx3⟩⟩
    · obtain rfl : k = len := by omega
      have hd : decide (0 ≤ (k : Int) - 1 - (k : Int)) = false := by simp; omega
      gi_wp2
      go_end0
      exact ⟨⟨_, rfl⟩, .inl ⟨pre, hpre.out, hJs⟩⟩
/-- A number's octets, the highest first. -/
def octI (n : Int) (size : Nat) : List Int := (List.range size).map fun i => n / 256 ^ (size - 1 - i) % 256
/-- How many octets hold a number. -/
def needI (n : Int) : Int := if n < 1 then 0 else if n < 256 then 1 else if n < 65536 then 2 else if n < 16777216 then 3 else if n < 4294967296 then 4 else if n < 1099511627776 then 5 else if n < 281474976710656 then 6 else if n < 72057594037927936 then 7 else 8
def tabOk (T : ByteArray) : Bool := (List.range 256).all fun i => decide (0 ≤ bt T (i : Int)) && decide (bt T (i : Int) ≤ 8) && (decide (bt T (i : Int) = 0) == decide (i = 0))
theorem tabOk_is {T : ByteArray} (h : tabOk T = true) (i : Int) (h0 : 0 ≤ i) (h1 : i < 256) : (i = 0 ∧ bt T i = 0) ∨ (0 < i ∧ 1 ≤ bt T i ∧ bt T i ≤ 8) := by
  have := List.all_eq_true.1 h i.toNat (by simp; omega)
  rw [show ((i.toNat : Nat) : Int) = i by omega] at this
  simp at this
  omega
theorem need_sum (a t : Int) (h0 : 0 ≤ a) (h1 : a ≤ 56) (h2 : 0 ≤ t) (h3 : t ≤ 8) : wrap64 (Int.tdiv (wrap64 (wrap64 (a + wrap64 t) + 7)) 8) = (a + t + 7) / 8 := by
  have e1 : wrap64 t = t := by unfold wrap64; omega
  have e2 : wrap64 (a + t) = a + t := by unfold wrap64; omega
  have e3 : wrap64 (a + t + 7) = a + t + 7 := by unfold wrap64; omega
  rw [e1, e2, e3, Int.tdiv_eq_ediv_of_nonneg (by omega)]
  unfold wrap64
  omega
theorem need_is (n : Int) (h0 : 0 ≤ n) (h1 : n ≤ 18446744073709551615) : octets_Need.f 9 n = some (needI n) := by
  unfold octets_Need.f bits_Len64.f bits_Len64.j0
  generalize hT : (ByteArray.mk _) = T
  have hok : tabOk T = true := by rw [← hT]; kernel_rfl
  clear hT
  have e0 : wrap64 ((32 : Int) + 16) = 48 := by unfold wrap64; omega
  have e1 : wrap64 ((48 : Int) + 8) = 56 := by unfold wrap64; omega
  have e2 : wrap64 ((32 : Int) + 8) = 40 := by unfold wrap64; omega
  have e3 : wrap64 ((0 : Int) + 16) = 16 := by unfold wrap64; omega
  have e4 : wrap64 ((16 : Int) + 8) = 24 := by unfold wrap64; omega
  have e5 : wrap64 ((0 : Int) + 8) = 8 := by unfold wrap64; omega
  simp only [e0, e1, e2, e3, e4, e5]
  repeat' split
  all_goals first
    | (exfalso; omega)
    | (simp only [Option.bind_some, Option.some.injEq]
       first
        | (have hh := tabOk_is hok (n / 4294967296 / 65536 / 256 % 256) (by omega) (by omega); rw [need_sum _ _ (by omega) (by omega) (by omega) (by omega)]; unfold needI; omega)
        | (have hh := tabOk_is hok (n / 4294967296 / 65536 % 256) (by omega) (by omega); rw [need_sum _ _ (by omega) (by omega) (by omega) (by omega)]; unfold needI; omega)
        | (have hh := tabOk_is hok (n / 4294967296 / 256 % 256) (by omega) (by omega); rw [need_sum _ _ (by omega) (by omega) (by omega) (by omega)]; unfold needI; omega)
        | (have hh := tabOk_is hok (n / 4294967296 % 256) (by omega) (by omega); rw [need_sum _ _ (by omega) (by omega) (by omega) (by omega)]; unfold needI; omega)
        | (have hh := tabOk_is hok (n / 65536 / 256 % 256) (by omega) (by omega); rw [need_sum _ _ (by omega) (by omega) (by omega) (by omega)]; unfold needI; omega)
        | (have hh := tabOk_is hok (n / 65536 % 256) (by omega) (by omega); rw [need_sum _ _ (by omega) (by omega) (by omega) (by omega)]; unfold needI; omega)
        | (have hh := tabOk_is hok (n / 256 % 256) (by omega) (by omega); rw [need_sum _ _ (by omega) (by omega) (by omega) (by omega)]; unfold needI; omega)
        | (have hh := tabOk_is hok (n % 256) (by omega) (by omega); rw [need_sum _ _ (by omega) (by omega) (by omega) (by omega)]; unfold needI; omega))
def octets_Put.f (a0 a1 : Int) : Option (List Int × Int) := if 0 ≤ a0 ∧ a0 ≤ 18446744073709551615 then (if a1 < 0 ∨ 64 < a1 then some ([], 4) else if a1 < needI a0 then some ([], 107) else some (octI a0 a1.toNat, 0)) else none
/-- The row behind k rounds. -/
def putRow (N len k : Nat) : Array Value := ((List.range len).map fun i => Value.int .u8 (if i < len - k then 0 else ((N / 256 ^ (len - 1 - i) % 256 : Nat) : Int))).toArray
theorem putRow_size (N len k : Nat) : (putRow N len k).size = len := by simp [putRow]
theorem putRow_get (N len k i : Nat) (h : i < len) : (putRow N len k)[i]? = some (Value.int .u8 (if i < len - k then 0 else ((N / 256 ^ (len - 1 - i) % 256 : Nat) : Int))) := by simp [putRow, h]
theorem putRow_zero (N len : Nat) : putRow N len 0 = madeCells #[.int .u8 0] len := by
  apply Array.ext_getElem?
  intro i
  by_cases hi : i < len
  · rw [putRow_get _ _ _ _ hi, if_pos (by omega)]
    simp [madeCells, hi, Nat.mod_one]
  · rw [Array.getElem?_eq_none (by rw [putRow_size]; omega), Array.getElem?_eq_none (by rw [size_madeCells]; omega)]
theorem putRow_set (N len k : Nat) (h : k < len) : (putRow N len k).setIfInBounds (len - 1 - k) (Value.int .u8 ((N / 256 ^ k % 256 : Nat) : Int)) = putRow N len (k + 1) := by
  apply Array.ext_getElem?
  intro i
  rw [Array.getElem?_setIfInBounds]
  by_cases hi : i < len
  · by_cases e : len - 1 - k = i
    · subst e
      rw [if_pos rfl, putRow_size, if_pos hi, putRow_get _ _ _ _ hi, if_neg (by omega), show len - 1 - (len - 1 - k) = k by omega]
    · rw [if_neg e, putRow_get _ _ _ _ hi, putRow_get _ _ _ _ hi]
      congr 2
      by_cases h1 : i < len - k
      · rw [if_pos h1, if_pos (by omega)]
      · rw [if_neg h1, if_neg (by omega)]
  · have e : len - 1 - k ≠ i := by omega
    rw [if_neg e, Array.getElem?_eq_none (by rw [putRow_size]; omega), Array.getElem?_eq_none (by rw [putRow_size]; omega)]
/-- What the loop keeps. -/
structure PutAt (w : World) (N len : Nat) (pre : List (BackA len)) (W : World) : Prop where
  row : ∃ cs, W.heap[w.heap.size + 1]? = some (.cells cs 5 (0, 0)) ∧ cs.size = len ∧ (∀ j, j < len → ∃ v, cs[j]? = some (.int .u8 v)) ∧ (pre.map (·.1.1) = ideal len pre.length → pre.length ≤ len → cs = putRow N len pre.length)
  num : ∃ m : Nat, m ≤ 18446744073709551615 ∧ Boxed W w.heap.size 73 (.int .u64 (m : Int)) ∧ m = N / 256 ^ pre.length
  box : Boxed W (w.heap.size + 2) 25 (.slice (some ⟨w.heap.size + 1, 0, none⟩) len len)
theorem cell_kept_other {W : World} (p q : Addr) (v : Value) (h : p.block ≠ q.block) : (W.setCell q v).cell? p = W.cell? p := World.cell?_of_block (Below.heap_setCell W q v p.block h)
theorem ideal_init {len : Nat} {pre : List (BackA len)} {x : BackA len} (h : (pre ++ [x]).map (·.1.1) = ideal len (pre ++ [x]).length) : pre.map (·.1.1) = ideal len pre.length ∧ x.1.1 = len - 1 - pre.length := by
  rw [List.length_append, List.length_singleton, ideal_succ, List.map_append] at h
  obtain ⟨h1, h2⟩ := List.append_inj h (by simp [ideal_length])
  exact ⟨h1, by simpa using h2⟩
set_option maxHeartbeats 8000000 in
set_option maxRecDepth 100000 in
theorem put_range (a0 a1 : Int) (w : World) (h : a1 < 0 ∨ 64 < a1) : Calls Tryd.prog 45 #[.int .u64 a0, .int .i64 a1] w fun e w' => e = .returned (.tuple #[.slice none 0 0, .int .i64 4]) ∧ Below w.heap.size w w' := by
  rcases h with h | h
  · have hd : decide (a1 < 0) = true := by simpa using h
    go_enter Tryd.func45, Tryd.ntmps45
    go_wp2
    go_ret2
    exact ⟨rfl, (Below.refl _ _).alloc (Nat.le_refl _) _⟩
  · have hd : decide (a1 < 0) = false := by simp; omega
    have hd2 : decide (64 < a1) = true := by simpa using h
    go_enter Tryd.func45, Tryd.ntmps45
    go_wp2
    go_ret2
    exact ⟨rfl, (Below.refl _ _).alloc (Nat.le_refl _) _⟩
set_option maxHeartbeats 8000000 in
set_option maxRecDepth 100000 in
theorem put_big (a0 a1 t : Int) (w : World) (h0 : 0 ≤ a1) (h1 : a1 ≤ 64) (ht : octets_Need.f 9 a0 = some t) (h : a1 < t) : Calls Tryd.prog 45 #[.int .u64 a0, .int .i64 a1] w fun e w' => e = .returned (.tuple #[.slice none 0 0, .int .i64 107]) ∧ Below w.heap.size w w' := by
  have hd : decide (a1 < 0) = false := by simp; omega
  have hd2 : decide (64 < a1) = false := by simp; omega
  have hd3 : decide (a1 < t) = true := by simpa using h
  have HT := Aside0.mk ht
  clear ht
  go_enter Tryd.func45, Tryd.ntmps45
  go_wp2_with (go_at_call 54; refine (octets_Need.calls 9 _ _ _ HT.out).mono ?_; rintro e w' ⟨rfl, ⟨nd, rfl⟩⟩)
  go_ret2
  exact ⟨rfl, pw_below_drewN (by repeat (first | exact Below.refl _ _ | apply below_alloc)) _⟩
set_option maxHeartbeats 8000000 in
set_option maxRecDepth 100000 in
theorem put_main (a0 a1 t : Int) (w : World) (hn0 : 0 ≤ a0) (hn1 : a0 ≤ 18446744073709551615) (h0 : 0 ≤ a1) (h1 : a1 ≤ 64) (ht : octets_Need.f 9 a0 = some t) (h : ¬ a1 < t) : Calls Tryd.prog 45 #[.int .u64 a0, .int .i64 a1] w fun e w' => ∃ v0_ : Value, e = .returned (.tuple #[v0_, .int .i64 0]) ∧ Kd.R (Kd.int .u8) 5 w' w.heap.size (fun _ => True) v0_ (octI a0 a1.toNat) ∧ Below w.heap.size w w' := by
  have hd : decide (a1 < 0) = false := by simp; omega
  have hd2 : decide (64 < a1) = false := by simp; omega
  have hd3 : decide (a1 < t) = false := by simpa using h
  have HT := Aside0.mk ht
  clear ht
  refine (callsIn_wide (n := 6)).1 ?_
  refine callsIn_of_wp_marks Tryd.func45 rfl trivial ?_ rfl
  simp only [Tryd.ntmps45, List.size_toArray, List.length_cons, List.length_nil, Nat.reduceAdd, Nat.reduceSub, Array.replicate_succ, Array.replicate_zero, List.push_toArray, List.append_toArray, List.nil_append, List.cons_append]
  obtain ⟨ei, hei, hez⟩ := Option.map_eq_some_iff.1 info5
  simp only [Prod.mk.injEq] at hez
  have HM : Aside0 (∀ W : World, (Instr.makeSlice 25 (.int .i64 a1) (.int .i64 a1)).run Tryd.prog W = .ok (.slice (some ⟨W.heap.size, 0, none⟩) a1.toNat a1.toNat) (W.alloc (.cells (madeCells #[.int .u8 0] a1.toNat) 5))) := ⟨fun W => by
    have := run_make (P := Tryd.prog) W 25 5 ei (.int .u8 0) Tryd.underlying25 hei hez.1 .i64 .i64 a1 a1 h0 (Int.le_refl _) (by rw [hez.2.2]; omega) (by omega)
    rw [hez.2.1, Nat.mul_one] at this
    exact this⟩
  clear hez hei
  gi_wp2_with (first
    | (refine ⟨trivial, ?_⟩; gi_at_call 54; refine (callsIn_wide.2 (octets_Need.calls 9 _ _ _ HT.out)).mono ?_; rintro e w' ⟨rfl, ⟨nd, rfl⟩⟩)
    | (refine ⟨trivial, ?_⟩; gi_at_call 55; refine (backward_in Fence.wide 5 trivial rfl _ _ _ _).mono ?_; rintro e w' ⟨rfl, rfl⟩)
    | rw [HM.out])
  obtain ⟨N, rfl⟩ : ∃ N : Nat, a0 = (N : Int) := ⟨a0.toNat, by omega⟩
  obtain ⟨len, rfl⟩ : ∃ len : Nat, a1 = (len : Int) := ⟨a1.toNat, by omega⟩
  rw [Int.toNat_natCast]
  obtain ⟨W0, hW0⟩ : ∃ W0, W0 = (((((w.alloc (.cells #[.int .u64 (N : Int)] 73)).drewN nd).alloc (.cells (madeCells #[.int .u8 0] len) 5)).alloc (.cells #[.slice (some ⟨w.heap.size + 1, 0, none⟩) len len] 25)).alloc (.cells #[.slice (some ⟨w.heap.size + 1, 0, none⟩) len len] 25)) := ⟨_, rfl⟩
  rw [← hW0]
  have hsz : W0.heap.size = w.heap.size + 4 := by rw [hW0]; simp
  have hb0 : Boxed W0 w.heap.size 73 (.int .u64 (N : Int)) := by
    rw [hW0]
    refine Boxed.alloc (Boxed.alloc (Boxed.alloc ?_ _) _) _
    exact Boxed.new w 73 _
  have hb1 : W0.heap[w.heap.size + 1]? = some (.cells (madeCells #[.int .u8 0] len) 5 (0, 0)) := by
    rw [hW0]
    refine (Below.heap_alloc _ _ _ (by simp)).trans ((Below.heap_alloc _ _ _ (by simp)).trans ?_)
    have h := heap_alloc_new ((w.alloc (.cells #[.int .u64 (N : Int)] 73)).drewN nd) (.cells (madeCells #[.int .u8 0] len) 5)
    have e : ((w.alloc (.cells #[.int .u64 (N : Int)] 73)).drewN nd).heap.size = w.heap.size + 1 := by simp
    rw [e] at h
    exact h
  have hb2 : Boxed W0 (w.heap.size + 2) 25 (.slice (some ⟨w.heap.size + 1, 0, none⟩) len len) := by
    rw [hW0]
    refine Boxed.alloc ?_ _
    have h := Boxed.new (((w.alloc (.cells #[.int .u64 (N : Int)] 73)).drewN nd).alloc (.cells (madeCells #[.int .u8 0] len) 5)) 25 (.slice (some ⟨w.heap.size + 1, 0, none⟩) len len)
    have e : (((w.alloc (.cells #[.int .u64 (N : Int)] 73)).drewN nd).alloc (.cells (madeCells #[.int .u8 0] len) 5)).heap.size = w.heap.size + 2 := by simp
    rw [e] at h
    exact h
  have hb3 : Boxed W0 (w.heap.size + 3) 25 (.slice (some ⟨w.heap.size + 1, 0, none⟩) len len) := by
    rw [hW0]
    have h := Boxed.new ((((w.alloc (.cells #[.int .u64 (N : Int)] 73)).drewN nd).alloc (.cells (madeCells #[.int .u8 0] len) 5)).alloc (.cells #[.slice (some ⟨w.heap.size + 1, 0, none⟩) len len] 25)) 25 (.slice (some ⟨w.heap.size + 1, 0, none⟩) len len)
    have e : ((((w.alloc (.cells #[.int .u64 (N : Int)] 73)).drewN nd).alloc (.cells (madeCells #[.int .u8 0] len) 5)).alloc (.cells #[.slice (some ⟨w.heap.size + 1, 0, none⟩) len len] 25)).heap.size = w.heap.size + 3 := by simp
    rw [e] at h
    exact h
  have hB0 : Below w.heap.size w W0 := by
    rw [hW0]
    refine ((Below.alloc (Below.alloc (Below.alloc (pw_below_drewN ((Below.refl _ _).alloc (Nat.le_refl _) _) _) ?_ _) ?_ _) ?_ _)) <;> simp <;> omega
  refine wpIn_rangeFunc_ownG (α := BackA len) (w0 := W0) rfl (by decide) (gf := 69) (lb := #[.pointer (some ⟨w.heap.size + 3, 0, none⟩)]) rfl trivial (enters_of Tryd.func69 (by kernel_rfl) rfl)
    (encs := fun x => #[.int .i64 (x.1.1 : Int), .int .u8 x.1.2]) (Kp := BackK (w.heap.size + 1) (w.heap.size + 3) len) (S := fun ys => ys.map (·.1.1) = ideal len len) (Sp := fun _ => True) (N := len)
    ?seq (fun h k => h.trans k) ?kb (Below.refl _ _) (fun _ => rfl)
    (fun pre W => PutAt w N len pre W ∧ Below w.heap.size w W)
    (fun _ _ _ => False) ?own (fun _ _ _ _ _ hs _ _ => hs) ?h0
    (fun x => { tmps := #[.int .u64 (N : Int), .int .i64 (len : Int), .pointer (some ⟨w.heap.size, 0, none⟩), undef, .slice none 0 0, .int .i64 0, .pointer (some ⟨w.heap.size + 1 + 1, 0, none⟩), .int .i64 (x.1.1 : Int), .bool false, .int .i64 (len : Int), .bool false, .bool false, .int .i64 (len : Int), .bool false, .bool false, .bool false, .int .i64 (len : Int), .int .u64 (N : Int), .int .i64 t, .bool false, .int .i64 (len : Int), .slice (some ⟨w.heap.size + 1, 0, none⟩) len len, .slice (some ⟨w.heap.size + 1, 0, none⟩) len len, .func (.func 69) #[] #[.pointer (some ⟨w.heap.size + 1 + 1 + 1, 0, none⟩)], .int .i64 (x.1.1 : Int), .int .u8 x.1.2, undef, undef, undef, undef, undef, undef, undef, undef], defers := [] }) ?assign ?body ?done ?stop
  case assign =>
    intro l x W K hK
    gi_wp2
    exact hK
  case body =>
    rintro l pre x W ⟨hP, hB⟩ hlt
    obtain ⟨⟨cs, hcs, hsize, hall, hid⟩, ⟨m, hm, hn, hmk⟩, hbx⟩ := hP
    obtain ⟨v, hv⟩ := hall _ x.2
    have hc : W.cell? ⟨w.heap.size + 1, x.1.1, none⟩ = some (.int .u8 v) := by rw [cell_of_row _ _ _ _ _ _ hcs, hv]
    have hf : W.frozen? ⟨w.heap.size + 1, x.1.1, none⟩ = false := frozen_of_row _ _ _ _ _ hcs
    have hnc := hn.cell
    have hnf := hn.frozen
    have hbc : W.cell? ⟨w.heap.size + 1 + 1, 0, none⟩ = _ := hbx.cell
    have hx2 := x.2
    generalize hxi : x.1.1 = i at *
    have HX := Aside0.mk hxi
    have HL := Aside0.mk hlt
    have HB := Aside0.mk hB
    have HC := Aside0.mk hall
    have HM2 := Aside0.mk hmk
    clear hxi hlt hB hall hmk
    gi_wp2
    obtain ⟨j0, hj0⟩ : ∃ j0, j0 = w.heap.size := ⟨_, rfl⟩
    refine ⟨((KeepsOthers.setCell _ _ _).trans (KeepsOthers.setCell _ _ _)).from _, ⟨?_, fun j hj _ => ?_⟩, ⟨⟨cs.setIfInBounds i (.int .u8 ((m : Int) % 256)), ?_, ?_, ?_, ?_⟩, ⟨m / 256, by omega, ?_, ?_⟩, ?_⟩, (HB.out.setCell (by simp) _).setCell (by simp) _⟩
    · exact (cell_kept_other _ _ _ (by simp)).trans (cell_kept_other _ _ _ (by simp))
    · obtain ⟨u, hu⟩ := HC.out j hj
      by_cases e : j = i
      · subst e
        exact ⟨_, (cell_kept_other _ _ _ (by simp)).trans (World.cell?_setCell_same' _ _ _ (by rw [hc]; rfl))⟩
      · refine ⟨u, (cell_kept_other _ _ _ (by simp)).trans ?_⟩
        rw [cell_of_row _ _ _ _ _ _ (heap_setCell_same _ _ _ _ _ _ hcs), Array.getElem?_setIfInBounds, if_neg (by omega)]
        exact hu
    · exact (Below.heap_setCell _ _ _ _ (by simp)).trans (heap_setCell_same _ _ _ _ _ _ hcs)
    · rw [Array.size_setIfInBounds]; exact hsize
    · intro j hj
      rw [Array.getElem?_setIfInBounds]
      by_cases e : i = j
      · rw [if_pos e, if_pos (by omega)]; exact ⟨_, rfl⟩
      · rw [if_neg e]; exact HC.out j hj
    · intro hpre hlen
      obtain ⟨h3, h4⟩ := ideal_init hpre
      rw [List.length_append, List.length_singleton] at hlen ⊢
      rw [hid h3 (by omega), ← HX.out, h4, HM2.out]
      exact putRow_set N len pre.length (by omega)
    · have hb := (Boxed.set (.int .u64 ((m / 256 : Nat) : Int)) (show Boxed (W.setCell ⟨w.heap.size + 1, i, none⟩ (.int .u8 ((m : Int) % 256))) w.heap.size 73 (.int .u64 (m : Int)) from (Below.heap_setCell _ _ _ _ (by simp)).trans hn))
      simpa using hb
    · rw [HM2.out, List.length_append, List.length_singleton, Nat.pow_succ, Nat.div_div_eq_div_mul]
    · exact (Below.heap_setCell _ _ _ _ (by simp)).trans ((Below.heap_setCell _ _ _ _ (by simp)).trans hbx)
  case done =>
    rintro D ys W hD hys ⟨hP, hB⟩ hK
    have hbc : W.cell? ⟨w.heap.size + 1 + 1, 0, none⟩ = _ := hP.box.cell
    have HB := Aside0.mk hB
    have HP := Aside0.mk hP
    have HY := Aside0.mk hys
    clear hB hP hys
    gi_wp2
    refine ⟨by simp, .inl ⟨_, _, rfl, run_takeDeferred hK, ?_⟩⟩
    obtain ⟨cs, hcs, hsize, hall, hid⟩ := HP.out.row
    have hlen : ys.length = len := by
      have := congrArg List.length HY.out
      rw [List.length_map, ideal_length] at this
      exact this
    have hrow := hid (by rw [hlen]; exact HY.out) (by omega)
    rw [hlen] at hrow
    rw [hrow] at hcs
    have hD2 : w.heap.size + 4 ≤ D := by rw [← hsz]; exact hD
    have hcs2 : (W.putObj D (.deferred none)).heap[w.heap.size + 1]? = some (.cells (putRow N len len) 5 (0, 0)) := (World.putObj_heap_other (by omega)).trans hcs
    refine ⟨_, results_tmp2 rfl _ _ _, _, rfl, ?_, HB.out.trans (belowK_b (w := w) (Nat.le_refl _) W D _ _ (by omega) hK rfl rfl)⟩
    have hol : (octI (N : Int) len).length = len := by simp [octI]
    refine Kd.R_of_own ?_ (fun _ _ => trivial)
    show World.ownsRow _ _ _ _ (.slice (some ⟨w.heap.size + 1, 0, none⟩) len len) (octI (N : Int) len).length _
    rw [hol]
    refine ⟨by simp [encs, hol], .inr ⟨w.heap.size + 1, len, putRow N len len, rfl, by omega, hcs2, Nat.le_refl _, by simp [maxLen]; omega, by rw [putRow_size, Nat.mul_one], ?_⟩⟩
    rw [List.take_of_length_le (by simp [putRow_size])]
    simp only [putRow, encs, octI, List.map_map]
    refine List.map_congr_left fun i hi => ?_
    rw [if_neg (by omega)]
    simp
  case stop =>
    rintro D c pre W _ _ h _
    exact h.elim
  case seq =>
    intro l J Jx W hW _ _ hY hJ0
    have e1 : W.cell? ⟨w.heap.size + 3, 0, none⟩ = _ := (hW.cell (p := ⟨w.heap.size + 3, 0, none⟩) (by simp [hsz])).trans hb3.cell
    refine (backward1_in Fence.wide 5 trivial rfl (by decide) l (w.heap.size + 3) (w.heap.size + 1) len len (by omega) J Jx hY W e1 (fun j hj => ⟨0, ?_⟩) hJ0)
    rw [hW.cell (p := ⟨w.heap.size + 1, j, none⟩) (by simp [hsz]), cell_of_row _ _ _ _ _ _ hb1, ← putRow_zero N len, putRow_get _ _ _ _ hj, if_pos (by omega)]
  case kb =>
    intro W l o o' hl ho hoc _
    have hne : ∀ k, k < w.heap.size + 4 → k ≠ l := fun k hk => by omega
    refine ⟨World.cell?_of_block (World.putObj_heap_other (hne _ (by simp))), fun j hj ⟨v, hv⟩ => ⟨v, ?_⟩⟩
    exact (World.cell?_of_block (World.putObj_heap_other (hne _ (by simp)))).trans hv
  case own =>
    refine OwnFrom.and (Own.from (fun s A B row hs hg hr => ?_) _) (ownFrom_below (Nat.le_refl _) (by omega))
    obtain ⟨⟨cs, hcs, h2, h3, h4⟩, ⟨m, hm, hn, hmk⟩, hbx⟩ := hs
    exact ⟨⟨cs, (grownBy_keeps_cells hg hr hcs rfl).trans hcs, h2, h3, h4⟩, ⟨m, hm, (grownBy_keeps_cells hg hr hn rfl).trans hn, hmk⟩, (grownBy_keeps_cells hg hr hbx rfl).trans hbx⟩
  case h0 =>
    refine ⟨⟨⟨_, hb1, by rw [size_madeCells], fun j hj => ?_, fun _ _ => (putRow_zero N len).symm⟩, ⟨N, by omega, hb0, by simp⟩, hb2⟩, hB0⟩
    rw [← putRow_zero N len, putRow_get _ _ _ _ hj]
    exact ⟨_, rfl⟩
theorem octets_Put.calls (a0 a1 : Int) (r1 : List Int) (r2 : Int) (w : World) (h : octets_Put.f a0 a1 = some (r1, r2)) :
    Calls Tryd.prog 45 #[.int .u64 a0, .int .i64 a1] w fun e w' => ∃ v0_ : Value, e = .returned (.tuple #[v0_, .int .i64 r2]) ∧ Kd.R (Kd.int .u8) 5 w' w.heap.size (fun _ => True) v0_ r1 ∧ Below w.heap.size w w' := by
  unfold octets_Put.f at h
  by_cases hr : 0 ≤ a0 ∧ a0 ≤ 18446744073709551615
  case neg => rw [if_neg hr] at h; cases h
  rw [if_pos hr] at h
  by_cases h1 : a1 < 0 ∨ 64 < a1
  · rw [if_pos h1] at h
    obtain ⟨rfl, rfl⟩ := Prod.mk.inj (Option.some.inj h)
    refine (put_range a0 a1 w h1).mono ?_
    rintro e w' ⟨rfl, hb⟩
    exact ⟨_, rfl, Kd.R_nil _ _ _ _ _, hb⟩
  · rw [if_neg h1] at h
    by_cases h2 : a1 < needI a0
    · rw [if_pos h2] at h
      obtain ⟨rfl, rfl⟩ := Prod.mk.inj (Option.some.inj h)
      refine (put_big a0 a1 _ w (by omega) (by omega) (need_is a0 hr.1 hr.2) h2).mono ?_
      rintro e w' ⟨rfl, hb⟩
      exact ⟨_, rfl, Kd.R_nil _ _ _ _ _, hb⟩
    · rw [if_neg h2] at h
      obtain ⟨rfl, rfl⟩ := Prod.mk.inj (Option.some.inj h)
      exact put_main a0 a1 _ w hr.1 hr.2 (by omega) (by omega) (need_is a0 hr.1 hr.2) h2

/-! ### segment_put: function 25 -/
def segment_put.f (l0 : List Int) (a1 : Int) (a2 : Int) : Option (List Int) := (octets_Put.f (IntKind.u64.wrap (a1)) a2).bind fun bt102 => (if l0.length + bt102.1.length < 140737488355328 then (some (l0 ++ bt102.1)) else (none))
set_option maxHeartbeats 8000000 in
set_option maxRecDepth 100000 in
theorem segment_put.calls (P0_ : Nat → Prop) (u9000_ : Value) (l0 : List Int) (a1 : Int) (a2 : Int) (r : List Int) (w0 w : World) (hB : Below w0.heap.size w0 w) (ho0 : Kd.R (Kd.int .u8) 5 w w0.heap.size P0_ u9000_ l0) (h : segment_put.f l0 a1 a2 = some r) :
    Calls Tryd.prog 25 #[u9000_, .int .i64 a1, .int .i64 a2] w fun e w' => ∃ v0_ : Value, e = .returned (v0_) ∧ Kd.R (Kd.int .u8) 5 w' w0.heap.size (fun k_ => (P0_ k_ ∨ w.heap.size ≤ k_)) v0_ r ∧ Below w0.heap.size w0 w' ∧ Kept w w' (fun k_ => P0_ k_) := by
  have HO0 := Aside0.mk (show Kd.R (Kd.int .u8) 5 w w0.heap.size (fun k_ => (P0_ k_ ∨ w.heap.size ≤ k_)) u9000_ l0 from Kd.R_mono ho0 (fun k_ hk => (.inl hk)))
  have HK := Aside0.mk (Kept.refl w (fun k_ => P0_ k_))
  have HW0 := Aside0.mk hB.size
  have HB := Aside0.mk hB
  clear hB
  have H : ((octets_Put.f (IntKind.u64.wrap (a1)) a2).bind fun bt102 => (if l0.length + bt102.1.length < 140737488355328 then (some (l0 ++ bt102.1)) else (none))) = some r := h
  clear h
  replace H := Option.bind_eq_some_iff.mp H
  obtain ⟨⟨t102, t103⟩, A40, H⟩ := H
  replace H : (if l0.length + t102.length < 140737488355328 then (some (l0 ++ t102)) else (none)) = some r := H
  have A4 := Aside0.mk A40
  clear A40
  by_cases c5 : l0.length + t102.length < 140737488355328
  · rw [if_pos c5] at H
    have LMc5 := Aside0.mk c5
    clear c5
    obtain ⟨y106, hy106⟩ : ∃ y_ : List Int, y_ = (l0 ++ t102) := ⟨_, rfl⟩
    replace H : (some y106) = some r := by first | (rw [hy106]; with_reducible exact H) | (have H2_ := (Option.bind_some _ _).symm.trans H; rw [hy106]; with_reducible exact H2_) | (have H2_ := (Option.bind_some _ _).symm.trans H; with_reducible exact H2_) | with_reducible exact H | (rw [hy106]; exact H) | exact H
    have Ny106 := Aside0.mk hy106
    clear hy106
    obtain rfl := Option.some.inj H
    go_enter Tryd.func25, Tryd.ntmps25
    go_wp2_with (first | ((with_reducible refine gate_callee (f := 45) rfl ?_); refine goesL_ (some 13) rfl rfl Tryd.func45 (by kernel_rfl) rfl #[.int .u64 (IntKind.u64.wrap (a1)), .int .i64 a2] rfl (by (try simp only [List.map_toArray, List.map_cons, List.map_nil]); first | done | rfl | (simp only [List.length_drop, List.length_take]; rfl)) ?_; (with_reducible refine (octets_Put.calls (IntKind.u64.wrap (a1)) a2 t102 t103 _ A4.out).mono ?_); rintro e w6 ⟨v104, rfl, ho0, hb⟩; refine ⟨_, rfl, ?_⟩; have n0_ := Aside0.mk (Kd.R_elder' (by (with_reducible repeat (first | apply Kd.R_alloc | apply Kd.R_drewN | apply Kd.R_drew)); exact HO0.out) (Kd.R_base ho0) hb); have n1_ := Aside0.mk (Kd.R_lower (Kd.R_new' (Kd.R_newM (M := fun k_ => (P0_ k_ ∨ w.heap.size ≤ k_)) ho0 (by first | exact HK.out.1 | exact (show Kept w _ (fun k_ => P0_ k_) from by repeat (first | (with_reducible first | exact HK.out | apply Kept.alloc | apply Kept.drewN | apply Kept.drew) | exact HK.out)).1) (fun k_ h_ => .inr h_)) (Kd.R_lt (by (with_reducible repeat (first | apply Kd.R_alloc | apply Kd.R_drewN | apply Kd.R_drew)); exact HO0.out))) (below_size (by repeat (first | (with_reducible first | exact HB.out | apply below_alloc | apply pw_below_drewN | apply below_drew1) | exact HB.out)))); have n2_ := Aside0.mk (Kept.below (S := (fun k_ => P0_ k_)) (by repeat (first | (with_reducible first | exact HK.out | apply Kept.alloc | apply Kept.drewN | apply Kept.drew) | exact HK.out)) hb); have n3_ := Aside0.mk (below_step (by repeat (first | (with_reducible first | exact HB.out | apply below_alloc | apply pw_below_drewN | apply below_drew1) | exact HB.out)) hb); clear HO0; clear HK; clear HB; have HO0 := n0_; have HO105 := n1_; have HK := n2_; have HB := n3_; clear n0_ n1_ n2_ n3_; (try clear hb); (try clear hb2); (try clear hk); (try clear hi); (try clear ho0); obtain ⟨Ao8, co8, eo8⟩ := Kd.R_slice HO105.out; subst eo8) | ((with_reducible refine gate_builtin (b := .append) (xs := #[.tmp 16, .tmp 17]) rfl ?_); at_builtin; refine Kd.R_append_rows (Kd.int .u8) (w0 := w0) w0.heap.size rfl (.tmp 16) (.tmp 17) 25 5 (.int .u8 0) 1 rfl Tryd.underlying25 info5 rfl (by decide) (by omega) u9000_ l0 t102 _ _ _ (fun k_ => (P0_ k_ ∨ w.heap.size ≤ k_) ∧ some k_ ≠ (.slice Ao8 t102.length co8 : Value).ownBlock) (fun _ => False) rfl rfl ?aO ?aR (fun _ _ h => h) (fun _ h => h.elim) ?aF ?aB ?aS ?aL ?_; (case aR => repeat (first | exact (Kd.R_reads' HO105.out).2.2 | (with_reducible refine Kd.C_alloc ?_ _) | (with_reducible refine Kd.C_drewN ?_ _) | (with_reducible refine Kd.C_drew ?_))); (case aB => exact (by repeat (first | (with_reducible first | exact HB.out | apply below_alloc | apply pw_below_drewN | apply below_drew1) | exact HB.out))); (case aF => exact (fun k_ hk => ⟨(.inr (Nat.le_trans (by first | exact HK.out.1 | exact (show Kept w _ (fun k_ => P0_ k_) from by repeat (first | (with_reducible first | exact HK.out | apply Kept.alloc | apply Kept.drewN | apply Kept.drew) | exact HK.out)).1) hk)), Kd.fresh' (Kd.R_lt (by (with_reducible repeat (first | apply Kd.R_alloc | apply Kd.R_drewN | apply Kd.R_drew)); exact HO105.out)) k_ hk⟩)); (case aO => exact (by (with_reducible repeat (first | apply Kd.R_alloc | apply Kd.R_drewN | apply Kd.R_drew)); exact HO0.out)); (case aS => exact (below_size (by repeat (first | (with_reducible first | exact HB.out | apply below_alloc | apply pw_below_drewN | apply below_drew1) | exact HB.out)))); (case aL => have := LMc5.out; omega); intro v107 w7 ho hb hg hat; rw [← Ny106.out] at ho; have n0_ := Aside0.mk (Kd.R_after (ok := (fun k_ => (P0_ k_ ∨ w.heap.size ≤ k_))) (by (with_reducible repeat (first | apply Kd.R_alloc | apply Kd.R_drewN | apply Kd.R_drew)); exact Kd.R_mono HO105.out (fun _ hk => ⟨hk.1.1, hk.2⟩)) hg hat); have n1_ := Aside0.mk (hb); have n2_ := Aside0.mk (Kept.of_grown (S := (fun k_ => P0_ k_)) hg (by repeat (first | (with_reducible first | exact HK.out | apply Kept.alloc | apply Kept.drewN | apply Kept.drew) | exact HK.out)) (fun k_ e_ => (HO0.out.1 k_ e_).1)); have n3_ := Aside0.mk (ho); clear HO105; clear HB; clear HK; clear HO0; have HO105 := n0_; have HB := n1_; have HK := n2_; have HO108 := n3_; clear n0_ n1_ n2_ n3_; clear ho hb hg hat))
    go_ret
    exact ⟨_, by first | rfl | (simp [errW_none, errW_some] <;> rfl) | (simp [*, errW_none, errW_some] <;> rfl) | (exfalso; simp only [beq_iff_eq, decide_eq_true_eq] at *; omega), by (with_reducible repeat (first | apply Kd.R_alloc | apply Kd.R_drewN | apply Kd.R_drew)); exact Kd.R_mono HO108.out (fun _ hk => hk.1), by repeat (first | (with_reducible first | exact HB.out | apply below_alloc | apply pw_below_drewN | apply below_drew1) | exact HB.out), by repeat (first | (with_reducible first | exact HK.out | apply Kept.alloc | apply Kept.drewN | apply Kept.drew) | exact HK.out)⟩
  · rw [if_neg c5] at H
    exact absurd H (by simp)

end Go.Proofs.YtokjiinlhghggaaDoor.PTel
