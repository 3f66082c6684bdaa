-- Written by a program of this session (gen.py).
import Derived.Test.YtofflfacfjkikaaDoorPCtex0
import Derived.Test.YtofflfacfjkikaaDoorPCtex1
import Derived.Test.YtofflfacfjkikaaDoorPCtex11
namespace Go.Proofs.YtofflfacfjkikaaDoor.PCte
open Go.RowKit Go.Proofs.YtofflfacfjkikaaDoorW.PrintWords Go.Proofs.YtofflfacfjkikaaDoorW.PrintLast Go.Proofs.YtofflfacfjkikaaDoorW.PrintMore
open Go.Proofs.YtofflfacfjkikaaDoor.Own
attribute [local go_sem high] unary_not_u32 unary_not_u64 unary_not_u8 string_leq_ string_gtr_
attribute [local go_sem] max2_int min2_int max_two min_two max_three min_three max_four min_four   -- for this text's walks alone
set_option linter.unusedVariables false
set_option linter.unusedSimpArgs false

/-! ### client_asked: function 37 -/
def client_asked.f (k : Nat) (l0 : List (S86)) (a1 : Int) (a2 : Int) : Option (Int) := (client_Check.f k l0).bind fun t292 => (if t292 = 0 then ((client_may.f a1 a2).bind fun t293 => (if t293 = true then (some 0) else (some 4))) else (some t292))
theorem client_asked.mono : ∀ a0 a1 a2 k, LeO (client_asked.f k a0 a1 a2) (client_asked.f (k + 1) a0 a1 a2) := by
  intro a0 a1 a2 k
  unfold client_asked.f
  repeat' first
      | (with_reducible exact client_Check.mono _ _)
      | (with_reducible exact LeO.refl _)
      | (with_reducible exact LeO.none _)
      | (with_reducible refine LeO.ite ?_ ?_)
      | (with_reducible refine LeO.bind ?_ (fun _ => ?_))
      | exact client_Check.mono _ _
      | exact LeO.none _
      | refine LeO.ite ?_ ?_
      | refine LeO.bind ?_ (fun _ => ?_)
set_option maxHeartbeats 8000000 in
set_option maxRecDepth 100000 in
theorem client_asked.calls (k : Nat) (A0 : Option Addr) (c0 : Nat) (l0 : List (S86)) (a1 : Int) (a2 : Int) (r : Int) (w : World) (hr0 : Kd.C k86 w A0 l0.length l0) (hc0 : l0.length ≤ c0) (h : client_asked.f k l0 a1 a2 = some r) :
    Calls Tryd.prog 37 #[.slice A0 l0.length c0, .int .i64 a1, .int .i64 a2] w fun e w' => e = .returned (.int .i64 r) ∧ Below w.heap.size w w' := by
  have HR0 := Aside0.mk hr0
  have HC0 := Aside0.mk hc0
  clear hr0 hc0
  have HB := Aside0.mk (Below.refl w.heap.size w)
  have H : ((client_Check.f k l0).bind fun t292 => (if t292 = 0 then ((client_may.f a1 a2).bind fun t293 => (if t293 = true then (some 0) else (some 4))) else (some t292))) = some r := h
  clear h
  replace H := Option.bind_eq_some_iff.mp H
  obtain ⟨t292, A40, H⟩ := H
  replace H : (if t292 = 0 then ((client_may.f a1 a2).bind fun t293 => (if t293 = true then (some 0) else (some 4))) else (some t292)) = some r := H
  have A4 := Aside0.mk A40
  clear A40
  by_cases c5 : t292 = 0
  · rw [if_pos c5] at H
    have c5b0 : (t292 == 0) = true := beq_iff_eq.mpr c5
    have c5b1 : (t292 != 0) = false := bne_eq_false_iff_eq.mpr c5
    clear c5
    replace H := Option.bind_eq_some_iff.mp H
    obtain ⟨t293, A60, H⟩ := H
    replace H : (if t293 = true then (some 0) else (some 4)) = some r := H
    have A6 := Aside0.mk A60
    clear A60
    by_cases c7 : t293 = true
    · subst c7
      have H1 : (some 0) = some r := by rw [if_pos rfl] at H; exact H
      clear H
      have H := H1
      clear H1
      obtain rfl := Option.some.inj H
      go_enter Tryd.func37, Tryd.ntmps37
      go_wp2_with (first | ((with_reducible refine gate_callee (f := 52) rfl ?_); refine goesL_ (some 9) rfl rfl Tryd.func52 (by kernel_rfl) rfl #[.slice A0 l0.length c0] rfl (by (try simp only [List.map_toArray, List.map_cons, List.map_nil]); first | done | rfl | (simp only [List.length_drop, List.length_take]; rfl)) ?_; (with_reducible refine (client_Check.calls k _ _ l0 t292 _ ?side1 ?side2 A4.out).mono ?_); (case side1 => repeat (first | exact HR0.out | (with_reducible refine Kd.C_alloc ?_ _) | (with_reducible refine Kd.C_drewN ?_ _) | (with_reducible refine Kd.C_drew ?_))); (case side2 => exact HC0.out); rintro e w8 ⟨rfl, hb⟩; refine ⟨_, rfl, ?_⟩; have n0_ := Aside0.mk (below_step (by repeat (first | (with_reducible first | exact HB.out | apply below_alloc | apply pw_below_drewN | apply below_drew1) | exact HB.out)) hb); clear HB; have HB := n0_; clear n0_; (try clear hb); (try clear hb2); (try clear hk); (try clear hi)) | ((with_reducible refine gate_callee (f := 13) rfl ?_); refine goesL_ (some 15) rfl rfl Tryd.func13 (by kernel_rfl) rfl #[.int .i64 a1, .int .i64 a2] rfl (by (try simp only [List.map_toArray, List.map_cons, List.map_nil]); first | done | rfl | (simp only [List.length_drop, List.length_take]; rfl)) ?_; (with_reducible refine (client_may.calls a1 a2 true _ A6.out).mono ?_); rintro e w' ⟨rfl, ⟨nd, rfl⟩⟩; refine ⟨_, rfl, ?_⟩))
      go_ret
      exact ⟨by first | rfl | (simp [errW_none, errW_some] <;> rfl) | (simp [*, errW_none, errW_some] <;> rfl) | (exfalso; simp only [beq_iff_eq, decide_eq_true_eq] at *; omega), by repeat (first | (with_reducible first | exact HB.out | apply below_alloc | apply pw_below_drewN | apply below_drew1) | exact HB.out)⟩
    · replace c7 := Bool.eq_false_iff.mpr c7
      subst c7
      have H1 : (some 4) = some r := by rw [if_neg (show ¬ (false = true) by decide)] at H; exact H
      clear H
      have H := H1
      clear H1
      obtain rfl := Option.some.inj H
      go_enter Tryd.func37, Tryd.ntmps37
      go_wp2_with (first | ((with_reducible refine gate_callee (f := 52) rfl ?_); refine goesL_ (some 9) rfl rfl Tryd.func52 (by kernel_rfl) rfl #[.slice A0 l0.length c0] rfl (by (try simp only [List.map_toArray, List.map_cons, List.map_nil]); first | done | rfl | (simp only [List.length_drop, List.length_take]; rfl)) ?_; (with_reducible refine (client_Check.calls k _ _ l0 t292 _ ?side1 ?side2 A4.out).mono ?_); (case side1 => repeat (first | exact HR0.out | (with_reducible refine Kd.C_alloc ?_ _) | (with_reducible refine Kd.C_drewN ?_ _) | (with_reducible refine Kd.C_drew ?_))); (case side2 => exact HC0.out); rintro e w9 ⟨rfl, hb⟩; refine ⟨_, rfl, ?_⟩; have n0_ := Aside0.mk (below_step (by repeat (first | (with_reducible first | exact HB.out | apply below_alloc | apply pw_below_drewN | apply below_drew1) | exact HB.out)) hb); clear HB; have HB := n0_; clear n0_; (try clear hb); (try clear hb2); (try clear hk); (try clear hi)) | ((with_reducible refine gate_callee (f := 13) rfl ?_); refine goesL_ (some 15) rfl rfl Tryd.func13 (by kernel_rfl) rfl #[.int .i64 a1, .int .i64 a2] rfl (by (try simp only [List.map_toArray, List.map_cons, List.map_nil]); first | done | rfl | (simp only [List.length_drop, List.length_take]; rfl)) ?_; (with_reducible refine (client_may.calls a1 a2 false _ A6.out).mono ?_); rintro e w' ⟨rfl, ⟨nd, rfl⟩⟩; refine ⟨_, rfl, ?_⟩))
      go_ret
      exact ⟨by first | rfl | (simp [errW_none, errW_some] <;> rfl) | (simp [*, errW_none, errW_some] <;> rfl) | (exfalso; simp only [beq_iff_eq, decide_eq_true_eq] at *; omega), by repeat (first | (with_reducible first | exact HB.out | apply below_alloc | apply pw_below_drewN | apply below_drew1) | exact HB.out)⟩
  · rw [if_neg c5] at H
    have c5b0 : (t292 == 0) = false := beq_eq_false_iff_ne.mpr c5
    have c5b1 : (t292 != 0) = true := bne_iff_ne.mpr c5
    obtain rfl := Option.some.inj H
    go_enter Tryd.func37, Tryd.ntmps37
    go_wp2_with (first | ((with_reducible refine gate_callee (f := 52) rfl ?_); refine goesL_ (some 9) rfl rfl Tryd.func52 (by kernel_rfl) rfl #[.slice A0 l0.length c0] rfl (by (try simp only [List.map_toArray, List.map_cons, List.map_nil]); first | done | rfl | (simp only [List.length_drop, List.length_take]; rfl)) ?_; (with_reducible refine (client_Check.calls k _ _ l0 t292 _ ?side1 ?side2 A4.out).mono ?_); (case side1 => repeat (first | exact HR0.out | (with_reducible refine Kd.C_alloc ?_ _) | (with_reducible refine Kd.C_drewN ?_ _) | (with_reducible refine Kd.C_drew ?_))); (case side2 => exact HC0.out); rintro e w10 ⟨rfl, hb⟩; refine ⟨_, rfl, ?_⟩; have n0_ := Aside0.mk (below_step (by repeat (first | (with_reducible first | exact HB.out | apply below_alloc | apply pw_below_drewN | apply below_drew1) | exact HB.out)) hb); clear HB; have HB := n0_; clear n0_; (try clear hb); (try clear hb2); (try clear hk); (try clear hi)))
    go_ret
    exact ⟨by first | rfl | (simp [errW_none, errW_some] <;> rfl) | (simp [*, errW_none, errW_some] <;> rfl) | (exfalso; simp only [beq_iff_eq, decide_eq_true_eq] at *; omega), by repeat (first | (with_reducible first | exact HB.out | apply below_alloc | apply pw_below_drewN | apply below_drew1) | exact HB.out)⟩

/-! ### cmp_isNaN_int: function 69 -/
def cmp_isNaN_int.f (a0 : Int) : Option (Bool) := some (a0 != a0)
set_option maxHeartbeats 8000000 in
set_option maxRecDepth 100000 in
theorem cmp_isNaN_int.calls (a0 : Int) (r : Bool) (w : World) (h : cmp_isNaN_int.f a0 = some r) :
    Calls Tryd.prog 69 #[.int .i64 a0] w fun e w' => e = .returned (.bool r) ∧ Drawn0 w w' := by
  have H : (some (a0 != a0)) = some r := h
  clear h
  obtain rfl := Option.some.inj H
  go_enter Tryd.func69, Tryd.ntmps69
  go_wp2
  go_ret
  exact ⟨by first | rfl | (simp; done) | (simp [*]; done) | (exfalso; simp only [beq_iff_eq, decide_eq_true_eq] at *; omega), by repeat (first | exact Drawn0.refl _ | apply Drawn0.step)⟩

/-! ### cmp_Compare_int: function 55 -/
def cmp_Compare_int.f (a0 : Int) (a1 : Int) : Option (Int) := (cmp_isNaN_int.f a0).bind fun t294 => ((cmp_isNaN_int.f a1).bind fun t295 => (if t294 = true then (if t295 = true then (some 0) else (some (-1))) else (if t295 = true then (some 1) else (if a0 < a1 then (some (-1)) else (if a0 > a1 then (some 1) else (some 0))))))
set_option maxHeartbeats 8000000 in
set_option maxRecDepth 100000 in
theorem cmp_Compare_int.calls (a0 : Int) (a1 : Int) (r : Int) (w : World) (h : cmp_Compare_int.f a0 a1 = some r) :
    Calls Tryd.prog 55 #[.int .i64 a0, .int .i64 a1] w fun e w' => e = .returned (.int .i64 r) ∧ Drawn0 w w' := by
  have H : ((cmp_isNaN_int.f a0).bind fun t294 => ((cmp_isNaN_int.f a1).bind fun t295 => (if t294 = true then (if t295 = true then (some 0) else (some (-1))) else (if t295 = true then (some 1) else (if a0 < a1 then (some (-1)) else (if a0 > a1 then (some 1) else (some 0))))))) = some r := h
  clear h
  replace H := Option.bind_eq_some_iff.mp H
  obtain ⟨t294, A30, H⟩ := H
  replace H : ((cmp_isNaN_int.f a1).bind fun t295 => (if t294 = true then (if t295 = true then (some 0) else (some (-1))) else (if t295 = true then (some 1) else (if a0 < a1 then (some (-1)) else (if a0 > a1 then (some 1) else (some 0)))))) = some r := H
  have A3 := Aside0.mk A30
  clear A30
  replace H := Option.bind_eq_some_iff.mp H
  obtain ⟨t295, A40, H⟩ := H
  replace H : (if t294 = true then (if t295 = true then (some 0) else (some (-1))) else (if t295 = true then (some 1) else (if a0 < a1 then (some (-1)) else (if a0 > a1 then (some 1) else (some 0))))) = some r := H
  have A4 := Aside0.mk A40
  clear A40
  by_cases c5 : t294 = true
  · subst c5
    have H1 : (if t295 = true then (some 0) else (some (-1))) = some r := by rw [if_pos rfl] at H; exact H
    clear H
    have H := H1
    clear H1
    by_cases c6 : t295 = true
    · subst c6
      have H1 : (some 0) = some r := by rw [if_pos rfl] at H; exact H
      clear H
      have H := H1
      clear H1
      obtain rfl := Option.some.inj H
      go_enter Tryd.func55, Tryd.ntmps55
      go_wp2_with (first | ((with_reducible refine gate_callee (f := 69) rfl ?_); refine goesL_ (some 8) rfl rfl Tryd.func69 (by kernel_rfl) rfl #[.int .i64 a0] rfl (by (try simp only [List.map_toArray, List.map_cons, List.map_nil]); first | done | rfl | (simp only [List.length_drop, List.length_take]; rfl)) ?_; (with_reducible refine (cmp_isNaN_int.calls a0 true _ A3.out).mono ?_); rintro e w' ⟨rfl, ⟨nd, rfl⟩⟩; refine ⟨_, rfl, ?_⟩) | ((with_reducible refine gate_callee (f := 69) rfl ?_); refine goesL_ (some 10) rfl rfl Tryd.func69 (by kernel_rfl) rfl #[.int .i64 a1] rfl (by (try simp only [List.map_toArray, List.map_cons, List.map_nil]); first | done | rfl | (simp only [List.length_drop, List.length_take]; rfl)) ?_; (with_reducible refine (cmp_isNaN_int.calls a1 true _ A4.out).mono ?_); rintro e w' ⟨rfl, ⟨nd, rfl⟩⟩; refine ⟨_, rfl, ?_⟩))
      go_ret
      exact ⟨by first | rfl | (simp; done) | (simp [*]; done) | (exfalso; simp only [beq_iff_eq, decide_eq_true_eq] at *; omega), by repeat (first | exact Drawn0.refl _ | apply Drawn0.step)⟩
    · replace c6 := Bool.eq_false_iff.mpr c6
      subst c6
      have H1 : (some (-1)) = some r := by rw [if_neg (show ¬ (false = true) by decide)] at H; exact H
      clear H
      have H := H1
      clear H1
      obtain rfl := Option.some.inj H
      go_enter Tryd.func55, Tryd.ntmps55
      go_wp2_with (first | ((with_reducible refine gate_callee (f := 69) rfl ?_); refine goesL_ (some 8) rfl rfl Tryd.func69 (by kernel_rfl) rfl #[.int .i64 a0] rfl (by (try simp only [List.map_toArray, List.map_cons, List.map_nil]); first | done | rfl | (simp only [List.length_drop, List.length_take]; rfl)) ?_; (with_reducible refine (cmp_isNaN_int.calls a0 true _ A3.out).mono ?_); rintro e w' ⟨rfl, ⟨nd, rfl⟩⟩; refine ⟨_, rfl, ?_⟩) | ((with_reducible refine gate_callee (f := 69) rfl ?_); refine goesL_ (some 10) rfl rfl Tryd.func69 (by kernel_rfl) rfl #[.int .i64 a1] rfl (by (try simp only [List.map_toArray, List.map_cons, List.map_nil]); first | done | rfl | (simp only [List.length_drop, List.length_take]; rfl)) ?_; (with_reducible refine (cmp_isNaN_int.calls a1 false _ A4.out).mono ?_); rintro e w' ⟨rfl, ⟨nd, rfl⟩⟩; refine ⟨_, rfl, ?_⟩))
      go_ret
      exact ⟨by first | rfl | (simp; done) | (simp [*]; done) | (exfalso; simp only [beq_iff_eq, decide_eq_true_eq] at *; omega), by repeat (first | exact Drawn0.refl _ | apply Drawn0.step)⟩
  · replace c5 := Bool.eq_false_iff.mpr c5
    subst c5
    have H1 : (if t295 = true then (some 1) else (if a0 < a1 then (some (-1)) else (if a0 > a1 then (some 1) else (some 0)))) = some r := by rw [if_neg (show ¬ (false = true) by decide)] at H; exact H
    clear H
    have H := H1
    clear H1
    by_cases c7 : t295 = true
    · subst c7
      have H1 : (some 1) = some r := by rw [if_pos rfl] at H; exact H
      clear H
      have H := H1
      clear H1
      obtain rfl := Option.some.inj H
      go_enter Tryd.func55, Tryd.ntmps55
      go_wp2_with (first | ((with_reducible refine gate_callee (f := 69) rfl ?_); refine goesL_ (some 8) rfl rfl Tryd.func69 (by kernel_rfl) rfl #[.int .i64 a0] rfl (by (try simp only [List.map_toArray, List.map_cons, List.map_nil]); first | done | rfl | (simp only [List.length_drop, List.length_take]; rfl)) ?_; (with_reducible refine (cmp_isNaN_int.calls a0 false _ A3.out).mono ?_); rintro e w' ⟨rfl, ⟨nd, rfl⟩⟩; refine ⟨_, rfl, ?_⟩) | ((with_reducible refine gate_callee (f := 69) rfl ?_); refine goesL_ (some 10) rfl rfl Tryd.func69 (by kernel_rfl) rfl #[.int .i64 a1] rfl (by (try simp only [List.map_toArray, List.map_cons, List.map_nil]); first | done | rfl | (simp only [List.length_drop, List.length_take]; rfl)) ?_; (with_reducible refine (cmp_isNaN_int.calls a1 true _ A4.out).mono ?_); rintro e w' ⟨rfl, ⟨nd, rfl⟩⟩; refine ⟨_, rfl, ?_⟩))
      go_ret
      exact ⟨by first | rfl | (simp; done) | (simp [*]; done) | (exfalso; simp only [beq_iff_eq, decide_eq_true_eq] at *; omega), by repeat (first | exact Drawn0.refl _ | apply Drawn0.step)⟩
    · replace c7 := Bool.eq_false_iff.mpr c7
      subst c7
      have H1 : (if a0 < a1 then (some (-1)) else (if a0 > a1 then (some 1) else (some 0))) = some r := by rw [if_neg (show ¬ (false = true) by decide)] at H; exact H
      clear H
      have H := H1
      clear H1
      by_cases c8 : a0 < a1
      · rw [if_pos c8] at H
        have c8b0 : decide (a0 < a1) = true := decide_eq_true c8
        clear c8
        obtain rfl := Option.some.inj H
        go_enter Tryd.func55, Tryd.ntmps55
        go_wp2_with (first | ((with_reducible refine gate_callee (f := 69) rfl ?_); refine goesL_ (some 8) rfl rfl Tryd.func69 (by kernel_rfl) rfl #[.int .i64 a0] rfl (by (try simp only [List.map_toArray, List.map_cons, List.map_nil]); first | done | rfl | (simp only [List.length_drop, List.length_take]; rfl)) ?_; (with_reducible refine (cmp_isNaN_int.calls a0 false _ A3.out).mono ?_); rintro e w' ⟨rfl, ⟨nd, rfl⟩⟩; refine ⟨_, rfl, ?_⟩) | ((with_reducible refine gate_callee (f := 69) rfl ?_); refine goesL_ (some 10) rfl rfl Tryd.func69 (by kernel_rfl) rfl #[.int .i64 a1] rfl (by (try simp only [List.map_toArray, List.map_cons, List.map_nil]); first | done | rfl | (simp only [List.length_drop, List.length_take]; rfl)) ?_; (with_reducible refine (cmp_isNaN_int.calls a1 false _ A4.out).mono ?_); rintro e w' ⟨rfl, ⟨nd, rfl⟩⟩; refine ⟨_, rfl, ?_⟩))
        go_ret
        exact ⟨by first | rfl | (simp; done) | (simp [*]; done) | (exfalso; simp only [beq_iff_eq, decide_eq_true_eq] at *; omega), by repeat (first | exact Drawn0.refl _ | apply Drawn0.step)⟩
      · rw [if_neg c8] at H
        have c8b0 : decide (a0 < a1) = false := decide_eq_false c8
        clear c8
        by_cases c9 : a0 > a1
        · rw [if_pos c9] at H
          have c9b0 : decide (a1 < a0) = true := decide_eq_true c9
          clear c9
          obtain rfl := Option.some.inj H
          go_enter Tryd.func55, Tryd.ntmps55
          go_wp2_with (first | ((with_reducible refine gate_callee (f := 69) rfl ?_); refine goesL_ (some 8) rfl rfl Tryd.func69 (by kernel_rfl) rfl #[.int .i64 a0] rfl (by (try simp only [List.map_toArray, List.map_cons, List.map_nil]); first | done | rfl | (simp only [List.length_drop, List.length_take]; rfl)) ?_; (with_reducible refine (cmp_isNaN_int.calls a0 false _ A3.out).mono ?_); rintro e w' ⟨rfl, ⟨nd, rfl⟩⟩; refine ⟨_, rfl, ?_⟩) | ((with_reducible refine gate_callee (f := 69) rfl ?_); refine goesL_ (some 10) rfl rfl Tryd.func69 (by kernel_rfl) rfl #[.int .i64 a1] rfl (by (try simp only [List.map_toArray, List.map_cons, List.map_nil]); first | done | rfl | (simp only [List.length_drop, List.length_take]; rfl)) ?_; (with_reducible refine (cmp_isNaN_int.calls a1 false _ A4.out).mono ?_); rintro e w' ⟨rfl, ⟨nd, rfl⟩⟩; refine ⟨_, rfl, ?_⟩))
          go_ret
          exact ⟨by first | rfl | (simp; done) | (simp [*]; done) | (exfalso; simp only [beq_iff_eq, decide_eq_true_eq] at *; omega), by repeat (first | exact Drawn0.refl _ | apply Drawn0.step)⟩
        · rw [if_neg c9] at H
          have c9b0 : decide (a1 < a0) = false := decide_eq_false c9
          clear c9
          obtain rfl := Option.some.inj H
          go_enter Tryd.func55, Tryd.ntmps55
          go_wp2_with (first | ((with_reducible refine gate_callee (f := 69) rfl ?_); refine goesL_ (some 8) rfl rfl Tryd.func69 (by kernel_rfl) rfl #[.int .i64 a0] rfl (by (try simp only [List.map_toArray, List.map_cons, List.map_nil]); first | done | rfl | (simp only [List.length_drop, List.length_take]; rfl)) ?_; (with_reducible refine (cmp_isNaN_int.calls a0 false _ A3.out).mono ?_); rintro e w' ⟨rfl, ⟨nd, rfl⟩⟩; refine ⟨_, rfl, ?_⟩) | ((with_reducible refine gate_callee (f := 69) rfl ?_); refine goesL_ (some 10) rfl rfl Tryd.func69 (by kernel_rfl) rfl #[.int .i64 a1] rfl (by (try simp only [List.map_toArray, List.map_cons, List.map_nil]); first | done | rfl | (simp only [List.length_drop, List.length_take]; rfl)) ?_; (with_reducible refine (cmp_isNaN_int.calls a1 false _ A4.out).mono ?_); rintro e w' ⟨rfl, ⟨nd, rfl⟩⟩; refine ⟨_, rfl, ?_⟩))
          go_ret
          exact ⟨by first | rfl | (simp; done) | (simp [*]; done) | (exfalso; simp only [beq_iff_eq, decide_eq_true_eq] at *; omega), by repeat (first | exact Drawn0.refl _ | apply Drawn0.step)⟩

/-! ### client_find: function 38 -/
/-- How two numbers stand. -/
def cmpI (a b : Int) : Int := if a < b then -1 else if a > b then 1 else 0
theorem cmp_is (a b : Int) : cmp_Compare_int.f a b = some (cmpI a b) := by
  unfold cmp_Compare_int.f cmp_isNaN_int.f cmpI
  simp
  repeat' split
  all_goals rfl
set_option maxHeartbeats 4000000 in
set_option maxRecDepth 100000 in
theorem search1 (a b s : Int) (v : Value) (w : World) : Calls Tryd.prog 54 #[.agg #[.int .i64 a, .int .i64 b, v], .int .i64 s] w fun e w' => e = .returned (.int .i64 (cmpI a s)) ∧ Below w.heap.size w w' := by
  go_enter Tryd.func54, Tryd.ntmps54
  go_wp2_with (go_at_call 55; refine (cmp_Compare_int.calls a s _ _ (cmp_is a s)).mono ?_; rintro e w' ⟨rfl, ⟨nd, rfl⟩⟩)
  go_ret
  exact ⟨rfl, pw_below_drewN ((Below.refl _ _).alloc (Nat.le_refl _) _) _⟩
/-- Where a search by halves ends. -/
def bsI (p : Nat → Bool) : Nat → Nat → Nat → Nat
  | 0, i, _ => i
  | f + 1, i, j => if i < j then (if p ((i + j) / 2) then bsI p f ((i + j) / 2 + 1) j else bsI p f i ((i + j) / 2)) else i
def lessAt (l : List S86) (name : Int) (h : Nat) : Bool := decide (cmpI (rd_T86 l (h : Int)).f0 name < 0)
def foundAt (l : List S86) (name : Int) (i : Nat) : Bool := if i < l.length then cmpI (rd_T86 l (i : Int)).f0 name == 0 else false
def client_find.f (l0 : List S86) (a1 a2 : Int) : Option (Int × Bool × Int) := if l0.length ≤ 70368744177664 then some (((bsI (lessAt l0 a1) (l0.length + 1) 0 l0.length : Nat) : Int), foundAt l0 a1 (bsI (lessAt l0 a1) (l0.length + 1) 0 l0.length), if foundAt l0 a1 (bsI (lessAt l0 a1) (l0.length + 1) 0 l0.length) = true then (if (rd_T86 l0 ((bsI (lessAt l0 a1) (l0.length + 1) 0 l0.length : Nat) : Int)).f1 = a2 then 1 else if (rd_T86 l0 ((bsI (lessAt l0 a1) (l0.length + 1) 0 l0.length : Nat) : Int)).f1 > a2 then 2 else 0) else 0) else none
set_option maxHeartbeats 8000000 in
set_option maxRecDepth 100000 in
theorem bsf (A0 : Option Addr) (c0 : Nat) (l0 : List S86) (a1 : Int) (w : World) (hr0 : Kd.C k86 w A0 l0.length l0) (hsz : l0.length ≤ 70368744177664) :
    Calls Tryd.prog 53 #[.slice A0 l0.length c0, .int .i64 a1, .func (.func 54) #[] #[]] w fun e w' => e = .returned (.tuple #[.int .i64 ((bsI (lessAt l0 a1) (l0.length + 1) 0 l0.length : Nat) : Int), .bool (foundAt l0 a1 (bsI (lessAt l0 a1) (l0.length + 1) 0 l0.length))]) ∧ Below w.heap.size w w' := by
  have HR0 := Aside0.mk hr0
  clear hr0
  obtain ⟨R, hR⟩ : ∃ R, R = bsI (lessAt l0 a1) (l0.length + 1) 0 l0.length := ⟨_, rfl⟩
  rw [← hR]
  have HRR := Aside0.mk hR.symm
  clear hR
  generalize hN : l0.length = N at *
  have HN := Aside0.mk hN
  clear hN
  go_enter Tryd.func53, Tryd.ntmps53
  go_wp2
  go_loopw [9, 10] (fun i j W => ∃ a b f : Nat, a ≤ b ∧ b ≤ N ∧ i = .int .i64 (a : Int) ∧ j = .int .i64 (b : Int) ∧ Aside0 (bsI (lessAt l0 a1) f a b = R) ∧ b - a < f ∧ Aside0 (Below w.heap.size w W)) (fun i j _ => (intOf j).toNat - (intOf i).toNat)
  case atStart => exact ⟨0, N, N + 1, Nat.zero_le _, Nat.le_refl _, rfl, rfl, HRR, by omega, ⟨Below.refl _ _⟩⟩
  case round =>
    obtain ⟨a, b, f, hab, hbN, rfl, rfl, HF, hf, HB⟩ := hrel
    by_cases hlt : a < b
    · obtain ⟨f, rfl⟩ : ∃ m, f = m + 1 := ⟨f - 1, by omega⟩
      have hF2 := HF.out
      simp only [bsI] at hF2
      rw [if_pos hlt] at hF2
      obtain ⟨h, hh⟩ : ∃ h, h = (a + b) / 2 := ⟨_, rfl⟩
      rw [← hh] at hF2
      have hdiv : ((a : Int) + (b : Int)) / 2 = (h : Int) := by omega
      have hd : decide ((a : Int) < (b : Int)) = true := by simp; omega
      have hhN : h < N := by omega
      have hw1 : wrap64 ((a : Int) + (b : Int)) = (a : Int) + (b : Int) := by clear hdiv; unfold wrap64; omega
      obtain ⟨ad, A2, c2, rfl, hc1, hc2, hc3, _, _⟩ := at_T86 (Kd.C_below HR0.out HB.out) (h : Int) (Int.natCast_nonneg h) (Int.ofNat_lt.2 hhN)
      simp only [Int.toNat_natCast] at hc1 hc2 hc3
      have HH := Aside0.mk hh
      clear hh
      by_cases hc : cmpI (rd_T86 l0 (h : Int)).f0 a1 < 0
      · have hdc : decide (cmpI (rd_T86 l0 (h : Int)).f0 a1 < 0) = true := by simpa using hc
        have HL := Aside0.mk (show lessAt l0 a1 h = true from hdc)
        rw [if_pos HL.out] at hF2
        have HF2 := Aside0.mk hF2
        clear hF2 hc
        go_wp2_with (go_at_call 54; refine (search1 _ _ _ _ _).mono ?_; rintro e w' ⟨rfl, hb⟩)
        refine ⟨⟨h + 1, b, f, by have := HH.out; omega, hbN, by simp, rfl, HF2, by have := HH.out; omega, ⟨below_step HB.out hb⟩⟩, ?_⟩
        have := HH.out
        simp [intOf]; omega
      · have hdc : decide (cmpI (rd_T86 l0 (h : Int)).f0 a1 < 0) = false := by simpa using hc
        have HL := Aside0.mk (show ¬ lessAt l0 a1 h = true by unfold lessAt; rw [hdc]; decide)
        rw [if_neg HL.out] at hF2
        have HF2 := Aside0.mk hF2
        clear hF2 hc
        go_wp2_with (go_at_call 54; refine (search1 _ _ _ _ _).mono ?_; rintro e w' ⟨rfl, hb⟩)
        refine ⟨⟨a, h, f, by have := HH.out; omega, by have := HH.out; omega, rfl, by simp, HF2, by have := HH.out; omega, ⟨below_step HB.out hb⟩⟩, ?_⟩
        have := HH.out
        simp [intOf]; omega
    · obtain rfl : a = b := by omega
      have ha : a = R := by
        rw [← HF.out]
        obtain ⟨f, rfl⟩ : ∃ m, f = m + 1 := ⟨f - 1, by omega⟩
        simp [bsI]
      subst ha
      have hd : decide ((a : Int) < (a : Int)) = false := by simp
      by_cases hN2 : a < N
      · obtain ⟨ad, A2, c2, rfl, hc1, hc2, hc3, _, _⟩ := at_T86 (Kd.C_below HR0.out HB.out) (a : Int) (by omega) (by omega)
        simp only [Int.toNat_natCast] at hc1 hc2 hc3
        have hdn : decide ((a : Int) < (N : Int)) = true := by simp; omega
        have HFO := Aside0.mk (show foundAt l0 a1 a = (cmpI (rd_T86 l0 (a : Int)).f0 a1 == 0) by unfold foundAt; rw [if_pos (by rw [HN.out]; exact hN2)])
        go_wp2_with (go_at_call 54; refine (search1 _ _ _ _ _).mono ?_; rintro e w' ⟨rfl, hb⟩)
        go_ret2
        refine ⟨?_, below_step HB.out hb⟩
        rw [HFO.out]
        rfl
      · have hdn : decide ((a : Int) < (N : Int)) = false := by simp; omega
        have HFO := Aside0.mk (show foundAt l0 a1 a = false by unfold foundAt; rw [if_neg (by rw [HN.out]; exact hN2)])
        go_wp2
        go_ret2
        refine ⟨?_, HB.out⟩
        rw [HFO.out]
        rfl
set_option maxHeartbeats 8000000 in
set_option maxRecDepth 100000 in
theorem client_find.calls (A0 : Option Addr) (c0 : Nat) (l0 : List S86) (a1 a2 : Int) (r1 : Int) (r2 : Bool) (r3 : Int) (w : World) (hr0 : Kd.C k86 w A0 l0.length l0) (hc0 : l0.length ≤ c0) (h : client_find.f l0 a1 a2 = some (r1, r2, r3)) :
    Calls Tryd.prog 38 #[.slice A0 l0.length c0, .int .i64 a1, .int .i64 a2] w fun e w' => e = .returned (.tuple #[.int .i64 r1, .bool r2, .int .i64 r3]) ∧ Below w.heap.size w w' := by
  have HR0 := Aside0.mk hr0
  clear hr0
  unfold client_find.f at h
  by_cases hsz : l0.length ≤ 70368744177664
  case neg => rw [if_neg hsz] at h; cases h
  rw [if_pos hsz] at h
  have HB := Aside0.mk (bsf A0 c0 l0 a1 w HR0.out hsz)
  have hfn : foundAt l0 a1 (bsI (lessAt l0 a1) (l0.length + 1) 0 l0.length) = true → bsI (lessAt l0 a1) (l0.length + 1) 0 l0.length < l0.length := fun hf => by
    unfold foundAt at hf
    by_cases hlt : bsI (lessAt l0 a1) (l0.length + 1) 0 l0.length < l0.length
    · exact hlt
    · rw [if_neg hlt] at hf; cases hf
  generalize bsI (lessAt l0 a1) (l0.length + 1) 0 l0.length = R at *
  generalize foundAt l0 a1 R = F at *
  obtain ⟨h1, h23⟩ := Prod.mk.inj (Option.some.inj h)
  obtain ⟨h2, h3⟩ := Prod.mk.inj h23
  subst h1 h2 h3
  clear h h23
  cases F with
  | false =>
    go_enter Tryd.func38, Tryd.ntmps38
    go_wp2_with (go_at_call 53; refine HB.out.mono ?_; rintro e w' ⟨rfl, hb⟩)
    go_ret3
    exact ⟨rfl, hb⟩
  | true =>
    have hR := hfn rfl
    clear hfn
    obtain ⟨ad, A2, c2, rfl, hc1, hc2, hc3, _, _⟩ := at_T86 HR0.out (R : Int) (Int.natCast_nonneg R) (Int.ofNat_lt.2 hR)
    have hd1 : decide ((R : Int) < (l0.length : Int)) = true := decide_eq_true (Int.ofNat_lt.2 hR)
    have hd2 : decide (R < l0.length) = true := decide_eq_true hR
    simp only [Int.toNat_natCast] at hc1 hc2 hc3
    generalize (rd_T86 l0 (R : Int)).f1 = z at *
    simp only [if_true]
    rcases Int.lt_trichotomy z a2 with hz | hz | hz
    · have hv : cmpI z a2 = -1 := by unfold cmpI; rw [if_pos hz]
      have HC := Aside0.mk (fun W => cmp_Compare_int.calls z a2 (-1) W (by rw [cmp_is, hv]))
      clear hv
      rw [if_neg (by omega), if_neg (by omega)]
      go_enter Tryd.func38, Tryd.ntmps38
      go_wp2_with (first
        | (go_at_call 53; refine HB.out.mono ?_; rintro e w' ⟨rfl, hb⟩; have hc := (hb.cell (World.block_lt_of_cell? w _ hc2)).trans hc2)
        | (go_at_call 55; refine (HC.out _).mono ?_; rintro e w2 ⟨rfl, ⟨nd, rfl⟩⟩))
      go_ret3
      exact ⟨rfl, pw_below_drewN hb _⟩
    · subst hz
      have hv : cmpI z z = 0 := by unfold cmpI; rw [if_neg (Int.lt_irrefl z), if_neg (Int.lt_irrefl z)]
      have HC := Aside0.mk (fun W => cmp_Compare_int.calls z z 0 W (by rw [cmp_is, hv]))
      clear hv
      rw [if_pos rfl]
      go_enter Tryd.func38, Tryd.ntmps38
      go_wp2_with (first
        | (go_at_call 53; refine HB.out.mono ?_; rintro e w' ⟨rfl, hb⟩; have hc := (hb.cell (World.block_lt_of_cell? w _ hc2)).trans hc2)
        | (go_at_call 55; refine (HC.out _).mono ?_; rintro e w2 ⟨rfl, ⟨nd, rfl⟩⟩))
      go_ret3
      exact ⟨rfl, pw_below_drewN hb _⟩
    · have hv : cmpI z a2 = 1 := by unfold cmpI; rw [if_neg (by omega), if_pos (by omega)]
      have HC := Aside0.mk (fun W => cmp_Compare_int.calls z a2 1 W (by rw [cmp_is, hv]))
      clear hv
      rw [if_neg (by omega), if_pos (by omega)]
      go_enter Tryd.func38, Tryd.ntmps38
      go_wp2_with (first
        | (go_at_call 53; refine HB.out.mono ?_; rintro e w' ⟨rfl, hb⟩; have hc := (hb.cell (World.block_lt_of_cell? w _ hc2)).trans hc2)
        | (go_at_call 55; refine (HC.out _).mono ?_; rintro e w2 ⟨rfl, ⟨nd, rfl⟩⟩))
      go_ret3
      exact ⟨rfl, pw_below_drewN hb _⟩

end Go.Proofs.YtofflfacfjkikaaDoor.PCte
